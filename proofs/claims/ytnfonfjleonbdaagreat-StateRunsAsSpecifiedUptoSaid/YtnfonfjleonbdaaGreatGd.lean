/- Joined by program: parts of a data level over the model, of the program's functions over it, and of the statement's proof. -/
import Derived.Test.YtnfonfjleonbdaaGreatProg
import Derived.Test.YtnfonfjleonbdaaGreatGc
import Derived.KernelRfl
import Derived.Sort.Walk0
set_option maxRecDepth 100000
set_option maxHeartbeats 8000000
section
namespace Go.DL
abbrev Kc(n:Int):O:=.const (.int .i64 n)
abbrev Zi(n:Int):T:=.int .i64 n
abbrev Ui(n:Int):T:=.int .u8 n
abbrev tm(n:Nat):O:=.tmp n
abbrev mv(d s:Nat):DI:=⟨some d,.mov (.tmp s),none,[]⟩
abbrev mF(d s g:Nat):DI:=⟨some d,.mov (.tmp s),some (g,false),[]⟩
abbrev mT(d s g:Nat):DI:=⟨some d,.mov (.tmp s),some (g,true),[]⟩
abbrev oo(d:Nat)(p:DOp):DI:=⟨some d,p,none,[]⟩
abbrev oF(d g:Nat)(p:DOp):DI:=⟨some d,p,some (g,false),[]⟩
abbrev oT(d g:Nat)(p:DOp):DI:=⟨some d,p,some (g,true),[]⟩
abbrev o0(p:DOp):DI:=⟨none,p,none,[]⟩
abbrev ld(d a:Nat):DI:=⟨some d,.load 1 false (.tmp a),none,[]⟩
abbrev lA(d n a:Nat):DI:=⟨some d,.load n true (.tmp a),none,[]⟩
abbrev fa(d k a:Nat):DI:=⟨some d,.offA k (.tmp a),none,[]⟩
abbrev ix(d z a b:Nat):DI:=⟨some d,.idxL z (.tmp a) (.tmp b),none,[]⟩
abbrev ln(d a:Nat):DI:=⟨some d,.len (.tmp a),none,[]⟩
abbrev kT:O:=.const (.bool true)
abbrev kF:O:=.const (.bool false)
abbrev S0:T:=.str ⟨#[]⟩
abbrev Z0:T:=.int .i64 0
end Go.DL
namespace Go.MM
open Go Go.DL Go.Proofs
def l15:LWZ Tryz.prog Tryz.f15 18 []:=⟨_,lrZ⟩
def O0:LWZ Tryz.prog Tryz.f128 23 []:=⟨_,lrZ⟩
def PB:LWZ Tryz.prog Tryz.f185 14 []:=⟨_,lrZ⟩
def Pt:LWZ Tryz.prog Tryz.f170 18 []:=⟨_,lrZ⟩
def l85:LWZ Tryz.prog Tryz.f85 24 []:=⟨_,lrZ⟩
def l86:LWZ Tryz.prog Tryz.f86 126 []:=⟨_,lrZ⟩
def O1:LWZ Tryz.prog Tryz.f129 41 []:=⟨_,lrZ⟩
def OY:LWZ Tryz.prog Tryz.f126 134 []:=⟨_,lrZ⟩
def l40:LWZ Tryz.prog Tryz.f40 43 []:=⟨_,lrZ⟩
def O4:LWZ Tryz.prog Tryz.f132 65 []:=⟨_,lrZ⟩
def PC:LWZ Tryz.prog Tryz.f186 24 []:=⟨_,lrZ⟩
def Pz:LWZ Tryz.prog Tryz.f182 6 []:=⟨_,lrZ⟩
def Ps:LWZ Tryz.prog Tryz.f169 49 [5000004]:=⟨_,lrZ⟩
def PL:LWZ Tryz.prog Tryz.f198 49 []:=⟨_,lrZ⟩
def PJ:LWZ Tryz.prog Tryz.f196 8 []:=⟨_,lrZ⟩
def l36:LWZ Tryz.prog Tryz.f36 72 []:=⟨_,lrZ⟩
def OW:LWZ Tryz.prog Tryz.f124 9 []:=⟨_,lrZ⟩
def OX:LWZ Tryz.prog Tryz.f125 17 []:=⟨_,lrZ⟩
def l17:LWZ Tryz.prog Tryz.f17 28 []:=⟨_,lrZ⟩
def l19:LWZ Tryz.prog Tryz.f19 28 []:=⟨_,lrZ⟩
def OZ:LWZ Tryz.prog Tryz.f127 8 []:=⟨_,lrZ⟩
def O2:LWZ Tryz.prog Tryz.f130 70 []:=⟨_,lrZ⟩
def Pn:LWZ Tryz.prog Tryz.f166 43 [165,164]:=⟨_,lrZ⟩
def Pp:LWZ Tryz.prog Tryz.f167 44 [166,183,6000004,6000005]:=⟨_,lrZ⟩
def l18:LWZ Tryz.prog Tryz.f18 17 []:=⟨_,lrZ⟩
def Pq:LWZ Tryz.prog Tryz.f168 13 []:=⟨_,lrZ⟩
def l39:LWZ Tryz.prog Tryz.f39 26 []:=⟨_,lrZ⟩
def l93:LWZ Tryz.prog Tryz.f93 26 []:=⟨_,lrZ⟩
def Pu:LWZ Tryz.prog Tryz.f171 8 []:=⟨_,lrZ⟩
def Pw:LWZ Tryz.prog Tryz.f173 23 []:=⟨_,lrZ⟩
def Px:LWZ Tryz.prog Tryz.f174 25 []:=⟨_,lrZ⟩
def OO:LWZ Tryz.prog Tryz.f111 7 []:=⟨_,lrZ⟩
def PI:LWZ Tryz.prog Tryz.f195 47 [1000012,5000000,4000002,5000008,5000010]:=⟨_,lrZ⟩
def l81:LWZ Tryz.prog Tryz.f81 36 []:=⟨_,lrZ⟩
def l87:LWZ Tryz.prog Tryz.f87 56 []:=⟨_,lrZ⟩
def l88:LWZ Tryz.prog Tryz.f88 30 []:=⟨_,lrZ⟩
def l89:LWZ Tryz.prog Tryz.f89 23 []:=⟨_,lrZ⟩
def Pg:LWZ Tryz.prog Tryz.f157 114 []:=⟨_,lrZ⟩
def OL:LWZ Tryz.prog Tryz.f107 22 []:=⟨_,lrZ⟩
def Ph:LWZ Tryz.prog Tryz.f158 24 []:=⟨_,lrZ⟩
def Pj:LWZ Tryz.prog Tryz.f159 10 []:=⟨_,lrZ⟩
def Pk:LWZ Tryz.prog Tryz.f160 28 []:=⟨_,lrZ⟩
def OM:LWZ Tryz.prog Tryz.f108 16 []:=⟨_,lrZ⟩
def Gf:LWZ Tryz.prog Tryz.f161 127 []:=⟨_,lrZ⟩
def Pl:LWZ Tryz.prog Tryz.f162 26 []:=⟨_,lrZ⟩
def Pm:LWZ Tryz.prog Tryz.f163 8 []:=⟨_,lrZ⟩
def JM:LWZ Tryz.prog Tryz.f164 14 []:=⟨_,lrZ⟩
def l68:LWZ Tryz.prog Tryz.f68 2 []:=⟨_,lrZ⟩
def l69:LWZ Tryz.prog Tryz.f69 11 []:=⟨_,lrZ⟩
def Mx:LWZ Tryz.prog Tryz.f183 42 []:=⟨_,lrZ⟩
def PA:LWZ Tryz.prog Tryz.f184 7 []:=⟨_,lrZ⟩
def l70:LWZ Tryz.prog Tryz.f70 13 []:=⟨_,lrZ⟩
def PD:LWZ Tryz.prog Tryz.f187 15 []:=⟨_,lrZ⟩
def l38:LWZ Tryz.prog Tryz.f38 30 []:=⟨_,lrZ⟩
def PE:LWZ Tryz.prog Tryz.f188 86 [6000003,4000000]:=⟨_,lrZ⟩
def PG:LWZ Tryz.prog Tryz.f190 23 []:=⟨_,lrZ⟩
def PH:LWZ Tryz.prog Tryz.f191 53 []:=⟨_,lrZ⟩
def Mv:LWZ Tryz.prog Tryz.f123 20 []:=⟨_,lrZ⟩
def Pc:LWZ Tryz.prog Tryz.f142 2 []:=⟨_,lrZ⟩
def Pd:LWZ Tryz.prog Tryz.f143 19 []:=⟨_,lrZ⟩
def Pe:LWZ Tryz.prog Tryz.f144 8 []:=⟨_,lrZ⟩
def Pb:LWZ Tryz.prog Tryz.f141 7 []:=⟨_,lrZ⟩
def Pa:LWZ Tryz.prog Tryz.f140 29 []:=⟨_,lrZ⟩
def Pf:LWZ Tryz.prog Tryz.f145 10 []:=⟨_,lrZ⟩
def PK:LWZ Tryz.prog Tryz.f197 19 []:=⟨_,lrZ⟩
def PM:LWZ Tryz.prog Tryz.f199 11 []:=⟨_,lrZ⟩
def l91:LWZ Tryz.prog Tryz.f91 17 []:=⟨_,lrZ⟩
def l92:LWZ Tryz.prog Tryz.f92 22 []:=⟨_,lrZ⟩
def PN:LWZ Tryz.prog Tryz.f200 11 []:=⟨_,lrZ⟩
def PO:LWZ Tryz.prog Tryz.f201 62 []:=⟨_,lrZ⟩
def PQ:LWZ Tryz.prog Tryz.f202 138 [6000002,6000003,4000000]:=⟨_,lrZ⟩
def Mw:LWZ Tryz.prog Tryz.f156 6 []:=⟨_,lrZ⟩
def PS:LWZ Tryz.prog Tryz.f204 5 []:=⟨_,lrZ⟩
def PU:LWZ Tryz.prog Tryz.f206 30 []:=⟨_,lrZ⟩
def PV:LWZ Tryz.prog Tryz.f208 9 []:=⟨_,lrZ⟩
def PX:LWZ Tryz.prog Tryz.f209 18 []:=⟨_,lrZ⟩
def PY:LWZ Tryz.prog Tryz.f210 18 []:=⟨_,lrZ⟩
def PZ:LWZ Tryz.prog Tryz.f211 2 []:=⟨_,lrZ⟩
def P0:LWZ Tryz.prog Tryz.f212 17 []:=⟨_,lrZ⟩
def P1:LWZ Tryz.prog Tryz.f213 9 []:=⟨_,lrZ⟩
end Go.MM
end
section
namespace Go.MM
open Go Go.DL
instance : Glb := ⟨fun _ => none⟩
end Go.MM
end
section
namespace Go.MM
open Go Go.DL Go.Proofs
theorem mixed:Tryz.prog.follows .mixedOrders=true:=by kernel_rfl
abbrev I(n:Int):T:=.int .i64 n
def hd(h:List Int):T:=.agg (h.map I)
def uT(a:List (List Int)):T:=.slice 10 (a.map hd)
theorem getD_map{α β:Type}(f:α->β)(l:List α)(i:Nat)(d:β)(h:i<l.length):(l.map f)[i]?.getD d=f l[i]:=by simp [h]
theorem Br: ∀{h:List Int} {n:Nat},h.length=n->fits (List.replicate n (.int .i64)) (h.map I)
 |[],_,e=>by subst e;trivial
 |x::h,_,e=>by subst e;exact ⟨rfl,Br rfl⟩
theorem DV: ∀{a b:List Int},a.length=b.length->eqL (a.map I) (b.map I)=(a==b)
 |[],[],_=>rfl
 |x::a,y::b,e=>by
  show ((x==y)&&eqL (a.map I) (b.map I))=_
  rw [DV (by simpa using e)];rfl
def cmp(x y:Int):Int:=if x<y then -1 else if x>y then 1 else 0
def vA:List Int->List Int->Int
 |x::a,y::b=>if cmp x y≠0 then cmp x y else vA a b
 |_,_=>0
def xq(h:List Int):Bool:=h.all fun x=>decide (0<=x)&&decide (x<=65535)
theorem E7{a b:List Int}{i:Nat}(d:i<a.length)(e:i<b.length):vA (a.drop i) (b.drop i)=if cmp a[i] b[i]≠0 then cmp a[i] b[i] else vA (a.drop (i+1)) (b.drop (i+1)):=by
 rw [List.drop_eq_getElem_cons d,List.drop_eq_getElem_cons e];rfl
theorem FP: ∀(l:List Int) (n:Nat),l.length=n->chunk 1 n (l.map I)=l.map I
 |[],0,_=>rfl
 |x::l,n+1,h=>by
  show DL.elemOf 1 [I x]::chunk 1 n (l.map I)=I x::l.map I
  rw [FP l n (by simpa using h)];rfl
 |x::l,0,h=>by simp at h
 |[],n+1,h=>by simp at h
theorem JP{α:Type}[BEq α][LawfulBEq α]{l:List α}{i:Nat}{h:α}(b:i<l.length)(d:(l.take i).contains h=false)(e:l[i]≠h):(l.take (i+1)).contains h=false:=by
 rw [List.take_succ_eq_append_getElem b];refine Bool.eq_false_iff.2 fun f=>?_
 rcases List.mem_append.1 (List.contains_iff_mem.1 f) with a|a
 ·rw [List.contains_iff_mem.2 a] at d;cases d
 ·exact e (List.mem_singleton.1 a).symm
def wD:List (List Int)->List Int->List (List Int)
 |[],h=>[h]
 |x::xs,h=>if vA x h<0 then x::wD xs h else if x=h then x::xs else h::x::xs
def below(h:List Int):List (List Int)->Nat
 |[]=>0
 |x::xs=>if vA x h<0 then below h xs+1 else 0
theorem BC(h:List Int): ∀l,below h l<=l.length
 |[]=>Nat.le_refl _
 |x::xs=>by unfold below;split <;> simp;exact BC h xs
theorem Ay{h:List Int}: ∀{l:List (List Int)} {i:Nat} (_:i<below h l) (hi:i<l.length),vA l[i] h<0
 |[],i,_,hi=>by simp at hi
 |x::xs,i,hb,hi=>by
  unfold below at hb;split at hb
  ·rename_i a;cases i with
   |zero=>exact a
   |succ i=>exact Ay (l:=xs) (by omega) (by simpa using hi)
  ·omega
theorem Ax{h:List Int}: ∀{l:List (List Int)} (hi:below h l<l.length), ¬vA l[below h l] h<0
 |[],hi=>by simp at hi
 |x::xs,hi=>by
  by_cases a:vA x h<0
  ·have e:below h (x::xs)=below h xs+1:=by rw [below,if_pos a]
   have b:below h xs<xs.length:=by rw [e] at hi;simpa using hi
   have:=Ax (h:=h) (l:=xs) b
   simp only [e];simpa using this
  ·have e:below h (x::xs)=0:=by rw [below,if_neg a]
   simp only [e];simpa using a
theorem EH{h:List Int}: ∀(l:List (List Int)),wD l h=if b:below h l<l.length then (if l[below h l]=h then l else l.take (below h l)++h::l.drop (below h l)) else l.take (below h l)++h::l.drop (below h l)
 |[]=>by simp [wD,below]
 |x::xs=>by
  by_cases d:vA x h<0
  ·have e:below h (x::xs)=below h xs+1:=by rw [below,if_pos d]
   rw [wD,if_pos d,EH xs];simp only [e]
   by_cases b:below h xs<xs.length
   ·have a:below h xs+1<(x::xs).length:=by simpa using b
    rw [dif_pos b,dif_pos a];simp only [List.getElem_cons_succ];split <;> simp
   ·have a: ¬below h xs+1<(x::xs).length:=by simpa using b
    rw [dif_neg b,dif_neg a];simp
  ·have e:below h (x::xs)=0:=by rw [below,if_neg d]
   simp only [e];rw [wD,if_neg d];simp
theorem JW(h:List Int)(l:List (List Int)):(wD l h).length<=l.length+1:=by
 induction l with
 |nil=>simp [wD]
 |cons x xs a=>
  unfold wD;split
  ·simp;omega
  ·split <;> simp
theorem Gp{h x:List Int}: ∀{l:List (List Int)},x∈wD l h->x=h\/x∈l
 |[],a=>by simp [wD] at a;exact .inl a
 |y::ys,a=>by
  unfold wD at a;split at a
  ·rcases List.mem_cons.1 a with e|a
   ·exact .inr (by simp [e])
   ·exact (Gp a).imp id fun h=>List.mem_cons_of_mem _ h
  ·split at a
   ·exact .inr a
   ·exact List.mem_cons.1 a
theorem KY(x y:Int):cmp y x= - cmp x y:=by unfold cmp;split <;> split <;> (try split) <;> omega
theorem Dr{x y:Int}(h:cmp x y=0):x=y:=by unfold cmp at h;split at h <;> (try split at h) <;> omega
theorem FR{x y:Int}:cmp x y<0↔x<y:=by unfold cmp;split <;> (try split) <;> omega
theorem AG: ∀a b:List Int,vA b a= - vA a b
 |[],[]=>rfl
 |[],_::_=>rfl
 |_::_,[]=>rfl
 |x::a,y::b=>by
  unfold vA;rw [KY x y]
  by_cases h:cmp x y=0
  ·rw [if_neg (by omega),if_neg (by omega)];exact AG a b
  ·rw [if_pos (by omega),if_pos (by omega)]
theorem zb: ∀{a b:List Int},a.length=b.length->vA a b=0->a=b
 |[],[],_,_=>rfl
 |x::a,y::b,hl,h=>by
  unfold vA at h
  by_cases d:cmp x y=0
  ·rw [if_neg (by omega)] at h;rw [Dr d,zb (by simpa using hl) h]
  ·rw [if_pos (by omega)] at h;exact absurd h d
theorem AV(a:List Int):vA a a=0:=by have:=AG a a;omega
theorem zg: ∀{a b c:List Int},a.length=b.length->b.length=c.length->vA a b<0->vA b c<0->vA a c<0
 |[],[],[],_,_,h,_=>h
 |x::a,y::b,z::c,h1,h2,k1,k2=>by
  unfold vA at k1 k2 ⊢
  by_cases f:cmp x y=0
  ·have e:=Dr f;subst e;rw [if_neg (by omega)] at k1
   by_cases d:cmp x z=0
   ·rw [if_neg (by omega)] at k2 ⊢;exact zg (by simpa using h1) (by simpa using h2) k1 k2
   ·rw [if_pos (by omega)] at k2 ⊢;exact k2
  ·rw [if_pos (by omega)] at k1;have i:=FR.1 k1
   by_cases d:cmp y z=0
   ·have e:=Dr d;subst e;rw [if_pos (by omega)];exact k1
   ·rw [if_pos (by omega)] at k2;have j:=FR.1 k2;have g:cmp x z<0:=FR.2 (by omega);rw [if_pos (by omega)];exact g
def Srt(d:List (List Int)):Prop:=d.Pairwise fun a b=>vA a b<0
def vF(a:List (List Int)):Prop:= ∀x∈a,x.length=10
theorem Srt.get{a:List (List Int)}(h:Srt a){i j:Nat}(hi:i<a.length)(d:j<a.length)(b:i<j):vA a[i] a[j]<0:=List.pairwise_iff_getElem.1 h i j hi d b
theorem Jn{h:List Int}{a:List (List Int)}(d:Srt a)(e:vF a)(i:h.length=10){k:Nat}(l:below h a<=k)(j:k<a.length): ¬vA a[k] h<0:=fun g=>by
 have b:below h a<a.length:=by omega
 rcases Nat.lt_or_ge (below h a) k with f|f
 ·have:=d.get b j f
  exact Ax b (zg ((e _ (List.getElem_mem _)).trans (e _ (List.getElem_mem _)).symm) ((e _ (List.getElem_mem _)).trans i.symm) this g)
 ·obtain rfl:k=below h a:=by omega
  exact Ax b g
theorem Ir{h:List Int}{a:List (List Int)}(j:Srt a)(o:vF a)(n:h.length=10):a.contains h=(if d:below h a<a.length then decide (vA a[below h a] h=0) else false):=by
 split
 ·rename_i d
  by_cases e:vA a[below h a] h=0
  ·rw [decide_eq_true e]
   have:=zb ((o _ (List.getElem_mem _)).trans n.symm) e
   exact List.contains_iff_mem.2 (this▸List.getElem_mem _)
  ·rw [decide_eq_false e];refine Bool.eq_false_iff.2 fun g=>?_
   obtain ⟨k,f,rfl⟩:=List.mem_iff_getElem.1 (List.contains_iff_mem.1 g);rcases Nat.lt_trichotomy k (below a[k] a) with b|b|b
   ·have:=Ay b f
    rw [AV] at this;omega
   ·exact e (by simp only [<- b];exact AV _)
   ·have m:=j.get d f b;exact Ax d m
 ·rename_i d;refine Bool.eq_false_iff.2 fun g=>?_
  obtain ⟨k,f,rfl⟩:=List.mem_iff_getElem.1 (List.contains_iff_mem.1 g)
  have:=Ay (h:=a[k]) (l:=a) (i:=k) (by have:=BC a[k] a;omega) f
  rw [AV] at this;omega
theorem t107(x:Int):DCalls Tryz.prog 156 [I x] (.bool false):=by
 refine dl2 mixed [.tmp 2] [.bool false] Tryz.func156 Mw.2 ?_;exact uM false trivial (by simp) ⟨rfl,trivial⟩
theorem t93(x y:Int):DCalls Tryz.prog 123 [I x,I y] (I (cmp x y)):=by
 refine dl2 mixed [.tmp 4] [I (cmp x y)] Tryz.func123 Mv.2 ?_;refine pC _ (t107 x) ?_;refine pC _ (t107 y) ?_;unfold cmp;refine uL trivial (fun h=>?_) (fun h=>?_)
 ·have:x<y:=by simpa using h
  rw [if_pos this];exact ⟨rfl,trivial⟩
 have: ¬x<y:=by simpa using h
 rw [if_neg this];refine uL trivial (fun h=>?_) (fun h=>?_)
 ·have:x>y:=by simpa using h
  rw [if_pos this];exact ⟨rfl,trivial⟩
 ·have: ¬x>y:=by simpa using h
  rw [if_neg this];exact ⟨rfl,trivial⟩
theorem t68(a b:List Int)(h:a.length=b.length)(k:a.length<2^62):DCalls Tryz.prog 81 [.slice 1 (a.map I),.slice 1 (b.map I)] (I (vA a b)):=by
 refine dl2 mixed [.tmp 4] [I (vA a b)] Tryz.func81 l81.2 ?_;refine uA (α:=Nat) (fun i=>{sl:=[(0,.t (.slice 1 (a.map I))),(1,.t (.slice 1 (b.map I))),(9,.t (.slice 1 (a.map I))),(10,.t (I a.length)),(11,.t (I i))],bx:=[]}) (fun i=>i<=a.length/\vA (a.drop i) (b.drop i)=vA a b) (fun i=>a.length - i) 0 (by simp) ?_ ?_
 ·exact ⟨⟨.same _,.same _,.same _,leI (by simp),.same _,trivial⟩,trivial,trivial,rfl,fun _ _ _=>trivial,rfl⟩
 rintro i ⟨hi,f⟩;refine uL trivial (fun e=>?_) (fun e=>?_)
 ·have d:i<a.length:=by simpa using e
  have j:i<b.length:=by omega
  refine uP (I a[i]) (by simpa using d) (by simp [d]) ?_;refine uP (I a[i]) (Nat.lt_succ_self 0) rfl ?_;refine uM false trivial (by simp;omega) ?_;refine uP (I b[i]) (by simpa using j) (by simp [j]) ?_;refine uP (I b[i]) (Nat.lt_succ_self 0) rfl ?_;refine pC _ (t93 a[i] b[i]) ?_;rw [E7 d j] at f;refine uL trivial (fun e=>?_) (fun e=>?_)
  ·have:cmp a[i] b[i]≠0:=by simpa using e
   rw [if_pos this] at f;rw [<- f];exact ⟨rfl,trivial⟩
  ·have: ¬cmp a[i] b[i]≠0:=by simpa using e
   rw [if_neg this] at f;refine ⟨i+1,⟨d,f⟩,by omega,?_⟩;exact ⟨⟨.same _,.same _,.same _,.same _,leI (by rw [oA] <;> omega),trivial⟩,trivial,trivial,rfl,fun _ _ _=>trivial,rfl⟩
 ·have g:a.length<=i:=by simpa using e
  refine uM false trivial (by simp [h]) ?_;rw [List.drop_eq_nil_of_le g,List.drop_eq_nil_of_le (by omega)] at f;rw [<- f];exact ⟨rfl,trivial⟩
theorem t46(a b:List Int)(d:a.length=10)(e:b.length=10):DCalls Tryz.prog 196 [hd a,hd b] (I (vA a b)):=by
 refine dl2 mixed [.tmp 4] [I (vA a b)] Tryz.func196 PJ.2 ?_;refine And.intro (by simp [d]) ?_;refine And.intro (by simp [e]) ?_;refine ⟨I (vA a b),?_,rfl,rfl,trivial⟩
 have:=t68 a b (d.trans e.symm) (by omega)
 rw [<- FP a 10 d, <-FP b 10 e] at this;exact this
theorem t41(a b:List Int)(n:a.length=10)(o:b.length=10):DCalls Tryz.prog 186 [hd a,hd b] (I (vA a b)):=by
 refine dl2 mixed [.tmp 4] [I (vA a b)] Tryz.func186 PC.2 ?_;refine And.intro (by simp [n]) ?_;refine And.intro (by simp [o]) ?_;refine uA (α:=Nat) (fun i=>{sl:=[(2,.ptr 2 0),(3,.ptr 3 0),(5,.t (I i))],bx:=[(2,.d 10 (a.map I)),(3,.d 10 (b.map I))]}) (fun i=>i<=10/\vA (a.drop i) (b.drop i)=vA a b) (fun i=>10 - i) 0 (by simp) ?_ ?_
 ·exact ⟨⟨.same _,.same _,.same _,trivial⟩,⟨.same _,.same _,trivial⟩,trivial,rfl,fun _ _ _=>trivial,rfl⟩
 rintro i ⟨hi,f⟩;refine uL trivial (fun l=>?_) (fun l=>?_)
 ·have m:i<10:=by simp at l;omega
  have j:i<a.length:=by omega
  have k:i<b.length:=by omega
  rw [E7 j k] at f;refine And.intro (by omega) ?_;refine uP (I a[i]) (by simp;omega) (by simp [j]) ?_;refine And.intro (by omega) ?_;refine uP (I b[i]) (by simp;omega) (by simp [k]) ?_;refine uL trivial (fun g=>?_) (fun g=>?_)
  ·have g:a[i]<b[i]:=by simpa using g
   have e:cmp a[i] b[i]= -1:=by unfold cmp;rw [if_pos g]
   rw [e,if_pos (by decide)] at f;rw [<- f];exact ⟨rfl,trivial⟩
  have g: ¬a[i]<b[i]:=by simpa using g
  refine And.intro (by omega) ?_;refine uP (I a[i]) (by simp;omega) (by simp [j]) ?_;refine And.intro (by omega) ?_;refine uP (I b[i]) (by simp;omega) (by simp [k]) ?_;refine uL trivial (fun h=>?_) (fun h=>?_)
  ·have h:a[i]>b[i]:=by simpa using h
   have e:cmp a[i] b[i]=1:=by unfold cmp;rw [if_neg g,if_pos h]
   rw [e,if_pos (by decide)] at f;rw [<- f];exact ⟨rfl,trivial⟩
  have h: ¬a[i]>b[i]:=by simpa using h
  have e:cmp a[i] b[i]=0:=by unfold cmp;rw [if_neg g,if_neg h]
  rw [e,if_neg (by decide)] at f;refine ⟨i+1,⟨m,f⟩,by omega,?_⟩;exact ⟨⟨.same _,.same _,leI (by rw [oA] <;> omega),trivial⟩,⟨.same _,.same _,trivial⟩,trivial,rfl,fun _ _ _=>trivial,rfl⟩
 ·have p:10<=i:=by simp at l;omega
  rw [List.drop_eq_nil_of_le (by omega),List.drop_eq_nil_of_le (by omega)] at f;rw [<- f];exact ⟨rfl,trivial⟩
theorem t17(a:List (List Int))(h:List Int)(m: ∀x∈a,x.length=10)(g:h.length=10)(n:a.length<2^62):DCalls Tryz.prog 170 [uT a,hd h] (.bool (a.contains h)):=by
 refine dl2 mixed [.tmp 4] [.bool (a.contains h)] Tryz.func170 Pt.2 ?_;refine And.intro (by simp [g]) ?_;refine uA (α:=Nat) (fun i=>{sl:=[(0,.t (uT a)),(3,.ptr 3 0),(5,.t (I i))],bx:=[(3,.d 10 (h.map I))]}) (fun i=>i<=a.length/\(a.take i).contains h=false) (fun i=>a.length - i) 0 (by simp) ?_ ?_
 ·exact ⟨⟨.same _,.same _,.same _,trivial⟩,⟨.same _,trivial⟩,trivial,rfl,fun _ _ _=>trivial,rfl⟩
 ·rintro i ⟨hi,l⟩;refine uL trivial (fun f=>?_) (fun f=>?_)
  ·have b:i<a.length:=by simpa using f
   have j:=m _ (List.getElem_mem b);refine uP (hd a[i]) (by simpa using b) (by simp [b]) ?_;refine uP (hd a[i]) (by simpa [hd,T.cells] using j) rfl ?_;refine uL ⟨Br j,Br g⟩ (fun f=>?_) (fun f=>?_)
   ·refine And.intro ?_ trivial;have e:a[i]=h:=by
     have:=f.symm.trans (DV (j.trans g.symm))
     simpa using this.symm
    have:a.contains h=true:=by simp [<- e]
    rw [this];rfl
   ·have e:a[i]≠h:=fun e=>by
     have:=f.symm.trans (DV (j.trans g.symm))
     simp [e] at this
    refine ⟨i+1,⟨b,JP b l e⟩,by omega,?_⟩
    ·exact ⟨⟨.same _,.same _,leI (by rw [oA] <;> omega),trivial⟩,⟨.same _,trivial⟩,trivial,rfl,fun _ _ _=>trivial,rfl⟩
  ·have k:a.length<=i:=by simpa using f
   refine And.intro ?_ trivial;rw [List.take_of_length_le k] at l;rw [l];rfl
theorem t11(h:List Int)(l:h.length=10):DCalls Tryz.prog 15 [hd h] (.bool (xq h)):=by
 refine dl2 mixed [.tmp 2] [.bool (xq h)] Tryz.func15 l15.2 ?_;refine And.intro (by simp [l]) ?_;refine uA (α:=Nat) (fun i=>{sl:=[(1,.ptr 1 0),(3,.t (I i))],bx:=[(1,.d 10 (h.map I))]}) (fun i=>i<=10/\xq (h.drop i)=xq h) (fun i=>10 - i) 0 (by simp) ?_ ?_
 ·exact ⟨⟨.same _,.same _,trivial⟩,⟨.same _,trivial⟩,trivial,rfl,fun _ _ _=>trivial,rfl⟩
 rintro i ⟨hi,a⟩;refine uL trivial (fun g=>?_) (fun g=>?_)
 ·have j:i<10:=by simp at g;omega
  have f:i<h.length:=by omega
  have a:(decide (0<=h[i])&&decide (h[i]<=65535)&&xq (h.drop (i+1)))=xq h:=by
   rw [<- a,List.drop_eq_getElem_cons f];rfl
  refine And.intro (by omega) ?_;refine uP (I h[i]) (by simp;omega) (by simp [f]) ?_;refine uL trivial (fun b=>?_) (fun b=>?_)
  ·have b:h[i]<0:=by simpa using b
   rw [<- a,decide_eq_false (by omega)];exact ⟨rfl,trivial⟩
  have b: ¬h[i]<0:=by simpa using b
  refine And.intro (by omega) ?_;refine uP (I h[i]) (by simp;omega) (by simp [f]) ?_;refine uL trivial (fun e=>?_) (fun e=>?_)
  ·have e:h[i]>65535:=by simpa using e
   rw [<- a,decide_eq_false (p:=h[i]<=65535) (by omega),Bool.and_false,Bool.false_and];exact ⟨rfl,trivial⟩
  have e: ¬h[i]>65535:=by simpa using e
  refine ⟨i+1,⟨j,?_⟩,by omega,?_⟩
  ·rw [<- a,decide_eq_true (by omega),decide_eq_true (by omega)];rfl
  ·exact ⟨⟨.same _,leI (by rw [oA] <;> omega),trivial⟩,⟨.same _,trivial⟩,trivial,rfl,fun _ _ _=>trivial,rfl⟩
 ·have k:10<=i:=by simp at g;omega
  rw [List.drop_eq_nil_of_le (by omega)] at a;rw [<- a];exact ⟨rfl,trivial⟩
theorem t44(a:List (List Int))(h:List Int)(p: ∀x∈a,x.length=10)(m:h.length=10)(s:a.length<2^40):DCalls Tryz.prog 169 [uT a,hd h] (uT (wD a h)):=by
 refine dl2 mixed [.tmp 4] [uT (wD a h)] Tryz.func169 Ps.2 ?_;refine And.intro (by simp [m]) ?_;have r:=BC h a;refine tT (α:=Nat) (β:=Unit) 0 (fun i=>{sl:=[(0,.t (uT a)),(3,.ptr 3 0),(5,.t (I i))],bx:=[(3,.d 10 (h.map I))]}) (fun i=>i<=below h a) (fun i=>a.length - i)
  (fun _=>{sl:=[(0,.t (uT a)),(3,.ptr 3 0),(5,.t (I (below h a)))],bx:=[(3,.d 10 (h.map I))]}) (fun _=>True) 0 (by simp) ?_ ?_ ?_
 ·exact ⟨⟨.same _,.same _,.same _,trivial⟩,⟨.same _,trivial⟩,trivial,rfl,fun _ _ _=>trivial,rfl⟩
 ·rintro i hi;refine uL trivial (fun j=>?_) (fun j=>?_)
  ·have b:i<a.length:=by simpa using j
   have x1:=p _ (List.getElem_mem b);refine uP (hd a[i]) (by simpa using b) (by simp [b]) ?_;refine uP (hd a[i]) (by simpa [hd,T.cells] using x1) rfl ?_;refine pC _ (t41 a[i] h x1 m) ?_;refine uL trivial (fun g=>?_) (fun g=>?_)
   ·have g:vA a[i] h<0:=by simpa using g
    have n:i<below h a:=by
     rcases Nat.lt_or_ge i (below h a) with l|l
     ·exact l
     ·exfalso;obtain rfl:i=below h a:=by omega
      exact Ax b g
    refine ⟨i+1,n,by omega,?_⟩;exact ⟨⟨.same _,.same _,leI (by rw [oA] <;> omega),trivial⟩,⟨.same _,trivial⟩,trivial,rfl,fun _ _ _=>trivial,rfl⟩
   ·have g: ¬vA a[i] h<0:=by simpa using g
    have e:i=below h a:=by
     rcases Nat.lt_or_ge i (below h a) with l|l
     ·exact absurd (Ay l b) g
     ·omega
    subst e;exact ⟨(),trivial,⟨.same _,.same _,.same _,trivial⟩,⟨.same _,trivial⟩,trivial,rfl,fun _ _ _=>trivial,rfl⟩
  ·have q:a.length<=i:=by simpa using j
   have e:i=below h a:=by omega
   subst e;exact ⟨(),trivial,⟨.same _,.same _,.same _,trivial⟩,⟨.same _,trivial⟩,trivial,rfl,fun _ _ _=>trivial,rfl⟩
 ·rintro - -;refine uE (β:=Unit) (fun _=>{sl:=[(0,.t (uT a)),(3,.ptr 3 0),(5,.t (I (below h a)))],bx:=[(3,.d 10 (h.map I))]}) (fun _=>wD a h=a.take (below h a)++h::a.drop (below h a)) ?_ ?_
  ·refine uL trivial (fun j=>?_) (fun j=>?_)
   ·have b:below h a<a.length:=by simpa using j
    have x1:=p _ (List.getElem_mem b);refine uP (hd a[below h a]) (by simpa using b) (by simp [b]) ?_;refine uP (hd a[below h a]) (by simpa [hd,T.cells] using x1) rfl ?_;have o:=DV (x1.trans m.symm);have f:=EH (h:=h) a;rw [dif_pos b] at f;refine uL ⟨Br x1,Br m⟩ (fun k=>?_) (fun k=>?_)
    ·have k:a[below h a]=h:=eq_of_beq (o.symm.trans k);rw [if_pos k] at f;rw [f];exact ⟨rfl,trivial⟩
    ·have k: ¬a[below h a]=h:=fun e=>by
      have:=o.symm.trans k
      rw [e] at this;simp at this
     rw [if_neg k] at f;exact ⟨(),f,⟨.same _,.same _,.same _,trivial⟩,⟨.same _,trivial⟩,trivial,rfl,fun _ _ _=>trivial,rfl⟩
   ·have b: ¬below h a<a.length:=by simpa using j
    have f:=EH (h:=h) a;rw [dif_neg b] at f;exact ⟨(),f,⟨.same _,.same _,.same _,trivial⟩,⟨.same _,trivial⟩,trivial,rfl,fun _ _ _=>trivial,rfl⟩
  ·rintro - f;refine uP (.slice 10 ((a.take (below h a)).map hd)) (by simp;omega) (by simp [List.map_take]) ?_;refine ⟨.inl rfl,by simp;omega,?_⟩;refine And.intro (by simp [m]) ?_;refine ⟨.inl rfl,by simp;omega,?_⟩;refine uP (.slice 10 ((a.drop (below h a)).map hd)) (by simp;omega) (by simp [List.map_drop,List.take_of_length_le]) ?_;refine ⟨.inl rfl,by simp;omega,?_⟩;have e:T.slice 10 (((a.take (below h a)).map hd++[.agg (h.map I)])++(a.drop (below h a)).map hd)=uT (wD a h):=by rw [f];simp [uT,hd]
   exact ⟨congrArg some e,trivial⟩
theorem t15(a b:List (List Int))(l: ∀x∈a,x.length=10)(k: ∀x∈b,x.length=10)(p:a.length+b.length<2^40):DCalls Tryz.prog 128 [uT a,uT b] (uT (b.foldl wD a)):=by
 refine dl2 mixed [.tmp 4] [uT (b.foldl wD a)] Tryz.func128 O0.2 ?_;refine And.intro trivial ?_;refine ⟨.inl rfl,by simp;omega,?_⟩;have j: ∀i,i<=b.length->(∀ x∈(b.take i).foldl wD a,x.length=10)/\((b.take i).foldl wD a).length<=a.length+i:=fun i=>by
  induction i with
  |zero=>exact fun _=>⟨l,by simp⟩
  |succ i n=>
   intro hi;obtain ⟨d,o⟩:=n (by omega);rw [List.take_succ_eq_append_getElem (by omega),List.foldl_append];refine ⟨fun x h=>?_,?_⟩
   ·rcases Gp h with rfl|h
    ·exact k _ (List.getElem_mem _)
    ·exact d x h
   ·have:=JW (b[i]'(by omega)) ((b.take i).foldl wD a)
    simp only [List.foldl_cons,List.foldl_nil];omega
 refine uA (α:=Nat) (fun i=>{sl:=[(1,.t (uT b)),(5,.t (uT ((b.take i).foldl wD a))),(6,.t (I i))],bx:=[]}) (fun i=>i<=b.length) (fun i=>b.length - i) 0 (by simp) ?_ ?_
 ·exact ⟨⟨.same _,.conv _ (uT a) [] rfl (by simp),.same _,trivial⟩,trivial,trivial,rfl,fun _ _ _=>trivial,rfl⟩
 rintro i hi;obtain ⟨m,q⟩:=j i hi;refine uL trivial (fun g=>?_) (fun g=>?_)
 ·have d:i<b.length:=by simpa using g
  have x1:=k _ (List.getElem_mem d);refine uP (hd b[i]) (by simpa using d) (by simp [d]) ?_;refine uP (hd b[i]) (by simpa [hd,T.cells] using x1) rfl ?_;refine pC _ (t44 _ b[i] m x1 (by omega)) ?_;refine ⟨i+1,d,by omega,?_⟩;exact ⟨⟨.same _,leT (by rw [List.take_succ_eq_append_getElem d,List.foldl_append];rfl),leI (by rw [oA] <;> omega),trivial⟩,trivial,trivial,rfl,fun _ _ _=>trivial,rfl⟩
 ·have f:b.length<=i:=by simpa using g
  have e:uT ((b.take i).foldl wD a)=uT (b.foldl wD a):=by rw [List.take_of_length_le f]
  exact ⟨congrArg some e,trivial⟩
theorem t45(a:List (List Int))(h:List Int)(o:Srt a)(u:vF a)(m:h.length=10)(D:a.length<2^40):
  DCalls Tryz.prog 198 [uT a,hd h,.clos 196 []] (.tup [I (below h a),.bool (a.contains h)]):=by
 refine dl2 mixed [.tmp 6,.tmp 7] [I (below h a),.bool (a.contains h)] Tryz.func198 PL.2 ?_;have B:=BC h a;refine And.intro (by simp [m]) ?_;refine uA (α:=Nat×Nat) (fun p=>{sl:=[(0,.t (uT a)),(2,.t (.clos 196 [])),(4,.ptr 4 0),(8,.t (I a.length)),(9,.t (I p.1)),(10,.t (I p.2))],bx:=[(4,.d 10 (h.map I))]})
  (fun p=>p.1<=below h a/\below h a<=p.2/\p.2<=a.length) (fun p=>p.2 - p.1) (0,a.length) (by simp;omega) ?_ ?_
 ·exact ⟨⟨.same _,.same _,.same _,leI (by simp),.same _,leI (by simp),trivial⟩,⟨.same _,trivial⟩,trivial,rfl,fun _ _ _=>trivial,rfl⟩
 rintro ⟨i,j⟩ ⟨v,x,y⟩;dsimp only at v x y;refine uL trivial (fun k=>?_) (fun k=>?_)
 ·have w:i<j:=by simp at k;omega
  refine And.intro (by decide) ?_;have q:IntKind.wrap .i64 ((IntKind.wrap .u64 (IntKind.wrap .i64 ((i:Int)+(j:Int)))).fdiv (2^(min (1:Int).toNat (IntKind.bits .u64))))=(((i+j) / 2:Nat):Int):=by
   rw [oA (n:=(i:Int)+j) (by omega) (by omega)];have A: ∀n:Int,0<=n->n<18446744073709551616->IntKind.wrap .u64 n=n:=fun n C v=>by
    unfold IntKind.wrap;simp [IntKind.bits,IntKind.signed];omega
   rw [A ((i:Int)+j) (by omega) (by omega)];have z:((i:Int)+(j:Int)).fdiv (2^(min (1:Int).toNat (IntKind.bits .u64)))=(((i+j) / 2:Nat):Int):=by
    show ((i:Int)+(j:Int)).fdiv 2=_
    rw [Int.fdiv_eq_ediv_of_nonneg _ (by omega)];omega
   rw [z,oA (by omega) (by omega)]
  have r:(i+j) / 2<a.length:=by omega
  have x1:=u _ (List.getElem_mem r);refine uP (hd a[(i+j) / 2]) (show 0<=IntKind.wrap .i64 _/\_ by dsimp only;rw [q];simp;omega) (show (a.map hd)[(IntKind.wrap .i64 _).toNat]?.getD .nil=_ by dsimp only;rw [q,Int.toNat_natCast];simp [r]) ?_;refine uP (hd a[(i+j) / 2]) (by simpa [hd,T.cells] using x1) rfl ?_;refine pC _ (t46 a[(i+j) / 2] h x1 m) ?_;refine uL trivial (fun g=>?_) (fun g=>?_)
  ·have g:vA a[(i+j) / 2] h<0:=by simpa using g
   have:(i+j) / 2<below h a:=by
    rcases Nat.lt_or_ge ((i+j) / 2) (below h a) with f|f
    ·exact f
    ·exact absurd g (Jn o u m f r)
   refine ⟨((i+j) / 2+1,j),⟨this,x,y⟩,by simp;omega,?_⟩;refine ⟨⟨.same _,.same _,.same _,.same _,leI ?_,.same _,trivial⟩,⟨.same _,trivial⟩,trivial,rfl,fun _ _ _=>trivial,rfl⟩;show (((i+j) / 2+1:Nat):Int)=IntKind.wrap .i64 (IntKind.wrap .i64 _+1)
   dsimp only;rw [q,oA] <;> omega
  ·have g: ¬vA a[(i+j) / 2] h<0:=by simpa using g
   have:below h a<=(i+j) / 2:=by
    rcases Nat.lt_or_ge ((i+j) / 2) (below h a) with f|f
    ·exact absurd (Ay f r) g
    ·exact f
   refine ⟨(i,(i+j) / 2),⟨v,this,by simp;omega⟩,by simp;omega,?_⟩;refine ⟨⟨.same _,.same _,.same _,.same _,.same _,leI ?_,trivial⟩,⟨.same _,trivial⟩,trivial,rfl,fun _ _ _=>trivial,rfl⟩;exact q.symm
 ·have w: ¬i<j:=by simp at k;omega
  obtain rfl:i=below h a:=by omega
  have s:=Ir o u m;refine uL trivial (fun k=>?_) (fun k=>?_)
  ·have l:below h a<a.length:=by simp at k;omega
   have x1:=u _ (List.getElem_mem l);rw [dif_pos l] at s;refine uP (hd a[below h a]) (by simp;omega) (by simp [l]) ?_;refine uP (hd a[below h a]) (by simpa [hd,T.cells] using x1) rfl ?_;refine pC _ (t46 a[below h a] h x1 m) ?_;refine uM (a.contains h) trivial (by rw [s];by_cases e:vA a[below h a] h=0 <;> simp [e]) ?_;exact ⟨rfl,rfl,trivial⟩
  ·have l: ¬below h a<a.length:=by simpa using k
   rw [dif_neg l] at s;exact ⟨rfl,congrArg (fun b=>some (T.bool b)) s.symm,trivial⟩
theorem t16(a:List (List Int))(h:List Int)(b:Srt a)(f:vF a)(d:h.length=10)(e:a.length<2^40):
  DCalls Tryz.prog 185 [uT a,hd h] (.bool (a.contains h)):=by
 refine dl2 mixed [.tmp 4] [.bool (a.contains h)] Tryz.func185 PB.2 ?_;refine And.intro (by simp [d]) ?_;refine pC _ (t45 a h b f d e) ?_;exact ⟨rfl,trivial⟩
def KC(x:List Int)(rest:List (List Int)->List (List Int))(a:List (List Int)):List (List Int)->List (List Int)
 |[]=>a
 |y::b=>if vA x y<0 then x::rest (y::b) else if vA x y>0 then y::KC x rest a b else x::rest b
def mrg:List (List Int)->List (List Int)->List (List Int)
 |[]=>fun b=>b
 |x::a=>KC x (mrg a) (x::a)
def nx:List (List Int)->List (List Int)->Int
 |[],_=>1
 |_::_,[]=> -1
 |x::_,y::_=>vA x y
theorem Ap: ∀a,mrg a []=a
 |[]=>rfl
 |_::_=>rfl
theorem DB(x y:List Int)(a b:List (List Int)):mrg (x::a) (y::b)=if vA x y<0 then x::mrg a (y::b) else if vA x y>0 then y::mrg (x::a) b else x::mrg a b:=rfl
theorem Ea{x:List Int}{a b:List (List Int)}(h:nx (x::a) b<0):mrg (x::a) b=x::mrg a b:=by
 cases b with
 |nil=>rw [Ap,Ap]
 |cons y b=>rw [DB,if_pos (show vA x y<0 from h)]
theorem D9{y:List Int}{a b:List (List Int)}(h:0<nx a (y::b)):mrg a (y::b)=y::mrg a b:=by
 cases a with
 |nil=>rfl
 |cons x a=>
  have h:0<vA x y:=h;rw [DB,if_neg (by omega),if_pos h]
theorem Gi{x y:List Int}{a b:List (List Int)}(h:nx (x::a) (y::b)=0):mrg (x::a) (y::b)=x::mrg a b:=by
 have h:vA x y=0:=h;rw [DB,if_neg (by omega),if_neg (by omega)]
def wy(id:Nat)(c:Option Code):Array Oper:=match rg0 id c with
 |.region _ ops _=>ops
 |_=> #[]
theorem b13:Tryz.f165.body=some (.seq (.region 0 (wy 0 Tryz.f165.body) false) (.seq (.region 1 (wy 1 Tryz.f165.body) false) (.seq (.seq (.region 2 (wy 2 Tryz.f165.body) false)
  (.block 0 (.rangeFunc (.tmp 9) #[10] (.region 3 (wy 3 Tryz.f165.body) false) (.block 1 (.region 4 (wy 4 Tryz.f165.body) false))))) (.seq (.region 5 (wy 5 Tryz.f165.body) false) .ret)))):=by kernel_rfl
abbrev zt:List T:=[I 0,I 0,I 0,I 0,I 0,I 0,I 0,I 0,I 0,I 0]
theorem Nf:bQ Tryz.prog 16 [] (wy 3 Tryz.f165.body) (wy 3 Tryz.f165.body).toList=some [⟨some 6,.alloc zt,none,[]⟩,⟨none,.store 10 (.tmp 6) (.tmp 10),none,[0,0]⟩]:=by kernel_rfl
theorem Ng:bQ Tryz.prog 16 [] (wy 4 Tryz.f165.body) (wy 4 Tryz.f165.body).toList=some [⟨some 11,.load 1 false (.tmp 5),none,[]⟩,⟨some 12,.load 10 true (.tmp 6),none,[]⟩,
  ⟨some 13,.buildS 27 10 1 zt [(0,.tmp 12)],none,[1]⟩,⟨some 14,.append 77 27 10 80 (.tmp 11) (.tmp 13),none,[0,2]⟩,⟨none,.store 1 (.tmp 5) (.tmp 14),none,[3,3,0,1,2,3]⟩]:=by kernel_rfl
noncomputable abbrev y67:Array Oper:=wy 12 Tryz.f195.body
theorem b67:rg0 12 Tryz.f195.body= .region 12 y67 false:=by kernel_rfl
theorem Ni:ed Tryz.prog 47 y67 [0,1]=some [⟨some 43,.mov (.tmp 0),none,[]⟩,⟨some 44,.load 10 true (.tmp 5),none,[]⟩]:=by kernel_rfl
theorem Nj:ed Tryz.prog 47 y67 [3]=some [⟨some 46,.not (.tmp 45),none,[2]⟩]:=by kernel_rfl
theorem Nk: ∃o ats,y67[2]? =some o/\o.guard=none/\o.op= .call {callee:=.value (.tmp 43),args:= #[.tmp 44],argTypes:=ats }/\o.dst=some 45:=by
 refine ⟨((wy 12 Tryz.f195.body)[2]?).getD default,(match (((wy 12 Tryz.f195.body)[2]?).getD default).op with|.call c=>c.argTypes|_=> #[]),by kernel_rfl,by kernel_rfl,by kernel_rfl,by kernel_rfl⟩
abbrev OE(l d:Nat)(f:FuncId)(a:Array Value):aa->World->Prop:=pB l (cZ f a 10 (.region 3 (wy 3 Tryz.f165.body) false) (.block 1 (.region 4 (wy 4 Tryz.f165.body) false)) d)
abbrev W67(l:Nat)(C:aa->World->Prop)(a b e:List (List Int))(sl:List (Nat×V))(bx:List (Nat×BX)):Wk:=
 {sl:=(0,.raw (.func (.yield l) #[] #[]))::(1,.ptr 1002 0)::(2,.ptr 1003 0)::sl,bx:=(5,.v [.own 3014 27 10 (e.map hd)])::(1002,.d 1 [uT a])::(1003,.d 1 [uT b])::bx,
  gh:=[(0,[(5,.ptr 5 0)])],off:=2000,cx:=C }
theorem LW(l d:Nat)(f:FuncId)(n:Array Value)(ht:n.size=16)(C:aa->World->Prop)(Y: ∀S w,C S w->OE l d f n S w)(a b:List (List Int))(ha:vF a)(hb:vF b)(hl:a.length+b.length<2^40)(K:St->Prop)(st E:St)(H:bX (W67 l C a b [] [] []) E)
  (Z: ∀s:St,s.gh 0=lk .top [(5,.ptr 5 0)]->s.bx=lk none [(5,some (.v [.own 3014 27 10 ((mrg a b).map hd)])),(1002,some (.d 1 [uT []])),(1003,some (.d 1 [uT []]))]->K (s.back st)):
  wpC Tryz.prog PI.1 E (tx st K):=by
 refine uA (α:=List (List Int)×List (List Int)×List (List Int)) (fun p=>W67 l C p.1 p.2.1 p.2.2 [] [])
  (fun p=>vF p.1/\vF p.2.1/\p.2.2++mrg p.1 p.2.1=mrg a b/\p.2.2.length+p.1.length+p.2.1.length<=a.length+b.length) (fun p=>p.1.length+p.2.1.length) (a,b,[]) ⟨ha,hb,rfl,by simp⟩ H ?_
 rintro ⟨g,i,j⟩ ⟨z,A,L,q4⟩;dsimp only at z A L q4;refine uE (β:=Unit) (fun _=>W67 l C g i j [] []) (fun _=>g≠[]\/i≠[]) ?_ ?_
 ·refine uP (uT g) (by decide) rfl ?_;rcases g with _|⟨x,g⟩
  ·refine uM false trivial rfl ?_;refine uP (uT i) (by decide) rfl ?_;rcases i with _|⟨y,i⟩
   ·refine uM false trivial rfl ?_;have e:j=mrg a b:=by rw [<- L,Ap,List.append_nil]
    subst e;exact Z _ rfl rfl
   ·refine uM true trivial (by simp) ?_;exact ⟨(),.inr (by simp),⟨.same _,.same _,.same _,trivial⟩,⟨.same _,.same _,.same _,trivial⟩,⟨⟨.same _,trivial⟩,trivial⟩,rfl,fun _ _ h=>h,rfl⟩
  ·refine uM true trivial (by simp) ?_;exact ⟨(),.inl (by simp),⟨.same _,.same _,.same _,trivial⟩,⟨.same _,.same _,.same _,trivial⟩,⟨⟨.same _,trivial⟩,trivial⟩,rfl,fun _ _ h=>h,rfl⟩
 rintro - G;refine uE (β:=Unit) (fun _=>W67 l C g i j [(4,.t (I (nx g i)))] []) (fun _=>True) ?_ ?_
 ·refine uP (uT g) (by decide) rfl ?_;rcases g with _|⟨x,g⟩
  ·refine uM true trivial rfl ?_;exact ⟨(),trivial,⟨.same _,.same _,.same _,.same _,trivial⟩,⟨.same _,.same _,.same _,trivial⟩,⟨⟨.same _,trivial⟩,trivial⟩,rfl,fun _ _ h=>h,rfl⟩
  ·refine uM false trivial (by simp;omega) ?_;refine uP (uT i) (by decide) rfl ?_;rcases i with _|⟨y,i⟩
   ·refine uM true trivial rfl ?_;exact ⟨(),trivial,⟨.same _,.same _,.same _,.same _,trivial⟩,⟨.same _,.same _,.same _,trivial⟩,⟨⟨.same _,trivial⟩,trivial⟩,rfl,fun _ _ h=>h,rfl⟩
   ·refine uM false trivial (by simp;omega) ?_;refine uP (uT (x::g)) (by decide) rfl ?_;refine uP (hd x) (by simp) rfl ?_;refine uP (hd x) (by simpa [hd,T.cells] using z x (by simp)) rfl ?_;refine uP (uT (y::i)) (by decide) rfl ?_;refine uP (hd y) (by simp) rfl ?_;refine uP (hd y) (by simpa [hd,T.cells] using A y (by simp)) rfl ?_;refine pC _ (t46 x y (z x (by simp)) (A y (by simp))) ?_;exact ⟨(),trivial,⟨.same _,.same _,.same _,.same _,trivial⟩,⟨.same _,.same _,.same _,trivial⟩,⟨⟨.same _,trivial⟩,trivial⟩,rfl,fun _ _ h=>h,rfl⟩
 rintro - -;have z10:(List.replicate 10 (0:Int)).map I=zt:=rfl;refine uE (β:=List Int×List (List Int)) (fun q=>W67 l C g q.2 j [(4,.t (I (nx g i))),(5,.ptr 2005 0)] [(2005,.d 10 (q.1.map I))])
  (fun q=>q.1.length=10/\vF q.2/\(nx g i<0->q.2=i)/\(0<=nx g i->i=q.1::q.2)) ?_ ?_
 ·by_cases m:0<=nx g i
  ·rcases i with _|⟨y,i⟩
   ·exfalso;rcases g with _|⟨x,g⟩
    ·exact G.elim (fun h=>h rfl) (fun h=>h rfl)
    ·have:(0:Int)<= -1:=m
     omega
   have J:=A y (by simp);refine uM true trivial (by simpa using m) ?_;refine And.intro rfl ?_;refine uP (uT (y::i)) (by decide) rfl ?_;refine And.intro rfl ?_;refine uP (hd y) (by simp) rfl ?_;refine And.intro rfl ?_;refine uP (hd y) (by simpa [hd,T.cells] using J) rfl ?_;refine And.intro rfl ?_;refine uP (uT (y::i)) (by decide) rfl ?_;refine And.intro rfl ?_;refine uP (uT i) (by simp;omega) (by simp [uT,List.take_of_length_le]) ?_;refine And.intro rfl ?_;refine And.intro ⟨by simp [J],by decide⟩ ?_;refine And.intro rfl ?_;refine And.intro (by decide) ?_;refine ⟨(y,i),⟨J,fun x r=>A x (by simp [r]),fun h=>absurd m (by omega),fun _=>rfl⟩,?_⟩;exact ⟨⟨.same _,.same _,.same _,.same _,.same _,trivial⟩,⟨.same _,.same _,.same _,uv (by simp [aP]),trivial⟩,⟨⟨.same _,trivial⟩,trivial⟩,rfl,fun _ _ h=>h,rfl⟩
  ·refine uM false trivial (by simpa using m) ?_;refine ⟨(List.replicate 10 0,i),⟨rfl,A,fun _=>rfl,fun h=>absurd h m⟩,?_⟩;exact ⟨⟨.same _,.same _,.same _,.same _,.same _,trivial⟩,⟨.same _,.same _,.same _,.same _,trivial⟩,⟨⟨.same _,trivial⟩,trivial⟩,rfl,fun _ _ h=>h,rfl⟩
 rintro ⟨W,u⟩ ⟨M,O,N,F⟩;dsimp only at M O N F;refine uE (β:=List Int×List (List Int)) (fun q=>W67 l C q.2 u j [(5,.ptr 2005 0)] [(2005,.d 10 (q.1.map I))])
  (fun q=>q.1.length=10/\vF q.2/\mrg g i=q.1::mrg q.2 u/\q.2.length+u.length+1<=g.length+i.length) ?_ ?_
 ·by_cases m:nx g i<=0
  ·rcases g with _|⟨x,g⟩
   ·exfalso
    have:(1:Int)<=0:=m
    omega
   have r:=z x (by simp);have hm:mrg (x::g) i=x::mrg g u:=by
    rcases Int.lt_or_eq_of_le m with h|h
    ·rw [N h];exact Ea h
    ·have e:=F (by omega);rw [e] at h ⊢;exact Gi h
   have B:u.length<=i.length:=by
    rcases Int.lt_or_eq_of_le m with h|h
    ·rw [N h];exact Nat.le_refl _
    ·rw [F (by omega)];simp
   refine uM true trivial (by simpa using m) ?_;refine And.intro rfl ?_;refine uP (uT (x::g)) (by decide) rfl ?_;refine And.intro rfl ?_;refine uP (hd x) (by simp) rfl ?_;refine And.intro rfl ?_;refine uP (hd x) (by simpa [hd,T.cells] using r) rfl ?_;refine And.intro rfl ?_;refine uP (uT (x::g)) (by decide) rfl ?_;refine And.intro rfl ?_;refine uP (uT g) (by simp;omega) (by simp [uT,List.take_of_length_le]) ?_;refine And.intro rfl ?_;refine And.intro ⟨by simp [r],by decide⟩ ?_;refine And.intro rfl ?_;refine And.intro (by decide) ?_;refine ⟨(x,g),⟨r,fun x r=>z x (by simp [r]),hm,by simp;omega⟩,?_⟩;exact ⟨⟨.same _,.same _,.same _,.same _,trivial⟩,⟨.same _,.same _,.same _,uv (by simp [aP,M]),trivial⟩,⟨⟨.same _,trivial⟩,trivial⟩,rfl,fun _ _ h=>h,rfl⟩
  ·have D:0<nx g i:=by omega
   have e:=F (by omega);refine uM false trivial (by simpa using m) ?_;refine ⟨(W,g),⟨M,z,?_,?_⟩,?_⟩
   ·rw [e] at D ⊢;exact D9 D
   ·rw [e];simp;omega
   ·exact ⟨⟨.same _,.same _,.same _,.same _,trivial⟩,⟨.same _,.same _,.same _,.same _,trivial⟩,⟨⟨.same _,trivial⟩,trivial⟩,rfl,fun _ _ h=>h,rfl⟩
 rintro ⟨X,V⟩ ⟨s1,s2,R,s4⟩;dsimp only at s1 s2 R s4;obtain ⟨o,ats,o1,o2,o3,o4⟩:=Nk;have U: ∀(st:St) (Q:aF->St->Prop),sE Tryz.prog 47 (.region 12 y67 false) st Q->sE Tryz.prog 47 (rg0 12 Tryz.f195.body) st Q:=fun st Q h=>by rw [b67];exact h
 refine U _ _ ?_;refine tU (P:=Tryz.prog) (k1:=[0,1]) (k:=2) (k2:=[3]) (by kernel_rfl) Ni rfl Nj rfl o1 o2 o3 o4 (by decide) (p:=10) ht (by decide) Nf rfl Ng rfl 3000 (l:=l) (fn:=f) (dd:=d) (id1:=3) (id2:=4) (bl:=1) ?_;refine ⟨Y,rfl,?_⟩;refine And.intro ⟨by simp [s1],by decide⟩ ?_;refine ⟨fun _ _=>trivial,?_⟩;have B:j.length+1<2^40:=by omega
 refine And.intro (by simp [aP,s1]) ?_;refine And.intro (.inl rfl) ?_;refine And.intro (by simp;omega) ?_;refine And.intro (Nat.lt_succ_self 0) ?_;refine ⟨fun _ _=>trivial,?_⟩;refine ⟨(V,u,j++[X]),⟨s2,O,?_,?_⟩,by simp;omega,?_⟩
 ·rw [<- L,R];simp
 ·simp;omega
 ·refine ⟨⟨.same _,.same _,.same _,trivial⟩,⟨?_,.same _,.same _,trivial⟩,⟨⟨.same _,trivial⟩,trivial⟩,rfl,fun _ _ h=>h,rfl⟩;refine .v _ _ ⟨rM ?_,trivial⟩;simp [aP,s1,hd]
theorem Nb:bQ Tryz.prog 16 [] (wy 0 Tryz.f165.body) (wy 0 Tryz.f165.body).toList=some [⟨some 4,.mov (.const .nil),none,[]⟩]:=by kernel_rfl
abbrev Mn:List DI:=[⟨some 5,.alloc [.nil],none,[]⟩]
abbrev Mo:List DI:=[⟨some 7,.mov (.tmp 0),none,[]⟩,⟨some 8,.mov (.tmp 1),none,[]⟩,⟨some 9,.inl 182 [.tmp 7,.tmp 8],none,[0,1]⟩]
theorem Nc:bQ Tryz.prog 16 [] (wy 1 Tryz.f165.body) (wy 1 Tryz.f165.body).toList=some [⟨some 5,.alloc [.nil],none,[]⟩]:=by kernel_rfl
theorem Nd:bQ Tryz.prog 16 [182] (wy 2 Tryz.f165.body) (wy 2 Tryz.f165.body).toList=some [⟨some 7,.mov (.tmp 0),none,[]⟩,⟨some 8,.mov (.tmp 1),none,[]⟩,⟨some 9,.inl 182 [.tmp 7,.tmp 8],none,[0,1]⟩]:=by kernel_rfl
theorem Nh:bQ Tryz.prog 16 [] (wy 5 Tryz.f165.body) (wy 5 Tryz.f165.body).toList=some [⟨some 15,.load 1 false (.tmp 5),none,[]⟩,⟨some 4,.mov (.tmp 15),none,[0,0]⟩]:=by kernel_rfl
theorem BP(d:List (List Int)): ∀t∈(d.map hd).flatMap T.cells,t.flat=true:=fun t a=>by
 simp only [List.mem_flatMap,List.mem_map] at a;obtain ⟨x,⟨h,_,rfl⟩,b⟩:=a;simp only [hd,T.cells,List.mem_map] at b;obtain ⟨n,_,rfl⟩:=b;rfl
theorem t13(a b:List (List Int))(J:vF a)(L:vF b)(M:a.length+b.length<2^40):dA Tryz.prog 165 [uT a,uT b] 27 10 ((mrg a b).map hd) []:=by
 refine ti Tryz.func165 b13 rfl (nlZ rfl) (BP _) (fun t h=>by cases h) ?_;intro S w a0 n m
 let z:St->Prop:=fun st=>bp Tryz.prog Mn st fun st=>bp Tryz.prog Mo st fun st=>
  bX {sl:=[(5,.ptr 5 0),(9,.fn 195 [.ptr 1002 0,.ptr 1003 0])],bx:=[(5,.d 1 [.nil]),(1002,.d 1 [uT a]),(1003,.d 1 [uT b])]} st
 have k:bp Tryz.prog [⟨some 4,.mov (.const .nil),none,[]⟩] (ft [uT a,uT b]) z:=by
  refine uF mixed Tryz.func182 Pz.2 rfl rfl (rs:=[.tmp 4]) rfl 1000 (nlZ rfl) ?_;refine And.intro trivial ?_;refine And.intro trivial ?_;refine ⟨_,rfl,?_⟩;exact ⟨⟨.same _,.same _,trivial⟩,⟨.same _,.same _,.same _,trivial⟩,trivial,rfl,fun _ _ _=>trivial,rfl⟩
 refine wp_seq (pO (X:=[]) (N:=16) n Nb (fun a1 w1 i=>?_) k);obtain ⟨E1,s1,rfl,k1,k2,P⟩:=i;refine wp_seq (pO (X:=[]) k1 Nc (fun a2 w2 j=>?_) P);obtain ⟨E2,s2,rfl,Q,R,T⟩:=j;refine wp_seq (wp_seq (pO (X:=[182]) Q Nd (fun a3 w3 G=>?_) T));obtain ⟨E3,s3,rfl,U,V,W⟩:=G;obtain ⟨E4,E,o⟩:=U.bX W;rw [<- E];refine wp_block ?_;refine uw mixed o (fun _ _=>trivial) (y:=.tmp 9) rfl (gf:=195) (caps:=[.ptr 1002 0,.ptr 1003 0]) rfl Tryz.func195 PI.2 rfl rfl rfl (by decide) 2000
  (K:=fun st=>st.sl=lk .top [(5,.ptr 5 0)]/\st.bx=lk none [(5,some (.v [.own 3014 27 10 ((mrg a b).map hd)])),(1002,some (.d 1 [uT []])),(1003,some (.d 1 [uT []]))]/\ ∀S w,st.cx S w) (fun l d f e O=>?_) (fun A w5 H=>?_)
 ·refine LW l d f e O _ (fun _ _ h=>h) a b J L M _ _ _ ?_ (fun st2 i j=>⟨i,j,fun _ _=>trivial⟩);exact ⟨⟨.same _,.same _,.same _,trivial⟩,⟨.dv _ _ _ ⟨.nil _ _ _,trivial⟩,.same _,.same _,trivial⟩,⟨⟨.same _,trivial⟩,trivial⟩,rfl,fun _ _ h=>h,rfl⟩
 ·obtain ⟨g,E5,s5,D,rfl,q1,q2,q3,q4,q5,q6,s,u,x⟩:=H;have p:A.defers=[{target:=.collected D,args:= #[]}]:=by rw [q6,V,R,k2,m]
  show Code.wp _ _ _ _ _
  refine wp_seq (pO (X:=[]) q1 Nh (K:=fun st=>(∀ S w,st.cx S w)/\st.sl 4= .own 3014 27 10 ((mrg a b).map hd)) (fun a6 w6 I=>?_) ?_)
  ·obtain ⟨E6,q,rfl,Y,Z,p3,p4⟩:=I;refine wp_ret ⟨.inr rfl,g,E6,q,D,rfl,Y,q2,q3,q4,q5,by rw [Z,p],p3,_,?_,.inl ⟨3014,rfl⟩⟩
   have:eS q Tryz.f165.results.toList=some [q.sl 4]:=by
    rw [show Tryz.f165.results.toList=[.tmp 4] from rfl];rfl
   rw [this,p4];rfl
  ·obtain ⟨sl5,B,F,r,C⟩:=s5;dsimp only at s u x;subst s;subst u;exact ⟨x,rfl⟩
theorem yb{n:Nat}(h:n<2^63):IntKind.wrap .i64 (n:Int)=n:=oA (by omega) (by omega)
theorem xS(x:Nat):BitVec.ofInt 64 (x:Int)=BitVec.ofNat 64 x:=by simp
theorem Ep{x y:Nat}(a:x<2^63)(b:y<2^63):jl .and .i64 x y=((x &&& y:Nat):Int):=by
 show IntKind.wrap .i64 (((BitVec.ofInt 64 (x:Int) &&& BitVec.ofInt 64 (y:Int)).toNat:Nat):Int)=_
 rw [xS,xS];rw [BitVec.toNat_and,BitVec.toNat_ofNat,BitVec.toNat_ofNat,Nat.mod_eq_of_lt (by omega),Nat.mod_eq_of_lt (by omega)];exact yb (Nat.lt_of_le_of_lt Nat.and_le_left a)
theorem Is{x y:Nat}(a:x<2^63)(b:y<2^63):jl .or .i64 x y=((x ||| y:Nat):Int):=by
 show IntKind.wrap .i64 (((BitVec.ofInt 64 (x:Int) ||| BitVec.ofInt 64 (y:Int)).toNat:Nat):Int)=_
 rw [xS,xS];rw [BitVec.toNat_or,BitVec.toNat_ofNat,BitVec.toNat_ofNat,Nat.mod_eq_of_lt (by omega),Nat.mod_eq_of_lt (by omega)];exact yb (Nat.or_lt_two_pow a b)
theorem KQ{x y:Nat}(a:x<2^63)(b:y<2^63):jl .xor .i64 x y=((x ^^^ y:Nat):Int):=by
 show IntKind.wrap .i64 (((BitVec.ofInt 64 (x:Int) ^^^ BitVec.ofInt 64 (y:Int)).toNat:Nat):Int)=_
 rw [xS,xS];rw [BitVec.toNat_xor,BitVec.toNat_ofNat,BitVec.toNat_ofNat,Nat.mod_eq_of_lt (by omega),Nat.mod_eq_of_lt (by omega)];exact yb (Nat.xor_lt_two_pow a b)
def clr(x y:Nat):Nat:=x ^^^ (x &&& y)
theorem Et(x y j:Nat):(clr x y).testBit j=(x.testBit j&& !y.testBit j):=by
 unfold clr;rw [Nat.testBit_xor,Nat.testBit_and];cases x.testBit j <;> cases y.testBit j <;> rfl
theorem BD{x y:Nat}(a:x<2^63)(d:y<2^63):jl .andNot .i64 x y=((clr x y:Nat):Int):=by
 show IntKind.wrap .i64 (((BitVec.ofInt 64 (x:Int) &&& ~~~BitVec.ofInt 64 (y:Int)).toNat:Nat):Int)=_
 rw [xS,xS];have e:(BitVec.ofNat 64 x &&& ~~~BitVec.ofNat 64 y).toNat=clr x y:=by
  refine Nat.eq_of_testBit_eq fun j=>?_
  rw [Et,BitVec.testBit_toNat,BitVec.getLsbD_and,BitVec.getLsbD_not,BitVec.getLsbD_ofNat,BitVec.getLsbD_ofNat]
  by_cases b:j<64
  ·simp [b]
  ·have:x.testBit j=false:=Nat.testBit_lt_two_pow (Nat.lt_of_lt_of_le a (Nat.pow_le_pow_right (by decide) (by omega)))
   simp [b,this]
 rw [e]
 have:clr x y<2^63:=Nat.xor_lt_two_pow a (Nat.lt_of_le_of_lt Nat.and_le_left a)
 exact yb this
def Bf(x s w:Nat):Nat:=(x / 2^s) % 2^w
def zq(x s w n:Nat):Nat:=(x / 2^(s+w)) * 2^(s+w)+n * 2^s+x % 2^s
theorem LG(x s w:Nat):x=(x / 2^(s+w)) * 2^(s+w)+Bf x s w * 2^s+x % 2^s:=by
 unfold Bf;have b:=Nat.div_add_mod x (2^s);have a:=Nat.div_add_mod (x / 2^s) (2^w);rw [Nat.div_div_eq_div_mul, <-Nat.pow_add] at a;have d:x / 2^(s+w) * 2^(s+w)=2^s * (2^w * (x / 2^(s+w))):=by
  rw [Nat.pow_add];rw [Nat.mul_comm,Nat.mul_assoc]
 rw [d,Nat.mul_comm (x / 2^s % 2^w)];rw [<- Nat.mul_add,a];exact b.symm
theorem Gq{x s w n:Nat}(f:n<2^w)(j:Nat):(zq x s w n).testBit j=if j<s then x.testBit j else if j<s+w then n.testBit (j - s) else x.testBit j:=by
 have d:x % 2^s<2^s:=Nat.mod_lt _ (Nat.two_pow_pos _);have e:n * 2^s+x % 2^s<2^(s+w):=by
  rw [Nat.pow_add,Nat.mul_comm (2^s)]
  calc n * 2^s+x % 2^s<n * 2^s+2^s:=by omega
   _=(n+1) * 2^s:=by rw [Nat.add_mul,Nat.one_mul]
   _<=2^w * 2^s:=Nat.mul_le_mul_right _ f
 unfold zq;rw [Nat.add_assoc,Nat.mul_comm (x / 2^(s+w)),Nat.testBit_two_pow_mul_add _ e]
 by_cases b:j<s+w
 ·rw [if_pos b,Nat.mul_comm n,Nat.testBit_two_pow_mul_add _ d]
  by_cases a:j<s
  ·rw [if_pos a,if_pos a,Nat.testBit_mod_two_pow];simp [a]
  ·rw [if_neg a,if_neg a,if_pos b]
 ·rw [if_neg b,if_neg (by omega),if_neg b,Nat.testBit_div_two_pow]
  congr 1;omega
theorem F5(x s w j:Nat):(Bf x s w).testBit j=(decide (j<w)&&x.testBit (j+s)):=by
 unfold Bf;rw [Nat.testBit_mod_two_pow,Nat.testBit_div_two_pow]
structure Fd where
 name:ByteArray
 a:Nat
 w:Nat
deriving Inhabited
def fd(f:Fd):T:=.agg [.str f.name,I f.a,I f.w]
structure FOk (f:Fd):Prop where
 a:f.a<160
 w1:1<=f.w
 w2:f.a % 16+f.w<=16
def Fd.s(f:Fd):Nat:=16 - f.a % 16 - f.w
def Fd.i(f:Fd):Nat:=f.a / 16
theorem FOk.i{f:Fd}(h:FOk f):f.i<10:=by have:=h.a;unfold Fd.i;omega
theorem FOk.sw{f:Fd}(h:FOk f):f.s+f.w<=16:=by have:=h.w2;unfold Fd.s;omega
structure HOk (h:List Int):Prop where
 len:h.length=10
 right:xq h=true
def wd(h:List Int)(i:Nat):Nat:=(h[i]?.getD 0).toNat
theorem HOk.wd{h:List Int}(a:HOk h)(i:Nat):MM.wd h i<65536:=by
 unfold MM.wd;cases b:h[i]? with
 |none=>simp
 |some x=>
  have:=a.right
  unfold xq at this;rw [List.all_eq_true] at this
  have:=this x (List.mem_of_getElem? b)
  simp at this ⊢;omega
theorem HOk.get{h:List Int}(a:HOk h){i:Nat}(hi:i<10):h[i]'(by rw [a.len];exact hi)=(MM.wd h i:Int):=by
 have b:i<h.length:=by rw [a.len];exact hi
 unfold MM.wd
 have:=a.right
 unfold xq at this;rw [List.all_eq_true] at this
 have:=this h[i] (List.getElem_mem _)
 simp at this;simp [b];omega
def vD(f:Fd)(h:List Int):Nat:=Bf (wd h f.i) f.s f.w
def wc(f:Fd)(h:List Int)(n:Nat):List Int:=h.set f.i (zq (wd h f.i) f.s f.w n:Nat)
theorem Ey(f:Fd)(h:List Int):vD f h<2^f.w:=Nat.mod_lt _ (Nat.two_pow_pos _)
theorem t87(n:Nat)(f:n<=60):DCalls Tryz.prog 70 [I n] (I (2^n:Nat)):=by
 refine dl2 mixed [.tmp 2] [I (2^n:Nat)] Tryz.func70 l70.2 ?_;refine uA (α:=Nat) (fun i=>{sl:=[(0,.t (I n)),(3,.t (I (2^i:Nat))),(4,.t (I i))],bx:=[]}) (fun i=>i<=n) (fun i=>n - i) 0 (by simp) ?_ ?_
 ·exact ⟨⟨.same _,.same _,.same _,trivial⟩,trivial,trivial,rfl,fun _ _ _=>trivial,rfl⟩
 rintro i hi;refine uL trivial (fun b=>?_) (fun b=>?_)
 ·have a:i<n:=by simpa using b
  refine ⟨i+1,a,by omega,?_⟩;have d:(2:Nat)^(i+1)<=2^60:=Nat.pow_le_pow_right (by decide) (by omega);refine ⟨⟨.same _,leI ?_,leI (by rw [oA] <;> omega),trivial⟩,trivial,trivial,rfl,fun _ _ _=>trivial,rfl⟩;have e:((2^i:Nat):Int) * 2=((2^(i+1):Nat):Int):=by rw [Nat.pow_succ];push_cast;rfl
  rw [e,yb (by omega)]
 ·have a:i=n:=by simp at b;omega
  subst a;exact ⟨rfl,trivial⟩
theorem t58(n:Nat)(f:n<=60):DCalls Tryz.prog 168 [I n] (I (2^n:Nat)):=by
 refine dl2 mixed [.tmp 2] [I (2^n:Nat)] Tryz.func168 Pq.2 ?_;refine uA (α:=Nat) (fun i=>{sl:=[(0,.t (I n)),(3,.t (I (2^i:Nat))),(4,.t (I i))],bx:=[]}) (fun i=>i<=n) (fun i=>n - i) 0 (by simp) ?_ ?_
 ·exact ⟨⟨.same _,.same _,.same _,trivial⟩,trivial,trivial,rfl,fun _ _ _=>trivial,rfl⟩
 rintro i hi;refine uL trivial (fun b=>?_) (fun b=>?_)
 ·have a:i<n:=by simpa using b
  refine ⟨i+1,a,by omega,?_⟩;have d:(2:Nat)^(i+1)<=2^60:=Nat.pow_le_pow_right (by decide) (by omega);refine ⟨⟨.same _,leI ?_,leI (by rw [oA] <;> omega),trivial⟩,trivial,trivial,rfl,fun _ _ _=>trivial,rfl⟩;have e:2 * ((2^i:Nat):Int)=((2^(i+1):Nat):Int):=by rw [Nat.pow_succ];push_cast;rw [Int.mul_comm]
  rw [e,yb (by omega)]
 ·have a:i=n:=by simp at b;omega
  subst a;exact ⟨rfl,trivial⟩
theorem GA{f:Fd}(h:FOk f):IntKind.wrap .i64 (IntKind.wrap .i64 (16 - ((f.a:Int).tmod 16)) - (f.w:Int))=(f.s:Int):=by
 have b:(f.a:Int).tmod 16=((f.a % 16:Nat):Int):=by rw [Int.tmod_eq_emod_of_nonneg (by omega)];omega
 have:=h.w2
 rw [b,oA (n:=16 - ((f.a % 16:Nat):Int)) (by omega) (by omega),oA (by omega) (by omega)];unfold Fd.s;omega
theorem wL{f:Fd}(h:FOk f):IntKind.wrap .i64 ((f.a:Int).tdiv 16)=(f.i:Int):=by
 have b:(f.a:Int).tdiv 16=((f.a / 16:Nat):Int):=by rw [Int.tdiv_eq_ediv_of_nonneg (by omega)];omega
 have:=h.a
 rw [b,yb (by omega)];rfl
theorem t84(f:Fd)(h:FOk f):DCalls Tryz.prog 69 [fd f] (I (2^f.s:Nat)):=by
 refine dl2 mixed [.tmp 2] [I (2^f.s:Nat)] Tryz.func69 l69.2 ?_;refine And.intro rfl ?_;refine uP (I f.a) (by decide) rfl ?_;refine And.intro (by decide) ?_;refine uP (I f.w) (by decide) rfl ?_
 have:=t87 f.s (by unfold Fd.s;omega)
 rw [<- GA h] at this;refine pC _ this ?_;exact ⟨rfl,trivial⟩
theorem t99(f:Fd)(h:FOk f):DCalls Tryz.prog 145 [fd f] (I f.s):=by
 refine dl2 mixed [.tmp 2] [I f.s] Tryz.func145 Pf.2 ?_;refine And.intro rfl ?_;refine uP (I f.a) (by decide) rfl ?_;refine And.intro (by decide) ?_;refine uP (I f.w) (by decide) rfl ?_;exact ⟨congrArg (fun n=>some (I n)) (GA h),trivial⟩
theorem zN{w:Nat}(h:w<=16):2^w<=65536:=Nat.pow_le_pow_right (by decide) h
theorem t66(f:Fd)(h:FOk f):DCalls Tryz.prog 111 [fd f] (I (2^f.w - 1:Nat)):=by
 refine dl2 mixed [.tmp 2] [I (2^f.w - 1:Nat)] Tryz.func111 OO.2 ?_;have a:f.w<=16:=by have:=h.w2;omega
 have b:=Nat.two_pow_pos f.w;refine And.intro rfl ?_;refine uP (I f.w) (by decide) rfl ?_;refine pC _ (t87 f.w (by omega)) ?_;exact ⟨congrArg (fun n=>some (I n)) (by have:=zN a;rw [oA] <;> omega),trivial⟩
theorem t97(f:Fd)(h:FOk f):DCalls Tryz.prog 141 [fd f] (I (2^f.w - 1:Nat)):=by
 refine dl2 mixed [.tmp 2] [I (2^f.w - 1:Nat)] Tryz.func141 Pb.2 ?_;have a:f.w<=16:=by have:=h.w2;omega
 have b:=Nat.two_pow_pos f.w
 have:=zN a
 refine And.intro rfl ?_;refine uP (I f.w) (by decide) rfl ?_;refine And.intro (by omega) ?_;refine ⟨congrArg (fun n=>some (I n)) ?_,trivial⟩;have e:(1:Int) * 2^(min (f.w:Int).toNat (IntKind.bits .i64))=((2^f.w:Nat):Int):=by
  have:min (f.w:Int).toNat (IntKind.bits .i64)=f.w:=by show min _ 64=_;simp;omega
  rw [this];push_cast;rw [Int.one_mul]
 rw [e,yb (by omega),oA] <;> omega
theorem t57(f:Fd)(b:FOk f)(h:List Int)(d:HOk h):DCalls Tryz.prog 18 [fd f,hd h] (I (vD f h)):=by
 refine dl2 mixed [.tmp 4] [I (vD f h)] Tryz.func18 l18.2 ?_;have hi:=b.i;have m:f.w<=16:=by have:=b.w2;omega
 have o:=d.wd f.i;have e:f.i<h.length:=by rw [d.len];exact hi
 refine And.intro rfl ?_;refine And.intro (by simp [d.len]) ?_;refine uP (I f.a) (by decide) rfl ?_;refine And.intro (by decide) ?_;refine And.intro (show 0<=IntKind.wrap .i64 _/\_ by rw [wL b];omega) ?_;refine uP (I (wd h f.i)) (show 0+(IntKind.wrap .i64 _).toNat * 1<10 by rw [wL b];simp;omega) (show (h.map I)[0+(IntKind.wrap .i64 _).toNat * 1]?.getD .nil=_ by
  rw [wL b,Int.toNat_natCast,Nat.zero_add,Nat.mul_one,getD_map I h f.i .nil e,d.get hi]) ?_
 refine pC _ (t84 f b) ?_;have k:=Nat.two_pow_pos f.s;refine And.intro (by omega) ?_;refine uP (I f.w) (by decide) rfl ?_;refine pC _ (t87 f.w (by omega)) ?_;have l:=Nat.two_pow_pos f.w;refine And.intro (by omega) ?_;refine ⟨congrArg (fun n=>some (I n)) ?_,trivial⟩;have g:(wd h f.i:Int).tdiv ((2^f.s:Nat):Int)=((wd h f.i / 2^f.s:Nat):Int):=by
  rw [Int.tdiv_eq_ediv_of_nonneg (by omega)];simp
 have j:wd h f.i / 2^f.s<=wd h f.i:=Nat.div_le_self _ _;rw [g,yb (Nat.lt_of_le_of_lt j (by omega)),Int.tmod_eq_emod_of_nonneg (Int.natCast_nonneg _)];unfold vD Bf;simp
theorem Jt(x s:Nat)(a:s<=64):((x:Int)).fdiv (2^(min (s:Int).toNat (IntKind.bits .i64)))=((x / 2^s:Nat):Int):=by
 have:min (s:Int).toNat (IntKind.bits .i64)=s:=by show min _ 64=_;simp;omega
 rw [this,Int.fdiv_eq_ediv_of_nonneg _ (by exact_mod_cast Nat.zero_le _)]
 push_cast;rfl
theorem EF(x s:Nat)(a:s<=64):(x:Int) * 2^(min (s:Int).toNat (IntKind.bits .i64))=((x * 2^s:Nat):Int):=by
 have:min (s:Int).toNat (IntKind.bits .i64)=s:=by show min _ 64=_;simp;omega
 rw [this];push_cast;rfl
theorem t78(f:Fd)(b:FOk f)(h:List Int)(d:HOk h):DCalls Tryz.prog 108 [fd f,hd h] (I (vD f h)):=by
 refine dl2 mixed [.tmp 4] [I (vD f h)] Tryz.func108 OM.2 ?_;have hi:=b.i;have k:f.w<=16:=by have:=b.w2;omega
 have j:=b.sw;have m:=d.wd f.i;have e:f.i<h.length:=by rw [d.len];exact hi
 refine And.intro rfl ?_;refine And.intro (by simp [d.len]) ?_;refine uP (I f.a) (by decide) rfl ?_;refine And.intro (by decide) ?_;refine And.intro (show 0<=IntKind.wrap .i64 _/\_ by rw [wL b];omega) ?_;refine uP (I (wd h f.i)) (show 0+(IntKind.wrap .i64 _).toNat * 1<10 by rw [wL b];simp;omega) (show (h.map I)[0+(IntKind.wrap .i64 _).toNat * 1]?.getD .nil=_ by
  rw [wL b,Int.toNat_natCast,Nat.zero_add,Nat.mul_one,getD_map I h f.i .nil e,d.get hi]) ?_
 refine pC _ (t99 f b) ?_;refine And.intro (by omega) ?_;refine pC _ (t97 f b) ?_;refine ⟨congrArg (fun n=>some (I n)) ?_,trivial⟩;have g:wd h f.i / 2^f.s<=wd h f.i:=Nat.div_le_self _ _;have l:=zN k;rw [Jt _ _ (by omega),Ep (Nat.lt_of_le_of_lt g (by omega)) (by omega),Nat.and_two_pow_sub_one_eq_mod];rfl
theorem Fl{x s w n:Nat}(e:n<2^w):clr x ((2^w - 1) * 2^s) ||| (n * 2^s)=zq x s w n:=by
 refine Nat.eq_of_testBit_eq fun j=>?_
 rw [Nat.testBit_or,Et,Gq e,Nat.testBit_mul_two_pow,Nat.testBit_mul_two_pow,Nat.testBit_two_pow_sub_one]
 by_cases b:j<s
 ·rw [if_pos b]
  have: ¬s<=j:=by omega
  simp [this]
 ·rw [if_neg b];have f:s<=j:=by omega
  by_cases d:j<s+w
  ·rw [if_pos d];have a:j - s<w:=by omega
   simp [f,a]
  ·rw [if_neg d];have a: ¬j - s<w:=by omega
   have g:n.testBit (j - s)=false:=Nat.testBit_lt_two_pow (Nat.lt_of_lt_of_le e (Nat.pow_le_pow_right (by decide) (by omega)));simp [a,g]
theorem Hf{x s w n:Nat}(e:x<65536)(d:s+w<=16)(b:n<2^w):zq x s w n<65536:=by
 refine Nat.lt_pow_two_of_testBit (n:=16) _ fun j a=>?_
 rw [Gq b,if_neg (by omega),if_neg (by omega)];exact Nat.testBit_lt_two_pow (Nat.lt_of_lt_of_le e (Nat.pow_le_pow_right (by decide) a:2^16<=2^j))
theorem map_set(h:List Int)(i:Nat)(n:Int):(h.map I).set i (I n)=(h.set i n).map I:=by rw [List.map_set]
theorem t98(f:Fd)(b:FOk f)(h:List Int)(d:HOk h)(n:Nat)(k:n<2^f.w):DCalls Tryz.prog 140 [fd f,hd h,I n] (hd (wc f h n)):=by
 refine dl2 mixed [.cell 6 27] [hd (wc f h n)] Tryz.func140 Pa.2 ?_;have hi:=b.i;have m:f.w<=16:=by have:=b.w2;omega
 have l:=b.sw;have p:=d.wd f.i;have g:f.i<h.length:=by rw [d.len];exact hi
 have o:=zN m;have e:2^f.s<=2^16:=Nat.pow_le_pow_right (by decide) (by omega);have q:(2^f.w - 1) * 2^f.s<=65536 * 65536:=Nat.mul_le_mul (by omega) e;have r:n * 2^f.s<=65536 * 65536:=Nat.mul_le_mul (by omega) e;refine And.intro rfl ?_;refine And.intro (by simp [d.len]) ?_;refine uP (I f.a) (by decide) rfl ?_;refine And.intro (by decide) ?_;refine And.intro (show 0<=IntKind.wrap .i64 _/\_ by rw [wL b];omega) ?_;refine uP (I (wd h f.i)) (show 0+(IntKind.wrap .i64 _).toNat * 1<10 by rw [wL b];simp;omega) (show (h.map I)[0+(IntKind.wrap .i64 _).toNat * 1]?.getD .nil=_ by
  rw [wL b,Int.toNat_natCast,Nat.zero_add,Nat.mul_one,getD_map I h f.i .nil g,d.get hi]) ?_
 refine pC _ (t97 f b) ?_;refine pC _ (t99 f b) ?_;refine And.intro (by omega) ?_;refine pC _ (t99 f b) ?_;refine And.intro (by omega) ?_;have j:jl .or .i64 (jl .andNot .i64 (wd h f.i) (IntKind.wrap .i64 (((2^f.w - 1:Nat):Int) * 2^(min (f.s:Int).toNat (IntKind.bits .i64))))) (IntKind.wrap .i64 ((n:Int) * 2^(min (f.s:Int).toNat (IntKind.bits .i64))))=(zq (wd h f.i) f.s f.w n:Nat):=by
  rw [EF _ _ (by omega),EF _ _ (by omega),yb (by omega),yb (by omega),BD (by omega) (by omega),Is ?_ (by omega),Fl k];exact Nat.xor_lt_two_pow (by omega) (Nat.lt_of_le_of_lt Nat.and_le_left (by omega))
 refine And.intro (show 0+(IntKind.wrap .i64 _).toNat * 1<10 by rw [wL b];simp;omega) ?_;refine And.intro ⟨by simp [d.len],by decide⟩ ?_;refine ⟨?_,trivial⟩;refine congrArg some ?_;show T.agg (aP zt 0 10 ((h.map I).set (0+(IntKind.wrap .i64 _).toNat * 1) (I (jl _ _ _ _))))=_
 rw [j,wL b,Int.toNat_natCast,Nat.zero_add,Nat.mul_one,map_set];simp [aP,hd,wc]
theorem JX{x s w n:Nat}:(x:Int)+((n:Int) - (Bf x s w:Int)) * ((2^s:Nat):Int)=(zq x s w n:Nat):=by
 have h:=LG x s w;unfold zq;generalize x / 2^(s+w) * 2^(s+w)=A at *
 generalize x % 2^s=B at *
 have a:(x:Int)=(A:Int)+(Bf x s w:Int) * ((2^s:Nat):Int)+(B:Int):=by exact_mod_cast h
 generalize Bf x s w=v at *
 generalize 2^s=P at *
 rw [a,Int.sub_mul]
 push_cast
 omega
theorem t52(f:Fd)(b:FOk f)(h:List Int)(d:HOk h)(n:Nat)(m:n<2^f.w):DCalls Tryz.prog 19 [fd f,hd h,I n] (hd (wc f h n)):=by
 refine dl2 mixed [.cell 6 27] [hd (wc f h n)] Tryz.func19 l19.2 ?_;have hi:=b.i;have q:f.w<=16:=by have:=b.w2;omega
 have g:=b.sw;have r:=d.wd f.i;have e:f.i<h.length:=by rw [d.len];exact hi
 have y:=zN q;have u:=Ey f h;have v:=Hf r g m;have o:2^f.s<=65536:=zN (w:=f.s) (by omega);have p:=Nat.two_pow_pos f.s;refine And.intro rfl ?_;refine And.intro (by simp [d.len]) ?_;refine pC _ (t57 f b h d) ?_;refine uP (I f.a) (by decide) rfl ?_;refine And.intro (by decide) ?_;refine uP (I f.a) (by decide) rfl ?_;refine And.intro (by decide) ?_;refine And.intro (show 0<=IntKind.wrap .i64 _/\_ by rw [wL b];omega) ?_;refine uP (I (wd h f.i)) (show 0+(IntKind.wrap .i64 _).toNat * 1<10 by rw [wL b];simp;omega) (show (h.map I)[0+(IntKind.wrap .i64 _).toNat * 1]?.getD .nil=_ by
  rw [wL b,Int.toNat_natCast,Nat.zero_add,Nat.mul_one,getD_map I h f.i .nil e,d.get hi]) ?_
 refine pC _ (t84 f b) ?_;have l:IntKind.wrap .i64 ((wd h f.i:Int)+IntKind.wrap .i64 (IntKind.wrap .i64 ((n:Int) - (vD f h:Int)) * ((2^f.s:Nat):Int)))=((zq (wd h f.i) f.s f.w n:Nat):Int):=by
  have j:IntKind.wrap .i64 ((n:Int) - (vD f h:Int))=(n:Int) - (vD f h:Int):=oA (by omega) (by omega);have t:=JX (x:=wd h f.i) (s:=f.s) (w:=f.w) (n:=n);rw [j];have k:((n:Int) - (vD f h:Int)) * ((2^f.s:Nat):Int)=((zq (wd h f.i) f.s f.w n:Nat):Int) - (wd h f.i:Int):=by
   show ((n:Int) - (Bf (wd h f.i) f.s f.w:Int)) * _=_
   omega
  rw [k,oA (n:=((zq (wd h f.i) f.s f.w n:Nat):Int) - (wd h f.i:Int)) (by omega) (by omega),oA (by omega) (by omega)];omega
 refine And.intro (show 0<=IntKind.wrap .i64 _/\_ by rw [wL b];omega) ?_;refine And.intro (show 0+(IntKind.wrap .i64 _).toNat * 1<10 by rw [wL b];simp;omega) ?_;refine And.intro ⟨by simp [d.len],by decide⟩ ?_;refine ⟨congrArg some ?_,trivial⟩;show T.agg (aP zt 0 10 ((h.map I).set (0+(IntKind.wrap .i64 _).toNat * 1) (I (IntKind.wrap .i64 _))))=_
 rw [l,wL b,Int.toNat_natCast,Nat.zero_add,Nat.mul_one,map_set];simp [aP,hd,wc]
def pat(a bs:List Int):T:=.agg (a.map I++bs.map I)
def z10:List Int:=[0,0,0,0,0,0,0,0,0,0]
theorem zX:HOk z10:=⟨rfl,rfl⟩
def vp(f:Fd)(m:Nat):Nat:=clr (2^f.w - 1) (2^(f.w - m) - 1)
theorem BW(f:Fd)(m:Nat):vp f m<2^f.w:=Nat.xor_lt_two_pow (by have:=Nat.two_pow_pos f.w;omega) (Nat.lt_of_le_of_lt Nat.and_le_left (by have:=Nat.two_pow_pos f.w;omega))
theorem xW(f:Fd)(h:List Int)(n:Nat):(wc f h n).length=h.length:=by simp [wc]
theorem t77(f:Fd)(a:FOk f)(n m:Nat)(t:m<=f.w)(q:n<2^f.w):DCalls Tryz.prog 160 [fd f,I n,I m] (pat (wc f z10 (vp f m)) (wc f z10 (n &&& vp f m))):=by
 refine dl2 mixed [.cell 6 202] [pat (wc f z10 (vp f m)) (wc f z10 (n &&& vp f m))] Tryz.func160 Pk.2 ?_;have s:f.w<=16:=by have:=a.w2;omega
 have u:=zN s;have v:2^(f.w - m)<=65536:=zN (by omega);have r:=Nat.two_pow_pos (f.w - m);have d:=BW f m;refine And.intro rfl ?_;refine pC _ (t97 f a) ?_;refine uP (I f.w) (by decide) rfl ?_;have e0:IntKind.wrap .i64 ((f.w:Int) - (m:Int))=((f.w - m:Nat):Int):=by rw [oA (by omega) (by omega)];omega
 refine And.intro (show 0<=IntKind.wrap .i64 _ by rw [e0];omega) ?_;have k:jl .andNot .i64 ((2^f.w - 1:Nat):Int) (IntKind.wrap .i64 (IntKind.wrap .i64 (1 * 2^(min (IntKind.wrap .i64 ((f.w:Int) - (m:Int))).toNat (IntKind.bits .i64))) - 1))=(vp f m:Int):=by
  have h:=EF 1 (f.w - m) (by omega);rw [e0];have l:(1:Int) * 2^(min ((f.w - m:Nat):Int).toNat (IntKind.bits .i64))=((2^(f.w - m):Nat):Int):=by rw [Nat.one_mul] at h;exact h
  rw [l,yb (by omega)];have o:((2^(f.w - m):Nat):Int) - 1=((2^(f.w - m) - 1:Nat):Int):=by omega
  rw [o,yb (by omega),BD (by omega) (by omega)];rfl
 have i:=t98 f a z10 zX (vp f m) d;rw [<- k] at i;refine And.intro trivial ?_;refine pC _ i ?_;refine And.intro trivial ?_;have p:jl .and .i64 (n:Int) (jl .andNot .i64 ((2^f.w - 1:Nat):Int) (IntKind.wrap .i64 (IntKind.wrap .i64 (1 * 2^(min (IntKind.wrap .i64 ((f.w:Int) - (m:Int))).toNat (IntKind.bits .i64))) - 1)))=((n &&& vp f m:Nat):Int):=by
  rw [k,Ep (by omega) (by omega)]
 have j:=t98 f a z10 zX (n &&& vp f m) (Nat.lt_of_le_of_lt Nat.and_le_left q);rw [<- p] at j;refine pC _ j ?_;have e:=xW f z10 (vp f m);have g:=xW f z10 (n &&& vp f m);have b:z10.length=10:=rfl;refine And.intro ⟨⟨trivial,by simp [e,b]⟩,by simp [g,b]⟩ ?_;refine And.intro ⟨by simp [aP,e,g,b],by decide⟩ ?_;refine ⟨congrArg some ?_,trivial⟩;simp [aP,pat,e,g,b]
theorem Ar{a b:List Int}(d:a.length=10)(e:b.length=10):(a.map I++b.map I).length=20:=by simp [d,e]
theorem t76(f:Fd)(d:FOk f)(n:Nat)(e:n<2^f.w):DCalls Tryz.prog 159 [fd f,I n] (pat (wc f z10 (vp f f.w)) (wc f z10 (n &&& vp f f.w))):=by
 refine dl2 mixed [.cell 4 202] [pat (wc f z10 (vp f f.w)) (wc f z10 (n &&& vp f f.w))] Tryz.func159 Pj.2 ?_;have a:=xW f z10 (vp f f.w);have b:=xW f z10 (n &&& vp f f.w);refine And.intro rfl ?_;refine uP (I f.w) (by decide) rfl ?_;refine pC _ (t77 f d n f.w (Nat.le_refl _) e) ?_;refine And.intro ⟨Ar a b,by decide⟩ ?_;refine ⟨congrArg some ?_,trivial⟩
 have:=Ar a b
 simp [aP,pat,a,b,z10]
theorem t81(f:Fd)(d:FOk f)(n:Nat)(e:n<2^f.w):DCalls Tryz.prog 163 [fd f,I n] (pat (wc f z10 (vp f f.w)) (wc f z10 (n &&& vp f f.w))):=by
 refine dl2 mixed [.cell 4 206] [pat (wc f z10 (vp f f.w)) (wc f z10 (n &&& vp f f.w))] Tryz.func163 Pm.2 ?_;have a:=xW f z10 (vp f f.w);have b:=xW f z10 (n &&& vp f f.w);refine And.intro rfl ?_;refine pC _ (t76 f d n e) ?_;refine And.intro ⟨Ar a b,by decide⟩ ?_;refine ⟨congrArg some ?_,trivial⟩
 have:=Ar a b
 simp [aP,pat,a,b,z10]
def yr(x b m:Nat):Bool:=(x ^^^ b) &&& m==0
def yL(a bs h:List Int):Bool:=(List.range 10).all fun i=>yr (wd bs i) (wd h i) (wd a i)
theorem GK(b d:List Int)(a:HOk b)(e:HOk d){i:Nat}(hi:i<10):(b.map I++d.map I)[i]?.getD .nil=I (wd b i)/\(b.map I++d.map I)[10+i]?.getD .nil=I (wd d i):=by
 constructor
 ·rw [List.getElem?_append_left (by simp [a.len,hi]),getD_map I b i .nil (by rw [a.len];exact hi),a.get hi]
 ·rw [List.getElem?_append_right (by simp [a.len]),List.length_map,a.len,Nat.add_sub_cancel_left,getD_map I d i .nil (by rw [e.len];exact hi),e.get hi]
theorem t75(a bs h:List Int)(k:HOk a)(l:HOk bs)(g:HOk h):DCalls Tryz.prog 158 [pat a bs,hd h] (.bool (yL a bs h)):=by
 refine dl2 mixed [.tmp 4] [.bool (yL a bs h)] Tryz.func158 Ph.2 ?_;refine And.intro (Ar k.len l.len) ?_;refine And.intro (by simp [g.len]) ?_;refine uA (α:=Nat) (fun i=>{sl:=[(2,.ptr 2 0),(3,.ptr 3 0),(6,.t (I i))],bx:=[(2,.d 20 (a.map I++bs.map I)),(3,.d 10 (h.map I))]}) (fun i=>i<=10/\ ∀j,j<i->yr (wd bs j) (wd h j) (wd a j)=true) (fun i=>10 - i) 0 (by simp) ?_ ?_
 ·exact ⟨⟨.same _,.same _,.same _,trivial⟩,⟨.same _,.same _,trivial⟩,trivial,rfl,fun _ _ _=>trivial,rfl⟩
 rintro i ⟨hi,r⟩;refine uL trivial (fun m=>?_) (fun m=>?_)
 ·have f:i<10:=by simp at m;omega
  obtain ⟨s,u⟩:=GK a bs k l f;have w:=k.wd i;have x:=l.wd i;have y:=g.wd i;refine And.intro (by omega) ?_;refine uP (I (wd bs i)) (by simp;omega) (show (a.map I++bs.map I)[10+(i:Int).toNat * 1]?.getD .nil=_ by rw [Int.toNat_natCast,Nat.mul_one,u]) ?_;refine And.intro (by omega) ?_;refine uP (I (wd h i)) (by simp;omega) (show (h.map I)[0+(i:Int).toNat * 1]?.getD .nil=_ by rw [Int.toNat_natCast,Nat.mul_one,Nat.zero_add,getD_map I h i .nil (by rw [g.len];exact f),g.get f]) ?_;refine And.intro (by omega) ?_;refine uP (I (wd a i)) (by simp;omega) (show (a.map I++bs.map I)[0+(i:Int).toNat * 1]?.getD .nil=_ by rw [Int.toNat_natCast,Nat.mul_one,Nat.zero_add,s]) ?_;have e:jl .and .i64 (jl .xor .i64 (wd bs i) (wd h i)) (wd a i)=(((wd bs i ^^^ wd h i) &&& wd a i:Nat):Int):=by
   rw [KQ (by omega) (by omega),Ep (Nat.xor_lt_two_pow (by omega) (by omega)) (by omega)]
  refine uM (!yr (wd bs i) (wd h i) (wd a i)) trivial (show (jl .and .i64 (jl .xor .i64 _ _) _ !=0)=_ by rw [e];unfold yr;generalize (wd bs i ^^^ wd h i) &&& wd a i=z;cases z <;> rfl) ?_;cases q:yr (wd bs i) (wd h i) (wd a i) with
  |false=>
   have:yL a bs h=false:=by
    unfold yL;refine Bool.eq_false_iff.2 fun o=>?_
    rw [List.all_eq_true] at o
    have:=o i (by simp [f])
    rw [q] at this;cases this
   exact ⟨congrArg (fun b=>some (T.bool b)) this.symm,trivial⟩
  |true=>
   refine ⟨i+1,⟨f,fun j p=>?_⟩,by omega,?_⟩
   ·rcases Nat.lt_or_ge j i with n|n
    ·exact r j n
    ·obtain rfl:j=i:=by omega
     exact q
   ·exact ⟨⟨.same _,.same _,leI (by rw [oA] <;> omega),trivial⟩,⟨.same _,.same _,trivial⟩,trivial,rfl,fun _ _ _=>trivial,rfl⟩
 ·have v:10<=i:=by simp at m;omega
  have:yL a bs h=true:=by
   unfold yL;rw [List.all_eq_true];intro j p;exact r j (by simp at p;omega)
  exact ⟨congrArg (fun b=>some (T.bool b)) this.symm,trivial⟩
def DP(x m b:Nat):Nat:=clr x m ||| b
def xz(a bs h:List Int):List Int:=(List.range 10).map fun i=>(DP (wd h i) (wd a i) (wd bs i):Int)
theorem J6(a b:List Int)(i:Nat)(d:i<a.length)(e:i<b.length):(a.take i++b.drop i).set i a[i]=a.take (i+1)++b.drop (i+1):=by
 rw [List.drop_eq_getElem_cons e,List.set_append_right _ _ (by simp;omega),List.length_take,Nat.min_eq_left (by omega),Nat.sub_self,List.set_cons_zero,List.take_succ_eq_append_getElem d];simp only [List.append_assoc,List.cons_append,List.nil_append]
theorem LZ{x y n:Nat}(h:x<2^n):clr x y<2^n:=Nat.xor_lt_two_pow h (Nat.lt_of_le_of_lt Nat.and_le_left h)
theorem t80(a bs h:List Int)(g:HOk a)(j:HOk bs)(e:HOk h):DCalls Tryz.prog 162 [pat a bs,hd h] (hd (xz a bs h)):=by
 refine dl2 mixed [.cell 4 27] [hd (xz a bs h)] Tryz.func162 Pl.2 ?_;have f:(xz a bs h).length=10:=by simp [xz]
 refine And.intro (Ar g.len j.len) ?_;refine And.intro (by simp [e.len]) ?_;refine uA (α:=Nat) (fun i=>{sl:=[(2,.ptr 2 0),(3,.ptr 3 0),(4,.ptr 4 0),(6,.t (I i))],bx:=[(2,.d 20 (a.map I++bs.map I)),(3,.d 10 (((xz a bs h).take i++h.drop i).map I)),(4,.d 10 zt)]}) (fun i=>i<=10) (fun i=>10 - i) 0 (by simp) ?_ ?_
 ·exact ⟨⟨.same _,.same _,.same _,.same _,trivial⟩,⟨.same _,uv (by simp),.same _,trivial⟩,trivial,rfl,fun _ _ _=>trivial,rfl⟩
 rintro i hi;refine uL trivial (fun m=>?_) (fun m=>?_)
 ·have b:i<10:=by simp at m;omega
  obtain ⟨n,o⟩:=GK a bs g j b;have p:=g.wd i;have q:=j.wd i;have r:=e.wd i;have l:i<h.length:=by rw [e.len];exact b
  refine And.intro (by omega) ?_;refine uP (I (wd h i)) (by simp;omega) (show (((xz a bs h).take i++h.drop i).map I)[0+(i:Int).toNat * 1]?.getD .nil=_ by
   rw [Int.toNat_natCast,Nat.mul_one,Nat.zero_add,getD_map I _ i .nil (by simp [e.len];omega)];rw [List.getElem_append_right (by simp [f];omega)];simp only [List.length_take,f,List.getElem_drop]
   have:i+(i - min i 10)=i:=by omega
   simp only [this];rw [e.get b]) ?_
  refine And.intro (by omega) ?_;refine uP (I (wd a i)) (by simp;omega) (show (a.map I++bs.map I)[0+(i:Int).toNat * 1]?.getD .nil=_ by rw [Int.toNat_natCast,Nat.mul_one,Nat.zero_add,n]) ?_;refine And.intro (by omega) ?_;refine uP (I (wd bs i)) (by simp;omega) (show (a.map I++bs.map I)[10+(i:Int).toNat * 1]?.getD .nil=_ by rw [Int.toNat_natCast,Nat.mul_one,o]) ?_;refine And.intro (by omega) ?_;refine And.intro (by simp;omega) ?_;refine ⟨i+1,b,by omega,?_⟩;refine ⟨⟨.same _,.same _,.same _,leI (by rw [oA] <;> omega),trivial⟩,⟨.same _,uv ?_,.same _,trivial⟩,trivial,rfl,fun _ _ _=>trivial,rfl⟩;show _=(((xz a bs h).take i++h.drop i).map I).set (0+(i:Int).toNat * 1) (I (jl .or .i64 (jl .andNot .i64 (wd h i) (wd a i)) (wd bs i)))
  rw [BD (by omega) (by omega),Is (LZ (by omega)) (by omega),Int.toNat_natCast,Nat.mul_one,Nat.zero_add,map_set, <-J6 (xz a bs h) h i (by omega) l];simp [xz,DP]
 ·have k:i=10:=by simp at m;omega
  subst k;refine And.intro ⟨by simp [f,e.len],by decide⟩ ?_;refine ⟨congrArg some ?_,trivial⟩;simp [aP,hd,f,e.len,List.take_of_length_le]
def xF:ByteArray:=⟨#[112,111,114,116]⟩
def CX:Fd:=⟨xF,0,16⟩
def FH:Fd:=⟨⟨#[]⟩,0,0⟩
def uU(a b:ByteArray):Bool:=a.data.toList==b.data.toList
theorem vE(a b:ByteArray):(a.toList==b.toList)=uU a b:=by unfold uU;rw [ByteArray.toList_eq,ByteArray.toList_eq]
def fds(l:List Fd):T:=.slice 3 (l.map fd)
def findF(l:List Fd)(s:ByteArray):Option Fd:=if uU s xF then some CX else l.find? fun f=>uU f.name s
def xB(l:List Fd)(s:ByteArray):T:=match findF l s with
 |some f=>.tup [fd f,.bool true]
 |none=>.tup [fd FH,.bool false]
theorem t94:DCalls Tryz.prog 142 [] (fd CX):=by
 refine dl2 mixed [.cell 0 54] [fd CX] Tryz.func142 Pc.2 ?_;refine And.intro trivial ?_;refine And.intro ⟨rfl,by decide⟩ ?_;exact ⟨rfl,trivial⟩
theorem t83:DCalls Tryz.prog 68 [] (fd CX):=by
 refine dl2 mixed [.cell 0 54] [fd CX] Tryz.func68 l68.2 ?_;refine And.intro trivial ?_;refine And.intro ⟨rfl,by decide⟩ ?_;exact ⟨rfl,trivial⟩
theorem t96(f:Fd)(s:ByteArray):DCalls Tryz.prog 144 [fd f,.cptr [.str s] 0] (.bool (uU f.name s)):=by
 refine dl2 mixed [.tmp 3] [.bool (uU f.name s)] Tryz.func144 Pe.2 ?_;refine And.intro rfl ?_;refine uP (.str f.name) (by decide) rfl ?_;refine uP (.str s) (Nat.lt_succ_self 0) rfl ?_;refine uM (uU f.name s) trivial (vE _ _) ?_;exact ⟨rfl,trivial⟩
def yU(l:List Fd)(s:ByteArray):Int:=match l.findIdx? fun f=>uU f.name s with
 |some i=>i
 |none=> -1
theorem t95(l:List Fd)(s:ByteArray)(q:l.length<2^60):DCalls Tryz.prog 143 [fds l,.clos 144 [.cptr [.str s] 0]] (I (yU l s)):=by
 refine dl2 mixed [.tmp 4] [I (yU l s)] Tryz.func143 Pd.2 ?_;refine uA (α:=Nat) (fun i=>{sl:=[(0,.t (fds l)),(1,.t (.clos 144 [.cptr [.str s] 0])),(7,.t (I l.length)),(8,.t (I i))],bx:=[]}) (fun i=>i<=l.length/\ ∀j (h:j<l.length),j<i->uU l[j].name s=false) (fun i=>l.length - i) 0 (by simp) ?_ ?_
 ·exact ⟨⟨.same _,.same _,leI (by simp),.same _,trivial⟩,trivial,trivial,rfl,fun _ _ _=>trivial,rfl⟩
 rintro i ⟨hi,d⟩;refine uL trivial (fun e=>?_) (fun e=>?_)
 ·have b:i<l.length:=by simpa using e
  refine uP (fd l[i]) (by simpa using b) (by simp [b]) ?_;refine uP (fd l[i]) rfl rfl ?_;refine pC _ (t96 l[i] s) ?_;cases k:uU l[i].name s with
  |true=>
   have:yU l s=i:=by
    unfold yU;rw [List.findIdx?_eq_some_iff_getElem.2 ⟨b,k,fun j a=>by simp [d j (by omega) a]⟩]
   exact ⟨congrArg (fun n=>some (I n)) this.symm,trivial⟩
  |false=>
   refine ⟨i+1,⟨b,fun j a p=>?_⟩,by omega,?_⟩
   ·rcases Nat.lt_or_ge j i with g|g
    ·exact d j a g
    ·obtain rfl:j=i:=by omega
     exact k
   ·exact ⟨⟨.same _,.same _,.same _,leI (by rw [oA] <;> omega),trivial⟩,trivial,trivial,rfl,fun _ _ _=>trivial,rfl⟩
 ·have o:l.length<=i:=by simpa using e
  have:yU l s= -1:=by
   unfold yU;rw [List.findIdx?_eq_none_iff.2 fun f m=>by
    obtain ⟨j,a,rfl⟩:=List.mem_iff_getElem.1 m;exact d j a (by omega)]
  exact ⟨congrArg (fun n=>some (I n)) this.symm,trivial⟩
theorem F1(l:List Fd)(s:ByteArray):(yU l s= -1/\l.find? (fun f=>uU f.name s)=none)\/ ∃(i:Nat) (h:i<l.length),yU l s=i/\l.find? (fun f=>uU f.name s)=some l[i]:=by
 unfold yU;cases b:l.findIdx? fun f=>uU f.name s with
 |none=>exact .inl ⟨rfl,by rw [List.find?_eq_none];intro f k;simpa using List.findIdx?_eq_none_iff.1 b f k⟩
 |some i=>
  obtain ⟨a,d,e⟩:=List.findIdx?_eq_some_iff_getElem.1 b;refine .inr ⟨i,a,rfl,?_⟩;rw [List.find?_eq_some_iff_getElem];exact ⟨d,i,a,rfl,fun j g=>by simpa using e j g⟩
theorem t74(l:List Fd)(s:ByteArray)(m:l.length<2^60):DCalls Tryz.prog 107 [fds l,.str s] (xB l s):=by
 unfold xB findF;have e: ∀(f:Fd) (b:Bool),wpC Tryz.prog OL.1 (ft [fds l,.str s]) (oB (du Tryz.prog) [.cell 4 54,.tmp 5] [fd f,.bool b])->DCalls Tryz.prog 107 [fds l,.str s] (.tup [fd f,.bool b]):=fun f b h=>
  oL (rs:=[.cell 4 54,.tmp 5]) mixed Tryz.func107 OL.2 rfl rfl rfl (r:=[fd f,.bool b]) (nlZ rfl) h
 by_cases a:uU s xF=true
 ·rw [if_pos a];refine e _ _ ?_;refine And.intro trivial ?_;refine uP (.str s) (by decide) rfl ?_;refine pC _ t94 ?_;refine uP (.str xF) (by decide) rfl ?_;refine uM true trivial ((vE _ _).trans a) ?_;refine pC _ t94 ?_;refine And.intro ⟨rfl,by decide⟩ ?_;exact ⟨rfl,rfl,trivial⟩
 ·rw [if_neg a];have a:uU s xF=false:=by simpa using a
  have pre: ∀(f:Fd) (b:Bool),(∃ i,yU l s=i/\(i= -1/\f=FH/\b=false\/ ∃(k:Nat) (h:k<l.length),i=k/\f=l[k]/\b=true))->wpC Tryz.prog OL.1 (ft [fds l,.str s]) (oB (du Tryz.prog) [.cell 4 54,.tmp 5] [fd f,.bool b]):=fun f b ⟨i,hi,h⟩=>by
   refine And.intro trivial ?_;refine uP (.str s) (by decide) rfl ?_;refine pC _ t94 ?_;refine uP (.str xF) (by decide) rfl ?_;refine uM false trivial ((vE _ _).trans a) ?_;refine ⟨I i,hi▸t95 l s m,rfl,?_⟩;rcases h with ⟨rfl,rfl,rfl⟩|⟨k,d,rfl,rfl,rfl⟩
   ·refine uM true trivial (by decide) ?_;refine And.intro trivial ?_;refine And.intro ⟨rfl,by decide⟩ ?_;exact ⟨rfl,rfl,trivial⟩
   ·refine uM false trivial (by simp) ?_;refine uP (fd l[k]) (by simpa using d) (by simp [d]) ?_;refine uP (fd l[k]) rfl rfl ?_;refine And.intro ⟨rfl,by decide⟩ ?_;exact ⟨rfl,rfl,trivial⟩
  rcases F1 l s with ⟨g,j⟩|⟨k,d,g,j⟩
  ·rw [j];exact e _ _ (pre _ _ ⟨-1,g,.inl ⟨rfl,rfl,rfl⟩⟩)
  ·rw [j];exact e _ _ (pre _ _ ⟨k,g,.inr ⟨k,d,rfl,rfl,rfl⟩⟩)
theorem t51(l:List Fd)(s:ByteArray)(C:l.length<2^60):DCalls Tryz.prog 17 [fds l,.str s] (xB l s):=by
 unfold xB findF;have q: ∀(f:Fd) (b:Bool),wpC Tryz.prog l17.1 (ft [fds l,.str s]) (oB (du Tryz.prog) [.cell 4 54,.tmp 5] [fd f,.bool b])->DCalls Tryz.prog 17 [fds l,.str s] (.tup [fd f,.bool b]):=fun f b h=>
  oL (rs:=[.cell 4 54,.tmp 5]) mixed Tryz.func17 l17.2 rfl rfl rfl (r:=[fd f,.bool b]) (nlZ rfl) h
 by_cases o:uU s xF=true
 ·rw [if_pos o];refine q _ _ ?_;refine uM true trivial ((vE _ _).trans o) ?_;refine pC _ t83 ?_;refine And.intro ⟨rfl,by decide⟩ ?_;exact ⟨rfl,rfl,trivial⟩
 ·rw [if_neg o];have o:uU s xF=false:=by simpa using o
  have pre: ∀(f:Fd) (b:Bool),(∃ i,yU l s=i/\(i= -1/\f=FH/\b=false\/ ∃(k:Nat) (h:k<l.length),i=k/\f=l[k]/\b=true))->wpC Tryz.prog l17.1 (ft [fds l,.str s]) (oB (du Tryz.prog) [.cell 4 54,.tmp 5] [fd f,.bool b]):=fun f b ⟨i,hi,h⟩=>by
   refine uM false trivial ((vE _ _).trans o) ?_;refine uA (α:=Nat) (fun i=>{sl:=[(0,.t (fds l)),(1,.t (.str s)),(4,.ptr 4 0),(6,.t (I i))],bx:=[(4,.d 3 [.str ⟨#[]⟩,I 0,I 0])]}) (fun i=>i<=l.length/\ ∀j (h:j<l.length),j<i->uU l[j].name s=false) (fun i=>l.length - i) 0 (by simp) ?_ ?_
   ·exact ⟨⟨.same _,.same _,.same _,.same _,trivial⟩,⟨.same _,trivial⟩,trivial,rfl,fun _ _ _=>trivial,rfl⟩
   rintro j ⟨B,m⟩;refine uL trivial (fun w=>?_) (fun w=>?_)
   ·have g:j<l.length:=by simpa using w
    refine uP (fd l[j]) (by simpa using g) (by simp [g]) ?_;refine uP (.str l[j].name) (show 0+0<3 by decide) rfl ?_;cases p:uU l[j].name s with
    |true=>
     refine uM true trivial ((vE _ _).trans p) ?_;refine uP (fd l[j]) (by simpa using g) (by simp [g]) ?_;refine uP (fd l[j]) rfl rfl ?_;refine And.intro ⟨rfl,by decide⟩ ?_;have e:yU l s=j:=by
      unfold yU;rw [List.findIdx?_eq_some_iff_getElem.2 ⟨g,p,fun n a=>by simp [m n (by omega) a]⟩]
     rcases h with ⟨rfl,rfl,rfl⟩|⟨k,v,rfl,rfl,rfl⟩
     ·omega
     ·obtain rfl:k=j:=by omega
      exact ⟨rfl,rfl,trivial⟩
    |false=>
     refine uM false trivial ((vE _ _).trans p) ?_;refine ⟨j+1,⟨g,fun n a A=>?_⟩,by omega,?_⟩
     ·rcases Nat.lt_or_ge n j with x|x
      ·exact m n a x
      ·obtain rfl:n=j:=by omega
       exact p
     ·exact ⟨⟨.same _,.same _,.same _,leI (by rw [oA] <;> omega),trivial⟩,⟨.same _,trivial⟩,trivial,rfl,fun _ _ _=>trivial,rfl⟩
   ·have z:l.length<=j:=by simpa using w
    have e:yU l s= -1:=by
     unfold yU;rw [List.findIdx?_eq_none_iff.2 fun f y=>by
      obtain ⟨n,a,rfl⟩:=List.mem_iff_getElem.1 y;exact m n a (by omega)]
    rcases h with ⟨rfl,rfl,rfl⟩|⟨k,v,rfl,rfl,rfl⟩
    ·refine And.intro trivial ?_;refine And.intro ⟨rfl,by decide⟩ ?_;exact ⟨rfl,rfl,trivial⟩
    ·omega
  rcases F1 l s with ⟨g,u⟩|⟨k,v,g,u⟩
  ·rw [u];exact q _ _ (pre _ _ ⟨-1,g,.inl ⟨rfl,rfl,rfl⟩⟩)
  ·rw [u];exact q _ _ (pre _ _ ⟨k,g,.inr ⟨k,v,rfl,rfl,rfl⟩⟩)
theorem I2(s w k:Nat):zq 0 s w k=k * 2^s:=by unfold zq;simp
theorem Av{f:Fd}(a:FOk f)(k i:Nat):wd (wc f z10 k) i=if i=f.i then k * 2^f.s else 0:=by
 have hi:=a.i;have d:wd z10 f.i=0:=by
  unfold wd z10
  revert hi
  generalize f.i=j;intro b
  match j,b with
  |0,_|1,_|2,_|3,_|4,_|5,_|6,_|7,_|8,_|9,_=>rfl
 unfold wc;rw [d,I2];unfold wd;rw [List.getElem?_set]
 by_cases h:f.i=i
 ·subst h;rw [if_pos rfl,if_pos rfl,if_pos (by exact hi),Option.getD_some,Int.toNat_natCast]
 ·rw [if_neg h,if_neg (fun e=>h e.symm)];unfold z10
  match i with
  |0|1|2|3|4|5|6|7|8|9=>rfl
  |n+10=>rfl
theorem A3(f:Fd)(m j:Nat):(vp f m).testBit j=(decide (j<f.w)&& !decide (j<f.w - m)):=by
 unfold vp;rw [Et,Nat.testBit_two_pow_sub_one,Nat.testBit_two_pow_sub_one]
theorem HOk.set{f:Fd}(d:FOk f){h:List Int}(a:HOk h){n:Nat}(e:n<2^f.w):HOk (wc f h n):=by
 refine ⟨by rw [xW,a.len],?_⟩;unfold wc xq;rw [List.all_eq_true];intro x b;rcases List.mem_or_eq_of_mem_set b with b|rfl
 ·have:=a.right
  unfold xq at this;exact List.all_eq_true.1 this x b
 ·have:=Hf (a.wd f.i) d.sw e
  simp;omega
theorem FL{a b:Nat}:a &&& b=0↔ ∀j,a.testBit j=true->b.testBit j=false:=by
 constructor
 ·intro h j d
  have:=congrArg (fun n=>n.testBit j) h
  simp [d] at this;exact this
 ·intro h;refine Nat.eq_of_testBit_eq fun j=>?_
  rw [Nat.testBit_and,Nat.zero_testBit];cases d:a.testBit j with
  |false=>rfl
  |true=>rw [h j d];rfl
theorem De{f:Fd}(d:FOk f){h:List Int}(n m:Nat)(k:m<=f.w)(u:n<2^f.w):
  yL (wc f z10 (vp f m)) (wc f z10 (n &&& vp f m)) h=decide (vD f h / 2^(f.w - m)=n / 2^(f.w - m)):=by
 have hi:=d.i;have one:yr ((n &&& vp f m) * 2^f.s) (wd h f.i) (vp f m * 2^f.s)=decide (vD f h / 2^(f.w - m)=n / 2^(f.w - m)):=by
  have key:yr ((n &&& vp f m) * 2^f.s) (wd h f.i) (vp f m * 2^f.s)=true↔vD f h / 2^(f.w - m)=n / 2^(f.w - m):=by
   unfold yr;rw [beq_iff_eq,FL];constructor
   ·intro v;refine Nat.eq_of_testBit_eq fun j=>?_
    rw [Nat.testBit_div_two_pow,Nat.testBit_div_two_pow];unfold vD;rw [F5]
    by_cases b:j+(f.w - m)<f.w
    ·rw [decide_eq_true b,Bool.true_and]
     have:=v (j+(f.w - m)+f.s)
     rw [Nat.testBit_xor,Nat.testBit_mul_two_pow,Nat.testBit_mul_two_pow,Nat.testBit_and,Nat.add_sub_cancel,A3,decide_eq_true b,decide_eq_false (p:=j+(f.w - m)<f.w - m) (by omega),decide_eq_true (p:=f.s<=j+(f.w - m)+f.s) (by omega)] at this
     revert this
     cases n.testBit (j+(f.w - m)) <;> cases (wd h f.i).testBit (j+(f.w - m)+f.s) <;> simp
    ·rw [decide_eq_false b,Bool.false_and];exact (Nat.testBit_lt_two_pow (Nat.lt_of_lt_of_le u (Nat.pow_le_pow_right (by decide) (by omega)))).symm
   ·intro a j b;rw [Nat.testBit_mul_two_pow,A3]
    by_cases l:f.s<=j
    ·by_cases o:j - f.s<f.w
     ·by_cases q:j - f.s<f.w - m
      ·simp [q]
      ·exfalso;rw [Nat.testBit_xor,Nat.testBit_mul_two_pow,Nat.testBit_and,A3,decide_eq_true l,decide_eq_true o,decide_eq_false q] at b;have e:=congrArg (fun x=>x.testBit (j - f.s - (f.w - m))) a;simp only [Nat.testBit_div_two_pow] at e;unfold vD at e;rw [F5,Nat.sub_add_cancel (by omega),decide_eq_true o,Bool.true_and,Nat.sub_add_cancel l] at e;rw [e] at b
       revert b
       cases n.testBit (j - f.s) <;> simp
     ·simp [o]
    ·simp [l]
  cases k:yr ((n &&& vp f m) * 2^f.s) (wd h f.i) (vp f m * 2^f.s) with
  |true=>exact (decide_eq_true (key.1 k)).symm
  |false=>exact (decide_eq_false fun g=>by rw [key.2 g] at k;cases k).symm
 rw [<- one];unfold yL;cases g:yr ((n &&& vp f m) * 2^f.s) (wd h f.i) (vp f m * 2^f.s) with
 |true=>
  rw [List.all_eq_true];intro i t;rw [Av d,Av d]
  by_cases a:i=f.i
  ·rw [if_pos a,if_pos a,a];exact g
  ·rw [if_neg a,if_neg a];unfold yr;simp
 |false=>
  refine Bool.eq_false_iff.2 fun r=>?_
  rw [List.all_eq_true] at r
  have:=r f.i (by simp [hi])
  rw [Av d,Av d,if_pos rfl,if_pos rfl,g] at this;cases this
theorem GM{f:Fd}(d:FOk f){h:List Int}(g:HOk h)(n:Nat)(m:n<2^f.w):xz (wc f z10 (vp f f.w)) (wc f z10 (n &&& vp f f.w)) h=wc f h n:=by
 have hi:=d.i;have l:vp f f.w=2^f.w - 1:=by
  refine Nat.eq_of_testBit_eq fun j=>?_
  rw [A3,Nat.testBit_two_pow_sub_one];simp
 have k:n &&& vp f f.w=n:=by
  rw [l,Nat.and_two_pow_sub_one_eq_mod,Nat.mod_eq_of_lt m]
 rw [k,l];refine List.ext_getElem (by simp [xz,xW,g.len]) fun i o q=>?_
 have a:i<10:=by simpa [xz] using o
 simp only [xz,List.getElem_map,List.getElem_range];rw [Av d,Av d];have p:i<h.length:=by rw [g.len];exact a
 have e:(wc f h n)[i]=if f.i=i then ((zq (wd h f.i) f.s f.w n:Nat):Int) else h[i]:=List.getElem_set _
 rw [e]
 by_cases b:f.i=i
 ·subst b;rw [if_pos rfl,if_pos rfl,if_pos rfl];unfold DP;rw [Fl m]
 ·rw [if_neg (fun e=>b e.symm),if_neg (fun e=>b e.symm),if_neg b,g.get a];unfold DP clr;simp
inductive Pr where
 |tt|ff
 |eq (f:ByteArray) (n:Nat)
 |pre (f:ByteArray) (n m:Nat)
 |rng (f:ByteArray) (n m:Nat)
 |not (p:Pr)
 |and (p q:Pr)
 |or (p q:Pr)
 |time (n m:Int)
abbrev nm0:T:=.str ⟨#[]⟩
def vm:Pr->T
 |.tt=>.agg [I 1,nm0,I 0,I 0,.slice 5 []]
 |.ff=>.agg [I 2,nm0,I 0,I 0,.slice 5 []]
 |.eq f n=>.agg [I 3,.str f,I n,I 0,.slice 5 []]
 |.pre f n m=>.agg [I 4,.str f,I n,I m,.slice 5 []]
 |.rng f n m=>.agg [I 5,.str f,I n,I m,.slice 5 []]
 |.not p=>.agg [I 6,nm0,I 0,I 0,.slice 5 [vm p]]
 |.and p q=>.agg [I 7,nm0,I 0,I 0,.slice 5 [vm p,vm q]]
 |.or p q=>.agg [I 8,nm0,I 0,I 0,.slice 5 [vm p,vm q]]
 |.time n m=>.agg [I 9,nm0,I n,I m,.slice 5 []]
theorem vB(p:Pr):T.agg (vm p).cells=vm p/\(vm p).cells.length=5:=by cases p <;> exact ⟨rfl,rfl⟩
def fld(l:List Fd)(f:ByteArray):Fd:=(findF l f).getD FH
def holds(l:List Fd)(tick:Int)(h:List Int):Pr->Bool
 |.tt=>true
 |.ff=>false
 |.eq f n=>decide (vD (fld l f) h=n)
 |.pre f n m=>decide (vD (fld l f) h / 2^((fld l f).w - m)=n / 2^((fld l f).w - m))
 |.rng f n m=>decide (n<=vD (fld l f) h)&&decide (vD (fld l f) h<=m)
 |.not p=> !holds l tick h p
 |.and p q=>holds l tick h p&&holds l tick h q
 |.or p q=>holds l tick h p||holds l tick h q
 |.time n m=>decide (n<=tick)&&decide (tick<m)
def POk(l:List Fd):Pr->Prop
 |.tt|.ff|.time _ _=>True
 |.eq f n=> ∃F,findF l f=some F/\n<2^F.w
 |.pre f n m=> ∃F,findF l f=some F/\n<2^F.w/\m<=F.w
 |.rng f n m=> ∃F,findF l f=some F/\n<=m/\m<2^F.w
 |.not p=>POk l p
 |.and p q=>POk l p/\POk l q
 |.or p q=>POk l p/\POk l q
structure LOk (l:List Fd):Prop where
 len:l.length<2^60
 ok: ∀f∈l,FOk f
theorem xN{l:List Fd}{f:ByteArray}{F:Fd}(h:findF l f=some F):fld l f=F:=by unfold fld;rw [h];rfl
theorem MG:FOk CX:=⟨by decide,by decide,by decide⟩
theorem LOk.find{l:List Fd}(h:LOk l){s:ByteArray}{f:Fd}(a:findF l s=some f):FOk f:=by
 unfold findF at a;split at a
 ·cases a;exact MG
 ·exact h.ok f (List.mem_of_find?_eq_some a)
theorem HH{l:List Fd}(h:LOk l){s:ByteArray}{f:Fd}(a:findF l s=some f)(x:List Int):vD f x<65536:=by
 have b:=Ey f x;have d:=zN (w:=f.w) (by have:=(h.find a).w2;omega);omega
theorem t37(l:List Fd)(o:LOk l)(tick:Int)(h:List Int)(i:HOk h): ∀p:Pr,POk l p->DCalls Tryz.prog 126 [fds l,vm p,hd h,I tick] (.bool (holds l tick h p)):=by
 have k: ∀(p:Pr) (b:Bool),wpC Tryz.prog OY.1 (ft [fds l,vm p,hd h,I tick]) (oB (du Tryz.prog) [.tmp 8] [.bool b])->DCalls Tryz.prog 126 [fds l,vm p,hd h,I tick] (.bool b):=fun p b v=>
  oL (rs:=[.tmp 8]) mixed Tryz.func126 OY.2 rfl rfl rfl (r:=[.bool b]) (nlZ rfl) v
 intro p
 induction p with
 |tt=>
  intro _;refine k _ _ ?_;refine And.intro rfl ?_;refine And.intro (by simp [i.len]) ?_;refine uP (I 1) (by decide) rfl ?_;refine uM true trivial rfl ?_;exact ⟨rfl,trivial⟩
 |ff=>
  intro _;refine k _ _ ?_;refine And.intro rfl ?_;refine And.intro (by simp [i.len]) ?_;refine uP (I 2) (by decide) rfl ?_;refine uM false trivial rfl ?_;refine uM true trivial rfl ?_;exact ⟨rfl,trivial⟩
 |time n m=>
  intro _;refine k _ _ ?_;refine And.intro rfl ?_;refine And.intro (by simp [i.len]) ?_;refine uP (I 9) (by decide) rfl ?_;refine uM false trivial rfl ?_;refine uM false trivial rfl ?_;refine uM true trivial rfl ?_;refine uP (I n) (by decide) rfl ?_;refine uL trivial (fun a=>?_) (fun a=>?_)
  ·refine uP (I m) (by decide) rfl ?_;refine uM (decide (tick<m)) trivial rfl ?_;exact ⟨congrArg (fun b=>some (T.bool b)) (by simp only [holds];rw [a];rfl),trivial⟩
  ·exact ⟨congrArg (fun b=>some (T.bool b)) (by simp only [holds];rw [a];rfl),trivial⟩
 |not p G=>
  intro s;refine k _ _ ?_;refine And.intro rfl ?_;refine And.intro (by simp [i.len]) ?_;refine uP (I 6) (by decide) rfl ?_;refine uM false trivial rfl ?_;refine uM false trivial rfl ?_;refine uM false trivial rfl ?_;refine uM true trivial rfl ?_;refine uP (.slice 5 [vm p]) (by decide) rfl ?_;refine uP (vm p) (by simp) rfl ?_;refine uP (vm p) (vB p).2 (vB p).1 ?_;refine pC _ (G s) ?_;exact ⟨rfl,trivial⟩
 |and p q t u=>
  intro s;refine k _ _ ?_;refine And.intro rfl ?_;refine And.intro (by simp [i.len]) ?_;refine uP (I 7) (by decide) rfl ?_;refine uM false trivial rfl ?_;refine uM false trivial rfl ?_;refine uM false trivial rfl ?_;refine uM false trivial rfl ?_;refine uM true trivial rfl ?_;refine uP (.slice 5 [vm p,vm q]) (by decide) rfl ?_;refine uP (vm p) (by simp) rfl ?_;refine uP (vm p) (vB p).2 (vB p).1 ?_;refine pC _ (t s.1) ?_;refine uP (.slice 5 [vm p,vm q]) (by decide) rfl ?_;refine uP (vm q) (by simp) rfl ?_;refine uP (vm q) (vB q).2 (vB q).1 ?_;refine pC _ (u s.2) ?_;have e:holds l tick h (.and p q)=(holds l tick h p&&holds l tick h q):=rfl;cases a:holds l tick h p with
  |true=>exact ⟨congrArg (fun b=>some (T.bool b)) (by rw [e,a];rfl),trivial⟩
  |false=>exact ⟨congrArg (fun b=>some (T.bool b)) (by rw [e,a];rfl),trivial⟩
 |or p q t u=>
  intro s;refine k _ _ ?_;refine And.intro rfl ?_;refine And.intro (by simp [i.len]) ?_;refine uP (I 8) (by decide) rfl ?_;refine uM false trivial rfl ?_;refine uM false trivial rfl ?_;refine uM false trivial rfl ?_;refine uM false trivial rfl ?_;refine uM false trivial rfl ?_;refine uM true trivial rfl ?_;refine uP (.slice 5 [vm p,vm q]) (by decide) rfl ?_;refine uP (vm p) (by simp) rfl ?_;refine uP (vm p) (vB p).2 (vB p).1 ?_;refine pC _ (t s.1) ?_;refine uP (.slice 5 [vm p,vm q]) (by decide) rfl ?_;refine uP (vm q) (by simp) rfl ?_;refine uP (vm q) (vB q).2 (vB q).1 ?_;refine pC _ (u s.2) ?_;have e:holds l tick h (.or p q)=(holds l tick h p||holds l tick h q):=rfl;cases a:holds l tick h p with
  |true=>exact ⟨congrArg (fun b=>some (T.bool b)) (by rw [e,a];rfl),trivial⟩
  |false=>exact ⟨congrArg (fun b=>some (T.bool b)) (by rw [e,a];rfl),trivial⟩
 |eq f n=>
  rintro ⟨F,g,z⟩;have d:=o.find g;have j:=t51 l f o.len;unfold xB at j;rw [g] at j;refine k _ _ ?_;refine And.intro rfl ?_;refine And.intro (by simp [i.len]) ?_;refine uP (I 3) (by decide) rfl ?_;refine uM false trivial rfl ?_;refine uM false trivial rfl ?_;refine uM false trivial rfl ?_;refine uM false trivial rfl ?_;refine uM false trivial rfl ?_;refine uM false trivial rfl ?_;refine uP (.str f) (by decide) rfl ?_;refine pC _ j ?_;refine And.intro ⟨rfl,by decide⟩ ?_;refine pC _ (t57 F d h i) ?_;refine uP (I 3) (by decide) rfl ?_;refine uM true trivial rfl ?_;refine uP (I n) (by decide) rfl ?_;refine uM (decide (vD F h=n)) trivial (by rw [Bool.eq_iff_iff];simp;exact Int.natCast_inj) ?_;exact ⟨congrArg (fun b=>some (T.bool b)) (by simp only [holds,xN g]),trivial⟩
 |pre f n m=>
  rintro ⟨F,g,z,D⟩;have d:=o.find g;have j:=t51 l f o.len;unfold xB at j;rw [g] at j;refine k _ _ ?_;refine And.intro rfl ?_;refine And.intro (by simp [i.len]) ?_;refine uP (I 4) (by decide) rfl ?_;refine uM false trivial rfl ?_;refine uM false trivial rfl ?_;refine uM false trivial rfl ?_;refine uM false trivial rfl ?_;refine uM false trivial rfl ?_;refine uM false trivial rfl ?_;refine uP (.str f) (by decide) rfl ?_;refine pC _ j ?_;refine And.intro ⟨rfl,by decide⟩ ?_;refine pC _ (t57 F d h i) ?_;refine uP (I 4) (by decide) rfl ?_;refine uM false trivial rfl ?_;refine uM true trivial rfl ?_;refine uP (I F.w) (show 0+2<3 by decide) rfl ?_;refine uP (I m) (by decide) rfl ?_;have v:F.w<=16:=by have:=d.w2;omega
  have e0:IntKind.wrap .i64 ((F.w:Int) - (m:Int))=((F.w - m:Nat):Int):=by rw [oA (by omega) (by omega)];omega
  have y:=t58 (F.w - m) (by omega);rw [<- e0] at y;refine pC _ y ?_;have H:=Nat.two_pow_pos (F.w - m);have C:=HH o g h;have E:=zN v;refine And.intro (by omega) ?_;refine uP (I n) (by decide) rfl ?_;refine And.intro (by omega) ?_;have A: ∀x:Nat,x<65536->IntKind.wrap .i64 ((x:Int).tdiv ((2^(F.w - m):Nat):Int))=((x / 2^(F.w - m):Nat):Int):=fun x J=>by
   have B:(x:Int).tdiv ((2^(F.w - m):Nat):Int)=((x / 2^(F.w - m):Nat):Int):=by
    rw [Int.tdiv_eq_ediv_of_nonneg (by omega)];simp
   rw [B,yb (Nat.lt_of_le_of_lt (Nat.div_le_self _ _) (by omega))]
  refine uM (decide (vD F h / 2^(F.w - m)=n / 2^(F.w - m))) trivial (show (IntKind.wrap .i64 _==IntKind.wrap .i64 _)=_ by
   rw [A _ C,A _ (by omega),Bool.eq_iff_iff,beq_iff_eq,decide_eq_true_eq];exact Int.natCast_inj) ?_
  exact ⟨congrArg (fun b=>some (T.bool b)) (by simp only [holds,xN g]),trivial⟩
 |rng f n m=>
  rintro ⟨F,g,z,D⟩;have d:=o.find g;have j:=t51 l f o.len;unfold xB at j;rw [g] at j;refine k _ _ ?_;refine And.intro rfl ?_;refine And.intro (by simp [i.len]) ?_;refine uP (I 5) (by decide) rfl ?_;refine uM false trivial rfl ?_;refine uM false trivial rfl ?_;refine uM false trivial rfl ?_;refine uM false trivial rfl ?_;refine uM false trivial rfl ?_;refine uM false trivial rfl ?_;refine uP (.str f) (by decide) rfl ?_;refine pC _ j ?_;refine And.intro ⟨rfl,by decide⟩ ?_;refine pC _ (t57 F d h i) ?_;refine uP (I 5) (by decide) rfl ?_;refine uM false trivial rfl ?_;refine uM false trivial rfl ?_;refine uP (I n) (by decide) rfl ?_;have e:holds l tick h (.rng f n m)=(decide (n<=vD F h)&&decide (vD F h<=m)):=by simp only [holds,xN g]
  refine uL trivial (fun a=>?_) (fun a=>?_)
  ·have a:n<=vD F h:=by simpa using a
   refine uP (I m) (by decide) rfl ?_;refine uM (decide (vD F h<=m)) trivial (by rw [Bool.eq_iff_iff];simp) ?_;exact ⟨congrArg (fun b=>some (T.bool b)) (by rw [e,decide_eq_true a];rfl),trivial⟩
  ·have a: ¬n<=vD F h:=by simpa using a
   exact ⟨congrArg (fun b=>some (T.bool b)) (by rw [e,decide_eq_false a];rfl),trivial⟩
def W73(l:List Fd)(tick:Int)(off:Nat):T:=.wrld 157 [.cptr [I tick] 0] [.cptr [fds l] 0] 161 [] [.cptr [fds l] 0] off
theorem t73(l:List Fd)(v:LOk l)(tick:Int)(h:List Int)(g:HOk h): ∀p:Pr,POk l p->DCalls Tryz.prog 157 [vm p,hd h,.cptr [I tick] 0,.cptr [W73 l tick 0] 0,.cptr [fds l] 0] (.bool (holds l tick h p)):=by
 have k: ∀(p:Pr) (b:Bool),wpC Tryz.prog Pg.1 (ft [vm p,hd h,.cptr [I tick] 0,.cptr [W73 l tick 0] 0,.cptr [fds l] 0]) (oB (du Tryz.prog) [.tmp 7] [.bool b])->DCalls Tryz.prog 157 [vm p,hd h,.cptr [I tick] 0,.cptr [W73 l tick 0] 0,.cptr [fds l] 0] (.bool b):=fun p b A=>
  oL (rs:=[.tmp 7]) mixed Tryz.func157 Pg.2 rfl rfl rfl (r:=[.bool b]) (nlZ rfl) A
 intro p
 induction p with
 |tt=>
  intro _;refine k _ _ ?_;refine And.intro rfl ?_;refine And.intro (by simp [g.len]) ?_;refine uP (I 1) (by decide) rfl ?_;refine uM true trivial rfl ?_;refine uP (I 1) (by decide) rfl ?_;refine uM true trivial rfl ?_;exact ⟨rfl,trivial⟩
 |ff=>
  intro _;refine k _ _ ?_;refine And.intro rfl ?_;refine And.intro (by simp [g.len]) ?_;refine uP (I 2) (by decide) rfl ?_;refine uM false trivial rfl ?_;refine uM true trivial rfl ?_;refine uP (I 2) (by decide) rfl ?_;refine uM false trivial rfl ?_;exact ⟨rfl,trivial⟩
 |time n m=>
  intro _;refine k _ _ ?_;refine And.intro rfl ?_;refine And.intro (by simp [g.len]) ?_;refine uP (I 9) (by decide) rfl ?_;refine uM false trivial rfl ?_;refine uM false trivial rfl ?_;refine uM true trivial rfl ?_;refine uP (I tick) (Nat.lt_succ_self 0) rfl ?_;refine uP (I n) (by decide) rfl ?_;have e:holds l tick h (.time n m)=(decide (tick>=n)&&decide (tick<m)):=rfl;refine uL trivial (fun d=>?_) (fun d=>?_)
  ·refine uP (I tick) (Nat.lt_succ_self 0) rfl ?_;refine uP (I m) (by decide) rfl ?_;refine uM (decide (tick<m)) trivial rfl ?_;exact ⟨congrArg (fun b=>some (T.bool b)) (by rw [e,d];rfl),trivial⟩
  ·exact ⟨congrArg (fun b=>some (T.bool b)) (by rw [e,d];rfl),trivial⟩
 |not p B=>
  intro s;refine k _ _ ?_;refine And.intro rfl ?_;refine And.intro (by simp [g.len]) ?_;refine uP (I 6) (by decide) rfl ?_;refine uM false trivial rfl ?_;refine uM false trivial rfl ?_;refine uM false trivial rfl ?_;refine uM true trivial rfl ?_;refine uP (W73 l tick 0) (Nat.lt_succ_self 0) rfl ?_;refine uP (.slice 5 [vm p]) (by decide) rfl ?_;refine uP (vm p) (by simp) rfl ?_;refine uP (vm p) (vB p).2 (vB p).1 ?_;refine pC _ (B s) ?_;exact ⟨rfl,trivial⟩
 |and p q t u=>
  intro s;refine k _ _ ?_;refine And.intro rfl ?_;refine And.intro (by simp [g.len]) ?_;refine uP (I 7) (by decide) rfl ?_;refine uM false trivial rfl ?_;refine uM false trivial rfl ?_;refine uM false trivial rfl ?_;refine uM false trivial rfl ?_;refine uM true trivial rfl ?_;refine uP (W73 l tick 0) (Nat.lt_succ_self 0) rfl ?_;refine uP (.slice 5 [vm p,vm q]) (by decide) rfl ?_;refine uP (vm p) (by simp) rfl ?_;refine uP (vm p) (vB p).2 (vB p).1 ?_;refine pC _ (t s.1) ?_;refine uP (I 7) (by decide) rfl ?_;refine uM true trivial rfl ?_;have e:holds l tick h (.and p q)=(holds l tick h p&&holds l tick h q):=rfl;cases d:holds l tick h p with
  |true=>
   refine uM false trivial rfl ?_;refine uP (W73 l tick 0) (Nat.lt_succ_self 0) rfl ?_;refine uP (.slice 5 [vm p,vm q]) (by decide) rfl ?_;refine uP (vm q) (by simp) rfl ?_;refine uP (vm q) (vB q).2 (vB q).1 ?_;refine pC _ (u s.2) ?_;exact ⟨congrArg (fun b=>some (T.bool b)) (by rw [e,d];rfl),trivial⟩
  |false=>
   refine uM true trivial rfl ?_;refine uP (I 7) (by decide) rfl ?_;refine uM false trivial rfl ?_;exact ⟨congrArg (fun b=>some (T.bool b)) (by rw [e,d];rfl),trivial⟩
 |or p q t u=>
  intro s;refine k _ _ ?_;refine And.intro rfl ?_;refine And.intro (by simp [g.len]) ?_;refine uP (I 8) (by decide) rfl ?_;refine uM false trivial rfl ?_;refine uM false trivial rfl ?_;refine uM false trivial rfl ?_;refine uM false trivial rfl ?_;refine uM false trivial rfl ?_;refine uM true trivial rfl ?_;refine uP (W73 l tick 0) (Nat.lt_succ_self 0) rfl ?_;refine uP (.slice 5 [vm p,vm q]) (by decide) rfl ?_;refine uP (vm p) (by simp) rfl ?_;refine uP (vm p) (vB p).2 (vB p).1 ?_;refine pC _ (t s.1) ?_;refine uP (I 8) (by decide) rfl ?_;refine uM false trivial rfl ?_;have e:holds l tick h (.or p q)=(holds l tick h p||holds l tick h q):=rfl;cases d:holds l tick h p with
  |false=>
   refine uM false trivial rfl ?_;refine uP (W73 l tick 0) (Nat.lt_succ_self 0) rfl ?_;refine uP (.slice 5 [vm p,vm q]) (by decide) rfl ?_;refine uP (vm q) (by simp) rfl ?_;refine uP (vm q) (vB q).2 (vB q).1 ?_;refine pC _ (u s.2) ?_;exact ⟨congrArg (fun b=>some (T.bool b)) (by rw [e,d];rfl),trivial⟩
  |true=>
   refine uM true trivial rfl ?_;refine uP (I 8) (by decide) rfl ?_;refine uM true trivial rfl ?_;exact ⟨congrArg (fun b=>some (T.bool b)) (by rw [e,d];rfl),trivial⟩
 |eq f n=>
  rintro ⟨F,i,o⟩;have a:=v.find i;have j:=t74 l f v.len;unfold xB at j;rw [i] at j;refine k _ _ ?_;refine And.intro rfl ?_;refine And.intro (by simp [g.len]) ?_;refine uP (I 3) (by decide) rfl ?_;refine uM false trivial rfl ?_;refine uM false trivial rfl ?_;refine uM false trivial rfl ?_;refine uM false trivial rfl ?_;refine uM false trivial rfl ?_;refine uM false trivial rfl ?_;refine uP (fds l) (Nat.lt_succ_self 0) rfl ?_;refine uP (.str f) (by decide) rfl ?_;refine pC _ j ?_;refine And.intro ⟨rfl,by decide⟩ ?_;refine uP (I 3) (by decide) rfl ?_;refine uM true trivial rfl ?_;refine uP (I n) (by decide) rfl ?_;refine pC _ (t76 F a n o) ?_;have x:=HOk.set a zX (BW F F.w);have y:=HOk.set a zX (Nat.lt_of_le_of_lt (Nat.and_le_left (n:=n) (m:=vp F F.w)) o);refine pC _ (t75 _ _ h x y g) ?_;have e:yL (wc F z10 (vp F F.w)) (wc F z10 (n &&& vp F F.w)) h=holds l tick h (.eq f n):=by
   rw [De a n F.w (Nat.le_refl _) o];simp only [holds,xN i,Nat.sub_self,Nat.pow_zero,Nat.div_one]
  exact ⟨congrArg (fun b=>some (T.bool b)) e,trivial⟩
 |pre f n m=>
  rintro ⟨F,i,o,z⟩;have a:=v.find i;have j:=t74 l f v.len;unfold xB at j;rw [i] at j;refine k _ _ ?_;refine And.intro rfl ?_;refine And.intro (by simp [g.len]) ?_;refine uP (I 4) (by decide) rfl ?_;refine uM false trivial rfl ?_;refine uM false trivial rfl ?_;refine uM false trivial rfl ?_;refine uM false trivial rfl ?_;refine uM false trivial rfl ?_;refine uM false trivial rfl ?_;refine uP (fds l) (Nat.lt_succ_self 0) rfl ?_;refine uP (.str f) (by decide) rfl ?_;refine pC _ j ?_;refine And.intro ⟨rfl,by decide⟩ ?_;refine uP (I 4) (by decide) rfl ?_;refine uM false trivial rfl ?_;refine uM true trivial rfl ?_;refine uP (I n) (by decide) rfl ?_;refine uP (I m) (by decide) rfl ?_;refine pC _ (t77 F a n m z o) ?_;have x:=HOk.set a zX (BW F m);have y:=HOk.set a zX (Nat.lt_of_le_of_lt (Nat.and_le_left (n:=n) (m:=vp F m)) o);refine pC _ (t75 _ _ h x y g) ?_;have e:yL (wc F z10 (vp F m)) (wc F z10 (n &&& vp F m)) h=holds l tick h (.pre f n m):=by
   rw [De a n m z o];simp only [holds,xN i]
  exact ⟨congrArg (fun b=>some (T.bool b)) e,trivial⟩
 |rng f n m=>
  rintro ⟨F,i,o,z⟩;have a:=v.find i;have j:=t74 l f v.len;unfold xB at j;rw [i] at j;refine k _ _ ?_;refine And.intro rfl ?_;refine And.intro (by simp [g.len]) ?_;refine uP (I 5) (by decide) rfl ?_;refine uM false trivial rfl ?_;refine uM false trivial rfl ?_;refine uM false trivial rfl ?_;refine uM false trivial rfl ?_;refine uM false trivial rfl ?_;refine uM false trivial rfl ?_;refine uP (fds l) (Nat.lt_succ_self 0) rfl ?_;refine uP (.str f) (by decide) rfl ?_;refine pC _ j ?_;refine And.intro ⟨rfl,by decide⟩ ?_;refine uP (I 5) (by decide) rfl ?_;refine uM false trivial rfl ?_;refine uM false trivial rfl ?_;refine pC _ (t78 F a h g) ?_;refine uP (I n) (by decide) rfl ?_;have e:holds l tick h (.rng f n m)=(decide (n<=vD F h)&&decide (vD F h<=m)):=by simp only [holds,xN i]
  refine uL trivial (fun d=>?_) (fun d=>?_)
  ·have d:n<=vD F h:=by simpa using d
   refine uP (I m) (by decide) rfl ?_;refine uM (decide (vD F h<=m)) trivial (by rw [Bool.eq_iff_iff];simp) ?_;exact ⟨congrArg (fun b=>some (T.bool b)) (by rw [e,decide_eq_true d];rfl),trivial⟩
  ·have d: ¬n<=vD F h:=by simpa using d
   exact ⟨congrArg (fun b=>some (T.bool b)) (by rw [e,decide_eq_false d];rfl),trivial⟩
theorem t50(l:List Fd)(tick:Int):DCalls Tryz.prog 125 [fds l,I tick] (W73 l tick 0):=by
 refine dl2 mixed [.tmp 4] [W73 l tick 0] Tryz.func125 OX.2 ?_;refine And.intro trivial ?_;refine And.intro trivial ?_;refine And.intro trivial ?_;refine And.intro rfl ?_;refine And.intro (by decide) ?_;refine And.intro (by decide) ?_;refine And.intro (Nat.lt_succ_self 1) ?_;exact ⟨rfl,trivial⟩
def vP(a:List (List Int)):Prop:= ∀h∈a,HOk h
theorem vP.len{a:List (List Int)}(h:vP a):vF a:=fun x b=>(h x b).len
theorem zc: ∀{a b:List (List Int)} {h:List Int},vF a->vF b->(h∈mrg a b↔h∈a\/h∈b)
 |[],b,h,_,_=>by simp [mrg]
 |x::a,[],h,_,_=>by rw [Ap];simp
 |x::a,y::b,h,ha,hb=>by
  rcases Int.lt_trichotomy (nx (x::a) (y::b)) 0 with f|f|f
  ·rw [Ea f,List.mem_cons,zc (fun z d=>ha z (by simp [d])) hb];simp only [List.mem_cons];exact ⟨fun h=>by rcases h with h|h|h|h <;> simp [h],fun h=>by rcases h with (h|h)|h|h <;> simp [h]⟩
  ·have e:x=y:=zb ((ha x (by simp)).trans (hb y (by simp)).symm) f;rw [Gi f,List.mem_cons,zc (fun z d=>ha z (by simp [d])) (fun z d=>hb z (by simp [d]))];subst e;simp only [List.mem_cons];exact ⟨fun h=>by rcases h with h|h|h <;> simp [h],fun h=>by rcases h with (h|h)|h|h <;> simp [h]⟩
  ·rw [D9 f,List.mem_cons,zc ha (fun z d=>hb z (by simp [d]))];simp only [List.mem_cons];exact ⟨fun h=>by rcases h with h|(h|h)|h <;> simp [h],fun h=>by rcases h with (h|h)|h|h <;> simp [h]⟩
termination_by a b=>a.length+b.length
theorem Srt.tail{x:List Int}{a:List (List Int)}(h:Srt (x::a)):Srt a:=(List.pairwise_cons.1 h).2
theorem Srt.head{x:List Int}{a:List (List Int)}(h:Srt (x::a)): ∀y∈a,vA x y<0:=(List.pairwise_cons.1 h).1
theorem xP: ∀{a b:List (List Int)},vF a->vF b->Srt a->Srt b->Srt (mrg a b)
 |[],b,_,_,_,hb=>hb
 |x::a,[],_,_,ha,_=>by rw [Ap];exact ha
 |x::a,y::b,la,lb,ha,hb=>by
  have k:=la x (by simp);have l:=lb y (by simp);have f:vF a:=fun z d=>la z (by simp [d])
  have g:vF b:=fun z d=>lb z (by simp [d])
  rcases Int.lt_trichotomy (nx (x::a) (y::b)) 0 with i|i|i
  ·rw [Ea i];refine List.pairwise_cons.2 ⟨fun z d=>?_,xP f lb ha.tail hb⟩;rcases (zc f lb).1 d with d|d
   ·exact ha.head z d
   ·rcases List.mem_cons.1 d with rfl|d
    ·exact i
    ·exact zg (k.trans l.symm) (l.trans (g z d).symm) i (hb.head z d)
  ·have e:x=y:=zb (k.trans l.symm) i;rw [Gi i];refine List.pairwise_cons.2 ⟨fun z d=>?_,xP f g ha.tail hb.tail⟩;rcases (zc f g).1 d with d|d
   ·exact ha.head z d
   ·rw [e];exact hb.head z d
  ·have j:vA y x<0:=by rw [AG x y];have h:0<vA x y:=i;omega
   rw [D9 i];refine List.pairwise_cons.2 ⟨fun z d=>?_,xP la g ha hb.tail⟩;rcases (zc la g).1 d with d|d
   ·rcases List.mem_cons.1 d with rfl|d
    ·exact j
    ·exact zg (l.trans k.symm) (k.trans (f z d).symm) j (ha.head z d)
   ·exact hb.head z d
termination_by a b=>a.length+b.length
theorem Hn: ∀{a b:List (List Int)},Srt a->Srt b->(∀ h,h∈a↔h∈b)->a=b
 |[],[],_,_,_=>rfl
 |[],y::b,_,_,h=>by have:=(h y).2 (by simp);simp at this
 |x::a,[],_,_,h=>by have:=(h x).1 (by simp);simp at this
 |x::a,y::b,ha,hb,h=>by
  have g: ∀z:List Int, ¬vA z z<0:=fun z=>by rw [AV];omega
  have e:x=y:=by
   rcases List.mem_cons.1 ((h x).1 (by simp)) with e|i
   ·exact e
   ·rcases List.mem_cons.1 ((h y).2 (by simp)) with e|j
    ·exact e.symm
    ·have k1:=hb.head x i;have k2:=ha.head y j
     have:=AG x y
     omega
  subst e;refine congrArg (x:: ·) (Hn ha.tail hb.tail fun z=>⟨fun f=>?_,fun f=>?_⟩)
  ·rcases List.mem_cons.1 ((h z).1 (by simp [f])) with e|d
   ·exact absurd (ha.head z f) (e▸g _)
   ·exact d
  ·rcases List.mem_cons.1 ((h z).2 (by simp [f])) with e|d
   ·exact absurd (hb.head z f) (e▸g _)
   ·exact d
structure SOk (s:List (List Int)):Prop where
 srt:Srt s
 ok:vP s
 len:s.length<=256
def small(s:List (List Int)):Option (List (List Int)):=if s.length>256 then none else some s
theorem yo{a b:List (List Int)}(d:vP a)(e:vP b):vP (mrg a b):=fun h f=>((zc d.len e.len).1 f).elim (d h) (e h)
theorem yY{s t:List (List Int)}(b:Srt s)(a:vP s)(h:small s=some t):SOk t/\t=s:=by
 unfold small at h;split at h
 ·cases h
 ·cases h;exact ⟨⟨b,a,by omega⟩,rfl⟩
def image(g:List Int->Option (List (List Int))):List (List Int)->List (List Int)->Option (List (List Int))
 |[],out=>some out
 |h::hs,out=>match g h with
  |none=>none
  |some a=>match small (mrg out a) with
   |none=>none
   |some b=>image g hs b
def rounds(im:List (List Int)->Option (List (List Int))):Nat->List (List Int)->List (List Int)->Nat->Option (List (List Int)×Nat)
 |0,_,_,_=>none
 |n+1,all,last,r=>match im last with
  |none=>none
  |some next=>match small (mrg all (next.filter fun x=> !all.contains x)) with
   |none=>none
   |some a=>if (next.filter fun x=> !all.contains x)=[] then some (a,r) else rounds im n a (next.filter fun x=> !all.contains x) (r+1)
inductive Po where
 |filter (p:Pr)
 |set (f:ByteArray) (n:Nat)
 |union (a b:Po)
 |seq (a b:Po)
 |star (a:Po)
def gives(l:List Fd)(tick:Int):Po->List Int->Option (List (List Int))
 |.filter p,h=>some (if holds l tick h p then [h] else [])
 |.set f n,h=>some [wc (fld l f) h n]
 |.union a b,h=>match gives l tick a h,gives l tick b h with
  |some x,some y=>small (mrg x y)
  |_,_=>none
 |.seq a b,h=>match gives l tick a h with
  |some x=>image (gives l tick b) x []
  |none=>none
 |.star a,h=>(rounds (fun s=>image (gives l tick a) s []) 300 [h] [h] 0).map (·.1)
def OOk(l:List Fd):Po->Prop
 |.filter p=>POk l p
 |.set f n=> ∃F,findF l f=some F/\n<2^F.w
 |.union a b=>OOk l a/\OOk l b
 |.seq a b=>OOk l a/\OOk l b
 |.star a=>OOk l a
theorem Ho(h:List Int):Srt [h]:=List.pairwise_singleton _ _
theorem LI:Srt []:=List.Pairwise.nil
theorem zd{h:List Int}(a:HOk h):SOk [h]:=⟨Ho h,fun x b=>by rw [List.mem_singleton.1 b];exact a,by simp⟩
theorem yG:SOk []:=⟨LI,fun x a=>(by cases a),by simp⟩
theorem AN{g:List Int->Option (List (List Int))}(j: ∀h s,HOk h->g h=some s->SOk s): ∀{i b s:List (List Int)},vP i->SOk b->image g i b=some s->SOk s
 |[],b,s,_,ho,h=>by cases h;exact ho
 |x::i,b,s,hx,ho,h=>by
  unfold image at h;cases d:g x with
  |none=>rw [d] at h;cases h
  |some a=>
   rw [d] at h;simp only at h;have f:=j x a (hx x (by simp)) d;cases e:small (mrg b a) with
   |none=>rw [e] at h;cases h
   |some o=>
    rw [e] at h;simp only at h
    have:=(yY (xP ho.ok.len f.ok.len ho.srt f.srt) (yo ho.ok f.ok) e).1
    exact AN j (fun z k=>hx z (by simp [k])) this h
theorem BL{s:List (List Int)}(p:List Int->Bool)(h:SOk s):SOk (s.filter p):=
 ⟨List.Pairwise.filter _ h.srt,fun x a=>h.ok x (List.mem_filter.1 a).1,Nat.le_trans (List.length_filter_le _ _) h.len⟩
theorem Fo{im:List (List Int)->Option (List (List Int))}(hi: ∀a s,SOk a->im a=some s->SOk s): ∀{n:Nat} {all b:List (List Int)} {r:Nat} {s:List (List Int)} {k:Nat},SOk all->SOk b->rounds im n all b r=some (s,k)->SOk s
 |0,_,_,_,_,_,_,_,h=>by cases h
 |n+1,all,b,r,s,k,ha,hl,h=>by
  unfold rounds at h;cases d:im b with
  |none=>rw [d] at h;cases h
  |some next=>
   rw [d] at h;have f:=BL (fun x=> !all.contains x) (hi b next hl d);simp only at h;cases e:small (mrg all (next.filter fun x=> !all.contains x)) with
   |none=>rw [e] at h;cases h
   |some o=>
    rw [e] at h;have g:=(yY (xP ha.ok.len f.ok.len ha.srt f.srt) (yo ha.ok f.ok) e).1;simp only at h;split at h
    ·cases h;exact g
    ·exact Fo hi g f h
theorem wq{l:List Fd}(m:LOk l){tick:Int}: ∀{p:Po},OOk l p-> ∀{h:List Int} {s:List (List Int)},HOk h->gives l tick p h=some s->SOk s
 |.filter p,_,h,s,d,e=>by
  simp only [gives,Option.some.injEq] at e;subst e;split
  ·exact zd d
  ·exact yG
 |.set f n,⟨F,hF,hn⟩,h,s,d,e=>by
  simp only [gives,Option.some.injEq,xN hF] at e;subst e;exact zd (HOk.set (m.find hF) d hn)
 |.union a b,⟨ha,hb⟩,h,s,d,e=>by
  unfold gives at e;cases i:gives l tick a h with
  |none=>rw [i] at e;cases e
  |some x=>
   cases o:gives l tick b h with
   |none=>rw [i,o] at e;cases e
   |some y=>
    rw [i,o] at e;have j:=wq m ha d i;have r:=wq m hb d o;exact (yY (xP j.ok.len r.ok.len j.srt r.srt) (yo j.ok r.ok) e).1
 |.seq a b,⟨ha,hb⟩,h,s,d,e=>by
  unfold gives at e;cases i:gives l tick a h with
  |none=>rw [i] at e;cases e
  |some x=>
   rw [i] at e;have j:=wq m ha d i;exact AN (fun h s d e=>wq m hb d e) j.ok yG e
 |.star a,ha,h,s,d,e=>by
  unfold gives at e;cases i:rounds (fun s=>image (gives l tick a) s []) 300 [h] [h] 0 with
  |none=>rw [i] at e;cases e
  |some q=>
   rw [i] at e;cases e;exact Fo (im:=fun s=>image (gives l tick a) s []) (fun x s j e=>AN (g:=gives l tick a) (fun h s d e=>wq (p:=a) m ha d e) j.ok yG e) (zd d) (zd d) (s:=q.1) (k:=q.2) i
inductive RP where
 |mk (kind:Int) (field:ByteArray) (n m:Int) (args:List RP)
namespace RP
def kind:RP->Int|.mk k _ _ _ _=>k
end RP
mutual
def zh:RP->T
 |.mk k f n m a=>.agg [I k,.str f,I n,I m,.slice 5 (CQ a)]
def CQ:List RP->List T
 |[]=>[]
 |r::rs=>zh r::CQ rs
end
theorem FV: ∀l:List RP,CQ l=l.map zh
 |[]=>rfl
 |r::rs=>congrArg (zh r:: ·) (FV rs)
def vR:RP->List T
 |.mk k f n m a=>[I k,.str f,I n,I m,.slice 5 (a.map zh)]
theorem xg(r:RP):zh r= .agg (vR r):=by
 cases r;simp only [zh,vR,FV]
theorem xd(r:RP):(vR r).length=5:=by cases r;rfl
inductive RO where
 |mk (kind:Int) (pred:RP) (field:ByteArray) (n:Int) (args:List RO)
namespace RO
def kind:RO->Int|.mk k _ _ _ _=>k
def pred:RO->RP|.mk _ p _ _ _=>p
end RO
mutual
def yH:RO->T
 |.mk k p f n a=>.agg (I k::(vR p++[.str f,I n,.slice 9 (BK a)]))
def BK:List RO->List T
 |[]=>[]
 |r::rs=>yH r::BK rs
end
theorem FW: ∀l:List RO,BK l=l.map yH
 |[]=>rfl
 |r::rs=>congrArg (yH r:: ·) (FW rs)
def uV:RO->List T
 |.mk k p f n a=>I k::(vR p++[.str f,I n,.slice 9 (a.map yH)])
theorem wP(r:RO):yH r= .agg (uV r):=by
 cases r;simp only [yH,uV,FW]
theorem vz(r:RO):(uV r).length=9:=by cases r;simp [uV,xd]
mutual
def RP.nodes:RP->Nat
 |.mk _ _ _ _ a=>1+vM a
def vM:List RP->Nat
 |[]=>0
 |r::rs=>r.nodes+vM rs
end
mutual
def RP.depth:RP->Nat
 |.mk _ _ _ _ a=>1+xM a
def xM:List RP->Nat
 |[]=>0
 |r::rs=>max r.depth (xM rs)
end
mutual
theorem RP.BH: ∀r:RP,r.depth<=r.nodes
 |.mk _ _ _ _ a=>by have:=BG a;simp only [RP.depth,RP.nodes];omega
theorem BG: ∀l:List RP,xM l<=vM l
 |[]=>Nat.le_refl _
 |r::rs=>by have:=RP.BH r;have:=BG rs;simp only [xM,vM];omega
end
theorem zp: ∀{l:List RP} {j:Nat} (h:j<l.length),vM (l.take (j+1))=vM (l.take j)+l[j].nodes
 |r::rs,0,h=>by simp [vM]
 |r::rs,j+1,h=>by
  have:=zp (l:=rs) (j:=j) (by simpa using h)
  simp only [List.take_succ_cons,vM,List.getElem_cons_succ];omega
theorem Cp: ∀{l:List RP} {j:Nat} (h:j<l.length),xM (l.take (j+1))=max (xM (l.take j)) l[j].depth
 |r::rs,0,h=>by simp [xM]
 |r::rs,j+1,h=>by
  have:=Cp (l:=rs) (j:=j) (by simpa using h)
  simp only [List.take_succ_cons,xM,List.getElem_cons_succ];omega
theorem zo: ∀{l:List RP} {j:Nat},vM (l.take j)<=vM l
 |[],j=>by simp
 |r::rs,0=>by simp [vM]
 |r::rs,j+1=>by
  have:=zo (l:=rs) (j:=j)
  simp only [List.take_succ_cons,vM];omega
theorem RP.xR(r:RP):1<=r.nodes:=by cases r;simp only [RP.nodes];omega
theorem zM: ∀l:List RP,l.length<=vM l
 |[]=>Nat.le_refl _
 |r::rs=>by have:=zM rs;have:=r.xR;simp only [vM,List.length_cons];omega
def sz(n d:Nat):T:=.agg [I n,I d]
theorem t102(a b c d:Nat)(f:a+c<2^62)(g:b<2^62)(h:d<2^62):DCalls Tryz.prog 91 [sz a b,sz c d] (sz (a+c) (max b (d+1))):=by
 refine dl2 mixed [.cell 4 86] [sz (a+c) (max b (d+1))] Tryz.func91 l91.2 ?_;refine rnZ ?_;refine And.intro (congrArg some ?_) trivial;simp (disch:=omega) only [oA,aP,List.take,List.drop,List.append,List.nil_append,List.cons_append];unfold sz I;have e:(if (d:Int)+1>(b:Int) then (d:Int)+1 else (b:Int))=((max b (d+1):Nat):Int):=by split <;> omega
 rw [e,Int.natCast_add]
theorem t103(N:Nat): ∀r:RP,r.nodes<=N->N<2^60->DCalls Tryz.prog 92 [.agg (vR r)] (sz r.nodes r.depth):=by
 induction N with
 |zero=>intro r h;have:=r.xR;omega
 |succ N o=>
  rintro ⟨k,f,n,m,l⟩ g p;refine dl2 mixed [.cell 2 86] [sz _ _] Tryz.func92 l92.2 ?_;simp only [RP.nodes,RP.depth] at g ⊢;refine rnZ ?_;refine uA (α:=Nat) (fun i=>{sl:=[(1,.ptr 1 0),(2,.ptr 2 0),(3,.ptr 3 0),(4,.t (I i))],bx:=[(1,.d 5 (vR (.mk k f n m l))),(2,.d 2 [I 0,I 0]),(3,.d 2 [I (1+vM (l.take i):Nat),I (1+xM (l.take i):Nat)])]})
   (fun i=>i<=l.length) (fun i=>l.length - i) 0 (by omega) ?_ ?_
  ·exact wkZ
  rintro i hi;rcases Nat.lt_or_ge i l.length with h|h
  ·have e:=zp h;have hd:=Cp h;have s:=zo (l:=l) (j:=i+1);have u:=l[i].xR;have q:=zM l;have b:=l[i].BH;have a:=BG (l.take i)
   repeat' ((conv=>whnf);first|(refine nv_ (.agg (vR l[i])) (by first|(simp [h,xg];done)|fail) ?_)|refine pC _ (o l[i] (by omega) (by omega)) ?_|refine pC _ (t102 _ _ _ _ (by omega) (by omega) (by omega)) ?_|refine aD1 ?_|(refine And.intro (by first|exact xd _) ?_)|refine aS ?_|refine nT_ ?_)
   refine ⟨i+1,by omega,by omega,?_⟩
   repeat' (first|exact wJ|refine uv ?_|refine And.intro ?_ ?_)
   rw [e,hd,show 1+(vM (l.take i)+l[i].nodes)=1+vM (l.take i)+l[i].nodes by omega,show 1+max (xM (l.take i)) l[i].depth=max (1+xM (l.take i)) (l[i].depth+1) by omega];rfl
  ·have:i=l.length:=by omega
   subst this;rw [List.take_length];exact rcZ
end Go.MM
end
section
namespace Go.MM
open Go Go.DL Go.Proofs
def CK:List ByteArray:=[⟨#[97,110,100]⟩,
 ⟨#[97,110,121]⟩,
 ⟨#[97,116]⟩,
 ⟨#[98,97,99,107]⟩,
 ⟨#[98,111,120]⟩,
 ⟨#[98,117,114,115,116]⟩,
 ⟨#[98,121]⟩,
 ⟨#[99,97,112,97,99,105,116,121]⟩,
 ⟨#[99,101,105,108,105,110,103]⟩,
 ⟨#[99,104,101,99,107]⟩,
 ⟨#[99,111,110,116,114,97,99,116]⟩,
 ⟨#[99,111,117,110,116]⟩,
 ⟨#[100,101,109,97,110,100]⟩,
 ⟨#[100,114,111,112]⟩,
 ⟨#[101,97,99,104]⟩,
 ⟨#[101,100,103,101]⟩,
 ⟨#[101,110,116,114,105,101,115]⟩,
 ⟨#[102,97,108,115,101]⟩,
 ⟨#[102,105,101,108,100]⟩,
 ⟨#[102,108,111,111,114]⟩,
 ⟨#[102,114,111,109]⟩,
 ⟨#[105,100]⟩,
 ⟨#[105,110]⟩,
 ⟨#[105,110,110,101,114]⟩,
 ⟨#[105,110,116,111]⟩,
 ⟨#[108,105,110,107]⟩,
 ⟨#[110,101,116,119,111,114,107]⟩,
 ⟨#[110,111,100,101]⟩,
 ⟨#[110,111,116]⟩,
 ⟨#[111,112,101,110]⟩,
 ⟨#[111,114]⟩,
 ⟨#[112,97,116,104]⟩,
 ⟨#[112,111,114,116]⟩,
 ⟨#[112,114,105,99,101]⟩,
 ⟨#[114,111,117,116,101]⟩,
 ⟨#[114,117,108,101,115]⟩,
 ⟨#[115,116,97,103,101]⟩,
 ⟨#[116,97,107,101]⟩,
 ⟨#[116,101,110,97,110,116]⟩,
 ⟨#[116,104,101,110]⟩,
 ⟨#[116,105,109,101]⟩,
 ⟨#[116,111]⟩,
 ⟨#[116,111,107,101,110]⟩,
 ⟨#[116,114,97,110,115,108,97,116,101]⟩,
 ⟨#[116,114,117,101]⟩,
 ⟨#[118,105,97]⟩,
 ⟨#[119,105,100,116,104]⟩,
 ⟨#[119,105,114,101]⟩,
 ⟨#[119,105,116,104,105,110]⟩]
def yg(c:Int):Bool:=decide (97<=c)&&decide (c<=122)
def zQ(c:Int):Bool:=decide (48<=c)&&decide (c<=57)
def Ch(c:Int):Bool:=yg c||zQ c||c==95
def yi(s:ByteArray)(i:Nat):Int:=((s.toList[i]?.getD 0).toNat:Int)
abbrev U(n:Int):T:=.int .u8 n
theorem t110(c:Int):DCalls Tryz.prog 208 [U c] (.bool (yg c)):=by
 refine dl2 mixed [.tmp 2] [.bool _] Tryz.func208 PV.2 ?_;unfold yg;exact rcZ
theorem t115(c:Int):DCalls Tryz.prog 213 [U c] (.bool (zQ c)):=by
 refine dl2 mixed [.tmp 2] [.bool _] Tryz.func213 P1.2 ?_;unfold zQ;exact rcZ
theorem t114(c:Int):DCalls Tryz.prog 212 [U c] (.bool (Ch c)):=by
 refine dl2 mixed [.tmp 2] [.bool _] Tryz.func212 P0.2 ?_;unfold Ch;have d:=t110 c;have e:=t115 c;generalize yg c=a at *
 generalize zQ c=b at *
 cases a <;> cases b
 all_goals repeat' ((conv=>whnf);first|refine pC _ (d) ?_|refine pC _ (e) ?_|refine nE_ (fun f=>?_) (fun f=>?_)|refine rb1 ?_|refine rb0 ?_|refine aS ?_|exact trivial)
theorem t113:DCalls Tryz.prog 211 [] (.slice 1 (CK.map .str)):=by
 refine dl2 mixed [.tmp 0] [.slice 1 (CK.map .str)] Tryz.func211 PZ.2 ?_;exact rcZ
def CW(s:ByteArray):Bool:=CK.any fun w=>uU w s
theorem t111(s:ByteArray):DCalls Tryz.prog 209 [.str s] (.bool (CW s)):=by
 refine dl2 mixed [.tmp 2] [.bool _] Tryz.func209 PX.2 ?_;unfold CW;have g:CK.length=49:=rfl;have l:=t113;generalize CK=ws at *
 refine rnZ ?_;refine uA (α:=Nat) (fun i=>{sl:=[(0,.t (.str s)),(3,.t (.slice 1 (ws.map .str))),(4,.t (I i))],bx:=[]})
  (fun i=>i<=ws.length/\ ∀j (h:j<ws.length),j<i->uU ws[j] s=false) (fun i=>ws.length - i) 0 (by simp) ?_ ?_
 ·exact wkZ
 rintro i ⟨hi,f⟩;rcases Nat.lt_or_ge i ws.length with h|h
 ·cases a:uU ws[i] s with
  |true=>
   have e:(ws.any fun w=>uU w s)=true:=List.any_eq_true.2 ⟨_,List.getElem_mem h,a⟩;rw [e]
   repeat' ((conv=>whnf);first|exact trivial|(refine nv_ (.str ws[i]) (by first|(simp [h];done)|fail) ?_)|refine nb_ true ((vE _ _).trans a) ?_|refine aD1 ?_|refine rb1 ?_|refine aS ?_|refine nT_ ?_)
  |false=>
   repeat' ((conv=>whnf);first|(refine nv_ (.str ws[i]) (by first|(simp [h];done)|fail) ?_)|refine nb_ false ((vE _ _).trans a) ?_|refine aD1 ?_|refine aS ?_|refine nT_ ?_)
   refine ⟨i+1,⟨h,fun j b k=>?_⟩,by omega,?_⟩
   ·rcases Nat.lt_or_ge j i with d|d
    ·exact f j b d
    ·obtain rfl:j=i:=by omega
     exact a
   ·exact wkZ
 ·have e:(ws.any fun w=>uU w s)=false:=by
   rw [List.any_eq_false];intro w g;obtain ⟨j,b,rfl⟩:=List.getElem_of_mem g;simp [f j b (by omega)]
  rw [e];exact rcZ
def Bl:List UInt8->Nat
 |[]=>0
 |b::bs=>if Ch (b.toNat:Int) then 1+Bl bs else 0
theorem CE: ∀{l:List UInt8} {n:Nat},n<=l.length->(∀ j,j<n->Ch ((l[j]?.getD 0).toNat:Int)=true)->(n=l.length\/Ch ((l[n]?.getD 0).toNat:Int)=false)->Bl l=n
 |[],n,hn,_,_=>by simp at hn;simp [Bl,hn]
 |b::bs,0,hn,_,h=>by
  rcases h with h|h
  ·simp at h
  ·simp at h;simp [Bl,h]
 |b::bs,n+1,hn,hp,h=>by
  have a:=hp 0 (by omega);simp at a
  have:=CE (l:=bs) (n:=n) (by simpa using hn) (fun j d=>by simpa using hp (j+1) (by omega)) (by simpa using h)
  simp [Bl,a,this];omega
theorem GV(s:ByteArray):s.toList.length=s.size:=by rw [ByteArray.toList_eq];rfl
theorem t112(s:ByteArray)(l:s.size<2^62):DCalls Tryz.prog 210 [.str s] (I (Bl s.toList)):=by
 refine dl2 mixed [.tmp 2] [.int _ _] Tryz.func210 PY.2 ?_;have k:=GV s
 skip
 refine uA (α:=Nat) (fun i=>{sl:=[(0,.t (.str s)),(3,.t (I i))],bx:=[]})
  (fun i=>i<=s.size/\ ∀j,j<i->Ch (yi s j)=true) (fun i=>s.size - i) 0 (by simp) ?_ ?_
 ·exact wkZ
 rintro i ⟨hi,b⟩;rcases Nat.lt_or_ge i s.size with h|h
 ·have d:=t114 (yi s i);cases a:Ch (yi s i) with
  |true=>
   rw [a] at d;refine rnZ ?_;refine ⟨i+1,⟨h,fun j g=>?_⟩,by omega,?_⟩
   ·rcases Nat.lt_or_ge j i with f|f
    ·exact b j f
    ·obtain rfl:j=i:=by omega
     exact a
   ·exact wkZ
  |false=>
   rw [a] at d;have e:Bl s.toList=i:=CE (by omega) b (.inr a);rw [e];exact rcZ
 ·have e:Bl s.toList=i:=CE (by omega) b (.inl (by omega));rw [e];exact rcZ
def AS(s:ByteArray):Bool:=decide (0<s.size)&&decide (s.size<=24)&&yg (yi s 0)&&(Bl s.toList==s.size)&& !CW s
theorem t109(s:ByteArray)(h:s.size<2^62):DCalls Tryz.prog 206 [.str s] (.bool (AS s)):=by
 refine dl2 mixed [.tmp 2] [.bool _] Tryz.func206 PU.2 ?_;unfold AS;have d:=t110 (yi s 0);have e:=t111 s;have f:=t112 s h;generalize yg (yi s 0)=a at *
 generalize CW s=w at *
 generalize Bl s.toList=n at *
 by_cases i:s.size=0
 ·simp [i];exact rcZ
 ·by_cases b:s.size<=24
  ·simp [b,show 0<s.size by omega];cases a <;> cases w <;> repeat' ((conv=>whnf);first|exact trivial|refine pC _ (d) ?_|refine pC _ (e) ?_|refine pC _ (f) ?_|refine aE0 ?_|refine aD0 ?_|refine nE_ (fun g=>?_) (fun g=>?_)|refine rb1 ?_|refine rb0 ?_|refine aS ?_|refine nT_ ?_)
  ·simp [b];exact rcZ
theorem t108(s:ByteArray)(a:s.size<2^62):DCalls Tryz.prog 204 [.str s] (.bool (AS s)):=by
 refine dl2 mixed [.tmp 2] [.bool _] Tryz.func204 PS.2 ?_;have b:=t109 s a;exact rcZ
def wz(s:ByteArray):Bool:=AS s||uU s xF
theorem t104(s:ByteArray)(f:s.size<2^62):DCalls Tryz.prog 200 [.str s] (.bool (wz s)):=by
 refine dl2 mixed [.tmp 2] [.bool _] Tryz.func200 PN.2 ?_;have d:=t108 s f;unfold wz;have e:=vE s xF;generalize AS s=a at *
 generalize uU s xF=b at *
 cases a <;> cases b <;> repeat' ((conv=>whnf);first|refine pC _ (d) ?_|refine nb_ _ e ?_|refine rb1 ?_|refine rb0 ?_|refine aS ?_|exact trivial)
abbrev e0:ByteArray:=⟨#[]⟩
def zR:RP->Bool
 |.mk k f n m a=>(k==0)&&uU f e0&&(n==0)&&(m==0)&&(a.length==0)
theorem t105(r:RP):DCalls Tryz.prog 201 [.agg (vR r),.agg [I 0,.str e0,I 0,I 0,.nil]] (.bool (zR r)):=by
 obtain ⟨k,f,n,m,l⟩:=r;refine dl2 mixed [.tmp 4] [.bool _] Tryz.func201 PO.2 ?_;simp only [zR];have a:=vE f e0;generalize uU f e0=b at *
 cases l <;> repeat' ((conv=>whnf);first|exact trivial|refine nb_ (!b) (congrArg _ a) ?_|refine nT_ ?_|refine aN1 ?_|refine aN0 ?_|refine nN_ (fun e=>?_) (fun e=>?_)|refine rb0 ?_|refine aS ?_|(cases b))
 refine uA (α:=Unit) (fun _=>{sl:=[(2,.ptr 2 0),(3,.ptr 3 0),(5,.t (I 0))],bx:=[(2,.d 5 (vR (.mk k f n m []))),(3,.d 5 [I 0,.str e0,I 0,I 0,.nil])]}) (fun _=>True) (fun _=>0) () trivial ?_ ?_
 ·exact wkZ
 rintro _ _;exact rcZ
def yW(n:Int):Bool:=decide (0<=n)&&decide (n<=65535)
def Ak(f:ByteArray)(n m:Int):Bool:=uU f e0&&(n==0)&&(m==0)
def CO(k:Int):Nat:=if k=6 then 1 else if k=7\/k=8 then 2 else 0
def okP(k:Int)(f:ByteArray)(n m:Int):Bool:=
 if k=1\/k=2 then Ak f n m
 else if k=3 then wz f&&yW n&&(m==0)
 else if k=4 then wz f&&yW n&&decide (0<=m)&&decide (m<=16)
 else if k=5 then wz f&&decide (0<=n)&&decide (n<=m)&&decide (m<=65535)
 else if k=6\/k=7\/k=8 then Ak f n m
 else if k=9 then uU f e0&&decide (0<=n)&&decide (n<m)&&decide (m<=1073741824)
 else false
mutual
def wm:RP->Bool
 |.mk k f n m a=>okP k f n m&&(a.length==CO k)&&vZ a
def vZ:List RP->Bool
 |[]=>true
 |r::rs=>wm r&&vZ rs
end
theorem AJ: ∀{l:List RP},vZ l=true↔ ∀(i:Nat) (h:i<l.length),wm l[i]=true
 |[]=>by simp [vZ]
 |r::rs=>by
  simp only [vZ,Bool.and_eq_true,AJ (l:=rs)];constructor
  ·rintro ⟨a,h⟩ i hi;cases i with
   |zero=>exact a
   |succ i=>simpa using h i (by simpa using hi)
  ·intro h;exact ⟨h 0 (by simp),fun i hi=>h (i+1) (by simpa using hi)⟩
mutual
def Cx:RP->Prop
 |.mk _ f _ _ a=>f.size<2^62/\Bw a
def Bw:List RP->Prop
 |[]=>True
 |r::rs=>Cx r/\Bw rs
end
theorem Dg: ∀{l:List RP},Bw l-> ∀(i:Nat) (h:i<l.length),Cx l[i]
 |[],_,i,h=>by simp at h
 |r::rs,h,i,hi=>by
  cases i with
  |zero=>exact h.1
  |succ i=>simpa using Dg h.2 i (by simpa using hi)
theorem t106(N:Nat): ∀r:RP,r.nodes<=N->N<2^60->Cx r->DCalls Tryz.prog 202 [.agg (vR r)] (.bool (wm r)):=by
 induction N with
 |zero=>intro r h;have:=r.xR;omega
 |succ N E=>
  rintro ⟨k,f,n,m,l⟩ C F q;refine dl2 mixed [.tmp 2] [.bool _] Tryz.func202 PQ.2 ?_;simp only [RP.nodes,wm] at C ⊢;have x:=t104 f q.1;refine rnZ ?_;refine uE (β:=Unit) (fun _=>{sl:=[(1,.ptr 1 0),(3,.t (.bool (wz f))),(4,.t (.bool (yW n)))],bx:=[(1,.d 5 (vR (.mk k f n m l)))]}) (fun _=>True) ?_ ?_
  ·repeat' ((conv=>whnf);first|refine nD_ (fun o=>?_) (fun o=>?_)|refine aS ?_|refine nT_ ?_)
   all_goals refine ⟨(),trivial,?_⟩
   all_goals unfold yW
   all_goals repeat' (first|exact wJ|refine And.intro ?_ ?_)
  rintro _ _
  skip
  refine uE (β:=Unit) (fun _=>{sl:=[(1,.ptr 1 0),(3,.t (.bool (wz f))),(4,.t (.bool (yW n))),(5,.t (.bool (Ak f n m)))],bx:=[(1,.d 5 (vR (.mk k f n m l)))]}) (fun _=>True) ?_ ?_
  ·unfold Ak;have v:=vE f e0;generalize uU f e0=b at *
   repeat' ((conv=>whnf);first|refine nb_ b v ?_|(exact ⟨(),trivial,wkZ⟩)|refine nT_ ?_|refine nE_ (fun o=>?_) (fun o=>?_)|refine aS ?_|(cases b))
  rintro _ _;refine rnZ ?_;refine uE (β:=Unit) (fun _=>{sl:=[(1,.ptr 1 0),(6,.t (I (CO k))),(7,.t (.bool (okP k f n m)))],bx:=[(1,.d 5 (vR (.mk k f n m l)))]}) (fun _=>True) ?_ ?_
  ·have v:=vE f e0;unfold okP CO;generalize wz f=a at *
   generalize yW n=b at *
   generalize Ak f n m=c at *
   generalize uU f e0=d at *
   repeat' ((conv=>whnf);first|refine nb_ d v ?_|(exact ⟨(),trivial,wkZ⟩)|refine nT_ ?_|refine nE_ (fun o=>?_) (fun o=>?_)|refine nD_ (fun o=>?_) (fun o=>?_)|refine aS ?_|(cases a)|(cases b)|(cases d))
  rintro _ _;generalize okP k f n m=ok at *
  cases ok with
  |false=>exact rcZ
  |true=>
  by_cases g:l.length=CO k
  ·have e:(true&&(l.length==CO k)&&vZ l)=vZ l:=by simp [g]
   rw [e, <-g];have B:=zM l;refine rnZ ?_;refine uA (α:=Nat) (fun i=>{sl:=[(1,.ptr 1 0),(6,.t (I l.length)),(8,.t (I i))],bx:=[(1,.d 5 (vR (.mk k f n m l)))]})
    (fun i=>i<=l.length/\ ∀j (h:j<l.length),j<i->wm l[j]=true) (fun i=>l.length - i) 0 (by simp) ?_ ?_
   ·exact wkZ
   rintro i ⟨hi,z⟩;rcases Nat.lt_or_ge i l.length with h|h
   ·have H:=zp h;have G:=zo (l:=l) (j:=i+1);have s:=E l[i] (by omega) (by omega) (Dg q.2 i h);cases p:wm l[i] with
    |true=>
     rw [p] at s
     repeat' ((conv=>whnf);first|(refine nv_ (.agg (vR l[i])) (by first|(simp [h,xg];done)|fail) ?_)|refine pC _ (s) ?_|refine aD1 ?_|(refine And.intro (by first|exact xd _) ?_)|refine aS ?_|refine nT_ ?_)
     refine ⟨i+1,⟨h,fun j w A=>?_⟩,by omega,?_⟩
     ·rcases Nat.lt_or_ge j i with y|y
      ·exact z j w y
      ·obtain rfl:j=i:=by omega
       exact p
     ·exact wkZ
    |false=>
     rw [p] at s;have u:vZ l=false:=by
      cases D:vZ l with
      |false=>rfl
      |true=>rw [AJ.1 D i h] at p;cases p
     rw [u]
     repeat' ((conv=>whnf);first|exact trivial|(refine nv_ (.agg (vR l[i])) (by first|(simp [h,xg];done)|fail) ?_)|refine pC _ (s) ?_|refine aD1 ?_|refine rb0 ?_|(refine And.intro (by first|exact xd _) ?_)|refine aS ?_|refine nT_ ?_)
   ·have u:vZ l=true:=AJ.2 fun j w=>z j w (by omega)
    rw [u];exact rcZ
  ·have e:(true&&(l.length==CO k)&&vZ l)=false:=by simp [g]
   rw [e];exact rcZ
end Go.MM
end
section
namespace Go.MM
open Go Go.DL Go.Proofs
mutual
def RO.wt:RO->Nat
 |.mk _ p _ _ a=>1+p.nodes+wE a
def wE:List RO->Nat
 |[]=>0
 |r::rs=>r.wt+wE rs
end
mutual
def RO.size:RO->Nat
 |.mk k p _ _ a=>1+(if k=1 then p.nodes else 0)+ye a
def ye:List RO->Nat
 |[]=>0
 |r::rs=>r.size+ye rs
end
mutual
def RO.deep:RO->Nat
 |.mk k p _ _ a=>1+max (if k=1 then p.depth else 0) (yc a)
def yc:List RO->Nat
 |[]=>0
 |r::rs=>max r.deep (yc rs)
end
mutual
theorem RO.size_le: ∀r:RO,r.size<=r.wt
 |.mk k p _ _ a=>by have:=A6 a;simp only [RO.size,RO.wt];split <;> omega
theorem A6: ∀l:List RO,ye l<=wE l
 |[]=>Nat.le_refl _
 |r::rs=>by have:=RO.size_le r;have:=A6 rs;simp only [ye,wE];omega
end
mutual
theorem RO.Ev: ∀r:RO,r.deep<=r.wt
 |.mk k p _ _ a=>by have:=AY a;have:=p.BH;simp only [RO.deep,RO.wt];split <;> omega
theorem AY: ∀l:List RO,yc l<=wE l
 |[]=>Nat.le_refl _
 |r::rs=>by have:=RO.Ev r;have:=AY rs;simp only [yc,wE];omega
end
theorem yz: ∀{l:List RO} {j:Nat} (h:j<l.length),wE (l.take (j+1))=wE (l.take j)+l[j].wt
 |r::rs,0,h=>by simp [wE]
 |r::rs,j+1,h=>by
  have:=yz (l:=rs) (j:=j) (by simpa using h)
  simp only [List.take_succ_cons,wE,List.getElem_cons_succ];omega
theorem Bm: ∀{l:List RO} {j:Nat} (h:j<l.length),ye (l.take (j+1))=ye (l.take j)+l[j].size
 |r::rs,0,h=>by simp [ye]
 |r::rs,j+1,h=>by
  have:=Bm (l:=rs) (j:=j) (by simpa using h)
  simp only [List.take_succ_cons,ye,List.getElem_cons_succ];omega
theorem Be: ∀{l:List RO} {j:Nat} (h:j<l.length),yc (l.take (j+1))=max (yc (l.take j)) l[j].deep
 |r::rs,0,h=>by simp [yc]
 |r::rs,j+1,h=>by
  have:=Be (l:=rs) (j:=j) (by simpa using h)
  simp only [List.take_succ_cons,yc,List.getElem_cons_succ];omega
theorem yx: ∀{l:List RO} {j:Nat},wE (l.take j)<=wE l
 |[],j=>by simp
 |r::rs,0=>by simp [wE]
 |r::rs,j+1=>by
  have:=yx (l:=rs) (j:=j)
  simp only [List.take_succ_cons,wE];omega
theorem RO.zr(r:RO):1<=r.wt:=by cases r;simp only [RO.wt];omega
theorem zG: ∀l:List RO,l.length<=wE l
 |[]=>Nat.le_refl _
 |r::rs=>by have:=zG rs;have:=r.zr;simp only [wE,List.length_cons];omega
theorem two{a b c d:Nat}(e:a=c)(f:b=d):[I (a:Int),I (b:Int)]=[I (c:Int),I (d:Int)]:=by rw [e,f]
theorem t89(N:Nat): ∀r:RO,r.wt<=N->N<2^60->DCalls Tryz.prog 38 [.agg (uV r)] (sz r.size r.deep):=by
 induction N with
 |zero=>intro r h;have:=r.zr;omega
 |succ N s=>
  rintro ⟨k,⟨e,b,m,g,a⟩,f,n,l⟩ C E;refine dl2 mixed [.cell 2 86] [sz _ _] Tryz.func38 l38.2 ?_;simp only [RO.size,RO.deep,RO.wt] at C ⊢;have o:=t103 _ (.mk e b m g a) (Nat.le_refl _) (by omega);have B:=(RP.mk e b m g a).BH;have q:=zG l
  by_cases p:k=1
  ·simp only [p,if_true];refine rnZ ?_;refine pC _ (t102 1 1 _ _ (by omega) (by omega) (by omega)) ?_;refine rnZ ?_;refine uA (α:=Nat) (fun i=>{sl:=[(1,.ptr 1 0),(2,.ptr 2 0),(3,.ptr 3 0),(4,.t (I i))],bx:=[(1,.d 9 (uV (.mk 1 (.mk e b m g a) f n l))),(2,.d 2 [I 0,I 0]),(3,.d 2 [I (1+(RP.mk e b m g a).nodes+ye (l.take i):Nat),I (1+max (RP.mk e b m g a).depth (yc (l.take i)):Nat)])]})
    (fun i=>i<=l.length) (fun i=>l.length - i) 0 (by omega) ?_ ?_
   ·repeat' (first|exact wJ|refine uv ?_|refine And.intro ?_ ?_)
    all_goals exact two (by simp [ye]) (by simp [yc];try omega)
   rintro i hi;rcases Nat.lt_or_ge i l.length with h|h
   ·have z:=Bm h;have hd:=Be h;have D:=yz h;have y:=yx (l:=l) (j:=i+1);have A:=l[i].zr;have u:=l[i].size_le;have v:=l[i].Ev;have w:=AY (l.take i);have x:=A6 (l.take i)
    repeat' ((conv=>whnf);first|(refine nv_ (.agg (uV l[i])) (by first|(simp [h,wP];done)|fail) ?_)|refine pC _ (s l[i] (by omega) (by omega)) ?_|refine pC _ (t102 _ _ _ _ (by omega) (by omega) (by omega)) ?_|refine aD1 ?_|(refine And.intro (by first|exact vz _) ?_)|refine aS ?_|refine nT_ ?_)
    refine ⟨i+1,by omega,by omega,?_⟩
    repeat' (first|exact wJ|refine uv ?_|refine And.intro ?_ ?_)
    exact two (by omega) (by omega)
   ·have:i=l.length:=by omega
    subst this;rw [List.take_length];exact rcZ
  ·simp only [p,if_false];refine rnZ ?_;refine uA (α:=Nat) (fun i=>{sl:=[(1,.ptr 1 0),(2,.ptr 2 0),(3,.ptr 3 0),(4,.t (I i))],bx:=[(1,.d 9 (uV (.mk k (.mk e b m g a) f n l))),(2,.d 2 [I 0,I 0]),(3,.d 2 [I (1+0+ye (l.take i):Nat),I (1+max 0 (yc (l.take i)):Nat)])]})
    (fun i=>i<=l.length) (fun i=>l.length - i) 0 (by omega) ?_ ?_
   ·exact wkZ
    all_goals exact two (by simp [ye]) (by simp [yc];try omega)
   rintro i hi;rcases Nat.lt_or_ge i l.length with h|h
   ·have z:=Bm h;have hd:=Be h;have D:=yz h;have y:=yx (l:=l) (j:=i+1);have A:=l[i].zr;have u:=l[i].size_le;have v:=l[i].Ev;have w:=AY (l.take i);have x:=A6 (l.take i)
    repeat' ((conv=>whnf);first|(refine nv_ (.agg (uV l[i])) (by first|(simp [h,wP];done)|fail) ?_)|refine pC _ (s l[i] (by omega) (by omega)) ?_|refine pC _ (t102 _ _ _ _ (by omega) (by omega) (by omega)) ?_|refine aD1 ?_|(refine And.intro (by first|exact vz _) ?_)|refine aS ?_|refine nT_ ?_)
    refine ⟨i+1,by omega,by omega,?_⟩
    repeat' (first|exact wJ|refine uv ?_|refine And.intro ?_ ?_)
    exact two (by omega) (by omega)
   ·have:i=l.length:=by omega
    subst this;rw [List.take_length];exact rcZ
def EE(n d:Nat):Int:=if n<=200/\d<=20 then 0 else 2
theorem t101(n d:Nat):DCalls Tryz.prog 199 [sz n d] (I (EE n d)):=by
 refine dl2 mixed [.tmp 2] [.int _ _] Tryz.func199 PM.2 ?_;unfold EE
 by_cases a:n<=200
 ·by_cases b:d<=20
  ·rw [if_pos ⟨a,b⟩];exact rcZ
  ·rw [if_neg (by omega)];exact rcZ
 ·rw [if_neg (by omega)];exact rcZ
def CR(e:Int)(b:Bool):Int:=if e=0 then (if b then 0 else 1) else e
theorem t88(n d:Nat)(b:Bool):DCalls Tryz.prog 187 [sz n d,.bool b] (I (CR (EE n d) b)):=by
 refine dl2 mixed [.tmp 4] [.int _ _] Tryz.func187 PD.2 ?_;have h:=t101 n d;generalize EE n d=e at *
 unfold CR
 by_cases a:e=0
 ·subst a;cases b <;> repeat' ((conv=>whnf);first|refine pC _ (h) ?_|refine aE1 ?_|refine rix ?_|refine aS ?_|exact trivial)
 ·rw [if_neg a];exact rcZ
def CN(k:Int):Nat:=if k=3\/k=4 then 2 else if k=5 then 1 else 0
def B3(f:ByteArray)(n:Int):Bool:=uU f e0&&(n==0)
def okO(k:Int)(p:RP)(f:ByteArray)(n:Int):Bool:=
 if k=1 then wm p&&B3 f n
 else if k=2 then wz f&&zR p&&decide (0<=n)&&decide (n<=65535)
 else if k=3\/k=4\/k=5 then zR p&&B3 f n
 else false
mutual
def vV:RO->Bool
 |.mk k p f n a=>okO k p f n&&(a.length==CN k)&&vY a
def vY:List RO->Bool
 |[]=>true
 |r::rs=>vV r&&vY rs
end
theorem AI: ∀{l:List RO},vY l=true↔ ∀(i:Nat) (h:i<l.length),vV l[i]=true
 |[]=>by simp [vY]
 |r::rs=>by
  simp only [vY,Bool.and_eq_true,AI (l:=rs)];constructor
  ·rintro ⟨a,h⟩ i hi;cases i with
   |zero=>exact a
   |succ i=>simpa using h i (by simpa using hi)
  ·intro h;exact ⟨h 0 (by simp),fun i hi=>h (i+1) (by simpa using hi)⟩
mutual
def AR:RO->Prop
 |.mk _ p f _ a=>Cx p/\f.size<2^62/\Bv a
def Bv:List RO->Prop
 |[]=>True
 |r::rs=>AR r/\Bv rs
end
theorem Df: ∀{l:List RO},Bv l-> ∀(i:Nat) (h:i<l.length),AR l[i]
 |[],_,i,h=>by simp at h
 |r::rs,h,i,hi=>by
  cases i with
  |zero=>exact h.1
  |succ i=>simpa using Df h.2 i (by simpa using hi)
theorem t90(N:Nat): ∀r:RO,r.wt<=N->N<2^60->AR r->DCalls Tryz.prog 188 [.agg (uV r)] (.bool (vV r)):=by
 induction N with
 |zero=>intro r h;have:=r.zr;omega
 |succ N O=>
  rintro ⟨k,⟨p,o,s,q,m⟩,f,n,l⟩ L P ⟨A,B,C⟩;refine dl2 mixed [.tmp 2] [.bool _] Tryz.func188 PE.2 ?_;simp only [RO.wt,vV] at L ⊢;have D:=t104 f B;have E:=t105 (.mk p o s q m);have u:=t106 _ (.mk p o s q m) (Nat.le_refl _) (by omega) A;refine rnZ ?_;refine uE (β:=Unit) (fun _=>{sl:=[(1,.ptr 1 0),(3,.t (.bool (wz f))),(4,.t (.bool (zR (.mk p o s q m)))),(5,.t (.bool (B3 f n)))],bx:=[(1,.d 9 (uV (.mk k (.mk p o s q m) f n l)))]}) (fun _=>True) ?_ ?_
  ·unfold B3;have H:=vE f e0;generalize uU f e0=b at *
   repeat' ((conv=>whnf);first|refine nb_ b H ?_|(exact ⟨(),trivial,wkZ⟩)|refine nT_ ?_|refine nE_ (fun w=>?_) (fun w=>?_)|refine aS ?_|(cases b))
  rintro _ _;refine rnZ ?_;refine uE (β:=Unit) (fun _=>{sl:=[(1,.ptr 1 0),(6,.t (I (CN k))),(7,.t (.bool (okO k (.mk p o s q m) f n)))],bx:=[(1,.d 9 (uV (.mk k (.mk p o s q m) f n l)))]}) (fun _=>True) ?_ ?_
  ·unfold okO CN;generalize wz f=a at *
   generalize wm (.mk p o s q m)=b at *
   generalize B3 f n=c at *
   generalize zR (.mk p o s q m)=d at *
   repeat' ((conv=>whnf);first|refine pC _ (u) ?_|(exact ⟨(),trivial,wkZ⟩)|refine nT_ ?_|refine nE_ (fun w=>?_) (fun w=>?_)|refine nD_ (fun w=>?_) (fun w=>?_)|refine aS ?_|(cases a)|(cases b)|(cases d))
  rintro _ _;generalize okO k (.mk p o s q m) f n=ok at *
  cases ok with
  |false=>exact rcZ
  |true=>
  by_cases g:l.length=CN k
  ·have e:(true&&(l.length==CN k)&&vY l)=vY l:=by simp [g]
   rw [e, <-g];have K:=zG l;refine rnZ ?_;refine uA (α:=Nat) (fun i=>{sl:=[(1,.ptr 1 0),(6,.t (I l.length)),(8,.t (I i))],bx:=[(1,.d 9 (uV (.mk k (.mk p o s q m) f n l)))]})
    (fun i=>i<=l.length/\ ∀j (h:j<l.length),j<i->vV l[j]=true) (fun i=>l.length - i) 0 (by simp) ?_ ?_
   ·exact wkZ
   rintro i ⟨hi,G⟩;rcases Nat.lt_or_ge i l.length with h|h
   ·have R:=yz h;have Q:=yx (l:=l) (j:=i+1);have x:=O l[i] (by omega) (by omega) (Df C i h);cases v:vV l[i] with
    |true=>
     rw [v] at x
     repeat' ((conv=>whnf);first|(refine nv_ (.agg (uV l[i])) (by first|(simp [h,wP];done)|fail) ?_)|refine pC _ (x) ?_|refine aD1 ?_|(refine And.intro (by first|exact vz _) ?_)|refine aS ?_|refine nT_ ?_)
     refine ⟨i+1,⟨h,fun j z J=>?_⟩,by omega,?_⟩
     ·rcases Nat.lt_or_ge j i with F|F
      ·exact G j z F
      ·obtain rfl:j=i:=by omega
       exact v
     ·exact wkZ
    |false=>
     rw [v] at x;have y:vY l=false:=by
      cases M:vY l with
      |false=>rfl
      |true=>rw [AI.1 M i h] at v;cases v
     rw [y]
     repeat' ((conv=>whnf);first|exact trivial|(refine nv_ (.agg (uV l[i])) (by first|(simp [h,wP];done)|fail) ?_)|refine pC _ (x) ?_|refine aD1 ?_|refine rb0 ?_|(refine And.intro (by first|exact vz _) ?_)|refine aS ?_|refine nT_ ?_)
   ·have y:vY l=true:=AI.2 fun j z=>G j z (by omega)
    rw [y];exact rcZ
  ·have e:(true&&(l.length==CN k)&&vY l)=false:=by simp [g]
   rw [e];exact rcZ
def wH(r:RO):Int:=CR (EE r.size r.deep) (vV r)
theorem t63(r:RO)(a:r.wt<2^60)(b:AR r):DCalls Tryz.prog 171 [.agg (uV r)] (I (wH r)):=by
 refine dl2 mixed [.tmp 2] [.int _ _] Tryz.func171 Pu.2 ?_;have d:=t89 _ r (Nat.le_refl _) a;have e:=t90 _ r (Nat.le_refl _) a b;have f:=t88 r.size r.deep (vV r);have g:=vz r;unfold wH;exact rcZ
end Go.MM
end
section
namespace Go.MM
open Go Go.DL Go.Proofs
structure RF where
 name:ByteArray
 a:Int
 w:Int
deriving Inhabited
def xc(f:RF):List T:=[.str f.name,I f.a,I f.w]
def xU(f:RF):T:=.agg (xc f)
def zH(l:List RF):T:=.slice 3 (l.map xU)
def at8(s:ByteArray)(i:Nat):Bool:=yg (yi s i)||((zQ (yi s i)||yi s i==95)&& !(i==0))
def FK(s:ByteArray):Bool:=(List.range s.size).all fun i=>at8 s i
def zL(s:ByteArray):Bool:=FK s&&(decide (1<=s.size)&&decide (s.size<=24))
theorem t69(s:ByteArray)(o:s.size<2^62):DCalls Tryz.prog 87 [.str s] (.bool (zL s)):=by
 refine dl2 mixed [.tmp 2] [.bool _] Tryz.func87 l87.2 ?_
 skip
 refine uA (α:=Nat) (fun i=>{sl:=[(0,.t (.str s)),(3,.t (I i))],bx:=[]})
  (fun i=>i<=s.size/\ ∀j,j<i->at8 s j=true) (fun i=>s.size - i) 0 (by simp) ?_ ?_
 ·exact wkZ
 rintro i ⟨hi,m⟩;rcases Nat.lt_or_ge i s.size with h|h
 ·have b:at8 s i=true->i+1<=s.size/\ ∀j,j<i+1->at8 s j=true:=fun f=>by
   refine ⟨h,fun j l=>?_⟩;rcases Nat.lt_or_ge j i with k|k
   ·exact m j k
   ·obtain rfl:j=i:=by omega
    exact f
  have d:at8 s i=false->zL s=false:=fun f=>by
   unfold zL
   have:FK s=false:=by
    unfold FK;rw [List.all_eq_false];exact ⟨i,by simpa using h,by simp [f]⟩
   rw [this];rfl
  have a:at8 s i=false->false=zL s:=fun f=>(d f).symm
  clear d;rw [show at8 s i=(yg (yi s i)||((zQ (yi s i)||yi s i==95)&& !(i==0))) from rfl] at b a;have n:((s.toList[i]?.getD 0).toNat:Int)=yi s i:=rfl;generalize zL s=N at *
  generalize yi s i=c at *
  repeat' ((conv=>whnf);first|(refine nv_ (U c) (by first|exact congrArg U n) ?_)|(exact rb (x:=false) (a (by simp [yg,zQ];omega)) trivial)|(exact ⟨i+1,b (by simp [yg,zQ];omega),by omega,wkZ⟩)|refine aE0 ?_|refine aD1 ?_|refine aD0 ?_|refine nE_ (fun g=>?_) (fun g=>?_)|refine nD_ (fun g=>?_) (fun g=>?_)|refine aS ?_|fail)
 ·have e:FK s=true:=by
   unfold FK;rw [List.all_eq_true];intro j l;exact m j (by simp at l;omega)
  unfold zL;rw [e];exact rcZ
def yM(f:RF):Bool:=decide (1<=f.w)&&decide (f.w<=16)&&decide (16<=f.a)&&decide (f.a<=143)&&decide (f.a % 16+f.w<=16)
theorem M0{a:Int}(h:0<=a):a.tmod 16=a % 16:=Int.tmod_eq_emod_of_nonneg h
theorem t70(f:RF):DCalls Tryz.prog 88 [xU f] (.bool (yM f)):=by
 obtain ⟨s,a,w⟩:=f;refine dl2 mixed [.tmp 2] [.bool _] Tryz.func88 l88.2 ?_;simp only [yM]
 by_cases b:16<=a
 ·have e:=M0 (a:=a) (by omega)
  by_cases g:1<=w
  ·by_cases h:w<=16
   ·by_cases i:a<=143
    ·have j:IntKind.wrap .i64 (a.tmod 16+w)=a % 16+w:=by rw [e,oA] <;> omega
     have d:(decide (1<=w)&&decide (w<=16)&&decide (16<=a)&&decide (a<=143)&&decide (a % 16+w<=16))=decide (a % 16+w<=16):=by simp [b,g,h,i]
     rw [d]
     by_cases k:a % 16+w<=16
     ·exact rcZ
     ·exact rcZ
    ·exact rcZ
   ·exact rcZ
  ·exact rcZ
 ·exact rcZ
def By(f:RF):Prop:= -1000<=f.a/\f.a<=1000/\ -1000<=f.w/\f.w<=1000
def yC(f g:RF):Bool:=decide (f.a<g.a+g.w)&&decide (g.a<f.a+f.w)
theorem t71(f g:RF)(d:By f)(e:By g):DCalls Tryz.prog 89 [xU f,xU g] (.bool (yC f g)):=by
 obtain ⟨s,a,w⟩:=f;obtain ⟨s',b,v⟩:=g;simp only [By] at d e;refine dl2 mixed [.tmp 4] [.bool _] Tryz.func89 l89.2 ?_;simp only [yC];have h:IntKind.wrap .i64 (b+v)=b+v:=oA (by omega) (by omega);have i:IntKind.wrap .i64 (a+w)=a+w:=oA (by omega) (by omega)
 by_cases j:a<b+v
 ·by_cases k:b<a+w
  ·exact rcZ
  ·exact rcZ
 ·exact rcZ
def wG(l:List RF)(i:Nat)(f:RF):Int:=
 if zL f.name=false\/uU f.name xF=true then 4
 else if ((l.take i).any fun g=>uU g.name f.name)=true then 4
 else if yM f=false then 1
 else if ((l.take i).any fun g=>yC g f)=true then 1 else 0
def vT:List Int->Int
 |[]=>0
 |x::xs=>if x≠0 then x else vT xs
theorem Af: ∀{l:List Int} {i:Nat} (h:i<l.length),(∀ j (a:j<l.length),j<i->l[j]=0)->l[i]≠0->vT l=l[i]
 |x::xs,0,h,_,h0=>by simp at h0;simp [vT,h0]
 |x::xs,i+1,h,hz,h0=>by
  have d:x=0:=hz 0 (by simp) (by omega);simp only [vT,d,ne_eq,not_true_eq_false,if_false];exact Af (by simpa using h) (fun j a b=>hz (j+1) (by simpa using a) (by omega)) (by simpa using h0)
theorem AZ: ∀{l:List Int},(∀ j (a:j<l.length),l[j]=0)->vT l=0
 |[],_=>rfl
 |x::xs,hz=>by
  have b:x=0:=hz 0 (by simp);simp only [vT,b,ne_eq,not_true_eq_false,if_false];exact AZ fun j a=>hz (j+1) (by simpa using a)
def AA(l:List RF):Int:=if l.length>16 then 2 else vT (l.mapIdx fun i f=>wG l i f)
theorem CB{f:RF}(h:yM f=true):By f:=by
 simp [yM] at h;unfold By;omega
theorem zu{p:RF->Bool}{l:List RF}{i:Nat}(hi:i<=l.length):((l.take i).any p=true)↔ ∃j, ∃h:j<l.length,j<i/\p l[j]=true:=by
 rw [List.any_eq_true];constructor
 ·rintro ⟨x,e,a⟩;obtain ⟨j,b,rfl⟩:=List.getElem_of_mem e;simp at b;exact ⟨j,by omega,by omega,by simpa using a⟩
 ·rintro ⟨j,h,d,a⟩;exact ⟨l[j],List.mem_take_iff_getElem.2 ⟨j,by omega,rfl⟩,a⟩
theorem t47(l:List RF)(P:l.length<2^60)(O: ∀f∈l,f.name.size<2^62):DCalls Tryz.prog 36 [zH l] (I (AA l)):=by
 refine dl2 mixed [.tmp 2] [.int _ _] Tryz.func36 l36.2 ?_;unfold AA
 by_cases C:l.length>16
 ·rw [if_pos C];exact rcZ
 rw [if_neg C];refine rnZ ?_;refine uA (α:=Nat) (fun i=>{sl:=[(0,.t (zH l)),(3,.t (I i))],bx:=[]})
  (fun i=>i<=l.length/\ ∀j (h:j<l.length),j<i->wG l j l[j]=0) (fun i=>l.length - i) 0 (by simp) ?_ ?_
 ·exact wkZ
 rintro i ⟨hi,G⟩;rcases Nat.lt_or_ge i l.length with h|h
 ·have res: ∀e,wG l i l[i]=e->e≠0->vT (l.mapIdx fun i f=>wG l i f)=e:=fun e M H=>by
   have:=Af (l:=l.mapIdx fun i f=>wG l i f) (i:=i) (by simpa using h) (fun j a b=>by simpa using G j (by simpa using a) b) (by simpa [M] using H)
   rw [this];simpa using M
  have next:wG l i l[i]=0->i+1<=l.length/\ ∀j (h:j<l.length),j<i+1->wG l j l[j]=0:=fun H=>by
   refine ⟨h,fun j a b=>?_⟩;rcases Nat.lt_or_ge j i with u|u
   ·exact G j a u
   ·obtain rfl:j=i:=by omega
    exact H
  have small: ∀k (J:k<l.length),k<i->By l[k]:=fun k J b=>by
   have:=G k J b
   unfold wG at this;split at this; ·omega
   split at this; ·omega
   split at this; ·omega
   rename_i N;exact CB (by simpa using N)
  have n:=t69 l[i].name (O _ (List.getElem_mem h));have p:=t70 l[i];have s1:=vE l[i].name xF;cases v:zL l[i].name with
  |false=>
   rw [v] at n;rw [res 4 (by unfold wG;simp [v]) (by decide)]
   repeat' ((conv=>whnf);first|exact trivial|(refine nv_ (.agg (xc l[i])) (by first|(simp [h,xU];done)|fail) ?_)|refine pC _ (n) ?_|refine aD1 ?_|refine rix ?_|refine aS ?_|refine nT_ ?_)
  |true=>
  rw [v] at n;cases w:uU l[i].name xF with
  |true=>
   rw [w] at s1;rw [res 4 (by unfold wG;simp [w]) (by decide)]
   repeat' ((conv=>whnf);first|exact trivial|(refine nv_ (.agg (xc l[i])) (by first|(simp [h,xU];done)|fail) ?_)|refine pC _ (n) ?_|refine nb_ true s1 ?_|refine aD1 ?_|refine rix ?_|refine aS ?_|refine nT_ ?_)
  |false=>
  rw [w] at s1
  repeat' ((conv=>whnf);first|(refine nv_ (.agg (xc l[i])) (by first|(simp [h,xU];done)|fail) ?_)|refine pC _ (n) ?_|refine nb_ false s1 ?_|refine aD1 ?_|refine aS ?_|refine nT_ ?_)
  refine uA (α:=Nat) (fun k=>{sl:=[(0,.t (zH l)),(3,.t (I i)),(5,.t (I k))],bx:=[]})
   (fun k=>k<=i/\ ∀j (a:j<l.length),j<k->uU l[j].name l[i].name=false) (fun k=>i - k) 0 (by simp) ?_ ?_
  ·exact wkZ
  rintro k ⟨J,E⟩;rcases Nat.lt_or_ge k i with D|D
  ·have y:k<l.length:=by omega
   have s2:=vE l[k].name l[i].name;cases r:uU l[k].name l[i].name with
   |true=>
    rw [r] at s2;rw [res 4 (by unfold wG;rw [if_neg (by simp [v,w]),if_pos ((zu (by omega)).2 ⟨k,y,D,r⟩)]) (by decide)]
    repeat' ((conv=>whnf);first|exact trivial|(refine nv_ (.agg (xc l[k])) (by first|(simp [y,xU];done)|fail) ?_)|(refine nv_ (.agg (xc l[i])) (by first|(simp [h,xU];done)|fail) ?_)|refine nb_ true s2 ?_|refine aD1 ?_|refine rix ?_|refine aS ?_|refine nT_ ?_)
   |false=>
    rw [r] at s2
    repeat' ((conv=>whnf);first|(refine nv_ (.agg (xc l[k])) (by first|(simp [y,xU];done)|fail) ?_)|(refine nv_ (.agg (xc l[i])) (by first|(simp [h,xU];done)|fail) ?_)|refine nb_ false s2 ?_|refine aD1 ?_|refine aS ?_|refine nT_ ?_)
    refine ⟨k+1,⟨by omega,fun j a b=>?_⟩,by omega,?_⟩
    ·rcases Nat.lt_or_ge j k with u|u
     ·exact E j a u
     ·obtain rfl:j=k:=by omega
      exact r
    ·exact wkZ
  obtain rfl:k=i:=by omega
  have d: ¬((l.take k).any fun g=>uU g.name l[k].name)=true:=fun K=>by
   obtain ⟨j,a,x,o⟩:=(zu hi).1 K;rw [E j a x] at o;cases o
  cases A:yM l[k] with
  |false=>
   rw [A] at p;rw [res 1 (by unfold wG;rw [if_neg (by simp [v,w]),if_neg d,if_pos A]) (by decide)]
   repeat' ((conv=>whnf);first|exact trivial|(refine nv_ (.agg (xc l[k])) (by first|(simp [h,xU];done)|fail) ?_)|refine pC _ (p) ?_|refine aD0 ?_|refine rix ?_|refine aS ?_|refine nT_ ?_)
  |true=>
  rw [A] at p;have L:=CB A
  repeat' ((conv=>whnf);first|(refine nv_ (.agg (xc l[k])) (by first|(simp [h,xU];done)|fail) ?_)|refine pC _ (p) ?_|refine aD0 ?_|refine aS ?_|refine nT_ ?_)
  refine uA (α:=Nat) (fun m=>{sl:=[(0,.t (zH l)),(3,.t (I k)),(7,.t (I m))],bx:=[]})
   (fun m=>m<=k/\ ∀j (a:j<l.length),j<m->yC l[j] l[k]=false) (fun m=>k - m) 0 (by simp) ?_ ?_
  ·exact wkZ
  rintro m ⟨Q,F⟩;rcases Nat.lt_or_ge m k with z|z
  ·have s:m<l.length:=by omega
   have q:=t71 l[m] l[k] (small m s z) L;cases r:yC l[m] l[k] with
   |true=>
    rw [r] at q;rw [res 1 (by unfold wG;rw [if_neg (by simp [v,w]),if_neg d,if_neg (by simp [A]),if_pos ((zu (by omega)).2 ⟨m,s,z,r⟩)]) (by decide)]
    repeat' ((conv=>whnf);first|exact trivial|(refine nv_ (.agg (xc l[m])) (by first|(simp [s,xU];done)|fail) ?_)|(refine nv_ (.agg (xc l[k])) (by first|(simp [h,xU];done)|fail) ?_)|refine pC _ (q) ?_|refine aD1 ?_|refine rix ?_|refine aS ?_|refine nT_ ?_)
   |false=>
    rw [r] at q
    repeat' ((conv=>whnf);first|(refine nv_ (.agg (xc l[m])) (by first|(simp [s,xU];done)|fail) ?_)|(refine nv_ (.agg (xc l[k])) (by first|(simp [h,xU];done)|fail) ?_)|refine pC _ (q) ?_|refine aD1 ?_|refine aS ?_|refine nT_ ?_)
    refine ⟨m+1,⟨by omega,fun j a b=>?_⟩,by omega,?_⟩
    ·rcases Nat.lt_or_ge j m with u|u
     ·exact F j a u
     ·obtain rfl:j=m:=by omega
      exact r
    ·exact wkZ
  obtain rfl:m=k:=by omega
  have B: ¬((l.take m).any fun g=>yC g l[m])=true:=fun K=>by
   obtain ⟨j,a,x,o⟩:=(zu hi).1 K;rw [F j a x] at o;cases o
  have e0:wG l m l[m]=0:=by unfold wG;rw [if_neg (by simp [v,w]),if_neg d,if_neg (by simp [A]),if_neg B]
  refine rnZ ?_;(exact ⟨m+1,next e0,by omega,wkZ⟩)
 ·rw [AZ fun j a=>by simpa using G j (by simpa using a) (by simp at a;omega)];exact rcZ
mutual
def wK:RP->List RP
 |.mk k f n m a=>.mk k f n m a::wB a
def wB:List RP->List RP
 |[]=>[]
 |r::rs=>wK r++wB rs
end
mutual
theorem B6: ∀r:RP,(wK r).length=r.nodes
 |.mk k f n m a=>by simp only [wK,List.length_cons,Bi a,RP.nodes];omega
theorem Bi: ∀l:List RP,(wB l).length=vM l
 |[]=>rfl
 |r::rs=>by simp only [wB,List.length_append,B6 r,Bi rs,vM]
end
theorem Cz: ∀{l:List RP} {j:Nat} (h:j<l.length),wB (l.take (j+1))=wB (l.take j)++wK l[j]
 |r::rs,0,h=>by simp [wB]
 |r::rs,j+1,h=>by
  have:=Cz (l:=rs) (j:=j) (by simpa using h)
  simp only [List.take_succ_cons,wB,List.getElem_cons_succ,this,List.append_assoc]
theorem t91(N:Nat): ∀r:RP,r.nodes<=N->N<2^40->DCalls Tryz.prog 190 [.agg (vR r)] (.slice 5 ((wK r).map zh)):=by
 induction N with
 |zero=>intro r h;have:=r.xR;omega
 |succ N g=>
  rintro ⟨k,f,n,m,l⟩ e u;refine dl2 mixed [.tmp 2] [.slice 5 _] Tryz.func190 PG.2 ?_;simp only [RP.nodes,wK] at e ⊢;have v:=zM l;refine rnZ ?_;refine uA (α:=Nat×Nat) (fun q=>{sl:=[(1,.ptr 1 0),(3,.own q.1 36 5 ((RP.mk k f n m l::wB (l.take q.2)).map zh)),(4,.t (I q.2))],bx:=[(1,.d 5 (vR (.mk k f n m l)))]})
   (fun q=>q.2<=l.length) (fun q=>l.length - q.2) (6,0) (by simp) ?_ ?_
  ·repeat' (first|exact wJ|refine rM ?_|refine And.intro ?_ ?_)
   simp [wB,xg]
  rintro ⟨o,i⟩ hi;dsimp only at hi;rcases Nat.lt_or_ge i l.length with h|h
  ·have x:=zp h;have w:=zo (l:=l) (j:=i+1);have b:=g l[i] (by omega) (by omega);have p:=B6 l[i];have s:=Bi (l.take i);have a:=Cz h
   repeat' ((conv=>whnf);first|(refine nv_ (.agg (vR l[i])) (by first|(simp [h,xg];done)|fail) ?_)|refine pC _ (b) ?_|refine aD1 ?_|(refine And.intro (by first|exact xd _|((simp only [List.length_map,List.length_cons];omega);done)|fail) ?_)|refine aS ?_|refine nT_ ?_)
   refine ⟨(21,i+1),by dsimp only;omega,by dsimp only;omega,?_⟩
   repeat' (first|exact wJ|refine rM ?_|refine And.intro ?_ ?_)
   simp [a]
  ·have:i=l.length:=by omega
   subst this;rw [List.take_length];exact rcZ
mutual
def wA:RO->List RO
 |.mk k p f n a=>.mk k p f n a::wo a
def wo:List RO->List RO
 |[]=>[]
 |r::rs=>wA r++wo rs
end
mutual
def RO.cnt:RO->Nat
 |.mk _ _ _ _ a=>1+CP a
def CP:List RO->Nat
 |[]=>0
 |r::rs=>r.cnt+CP rs
end
mutual
theorem RO.FT: ∀r:RO,r.cnt<=r.wt
 |.mk k p _ _ a=>by have:=Dt a;simp only [RO.cnt,RO.wt];omega
theorem Dt: ∀l:List RO,CP l<=wE l
 |[]=>Nat.le_refl _
 |r::rs=>by have:=RO.FT r;have:=Dt rs;simp only [CP,wE];omega
end
mutual
theorem B7: ∀r:RO,(wA r).length=r.cnt
 |.mk k p f n a=>by simp only [wA,List.length_cons,Bj a,RO.cnt];omega
theorem Bj: ∀l:List RO,(wo l).length=CP l
 |[]=>rfl
 |r::rs=>by simp only [wo,List.length_append,B7 r,Bj rs,CP]
end
theorem CA: ∀{l:List RO} {j:Nat} (h:j<l.length),wo (l.take (j+1))=wo (l.take j)++wA l[j]
 |r::rs,0,h=>by simp [wo]
 |r::rs,j+1,h=>by
  have:=CA (l:=rs) (j:=j) (by simpa using h)
  simp only [List.take_succ_cons,wo,List.getElem_cons_succ,this,List.append_assoc]
theorem t64(N:Nat): ∀r:RO,r.wt<=N->N<2^40->DCalls Tryz.prog 173 [.agg (uV r)] (.slice 9 ((wA r).map yH)):=by
 induction N with
 |zero=>intro r h;have:=r.zr;omega
 |succ N v=>
  rintro ⟨k,⟨e,b,m,g,a⟩,f,n,l⟩ u A;refine dl2 mixed [.tmp 2] [.slice 9 _] Tryz.func173 Pw.2 ?_;simp only [RO.wt,wA] at u ⊢;have B:=zG l;refine rnZ ?_;refine uA (α:=Nat×Nat) (fun q=>{sl:=[(1,.ptr 1 0),(3,.own q.1 39 9 ((RO.mk k (.mk e b m g a) f n l::wo (l.take q.2)).map yH)),(4,.t (I q.2))],bx:=[(1,.d 9 (uV (.mk k (.mk e b m g a) f n l)))]})
   (fun q=>q.2<=l.length) (fun q=>l.length - q.2) (6,0) (by simp) ?_ ?_
  ·repeat' (first|exact wJ|refine rM ?_|refine And.intro ?_ ?_)
   simp [wo,wP]
  rintro ⟨o,i⟩ hi;dsimp only at hi;rcases Nat.lt_or_ge i l.length with h|h
  ·have D:=yz h;have C:=yx (l:=l) (j:=i+1);have s:=v l[i] (by omega) (by omega);have w:=B7 l[i];have x:=Bj (l.take i);have p:=CA h;have y:=Dt (l.take i);have z:=l[i].FT
   repeat' ((conv=>whnf);first|(refine nv_ (.agg (uV l[i])) (by first|(simp [h,wP];done)|fail) ?_)|refine pC _ (s) ?_|refine aD1 ?_|(refine And.intro (by first|exact vz _|((simp only [List.length_map,List.length_cons];omega);done)|fail) ?_)|refine aS ?_|refine nT_ ?_)
   refine ⟨(21,i+1),by dsimp only;omega,by dsimp only;omega,?_⟩
   repeat' (first|exact wJ|refine rM ?_|refine And.intro ?_ ?_)
   simp [p]
  ·have:i=l.length:=by omega
   subst this;rw [List.take_length];exact rcZ
mutual
def RO.xt:RO->Nat
 |.mk k _ _ _ a=>yf a+(if k=5 then 1 else 0)
def yf:List RO->Nat
 |[]=>0
 |r::rs=>max r.xt (yf rs)
end
mutual
def RO.Ad:RO->Nat
 |.mk k _ _ _ a=>Am a+(if k=2 then 1 else 0)
def Am:List RO->Nat
 |[]=>0
 |r::rs=>r.Ad+Am rs
end
mutual
theorem RO.GC: ∀r:RO,r.xt<=r.wt
 |.mk k p _ _ a=>by have:=A7 a;have:=p.xR;simp only [RO.xt,RO.wt];split <;> omega
theorem A7: ∀l:List RO,yf l<=wE l
 |[]=>Nat.le_refl _
 |r::rs=>by have:=RO.GC r;have:=A7 rs;simp only [yf,wE];omega
end
mutual
theorem RO.Hg: ∀r:RO,r.Ad<=r.wt
 |.mk k p _ _ a=>by have:=B9 a;have:=p.xR;simp only [RO.Ad,RO.wt];split <;> omega
theorem B9: ∀l:List RO,Am l<=wE l
 |[]=>Nat.le_refl _
 |r::rs=>by have:=RO.Hg r;have:=B9 rs;simp only [Am,wE];omega
end
theorem Dl: ∀{l:List RO} {j:Nat} (h:j<l.length),yf (l.take (j+1))=max (yf (l.take j)) l[j].xt
 |r::rs,0,h=>by simp [yf]
 |r::rs,j+1,h=>by
  have:=Dl (l:=rs) (j:=j) (by simpa using h)
  simp only [List.take_succ_cons,yf,List.getElem_cons_succ];omega
theorem Ed: ∀{l:List RO} {j:Nat} (h:j<l.length),Am (l.take (j+1))=Am (l.take j)+l[j].Ad
 |r::rs,0,h=>by simp [Am]
 |r::rs,j+1,h=>by
  have:=Ed (l:=rs) (j:=j) (by simpa using h)
  simp only [List.take_succ_cons,Am,List.getElem_cons_succ];omega
theorem t60(N:Nat): ∀r:RO,r.wt<=N->N<2^60->DCalls Tryz.prog 93 [.agg (uV r)] (I r.Ad):=by
 induction N with
 |zero=>intro r h;have:=r.zr;omega
 |succ N m=>
  rintro ⟨k,⟨q,p,u,s,o⟩,f,n,l⟩ g x;refine dl2 mixed [.tmp 2] [.int _ _] Tryz.func93 l93.2 ?_;simp only [RO.wt,RO.Ad] at g ⊢;have y:=zG l;refine rnZ ?_;refine uA (α:=Nat) (fun i=>{sl:=[(1,.ptr 1 0),(3,.t (I (Am (l.take i):Nat))),(4,.t (I i))],bx:=[(1,.d 9 (uV (.mk k (.mk q p u s o) f n l)))]})
   (fun i=>i<=l.length) (fun i=>l.length - i) 0 (by simp) ?_ ?_
  ·exact wkZ
  rintro i hi;rcases Nat.lt_or_ge i l.length with h|h
  ·have A:=yz h;have z:=yx (l:=l) (j:=i+1);have e:=m l[i] (by omega) (by omega);have b:=B9 (l.take i);have v:=l[i].Hg;have w:=Ed h
   repeat' ((conv=>whnf);first|(refine nv_ (.agg (uV l[i])) (by first|(simp [h,wP];done)|fail) ?_)|refine pC _ (e) ?_|refine aD1 ?_|(refine And.intro (by first|exact vz _) ?_)|refine aS ?_|refine nT_ ?_)
   refine ⟨i+1,by omega,by omega,?_⟩;exact wkZ
  ·have:i=l.length:=by omega
   subst this;rw [List.take_length];have b:=B9 l
   by_cases a:k=2
   ·simp only [a,if_true];exact rcZ
   ·simp only [a,if_false];exact rcZ
theorem t59(N:Nat): ∀r:RO,r.wt<=N->N<2^60->DCalls Tryz.prog 39 [.agg (uV r)] (I r.xt):=by
 induction N with
 |zero=>intro r h;have:=r.zr;omega
 |succ N o=>
  rintro ⟨k,⟨s,q,v,u,p⟩,f,n,l⟩ m y;refine dl2 mixed [.tmp 2] [.int _ _] Tryz.func39 l39.2 ?_;simp only [RO.wt,RO.xt] at m ⊢;have z:=zG l;refine rnZ ?_;refine uA (α:=Nat) (fun i=>{sl:=[(1,.ptr 1 0),(3,.t (I (yf (l.take i):Nat))),(4,.t (I i))],bx:=[(1,.d 9 (uV (.mk k (.mk s q v u p) f n l)))]})
   (fun i=>i<=l.length) (fun i=>l.length - i) 0 (by simp) ?_ ?_
  ·exact wkZ
  rintro i hi;rcases Nat.lt_or_ge i l.length with h|h
  ·have B:=yz h;have A:=yx (l:=l) (j:=i+1);have g:=o l[i] (by omega) (by omega);have b:=A7 (l.take i);have w:=l[i].GC;have e:=Dl h;have x:((yf (l.take (i+1)):Nat):Int)=if ((l[i].xt:Nat):Int)>(yf (l.take i):Nat) then ((l[i].xt:Nat):Int) else (yf (l.take i):Nat):=by rw [e];split <;> omega
   repeat' ((conv=>whnf);first|(refine nv_ (.agg (uV l[i])) (by first|(simp [h,wP];done)|fail) ?_)|refine pC _ (g) ?_|refine aD1 ?_|(refine And.intro (by first|exact vz _) ?_)|refine aS ?_|refine nT_ ?_)
   refine ⟨i+1,by omega,by omega,?_⟩;exact wkZ
  ·have:i=l.length:=by omega
   subst this;rw [List.take_length];have b:=A7 l
   by_cases a:k=5
   ·simp only [a,if_true];exact rcZ
   ·simp only [a,if_false];exact rcZ
def Bu(n k:Nat):Bool:=(n==0)||((n==1)&&decide (k<=8))||((n==2)&&decide (k<=4))||((n==3)&&decide (k<=3))||((n==4)&&decide (k<=2))
theorem t38(r:RO)(a:r.wt<2^60):DCalls Tryz.prog 40 [.agg (uV r)] (.bool (Bu r.xt r.Ad)):=by
 refine dl2 mixed [.tmp 2] [.bool _] Tryz.func40 l40.2 ?_;have b:=t59 _ r (Nat.le_refl _) a;have d:=t60 _ r (Nat.le_refl _) a;generalize r.xt=n at *
 generalize r.Ad=m at *
 unfold Bu;refine rnZ ?_;(refine And.intro (by first|exact vz _) ?_);exact rcZ
end Go.MM
end
section
namespace Go.MM
open Go Go.DL Go.Proofs
def yR(l:List Fd):RP->Int
 |.mk k f n m _=>if k=3\/k=4\/k=5 then (match findF l f with
   |none=>4
   |some F=>if (if k=5 then m else n)>((2^F.w - 1:Nat):Int)\/(k=4/\m>F.w) then 1 else 0) else 0
theorem Ju{l:List Fd}(a:LOk l){s:ByteArray}{F:Fd}(h:findF l s=some F):F.w<=16:=by
 have:=(a.find h).w2;omega
theorem t92(l:List Fd)(j:LOk l)(r:RP):DCalls Tryz.prog 191 [fds l,.agg (vR r)] (I (yR l r)):=by
 obtain ⟨k,f,n,m,a⟩:=r;refine dl2 mixed [.tmp 4] [.int _ _] Tryz.func191 PH.2 ?_;have b:=t51 l f j.len;simp only [yR]
 by_cases e:k=3\/k=4\/k=5
 ·rw [if_pos e];unfold xB at b;cases g:findF l f with
  |none=>
   rw [g] at b;simp only at b ⊢;rcases e with rfl|rfl|rfl <;> repeat' ((conv=>whnf);first|exact trivial|refine pC _ (b) ?_|refine aN1 ?_|refine aN0 ?_|refine rix ?_|refine aS ?_|refine nT_ ?_)
  |some F=>
   rw [g] at b;simp only at b ⊢;have o:=Ju j g;have i:=t66 F (j.find g);obtain ⟨s,fa,w⟩:=F;simp only at o i ⊢;generalize u:((2^w - 1:Nat):Int)=M at *
   rcases e with rfl|rfl|rfl
   ·by_cases c:n>M
    ·rw [if_pos (by simp;omega)];exact rcZ
    ·rw [if_neg (by simp;omega)];exact rcZ
   ·by_cases c:n>M
    ·rw [if_pos (by simp;omega)];exact rcZ
    ·by_cases d:m>(w:Int)
     ·rw [if_pos (by simp;omega)];exact rcZ
     ·rw [if_neg (by simp;omega)];exact rcZ
   ·by_cases c:m>M
    ·rw [if_pos (by simp;omega)];exact rcZ
    ·rw [if_neg (by simp;omega)];exact rcZ
 ·rw [if_neg e];have p:k≠3:=fun h=>e (.inl h)
  have q:k≠4:=fun h=>e (.inr (.inl h))
  have t:k≠5:=fun h=>e (.inr (.inr h))
  exact rcZ
def fitAll(l:List Fd)(r:RP):Int:=vT ((wK r).map (yR l))
theorem t65(l:List Fd)(o:LOk l)(r:RP)(p:r.nodes<2^40):DCalls Tryz.prog 174 [fds l,.agg (vR r)] (I (fitAll l r)):=by
 refine dl2 mixed [.tmp 4] [.int _ _] Tryz.func174 Px.2 ?_;have n:=t91 _ r (Nat.le_refl _) p;have m:=B6 r;unfold fitAll;generalize wK r=ps at *
 refine rnZ ?_;(refine And.intro (by first|exact xd _) ?_);refine rnZ ?_;refine uA (α:=Nat) (fun i=>{sl:=[(0,.t (fds l)),(5,.t (.slice 5 (ps.map zh))),(6,.t (I i))],bx:=[]})
  (fun i=>i<=ps.length/\ ∀j (h:j<ps.length),j<i->yR l ps[j]=0) (fun i=>ps.length - i) 0 (by simp) ?_ ?_
 ·exact wkZ
 rintro i ⟨hi,g⟩;rcases Nat.lt_or_ge i ps.length with h|h
 ·have a:=t92 l o ps[i]
  by_cases f:yR l ps[i]=0
  ·rw [f] at a
   repeat' ((conv=>whnf);first|(refine nv_ (.agg (vR ps[i])) (by first|(simp [h,xg];done)|fail) ?_)|refine pC _ (a) ?_|refine aN0 ?_|refine aD1 ?_|(refine And.intro (by first|exact xd _) ?_)|refine aS ?_|refine nT_ ?_)
   refine ⟨i+1,⟨h,fun j b d=>?_⟩,by omega,?_⟩
   ·rcases Nat.lt_or_ge j i with k|k
    ·exact g j b k
    ·obtain rfl:j=i:=by omega
     exact f
   ·exact wkZ
  ·have e:vT (ps.map (yR l))=yR l ps[i]:=by
    have:=Af (l:=ps.map (yR l)) (i:=i) (by simpa using h) (fun j b d=>by simpa using g j (by simpa using b) d) (by simpa using f)
    simpa using this
   rw [e];generalize yR l ps[i]=e at *
   repeat' ((conv=>whnf);first|exact trivial|(refine nv_ (.agg (vR ps[i])) (by first|(simp [h,xg];done)|fail) ?_)|refine pC _ (a) ?_|refine aN1 ?_|refine aD1 ?_|refine rix ?_|(refine And.intro (by first|exact xd _) ?_)|refine aS ?_|refine nT_ ?_)
 ·rw [AZ fun j b=>by simpa using g j (by simpa using b) (by simp at b;omega)];exact rcZ
def xV(l:List Fd):RO->Int
 |.mk k p f n _=>if k=1 then fitAll l p else if k=2 then (match findF l f with
   |none=>4
   |some F=>if n>((2^F.w - 1:Nat):Int) then 1 else 0) else 0
def DD(l:List Fd)(r:RO):Int:=if wH r≠0 then wH r else vT ((wA r).map (xV l))
mutual
theorem Fj: ∀r:RO, ∀x∈wA r,x.wt<=r.wt
 |.mk k p f n a=>fun x b=>by
  simp only [wA,List.mem_cons] at b;rcases b with rfl|b
  ·exact Nat.le_refl _
  ·have:=Eb a x b;simp only [RO.wt];omega
theorem Eb: ∀l:List RO, ∀x∈wo l,x.wt<=wE l
 |[]=>fun x a=>by simp [wo] at a
 |r::rs=>fun x a=>by
  simp only [wo,List.mem_append] at a;simp only [wE];rcases a with a|a
  ·have:=Fj r x a;omega
  ·have:=Eb rs x a;omega
end
theorem t40(l:List Fd)(G:LOk l)(r:RO)(S:r.wt<2^40)(R:AR r):DCalls Tryz.prog 132 [fds l,.agg (uV r)] (I (DD l r)):=by
 refine dl2 mixed [.tmp 4] [.int _ _] Tryz.func132 O4.2 ?_;have E:=t63 r (by omega) R;have P:=t64 _ r (Nat.le_refl _) S;have N:=B7 r;have T:=Fj r;have Q:=r.FT;unfold DD;generalize wA r=ps at *
 by_cases q:wH r≠0
 ·rw [if_pos q];generalize wH r=e at *
  refine rnZ ?_;(refine And.intro (by first|exact vz _) ?_);exact rcZ
 rw [if_neg q];have q:wH r=0:=Decidable.not_not.1 q;rw [q] at E;refine rnZ ?_;(refine And.intro (by first|exact vz _) ?_);refine rnZ ?_;refine uA (α:=Nat) (fun i=>{sl:=[(0,.t (fds l)),(5,.t (I 0)),(6,.t (.slice 9 (ps.map yH))),(7,.t (I i))],bx:=[]})
  (fun i=>i<=ps.length/\ ∀j (h:j<ps.length),j<i->xV l ps[j]=0) (fun i=>ps.length - i) 0 (by simp) ?_ ?_
 ·exact wkZ
 rintro i ⟨hi,H⟩;rcases Nat.lt_or_ge i ps.length with h|h
 ·have res: ∀e,xV l ps[i]=e->e≠0->vT (ps.map (xV l))=e:=fun e L s=>by
   have:=Af (l:=ps.map (xV l)) (i:=i) (by simpa using h) (fun j y D=>by simpa using H j (by simpa using y) D) (by simpa [L] using s)
   rw [this];simpa using L
  have next:xV l ps[i]=0->i+1<=ps.length/\ ∀j (h:j<ps.length),j<i+1->xV l ps[j]=0:=fun s=>by
   refine ⟨h,fun j y D=>?_⟩;rcases Nat.lt_or_ge j i with K|K
   ·exact H j y K
   ·obtain rfl:j=i:=by omega
    exact s
  have J:=T _ (List.getElem_mem h);have v:(ps.map yH)[i]?.getD .nil= .agg (uV ps[i]):=by simp [h,wP]
  generalize ps[i]=x at *
  obtain ⟨k,⟨m,g,p,o,d⟩,f,n,a⟩:=x;have b:=t51 l f G.len
  by_cases B:k=1
  ·subst B;have z:=t65 l G (.mk m g p o d) (by simp only [RO.wt] at J;omega);have O:xV l (.mk 1 (.mk m g p o d) f n a)=fitAll l (.mk m g p o d):=by simp [xV]
   rw [O] at res next;generalize fitAll l (.mk m g p o d)=e at *
   by_cases s:e=0
   ·subst s
    repeat' ((conv=>whnf);first|(refine nv_ (.agg (uV (.mk 1 (.mk m g p o d) f n a))) (by first|exact v) ?_)|refine pC _ (z) ?_|(exact ⟨i+1,next rfl,by omega,wkZ⟩)|refine aE1 ?_|refine aE0 ?_|refine aN0 ?_|refine aD1 ?_|refine aS ?_|refine nT_ ?_)
   ·rw [res e rfl s]
    repeat' ((conv=>whnf);first|exact trivial|(refine nv_ (.agg (uV (.mk 1 (.mk m g p o d) f n a))) (by first|exact v) ?_)|refine pC _ (z) ?_|refine aE1 ?_|refine aE0 ?_|refine aN1 ?_|refine aD1 ?_|refine rix ?_|refine aS ?_|refine nT_ ?_)
  ·by_cases C:k=2
   ·subst C;unfold xB at b;cases u:findF l f with
    |none=>
     rw [u] at b;rw [res 4 (by simp [xV,u]) (by decide)];simp only at b
     repeat' ((conv=>whnf);first|exact trivial|(refine nv_ (.agg (uV (.mk 2 (.mk m g p o d) f n a))) (by first|exact v) ?_)|refine pC _ (b) ?_|refine aE1 ?_|refine aE0 ?_|refine aN1 ?_|refine aD1 ?_|refine rix ?_|refine aS ?_|refine nT_ ?_)
    |some F=>
     rw [u] at b;simp only at b;have A:=t66 F (G.find u)
     by_cases q:n>((2^F.w - 1:Nat):Int)
     ·rw [res 1 (by simp only [xV,u];rw [if_neg (by decide),if_pos trivial,if_pos q]) (by decide)];generalize ((2^F.w - 1:Nat):Int)=M at *
      repeat' ((conv=>whnf);first|exact trivial|(refine nv_ (.agg (uV (.mk 2 (.mk m g p o d) f n a))) (by first|exact v) ?_)|refine pC _ (b) ?_|refine pC _ (A) ?_|refine aE1 ?_|refine aE0 ?_|refine aN1 ?_|refine aD1 ?_|refine rix ?_|refine aS ?_|refine nT_ ?_)
     ·have next:=next (by simp only [xV,u];rw [if_neg (by decide),if_pos trivial,if_neg q]);generalize ((2^F.w - 1:Nat):Int)=M at *
      repeat' ((conv=>whnf);first|(refine nv_ (.agg (uV (.mk 2 (.mk m g p o d) f n a))) (by first|exact v) ?_)|refine pC _ (b) ?_|refine pC _ (A) ?_|(exact ⟨i+1,next,by omega,wkZ⟩)|refine aE1 ?_|refine aE0 ?_|refine aD1 ?_|refine aD0 ?_|refine aS ?_|refine nT_ ?_)
   ·have next:=next (by simp only [xV];rw [if_neg B,if_neg C])
    repeat' ((conv=>whnf);first|(refine nv_ (.agg (uV (.mk k (.mk m g p o d) f n a))) (by first|exact v) ?_)|(exact ⟨i+1,next,by omega,wkZ⟩)|refine aE0 ?_|refine aN0 ?_|refine aD1 ?_|refine aS ?_|refine nT_ ?_)
 ·rw [AZ fun j y=>by simpa using H j (by simpa using y) (by simp at y;omega)];exact rcZ
def RF.fd(f:RF):Fd:=⟨f.name,f.a.toNat,f.w.toNat⟩
structure Checked (l:List RF):Prop where
 len:l.length<=16
 name: ∀f∈l,zL f.name=true
 port: ∀f∈l,uU f.name xF=false
 place: ∀f∈l,yM f=true
 uniq: ∀i j (hi:i<l.length) (hj:j<l.length),j<i->uU l[j].name l[i].name=false
 apart: ∀i j (hi:i<l.length) (hj:j<l.length),j<i->yC l[j] l[i]=false
theorem zJ: ∀{l:List Int},vT l=0-> ∀x∈l,x=0
 |[],_,x,a=>by cases a
 |y::ys,h,x,a=>by
  simp only [vT] at h;split at h
  ·rename_i b;exact absurd h b
  ·rename_i b;rcases List.mem_cons.1 a with rfl|a
   ·exact Decidable.not_not.1 b
   ·exact zJ h x a
theorem DT{l:List RF}(h:AA l=0):Checked l:=by
 unfold AA at h;split at h
 ·cases h
 rename_i k;have q: ∀i (hi:i<l.length),wG l i l[i]=0:=fun i hi=>zJ h _ (List.mem_iff_getElem.2 ⟨i,by simpa using hi,by simp⟩)
 have key: ∀i (hi:i<l.length),(¬ (zL l[i].name=false\/uU l[i].name xF=true))/\(¬ ((l.take i).any fun g=>uU g.name l[i].name)=true)/\(¬ yM l[i]=false)/\ ¬((l.take i).any fun g=>yC g l[i])=true:=fun i hi=>by
  have:=q i hi
  unfold wG at this;split at this; ·cases this
  split at this; ·cases this
  split at this; ·cases this
  split at this; ·cases this
  rename_i m n o p;exact ⟨m,n,o,p⟩
 refine ⟨by omega,fun f b=>?_,fun f b=>?_,fun f b=>?_,fun i j hi d a=>?_,fun i j hi d a=>?_⟩
 ·obtain ⟨i,hi,rfl⟩:=List.getElem_of_mem b
  have:=(key i hi).1;simp at this;exact this.1
 ·obtain ⟨i,hi,rfl⟩:=List.getElem_of_mem b
  have:=(key i hi).1;simp at this;exact this.2
 ·obtain ⟨i,hi,rfl⟩:=List.getElem_of_mem b
  have:=(key i hi).2.2.1;simpa using this
 ·have:=(key i hi).2.1
  rw [zu (by omega)] at this;cases e:uU l[j].name l[i].name with
  |false=>rfl
  |true=>exact absurd ⟨j,d,a,e⟩ this
 ·have:=(key i hi).2.2.2
  rw [zu (by omega)] at this;cases e:yC l[j] l[i] with
  |false=>rfl
  |true=>exact absurd ⟨j,d,a,e⟩ this
theorem Checked.fds{l:List RF}(h:Checked l):zH l=MM.fds (l.map RF.fd):=by
 unfold zH MM.fds;rw [List.map_map]
 congr 1
 refine List.map_congr_left fun f b=>?_
 have:=h.place f b
 simp [yM] at this;obtain ⟨s,a,w⟩:=f;simp only at this;simp only [xU,xc,Function.comp,MM.fd,RF.fd];rw [Int.toNat_of_nonneg (by omega),Int.toNat_of_nonneg (by omega)]
theorem Checked.ok{l:List RF}(h:Checked l):LOk (l.map RF.fd):=by
 refine ⟨by have:=h.len;simp;omega,fun f a=>?_⟩;obtain ⟨g,b,rfl⟩:=List.mem_map.1 a
 have:=h.place g b
 simp [yM] at this;exact ⟨by simp only [RF.fd];omega,by simp only [RF.fd];omega,by simp only [RF.fd];omega⟩
end Go.MM
end
section
namespace Go.TY
instance memBA (a : ByteArray) (l : List ByteArray) : Decidable (a ∈ l) := @List.instDecidableMemOfLawfulBEq ByteArray instBEqOfDecidableEq inferInstance a l
structure Lin {α:Type} (lt:α->α->Bool):Prop where
 irr: ∀a,lt a a=false
 tr: ∀a b c,lt a b=true->lt b c=true->lt a c=true
 tot: ∀a b,lt a b=false->lt b a=false->a=b
section
variable {α:Type}{lt:α->α->Bool}
theorem Lin.ne(h:Lin lt){a b:α}(d:lt a b=true):a≠b:=fun e=>by
 subst e;rw [h.irr] at d;cases d
theorem Lin.asym(h:Lin lt){a b:α}(d:lt a b=true):lt b a=false:=by
 cases e:lt b a with
 |false=>rfl
 |true=>have:=h.tr _ _ _ d e;rw [h.irr] at this;cases this
variable [DecidableEq α]
def put(lt:α->α->Bool):List α->α->List α
 |[],s=>[s]
 |x::xs,s=>if lt x s=true then x::put lt xs s else s::(x::xs).filter fun y=> !decide (y=s)
def Inc(lt:α->α->Bool)(l:List α):Prop:=l.Pairwise fun a b=>lt a b=true
theorem Ha{l:List α}{s x:α}:x∈put lt l s↔x=s\/x∈l:=by
 induction l with
 |nil=>simp [put]
 |cons y ys d=>
  unfold put
  by_cases a:lt y s=true
  ·rw [if_pos a,List.mem_cons,d,List.mem_cons];exact ⟨fun h=>by rcases h with h|h|h <;> simp [h],fun h=>by rcases h with h|h|h <;> simp [h]⟩
  ·rw [if_neg a,List.mem_cons,List.mem_filter]
   by_cases b:x=s
   ·simp [b]
   ·simp [b]
theorem Inc.put(h:Lin lt){l:List α}(k:Inc lt l)(s:α):Inc lt (put lt l s):=by
 induction l with
 |nil=>simp [TY.put,Inc]
 |cons y ys n=>
  have f:=List.pairwise_cons.1 k;unfold TY.put
  by_cases a:lt y s=true
  ·rw [if_pos a];refine List.pairwise_cons.2 ⟨fun z b=>?_,n f.2⟩;rcases Ha.1 b with rfl|b
   ·exact a
   ·exact f.1 z b
  ·rw [if_neg a];have j:lt y s=false:=by simpa using a
   refine List.pairwise_cons.2 ⟨fun z b=>?_,k.filter _⟩;obtain ⟨g,m⟩:=List.mem_filter.1 b;have i:z≠s:=by simpa using m
   cases e:lt s z with
   |true=>rfl
   |false=>
    exfalso;cases d:lt z s with
    |false=>exact i (h.tot _ _ d e)
    |true=>
     rcases List.mem_cons.1 g with rfl|g
     ·rw [j] at d;cases d
     ·have:=h.tr _ _ _ (f.1 z g) d
      rw [j] at this;cases this
theorem Inc.ext(h:Lin lt): ∀{a b:List α},Inc lt a->Inc lt b->(∀ x,x∈a↔x∈b)->a=b
 |[],[],_,_,_=>rfl
 |[],y::ys,_,_,hm=>by have:=(hm y).2 (by simp);simp at this
 |x::xs,[],_,_,hm=>by have:=(hm x).1 (by simp);simp at this
 |x::xs,y::ys,ha,hb,hm=>by
  have d:=List.pairwise_cons.1 ha;have f:=List.pairwise_cons.1 hb;have e:x=y:=by
   by_cases e:x=y
   ·exact e
   ·exfalso;have j:x∈ys:=by have:=(hm x).1 (by simp);simpa [e] using this
    have k:y∈xs:=by have:=(hm y).2 (by simp);simpa [show ¬y=x from fun h=>e h.symm] using this
    have l:=d.1 y k;have i:=f.1 x j;rw [h.asym l] at i;cases i
  subst e;rw [Inc.ext h d.2 f.2 fun z=>?_]
  have:=hm z
  simp only [List.mem_cons] at this
  by_cases e:z=x
  ·subst e;exact ⟨fun g=>absurd rfl (h.ne (d.1 z g)),fun g=>absurd rfl (h.ne (f.1 z g))⟩
  ·simpa [e] using this
def yu(lt:α->α->Bool)(l:List α):List α:=l.foldl (put lt) []
theorem GR{l:List α}: ∀{acc:List α} {x:α},x∈l.foldl (put lt) acc↔x∈acc\/x∈l:=by
 induction l with
 |nil=>simp
 |cons y ys a=>
  intro acc x;rw [List.foldl_cons,a,Ha,List.mem_cons];exact ⟨fun h=>by rcases h with (h|h)|h <;> simp [h],fun h=>by rcases h with h|h|h <;> simp [h]⟩
theorem BY{l:List α}{x:α}:x∈yu lt l↔x∈l:=by simp [yu,GR]
theorem GN(h:Lin lt){l:List α}: ∀{acc:List α},Inc lt acc->Inc lt (l.foldl (put lt) acc):=by
 induction l with
 |nil=>exact fun h=>h
 |cons y ys b=>intro acc a;exact b (a.put h y)
theorem D0(h:Lin lt)(l:List α):Inc lt (yu lt l):=GN h List.Pairwise.nil
theorem I1(h:Lin lt){a b:List α}(d: ∀x,x∈a↔x∈b):yu lt a=yu lt b:=
 Inc.ext h (D0 h a) (D0 h b) fun x=>by rw [BY,BY,d]
theorem Fx{a b:List α}:yu lt (a++b)=b.foldl (put lt) (yu lt a):=by simp [yu,List.foldl_append]
def once:List α->List α->List α
 |acc,[]=>acc
 |acc,x::xs=>once (if x∈acc then acc else acc++[x]) xs
theorem AP: ∀{l acc:List α} {x:α},x∈once acc l↔x∈acc\/x∈l
 |[],acc,x=>by simp [once]
 |y::ys,acc,x=>by
  unfold once;rw [AP,List.mem_cons]
  by_cases h:y∈acc
  ·rw [if_pos h];exact ⟨fun h=>by rcases h with h|h <;> simp [h],fun k=>by rcases k with k|rfl|k <;> simp [*]⟩
  ·rw [if_neg h];simp [or_assoc]
theorem B2: ∀{l acc:List α},acc.Nodup->(once acc l).Nodup
 |[],_,h=>h
 |y::ys,acc,h=>by
  unfold once;refine B2 ?_
  by_cases d:y∈acc
  ·rw [if_pos d];exact h
  ·rw [if_neg d];refine List.nodup_append.2 ⟨h,by simp,fun a f b g e=>d ?_⟩;rw [List.mem_singleton.1 g] at e;subst e;exact f
end
def ltS(a b:ByteArray):Bool:=Op.bytesLess a.toList b.toList
theorem Cl{a b:ByteArray}(h:a.toList=b.toList):a=b:=by
 rw [ByteArray.toList_eq,ByteArray.toList_eq] at h;exact ByteArray.ext (Array.ext' h)
theorem Bh:Lin ltS where
 irr:=fun a=>by simp [ltS,Go.Proofs.bytesLess_eq]
 tr:=fun a b c h k=>by
  simp only [ltS,Go.Proofs.bytesLess_eq,decide_eq_true_eq] at *
  exact List.lt_trans h k
 tot:=fun a b h k=>by
  simp only [ltS,Go.Proofs.bytesLess_eq,decide_eq_false_iff_not,List.not_lt] at *
  exact Cl (List.le_antisymm k h)
end Go.TY
end
section
namespace Go.TY
open Go Go.DL Go.MM
abbrev Fd:=Go.MM.Fd
structure RS where
 kind:Int
 var:ByteArray
 key:List ByteArray
 field:ByteArray
 n:Int
 m:Int
def uX(s:RS):List T:=[I s.kind,.str s.var,.slice 1 (s.key.map .str),.str s.field,I s.n,I s.m]
def xK(s:RS):T:=.agg (uX s)
structure RV where
 name:ByteArray
 fam:Int
 ws:List Int
 n:Int
 m:Int
 deriving DecidableEq
def vG(v:RV):List T:=[.str v.name,I v.fam,.slice 1 (v.ws.map I),I v.n,I v.m]
def yh(v:RV):T:=.agg (vG v)
def RS.own(s:RS):Bool:=s.kind==4||s.kind==6
def wU(k:Int):Int:=if k=1 then 1 else if k=2\/k=3 then 2 else if k=4\/k=5 then 3 else 4
def vI(l:List Fd)(s:RS):List Int:=s.key.map fun k=>((fld l k).w:Int)
def vOf(l:List Fd)(s:RS):RV:=⟨s.var,wU s.kind,vI l s,if s.own then s.n else 0,if s.own then s.m else 0⟩
def xl(l:List Fd)(s t:RS):Bool:= !(s.own&&t.own&&((s.n !=t.n)||(s.m !=t.m)))&&((vI l s==vI l t)&&(wU s.kind==wU t.kind))
theorem wO{l:List Fd}{s t:RS}:xl l s t=true↔(s.own=true->t.own=true->s.n=t.n/\s.m=t.m)/\vI l s=vI l t/\wU s.kind=wU t.kind:=by
 unfold xl;cases a:s.own <;> cases b:t.own <;> simp
theorem C7{l:List Fd}(s:RS):xl l s s=true:=by rw [wO];simp
theorem C8{l:List Fd}{s t:RS}(h:xl l s t=true):xl l t s=true:=by
 rw [wO] at *
 exact ⟨fun a b=>⟨(h.1 b a).1.symm,(h.1 b a).2.symm⟩,h.2.1.symm,h.2.2.symm⟩
def PW(l:List Fd)(ss:List RS):Prop:=ss.Pairwise fun s t=>s.var=t.var->xl l s t=true
theorem PW.all{l:List Fd}{ss:List RS}(h:PW l ss): ∀s∈ss, ∀t∈ss,s.var=t.var->xl l s t=true:=by
 induction ss with
 |nil=>intro s g;simp at g
 |cons x xs k=>
  have f:=List.pairwise_cons.1 h;intro s g t j e;rcases List.mem_cons.1 g with i|b
  ·rcases List.mem_cons.1 j with d|a
   ·rw [i,d];exact C7 _
   ·subst i;exact f.1 t a e
  ·rcases List.mem_cons.1 j with d|a
   ·subst d;exact C8 (f.1 s b e.symm)
   ·exact k f.2 s b t a e
theorem PW.of{l:List Fd}{ss:List RS}(h: ∀s∈ss, ∀t∈ss,s.var=t.var->xl l s t=true):PW l ss:=by
 induction ss with
 |nil=>exact List.Pairwise.nil
 |cons x xs d=>exact List.pairwise_cons.2 ⟨fun t a e=>h x (by simp) t (by simp [a]) e,d fun s b t a=>h s (by simp [b]) t (by simp [a])⟩
theorem Ip{l:List Fd}{ss:List RS}:PW l ss↔ ∀s∈ss, ∀t∈ss,s.var=t.var->xl l s t=true:=⟨PW.all,PW.of⟩
theorem En{l:List Fd}{ss:List RS}{t:RS}:PW l (ss++[t])↔PW l ss/\ ∀s∈ss,s.var=t.var->xl l s t=true:=by
 unfold PW;rw [List.pairwise_append];exact ⟨fun h=>⟨h.1,fun s f=>h.2.2 s f t (by simp)⟩,fun h=>⟨h.1,by simp,fun a d b e=>by rw [List.mem_singleton.1 e];exact h.2 a d⟩⟩
def vj(ss:List RS)(name:ByteArray):Option RS:=ss.find? fun s=>decide (s.var=name)&&s.own
def we(l:List Fd)(ss:List RS)(name:ByteArray):Option RV:=match ss.find? fun s=>decide (s.var=name) with
 |none=>none
 |some s=>some ⟨name,wU s.kind,vI l s,((vj ss name).map (·.n)).getD 0,((vj ss name).map (·.m)).getD 0⟩
structure VS where
 all:List RV
 num:List (ByteArray×Bool)
def ym(all:List RV)(name:ByteArray):Option RV:=all.find? fun v=>decide (v.name=name)
def zD(v:RV):List RV->List RV
 |[]=>[v]
 |x::xs=>if x.name=v.name then v::xs else x::zD v xs
def zn(a:List (ByteArray×Bool))(name:ByteArray):Option Bool:=(a.find? fun p=>decide (p.1=name)).map (·.2)
def EI(name:ByteArray)(b:Bool):List (ByteArray×Bool)->List (ByteArray×Bool)
 |[]=>[(name,b)]
 |x::xs=>if x.1=name then (name,b)::xs else x::EI name b xs
theorem A1{v:RV}{all:List RV}{name:ByteArray}:ym (zD v all) name=if v.name=name then some v else ym all name:=by
 induction all with
 |nil=>unfold zD ym;by_cases h:v.name=name <;> simp [h]
 |cons x xs b=>
  unfold zD
  by_cases a:x.name=v.name
  ·rw [if_pos a];unfold ym
   by_cases h:v.name=name
   ·simp [h]
   ·have: ¬x.name=name:=fun e=>h (a.symm.trans e)
    simp [h,this]
  ·rw [if_neg a];unfold ym at b ⊢;rw [List.find?_cons,List.find?_cons,b]
   by_cases h:x.name=name
   ·have: ¬v.name=name:=fun e=>a (h.trans e.symm)
    simp [h,this]
   ·simp [h]
theorem IS{n:ByteArray}{b:Bool}{a:List (ByteArray×Bool)}{name:ByteArray}:zn (EI n b a) name=if n=name then some b else zn a name:=by
 induction a with
 |nil=>unfold EI zn;by_cases h:n=name <;> simp [h]
 |cons x xs f=>
  unfold EI
  by_cases d:x.1=n
  ·rw [if_pos d];unfold zn
   by_cases h:n=name
   ·simp [h]
   ·have: ¬x.1=name:=fun e=>h (d.symm.trans e)
    simp [h,this]
  ·rw [if_neg d];unfold zn at f ⊢;rw [List.find?_cons,List.find?_cons]
   by_cases h:x.1=name
   ·have: ¬n=name:=fun e=>d (h.trans e.symm)
    simp [h,this]
   ·simp only [h,decide_false];exact f
theorem Ee{v:RV}{all:List RV}:(zD v all).map (·.name)=if v.name∈all.map (·.name) then all.map (·.name) else all.map (·.name)++[v.name]:=by
 induction all with
 |nil=>simp [zD]
 |cons x xs d=>
  unfold zD
  by_cases a:x.name=v.name
  ·rw [if_pos a,if_pos (by rw [List.map_cons,a];exact List.mem_cons_self)];simp [a]
  ·rw [if_neg a,List.map_cons,d,List.map_cons]
   by_cases b:v.name∈xs.map (·.name)
   ·rw [if_pos b,if_pos (List.mem_cons_of_mem _ b)]
   ·rw [if_neg b,if_neg (fun h=>by
     rcases List.mem_cons.1 h with h|h
     ·exact a h.symm
     ·exact b h)]
    rfl
def FG(l:List Fd)(st:VS)(s:RS):Option VS:=
 let b:=EI s.var (((zn st.num s.var).getD false)||s.own) st.num
 match ym st.all s.var with
 |none=>some ⟨zD (vOf l s) st.all,b⟩
 |some a=>if (a.fam !=wU s.kind)|| !(a.ws==vI l s)||(s.own&&((zn st.num s.var).getD false)&&((a.n !=s.n)||(a.m !=s.m))) then none
  else some ⟨if s.own then zD (vOf l s) st.all else st.all,b⟩
def C5(l:List Fd):VS->List RS->Option VS
 |st,[]=>some st
 |st,s::ss=>(FG l st s).bind fun st=>C5 l st ss
structure Ck (l:List Fd) (ss:List RS) (st:VS):Prop where
 pw:PW l ss
 look: ∀name,ym st.all name=we l ss name
 num: ∀name,(zn st.num name).getD false=(vj ss name).isSome
 names:st.all.map (·.name)=once [] (ss.map (·.var))
theorem Cy{α:Type}[DecidableEq α]: ∀{xs acc:List α} {y:α},once acc (xs++[y])=(if y∈once acc xs then once acc xs else once acc xs++[y])
 |[],acc,y=>rfl
 |x::xs,acc,y=>by
  rw [List.cons_append];unfold once;exact Cy
theorem xj{α:Type}{p:α->Bool}{ss:List α}{t:α}:(ss++[t]).find? p=match ss.find? p with
  |some s=>some s
  |none=>if p t=true then some t else none:=by
 rw [List.find?_append];cases ss.find? p with
 |some s=>rfl
 |none=>simp [List.find?_cons];cases p t <;> rfl
theorem Ck.step{l:List Fd}{ss:List RS}{st:VS}(h:Ck l ss st)(t:RS):
  (PW l (ss++[t])-> ∃D,FG l st t=some D/\Ck l (ss++[t]) D)/\(¬ PW l (ss++[t])->FG l st t=none):=by
 have Q:=h.look t.var;have R:=h.num t.var;have V: ∀b,ss.find? (fun s=>decide (s.var=t.var))=some b->b∈ss/\b.var=t.var:=fun b k=>⟨List.mem_of_find?_eq_some k,by simpa using List.find?_some k⟩
 have S: ∀s1,vj ss t.var=some s1->s1∈ss/\s1.var=t.var/\s1.own=true:=fun s1 g=>⟨List.mem_of_find?_eq_some g,by simpa using List.find?_some g⟩
 have p:=h.pw.all;have f: ∀(x:List RV) name, ¬t.var=name->ym x name=ym st.all name->ym x name=we l (ss++[t]) name:=fun x name a U=>by
  rw [U,h.look name];unfold we vj;rw [xj,xj];simp only [a,decide_false,Bool.false_and];cases ss.find? fun s=>decide (s.var=name) with
  |none=>rfl
  |some s=>simp only;cases ss.find? fun s=>decide (s.var=name)&&s.own <;> rfl
 have o: ∀name,(zn (EI t.var (((zn st.num t.var).getD false)||t.own) st.num) name).getD false=(vj (ss++[t]) name).isSome:=fun name=>by
  rw [IS];unfold vj;rw [xj]
  by_cases a:t.var=name
  ·subst a;rw [if_pos rfl,Option.getD_some,R];unfold vj;cases ss.find? fun s=>decide (s.var=t.var)&&s.own with
   |some s=>simp
   |none=>cases u:t.own <;> simp [u]
  ·rw [if_neg a,h.num name];unfold vj;simp only [a,decide_false,Bool.false_and];cases ss.find? fun s=>decide (s.var=name)&&s.own <;> rfl
 unfold FG;dsimp only;cases r:ss.find? (fun s=>decide (s.var=t.var)) with
 |none=>
  have y: ∀s∈ss, ¬s.var=t.var:=fun s d=>by
   have:=List.find?_eq_none.1 r s d;simpa using this
  have i:ym st.all t.var=none:=by rw [Q];unfold we;rw [r]
  rw [i];have A:PW l (ss++[t]):=En.2 ⟨h.pw,fun s d e=>absurd e (y s d)⟩;refine ⟨fun _=>⟨_,rfl,A,fun name=>?_,o,?_⟩,fun q=>absurd A q⟩
  ·by_cases a:t.var=name
   ·subst a;rw [A1];have k:vj ss t.var=none:=by
     unfold vj;rw [List.find?_eq_none];intro s d;simp [y s d]
    unfold we;rw [xj,r]
    have:(vOf l t).name=t.var:=rfl
    rw [if_pos this];simp only [decide_true,if_true];unfold vj at k ⊢;rw [xj,k];simp only [decide_true,Bool.true_and,vOf];cases t.own <;> rfl
   ·refine f _ name a ?_;rw [A1];exact if_neg a
  ·show (zD (vOf l t) st.all).map (·.name)=_
   rw [Ee,h.names,List.map_append,List.map_cons,List.map_nil,Cy];rfl
 |some b=>
  obtain ⟨E,v0⟩:=V b r;have i:ym st.all t.var=some ⟨t.var,wU b.kind,vI l b,((vj ss t.var).map (·.n)).getD 0,((vj ss t.var).map (·.m)).getD 0⟩:=by rw [Q];unfold we;rw [r]
  rw [i];dsimp only;have key:PW l (ss++[t])↔(wU b.kind=wU t.kind/\vI l b=vI l t)/\(t.own=true-> ∀s1,vj ss t.var=some s1->s1.n=t.n/\s1.m=t.m):=by
   rw [En];constructor
   ·rintro ⟨_,P⟩;have k:=wO.1 (P b E v0);exact ⟨⟨k.2.2,k.2.1⟩,fun u s1 g=>by
     obtain ⟨k1,k2,C⟩:=S s1 g;exact (wO.1 (P s1 k1 k2)).1 C u⟩
   ·rintro ⟨⟨H,I⟩,J⟩;refine ⟨h.pw,fun s d e=>wO.2 ⟨fun B j=>?_,?_,?_⟩⟩
    ·have:(vj ss t.var).isSome=true:=by
      unfold vj;rw [List.find?_isSome];exact ⟨s,d,by simp [e,B]⟩
     obtain ⟨s1,g⟩:=Option.isSome_iff_exists.1 this;obtain ⟨k1,k2,C⟩:=S s1 g;have N:=(wO.1 (p s d s1 k1 (e.trans k2.symm))).1 B C;have O:=J j s1 g;exact ⟨N.1.trans O.1,N.2.trans O.2⟩
    ·exact (wO.1 (p s d b E (e.trans v0.symm))).2.1.trans I
    ·exact (wO.1 (p s d b E (e.trans v0.symm))).2.2.trans H
  have cond:((wU b.kind !=wU t.kind)|| !(vI l b==vI l t)||(t.own&&((zn st.num t.var).getD false)&&((((vj ss t.var).map (·.n)).getD 0 !=t.n)||(((vj ss t.var).map (·.m)).getD 0 !=t.m))))=true↔ ¬PW l (ss++[t]):=by
   rw [key,R];cases u:vj ss t.var with
   |none=>simp;exact ⟨fun h=>by rcases h with h|h <;> simp [h],fun h=>by
     by_cases e:wU b.kind=wU t.kind
     ·exact Or.inr (h e)
     ·exact Or.inl e⟩
   |some s1=>
    simp only [Option.map_some,Option.getD_some,Option.isSome_some,Bool.and_true,Bool.or_eq_true,Bool.and_eq_true,bne_iff_ne,ne_eq,Bool.not_eq_true',beq_eq_false_iff_ne,Option.some.injEq];constructor
    ·rintro ((h|h)|⟨g,v⟩) ⟨⟨k1,k2⟩,C⟩
     ·exact h k1
     ·exact h k2
     ·have:=C g s1 rfl
      rcases v with v|v
      ·exact v this.1
      ·exact v this.2
    ·intro w
     by_cases F:wU b.kind=wU t.kind
     ·by_cases G:vI l b=vI l t
      ·by_cases L:t.own=true
       ·refine Or.inr ⟨L,?_⟩
        by_cases M:s1.n=t.n
        ·refine Or.inr fun T=>w ⟨⟨F,G⟩,fun _ s h=>by rw [<- h];exact ⟨M,T⟩⟩
        ·exact Or.inl M
       ·exact absurd ⟨⟨F,G⟩,fun h=>absurd h L⟩ w
      ·exact Or.inl (Or.inr G)
     ·exact Or.inl (Or.inl F)
  constructor
  ·intro z;rw [if_neg (fun q=>cond.1 q z)];obtain ⟨⟨H,I⟩,J⟩:=key.1 z;refine ⟨_,rfl,z,fun name=>?_,o,?_⟩
   ·by_cases a:t.var=name
    ·subst a;have d:we l (ss++[t]) t.var=some ⟨t.var,wU b.kind,vI l b,((vj (ss++[t]) t.var).map (·.n)).getD 0,((vj (ss++[t]) t.var).map (·.m)).getD 0⟩:=by
      unfold we;rw [xj,r]
     have u:vj (ss++[t]) t.var=match vj ss t.var with
       |some s=>some s
       |none=>if t.own=true then some t else none:=by
      unfold vj;rw [xj];simp only [decide_true,Bool.true_and];cases ss.find? fun s=>decide (s.var=t.var)&&s.own <;> rfl
     rw [d,u];show ym (if t.own=true then zD (vOf l t) st.all else st.all) t.var=_
     cases j:t.own with
     |false=>
      simp only [Bool.false_eq_true,if_false];rw [i];cases vj ss t.var <;> rfl
     |true=>
      simp only [if_true];rw [A1,if_pos (show (vOf l t).name=t.var from rfl)];unfold vOf;rw [j,H,I];cases K:vj ss t.var with
      |none=>rfl
      |some s1=>
       obtain ⟨k1,k2⟩:=J j s1 K;simp [k1,k2]
    ·refine f _ name a ?_;show ym (if t.own=true then zD (vOf l t) st.all else st.all) name=_
     cases t.own with
     |false=>rfl
     |true=>
      simp only [if_true];rw [A1];exact if_neg a
   ·show (if t.own=true then zD (vOf l t) st.all else st.all).map (·.name)=_
    have q:t.var∈once [] (ss.map (·.var)):=by
     rw [AP];exact Or.inr (List.mem_map.2 ⟨b,E,v0⟩)
    rw [List.map_append,List.map_cons,List.map_nil,Cy,if_pos q];cases t.own with
    |false=>exact h.names
    |true=>
     simp only [if_true];rw [Ee,h.names];exact if_pos (show (vOf l t).name∈_ from q)
  ·intro z;rw [if_pos (cond.2 z)]
theorem El{l:List Fd}: ∀{ts ss:List RS} {st:VS},Ck l ss st->(PW l (ss++ts)-> ∃a,C5 l st ts=some a/\Ck l (ss++ts) a)/\(¬ PW l (ss++ts)->C5 l st ts=none)
 |[],ss,st,h=>by
  rw [List.append_nil];exact ⟨fun _=>⟨st,rfl,h⟩,fun k=>absurd h.pw k⟩
 |t::ts,ss,st,h=>by
  have g:=h.step t;have e:ss++t::ts=(ss++[t])++ts:=by simp
  rw [e]
  by_cases d:PW l (ss++[t])
  ·obtain ⟨a,i,j⟩:=g.1 d
   have:=El (ts:=ts) j
   unfold C5;rw [i,Option.bind_some];exact this
  ·have b: ¬PW l ((ss++[t])++ts):=fun f=>d (List.Pairwise.sublist (List.sublist_append_left _ _) f)
   refine ⟨fun f=>absurd f b,fun _=>?_⟩;unfold C5;rw [g.2 d];rfl
theorem Ck.start{l:List Fd}:Ck l [] ⟨[],[]⟩:=⟨List.Pairwise.nil,fun _=>rfl,fun _=>rfl,rfl⟩
def uW(ss:List RS):List RS:=ss.filter fun s=>s.kind !=0
end Go.TY
end
section
namespace Go.ST
open Go Go.DL Go.MM Go.TY
structure Cmp {α:Type} (c:α->α->Int):Prop where
 r: ∀a b,c a b= -1\/c a b=0\/c a b=1
 s: ∀a b,c b a= - c a b
 t: ∀a b d,c a b= -1->c b d= -1->c a d= -1
 z: ∀a b,c a b=0-> ∀d,c a d=c b d
section
variable {α:Type}{c:α->α->Int}
theorem Cmp.refl(h:Cmp c)(a:α):c a a=0:=by have:=h.s a a;omega
theorem Cmp.z'(h:Cmp c){a b:α}(e:c a b=0)(d:α):c d a=c d b:=by rw [h.s a d,h.s b d,h.z a b e]
def lex(p:Int)(q:Int):Int:=if p≠0 then p else q
theorem Lk{β o:Type}{f:α->β}{g:α->o}{k:β->β->Int}{p:o->o->Int}(i:Cmp k)(n:Cmp p):Cmp (fun x y:α=>lex (k (f x) (f y)) (p (g x) (g y))) where
 r:=fun a b=>by unfold lex;have:=i.r (f a) (f b);have:=n.r (g a) (g b);split <;> omega
 s:=fun a b=>by
  unfold lex;have l:=i.s (f a) (f b);have j:=n.s (g a) (g b);split <;> split <;> omega
 t:=fun a b d=>by
  unfold lex;intro l j;have q:=i.r (f a) (f b);have u:=i.r (f b) (f d)
  by_cases e:k (f a) (f b)=0
  ·rw [i.z _ _ e (f d)];simp only [e,ne_eq,not_true_eq_false,if_false] at l
   by_cases m:k (f b) (f d)=0
   ·simp only [m,ne_eq,not_true_eq_false,if_false] at j ⊢;exact n.t _ _ _ l j
   ·simp only [ne_eq,m,not_false_eq_true,if_true] at j ⊢;exact j
  ·simp only [ne_eq,e,not_false_eq_true,if_true] at l
   by_cases m:k (f b) (f d)=0
   ·rw [<- i.z' m (f a),l];exact if_pos (by decide)
   ·simp only [ne_eq,m,not_false_eq_true,if_true] at j;rw [i.t _ _ _ l j];exact if_pos (by decide)
 z:=fun a b=>by
  unfold lex;intro h d
  by_cases e:k (f a) (f b)=0
  ·simp only [e,ne_eq,not_true_eq_false,if_false] at h;rw [i.z _ _ e,n.z _ _ h]
  ·rw [if_pos e] at h;exact absurd h e
end
def yp(a b:Int):Int:=if a<b then -1 else if a>b then 1 else 0
theorem AF:Cmp yp where
 r:=fun a b=>by unfold yp;split <;> (try split) <;> omega
 s:=fun a b=>by unfold yp;split <;> split <;> (try split) <;> omega
 t:=fun a b d=>by
  unfold yp;intro h k
  have:a<b:=by by_cases e:a<b;exact e;rw [if_neg e] at h;split at h <;> omega
  have:b<d:=by by_cases e:b<d;exact e;rw [if_neg e] at k;split at k <;> omega
  rw [if_pos (by omega)]
 z:=fun a b h d=>by
  have:a=b:=by unfold yp at h;split at h;omega;split at h <;> omega
  rw [this]
theorem EY{a b:Int}:yp a b=0↔a=b:=by unfold yp;split;omega;split <;> omega
def zw(a b:ByteArray):Int:=if ltS a b then -1 else if ltS b a then 1 else 0
theorem E8{a b:ByteArray}:zw a b=0↔a=b:=by
 unfold zw;cases d:ltS a b with
 |true=>simp only [if_true];exact ⟨fun h=>by omega,fun h=>absurd h (Bh.ne d)⟩
 |false=>
  cases e:ltS b a with
  |true=>simp only [if_true,Bool.false_eq_true,if_false];exact ⟨fun h=>by omega,fun h=>absurd h.symm (Bh.ne e)⟩
  |false=>simp only [Bool.false_eq_true,if_false];exact ⟨fun _=>Bh.tot _ _ d e,fun _=>trivial⟩
theorem KX{a b:ByteArray}:zw a b= -1↔ltS a b=true:=by
 unfold zw;cases d:ltS a b with
 |true=>simp
 |false=>cases e:ltS b a <;> simp
theorem Jq:Cmp zw where
 r:=fun a b=>by unfold zw;split;simp;split <;> simp
 s:=fun a b=>by
  unfold zw;cases e:ltS a b with
  |true=>rw [Bh.asym e];rfl
  |false=>cases f:ltS b a <;> rfl
 t:=fun a b d h k=>by rw [KX] at *;exact Bh.tr _ _ _ h k
 z:=fun a b h d=>by rw [E8.1 h]
def wu:List Int->List Int->Int
 |[],[]=>0
 |[],_::_=> -1
 |_::_,[]=>1
 |a::l,b::m=>lex (yp a b) (wu l m)
theorem za: ∀{a b:List Int},wu a b=0↔a=b
 |[],[]=>by simp [wu]
 |[],_::_=>by simp [wu]
 |_::_,[]=>by simp [wu]
 |a::l,b::m=>by
  unfold wu lex;rw [List.cons.injEq]
  by_cases h:yp a b=0
  ·rw [if_neg (by simpa using h),za (a:=l)];simp [EY.1 h]
  ·rw [if_pos h];exact ⟨fun e=>absurd e h,fun e=>absurd (EY.2 e.1) h⟩
theorem Jp:Cmp wu where
 r:=fun a=>by
  induction a with
  |nil=>intro b;cases b <;> simp [wu]
  |cons x xs f=>
   intro b;cases b with
   |nil=>simp [wu]
   |cons y ys=>have:=f ys;have:=AF.r x y;unfold wu lex;split <;> omega
 s:=fun a=>by
  induction a with
  |nil=>intro b;cases b <;> simp [wu]
  |cons x xs f=>
   intro b;cases b with
   |nil=>simp [wu]
   |cons y ys=>have:=f ys;have:=AF.s x y;unfold wu lex;split <;> split <;> omega
 t:=fun a=>by
  induction a with
  |nil=>intro b d h k;cases b <;> cases d <;> simp_all [wu]
  |cons x xs f=>
   intro b d h k;cases b with
   |nil=>simp [wu] at h
   |cons y ys=>
    cases d with
    |nil=>simp [wu] at k
    |cons z i=>
     unfold wu lex at h k ⊢
     by_cases g:yp x y=0
     ·rw [if_neg (by simp [g])] at h;rw [AF.z _ _ g]
      by_cases e:yp y z=0
      ·rw [if_neg (by simp [e])] at k ⊢;exact f _ _ h k
      ·rw [if_pos e] at k ⊢;exact k
     ·rw [if_pos g] at h
      by_cases e:yp y z=0
      ·rw [<- AF.z' e,h];exact if_pos (by decide)
      ·rw [if_pos e] at k;rw [AF.t _ _ _ h k];exact if_pos (by decide)
 z:=fun a b h d=>by rw [za.1 h]
structure RE where
 var:ByteArray
 key:List Int
 n:Int
 at_:Int
 deriving DecidableEq
def uR(e:RE):List T:=[.str e.var,.slice 1 (e.key.map I),I e.n,I e.at_]
def uS(e:RE):T:=.agg (uR e)
def vd(a b:RE):Int:=lex (zw a.var b.var) (wu a.key b.key)
theorem uZ:Cmp vd:=Lk (f:=RE.var) (g:=RE.key) Jq Jp
theorem xQ{a b:RE}:vd a b=0↔a.var=b.var/\a.key=b.key:=by
 unfold vd lex;rw [<- E8, <-za]
 by_cases h:zw a.var b.var=0 <;> simp [h]
def vK(l:List RE):Prop:=l.Pairwise fun a b=>vd a b= -1
def yt:List RE->Bool
 |a::b::r=>decide (vd a b= -1)&&yt (b::r)
 |_=>true
theorem zC: ∀{l:List RE},yt l=true↔vK l
 |[]=>by simp [yt,vK]
 |[a]=>by simp [yt,vK]
 |a::b::r=>by
  have e:=zC (l:=b::r);unfold yt;rw [Bool.and_eq_true,e,decide_eq_true_eq];refine ⟨fun h=>List.pairwise_cons.2 ⟨fun x d=>?_,h.2⟩,fun h=>⟨(List.pairwise_cons.1 h).1 b (by simp),(List.pairwise_cons.1 h).2⟩⟩;rcases List.mem_cons.1 d with rfl|d
  ·exact h.1
  ·exact uZ.t _ _ _ h.1 ((List.pairwise_cons.1 h.2).1 x d)
theorem vK.filter{l:List RE}(h:vK l)(p:RE->Bool):vK (l.filter p):=List.Pairwise.filter p h
theorem vK.uniq{l:List RE}(h:vK l){x y:RE}(j:x∈l)(k:y∈l)(e:vd x y=0):x=y:=by
 induction l with
 |nil=>simp at j
 |cons a r n=>
  obtain ⟨i,m⟩:=List.pairwise_cons.1 h;rcases List.mem_cons.1 j with g|d
  ·rcases List.mem_cons.1 k with f|b
   ·rw [g,f]
   ·have:=i y b;rw [<- g] at this;omega
  ·rcases List.mem_cons.1 k with f|b
   ·have:=i x d;rw [<- f] at this;have:=uZ.s x y;omega
   ·exact n m d b
theorem vK.ext: ∀{a b:List RE},vK a->vK b->(∀ x,x∈a↔x∈b)->a=b
 |[],[],_,_,_=>rfl
 |[],b::bs,_,_,h=>by have:=(h b).2 (by simp);simp at this
 |a::l,[],_,_,h=>by have:=(h a).1 (by simp);simp at this
 |a::l,b::m,ha,hb,h=>by
  obtain ⟨i,k⟩:=List.pairwise_cons.1 ha;obtain ⟨j,n⟩:=List.pairwise_cons.1 hb;have e:a=b:=by
   rcases List.mem_cons.1 ((h a).1 (by simp)) with e|d
   ·exact e
   ·rcases List.mem_cons.1 ((h b).2 (by simp)) with e|g
    ·exact e.symm
    ·have:=j a d;have:=i b g;have:=uZ.s a b;omega
  subst e
  congr 1
  refine vK.ext k n fun x=>⟨fun f=>?_,fun f=>?_⟩
  ·rcases List.mem_cons.1 ((h x).1 (by simp [f])) with rfl|d
   ·have:=i _ f;have:=uZ.refl x;omega
   ·exact d
  ·rcases List.mem_cons.1 ((h x).2 (by simp [f])) with rfl|d
   ·have:=j _ f;have:=uZ.refl x;omega
   ·exact d
def vJ(st:List RE)(e:RE):Nat:=(st.takeWhile fun x=>decide (vd x e= -1)).length
theorem CY(st:List RE)(e:RE):vJ st e<=st.length:=List.Sublist.length_le (List.takeWhile_sublist _)
theorem Fk(x:RE)(xs:List RE)(e:RE):vJ (x::xs) e=if vd x e= -1 then vJ xs e+1 else 0:=by
 unfold vJ
 by_cases h:vd x e= -1 <;> simp [List.takeWhile,h]
theorem EG{st:List RE}(l:vK st){e:RE}: ∀{i:Nat} (h:i<st.length),vd st[i] e= -1↔i<vJ st e:=by
 induction st with
 |nil=>intro i h;simp at h
 |cons x xs f=>
  obtain ⟨g,d⟩:=List.pairwise_cons.1 l;intro i h;rw [Fk];cases i with
  |zero=>by_cases b:vd x e= -1 <;> simp [b]
  |succ i=>
   have hi:i<xs.length:=by simpa using h
   rw [List.getElem_cons_succ,f d hi]
   by_cases b:vd x e= -1
   ·rw [if_pos b];omega
   ·rw [if_neg b];refine ⟨fun a=>?_,fun a=>by omega⟩;have j:=(f d hi).2 a;have k:=g xs[i] (by simp);exact absurd (uZ.t _ _ _ k j) b
def vh(st:List RE)(v:ByteArray)(key:List Int):Option RE:=st.find? fun x=>decide (x.var=v)&&decide (x.key=key)
theorem xA{st:List RE}{v:ByteArray}{key:List Int}{x:RE}(h:vh st v key=some x):x∈st/\x.var=v/\x.key=key:=by
 have a:=List.find?_some h;simp only [Bool.and_eq_true,decide_eq_true_eq] at a;exact ⟨List.mem_of_find?_eq_some h,a⟩
theorem DY{st:List RE}{v:ByteArray}{key:List Int}:vh st v key=none↔ ∀x∈st, ¬(x.var=v/\x.key=key):=by
 unfold vh;rw [List.find?_eq_none];simp
theorem zT{st:List RE}(b:vK st)(e:RE):vh st e.var e.key=match st[vJ st e]? with
  |some x=>if vd x e=0 then some x else none
  |none=>none:=by
 have p:=CY st e;cases d:vh st e.var e.key with
 |some y=>
  obtain ⟨j,k,l⟩:=xA d;obtain ⟨i,hi,rfl⟩:=List.getElem_of_mem j;have f:vd st[i] e=0:=xQ.2 ⟨k,l⟩;have q: ¬i<vJ st e:=fun h=>by have:=(EG b hi).2 h;omega
  have r: ¬vJ st e<i:=fun h=>by
   have a:vJ st e<st.length:=by omega
   have m:=List.pairwise_iff_getElem.1 b (vJ st e) i a hi h;have n:vd st[vJ st e] e= -1:=by rw [<- uZ.z' f];exact m
   exact absurd ((EG b a).1 n) (by omega)
  have g:vJ st e=i:=by omega
  rw [g,ggZ hi];dsimp only;rw [if_pos f]
 |none=>
  have:=DY.1 d
  cases o:st[vJ st e]? with
  |none=>rfl
  |some x=>
   dsimp only;rw [if_neg fun h=>this x (List.mem_of_getElem? o) (xQ.1 h)]
def vQ(e:RE):List RE->List RE
 |[]=>[e]
 |x::xs=>if vd x e= -1 then x::vQ e xs else if vd x e=0 then e::xs else e::x::xs
theorem K2{α:Type}(b:Bool)(k:Nat)(x:α)(xs:List α):xs.drop (if b=true then k+1 else k)=(x::xs).drop (if b=true then k+1+1 else k+1):=by cases b <;> rfl
theorem Gn{st:List RE}(a:vK st)(e:RE):vQ e st=st.take (vJ st e)++e::st.drop (if (vh st e.var e.key).isSome then vJ st e+1 else vJ st e):=by
 rw [zT a];clear a
 induction st with
 |nil=>rfl
 |cons x xs d=>
  rw [Fk];unfold vQ
  by_cases h:vd x e= -1
  ·rw [if_pos h,if_pos h,d];simp only [List.getElem?_cons_succ,List.take_succ_cons,List.cons_append];exact congrArg (x:: ·) (congrArg (_++ ·) (congrArg (e:: ·) (K2 _ _ _ _)))
  ·rw [if_neg h,if_neg h];simp only [List.getElem?_cons_zero,List.take_zero,List.nil_append]
   by_cases b:vd x e=0 <;> simp [b]
theorem xJ{st:List RE}(l:vK st){e x:RE}:x∈vQ e st↔x=e\/(x∈st/\vd x e≠0):=by
 induction st with
 |nil=>simp [vQ]
 |cons y ys n=>
  obtain ⟨j,k⟩:=List.pairwise_cons.1 l;unfold vQ
  by_cases h:vd y e= -1
  ·rw [if_pos h,List.mem_cons,n k,List.mem_cons];constructor
   ·rintro (rfl|a|a)
    ·exact Or.inr ⟨Or.inl rfl,by omega⟩
    ·exact Or.inl a
    ·exact Or.inr ⟨Or.inr a.1,a.2⟩
   ·rintro (a|⟨rfl|a,f⟩)
    ·exact Or.inr (Or.inl a)
    ·exact Or.inl rfl
    ·exact Or.inr (Or.inr ⟨a,f⟩)
  ·have b: ∀z∈ys,vd z e≠0/\vd z e≠ -1:=fun z m=>by
    have a:=j z m;have o:=uZ.r y e;refine ⟨fun g=>?_,fun i=>h (uZ.t _ _ _ a i)⟩;rw [uZ.z' g] at a;omega
   rw [if_neg h]
   by_cases d:vd y e=0
   ·rw [if_pos d,List.mem_cons,List.mem_cons];constructor
    ·rintro (a|a)
     ·exact Or.inl a
     ·exact Or.inr ⟨Or.inr a,(b x a).1⟩
    ·rintro (a|⟨rfl|a,f⟩)
     ·exact Or.inl a
     ·exact absurd d f
     ·exact Or.inr a
   ·rw [if_neg d,List.mem_cons,List.mem_cons];constructor
    ·rintro (a|rfl|a)
     ·exact Or.inl a
     ·exact Or.inr ⟨Or.inl rfl,d⟩
     ·exact Or.inr ⟨Or.inr a,(b x a).1⟩
    ·rintro (a|⟨rfl|a,f⟩)
     ·exact Or.inl a
     ·exact Or.inr (Or.inl rfl)
     ·exact Or.inr (Or.inr a)
theorem vK.put{st:List RE}(i:vK st)(e:RE):vK (vQ e st):=by
 induction st with
 |nil=>simp [vQ,vK]
 |cons y ys k=>
  obtain ⟨d,f⟩:=List.pairwise_cons.1 i;unfold vQ
  by_cases h:vd y e= -1
  ·rw [if_pos h];refine List.pairwise_cons.2 ⟨fun z a=>?_,k f⟩;rcases (xJ f).1 a with rfl|⟨a,_⟩
   ·exact h
   ·exact d z a
  ·rw [if_neg h];have l:=uZ.r y e;have j:=uZ.s y e
   by_cases b:vd y e=0
   ·rw [if_pos b];exact List.pairwise_cons.2 ⟨fun z a=>by rw [<- uZ.z _ _ b];exact d z a,f⟩
   ·rw [if_neg b];have g:vd e y= -1:=by omega
    refine List.pairwise_cons.2 ⟨fun z a=>?_,i⟩;rcases List.mem_cons.1 a with rfl|a
    ·exact g
    ·exact uZ.t _ _ _ g (d z a)
def vq(e:RE):Bool->List RE->List RE
 |d,[]=>if d then [] else [e]
 |d,x::xs=>(if vd x e≠ -1/\d=false then [e] else [])++((if vd x e≠0 then [x] else [])++vq e (d||decide (vd x e≠ -1)) xs)
theorem Dk{e:RE}: ∀{l:List RE},(∀ x∈l,vd x e≠0)->vq e true l=l
 |[],_=>rfl
 |x::xs,h=>by
  unfold vq;rw [if_neg (by simp),if_pos (h x (by simp)),Bool.true_or,Dk fun y a=>h y (by simp [a])];rfl
theorem I8{st:List RE}(j:vK st)(e:RE):vq e false st=vQ e st:=by
 induction st with
 |nil=>rfl
 |cons y ys l=>
  obtain ⟨g,i⟩:=List.pairwise_cons.1 j;unfold vq vQ
  by_cases h:vd y e= -1
  ·rw [if_pos h,if_neg (by simp [h]),if_pos (by omega)]
   have:(false||decide (vd y e≠ -1))=false:=by simp [h]
   rw [this,l i];rfl
  ·have b: ∀z∈ys,vd z e≠0:=fun z k d=>by
    have f:=g z k;rw [uZ.z' d] at f;exact h f
   have:(false||decide (vd y e≠ -1))=true:=by simp [h]
   rw [if_neg h,if_pos ⟨h,rfl⟩,this,Dk b]
   by_cases a:vd y e=0
   ·rw [if_pos a,if_neg (by simp [a])];rfl
   ·rw [if_neg a,if_pos a];rfl
def ofE(st:List RE)(v:ByteArray):List RE:=st.filter fun e=>decide (e.var=v)
def xY(st:List RE)(v:ByteArray):List RE:=st.filter fun e=> !decide (e.var=v)
def vo(st:List RE)(v:ByteArray):Nat:=(ofE st v).length
def D3(a b:List RE):Option (List RE):=if b.any fun x=>(vh a x.var x.key).isSome then none else some (b.foldl (fun acc x=>vQ x acc) a)
theorem IL{b:List RE}: ∀{a:List RE},vK a->vK (b.foldl (fun acc x=>vQ x acc) a):=by
 induction b with
 |nil=>exact fun h=>h
 |cons x xs d=>exact fun h=>d (h.put x)
theorem IT{b:List RE}(j:b.Pairwise fun x y=>vd x y≠0): ∀{a:List RE},vK a->(∀ x∈b, ∀y∈a,vd y x≠0)-> ∀{z:RE},z∈b.foldl (fun acc x=>vQ x acc) a↔z∈a\/z∈b:=by
 induction b with
 |nil=>simp
 |cons x xs k=>
  intro a d hd z;obtain ⟨g,i⟩:=List.pairwise_cons.1 j;rw [List.foldl_cons,k i (d.put x) (fun w f y e=>?_),xJ d,List.mem_cons]
  ·constructor
   ·rintro ((h|h)|h)
    ·exact Or.inr (Or.inl h)
    ·exact Or.inl h.1
    ·exact Or.inr (Or.inr h)
   ·rintro (h|h|h)
    ·exact Or.inl (Or.inr ⟨h,hd x (by simp) z h⟩)
    ·exact Or.inl (Or.inl h)
    ·exact Or.inr h
  ·rcases (xJ d).1 e with rfl|⟨e,_⟩
   ·exact g w f
   ·exact hd w (by simp [f]) y e
theorem GO{a b d:List RE}(l:vK a)(t:vK b)(i:d.Perm (a++b))(C:d.Pairwise fun x y=>vd y x≠ -1):D3 a b=if yt d then some d else none:=by
 unfold D3
 by_cases g:b.any (fun x=>(vh a x.var x.key).isSome)=true
 ·rw [if_pos g]
  have:yt d=false:=by
   cases B:yt d with
   |false=>rfl
   |true=>
    exfalso;have k:=zC.1 B;rw [List.any_eq_true] at g;obtain ⟨x,f,m⟩:=g;obtain ⟨y,j⟩:=Option.isSome_iff_exists.1 m;obtain ⟨q,w,z⟩:=xA j;have A:(a++b).Nodup:=i.nodup_iff.1 (k.imp fun {x y} h e=>by subst e;have:=uZ.refl x;omega);have o:x∈d:=i.mem_iff.2 (by simp [f]);have p:y∈d:=i.mem_iff.2 (by simp [q]);have e:=k.uniq p o (xQ.2 ⟨w,z⟩);subst e;exact (List.nodup_append.1 A).2.2 y q y f rfl
  rw [this];rfl
 ·rw [if_neg g];have hd: ∀x∈b, ∀y∈a,vd y x≠0:=fun x f y j v=>by
   refine g (List.any_eq_true.2 ⟨x,f,?_⟩);cases m:vh a x.var x.key with
   |some _=>rfl
   |none=>exact absurd (xQ.1 v) (DY.1 m y j)
  have n:(a++b).Pairwise fun x y=>vd x y≠0:=List.pairwise_append.2 ⟨l.imp fun h=>by omega,t.imp fun h=>by omega,fun x f y j=>hd y j x f⟩
  have u:d.Pairwise fun x y=>vd x y≠0:=(i.pairwise_iff (fun {x y} h=>by have:=uZ.s x y;omega)).2 n
  have k:vK d:=(C.and u).imp fun {x y} h=>by have:=uZ.s x y;have:=uZ.r x y;omega
  rw [zC.2 k,if_pos rfl]
  congr 1
  refine vK.ext (IL l) k fun x=>?_
  rw [IT (t.imp fun h=>by omega) l hd,i.mem_iff,List.mem_append]
end Go.ST
end
section
namespace Go.ST
open Go Go.DL Go.MM Go.TY
def wX:List Int->List Int->Bool
 |[],[]=>true
 |k::ks,w::ws=>decide (0<=k)&&decide (k<2^w.toNat)&&wX ks ws
 |_,_=>false
def Cr(v:RV)(e:RE)(a:List RE):Bool:=
 if v.fam=2 then decide (e.n=0)
 else if v.fam=3 then decide (v.n<=e.n)&&decide (e.n<=v.m)&& !(a.any fun x=>decide (x.var=e.var)&&decide (x.n=e.n))
 else if v.fam=4 then decide (v.n=0)||decide (e.n<=v.n)
 else true
def B4(e:RE):Bool:=decide (0<=e.n)&&decide (e.n<=65535)&&decide (0<=e.at_)&&decide (e.at_<=1073741824)
def yI(v:RV)(e:RE)(a:List RE):Bool:=B4 e&&wX e.key v.ws&&Cr v e a
def varOf(vars:List RV)(name:ByteArray):Option RV:=vars.find? fun v=>decide (v.name=name)
def Aj(a:List RE)(e:RE):Bool:=match a.getLast? with
 |some x=>decide (vd x e≠ -1)
 |none=>false
def Bb(vars:List RV)(a:List RE)(e:RE):Int:=match varOf vars e.var with
 |none=>4
 |some v=>if yI v e a=false then 1 else if Aj a e=true then 10 else if 100<=vo a e.var then 2 else 0
def BF(vars:List RV):List RE->List RE->Int
 |_,[]=>0
 |before,e::es=>if Bb vars before e=0 then BF vars (before++[e]) es else Bb vars before e
def Bc(vars:List RV)(st:List RE):Int:=BF vars [] st
theorem BM: ∀{k w:List Int},wX k w=true->k.length=w.length
 |[],[],_=>rfl
 |[],_::_,h=>by cases h
 |_::_,[],h=>by cases h
 |k::ks,w::ws,h=>by
  simp only [wX,Bool.and_eq_true] at h;simp [BM h.2]
theorem Dv: ∀{k w:List Int},wX k w=true↔k.length=w.length/\ ∀(i:Nat) (a b:Int),k[i]? =some a->w[i]? =some b->0<=a/\a<2^b.toNat
 |[],[]=>by simp [wX]
 |[],_::_=>by simp [wX]
 |_::_,[]=>by simp [wX]
 |k::ks,w::ws=>by
  rw [wX,Bool.and_eq_true,Bool.and_eq_true,decide_eq_true_eq,decide_eq_true_eq,Dv,List.length_cons,List.length_cons];constructor
  ·rintro ⟨⟨g,f⟩,j,h⟩;refine ⟨by omega,fun i a b d e=>?_⟩;cases i with
   |zero=>simp only [List.getElem?_cons_zero,Option.some.injEq] at d e;subst d;subst e;exact ⟨g,f⟩
   |succ i=>exact h i a b (by simpa using d) (by simpa using e)
  ·rintro ⟨g,f⟩;exact ⟨f 0 k w rfl rfl,by omega,fun i a b d e=>f (i+1) a b (by simpa using d) (by simpa using e)⟩
structure LR (vars:List RV) (e:RE):Prop where
 ex: ∃v,varOf vars e.var=some v/\wX e.key v.ws=true/\(v.fam=2->e.n=0)/\(v.fam=3->v.n<=e.n/\e.n<=v.m)/\(v.fam=4->v.n=0\/e.n<=v.n)
 n0:0<=e.n
 n1:e.n<=65535
 a0:0<=e.at_
 a1:e.at_<=1073741824
def Mp(vars:List RV)(name:ByteArray):Prop:= ∃v,varOf vars name=some v/\v.fam=3
def DN(vars:List RV)(x y:RE):Prop:=x.var=y.var->Mp vars x.var->x.n≠y.n
structure OkS (vars:List RV) (st:List RE):Prop where
 inc:vK st
 fit: ∀e∈st,LR vars e
 tr:st.Pairwise (DN vars)
 few: ∀v,vo st v<=100
theorem Bd{st:List RE}{e:RE}{v:ByteArray}:vo (st++[e]) v=vo st v+if e.var=v then 1 else 0:=by
 unfold vo ofE;rw [List.filter_append,List.length_append]
 by_cases h:e.var=v <;> simp [h]
theorem IK{st:List RE}{e:RE}:vK (st++[e])↔vK st/\ ∀x,st.getLast? =some x->vd x e= -1:=by
 unfold vK;rw [List.pairwise_append];constructor
 ·rintro ⟨f,_,l⟩;exact ⟨f,fun x g=>l x (List.mem_of_getLast? g) e (by simp)⟩
 ·rintro ⟨f,k⟩;refine ⟨f,by simp,fun a i b m=>?_⟩;rw [List.mem_singleton.1 m];obtain ⟨x,g⟩: ∃x,st.getLast? =some x:=by
   cases j:st.getLast? with
   |none=>rw [List.getLast?_eq_none_iff] at j;subst j;simp at i
   |some x=>exact ⟨x,rfl⟩
  have d:=k x g;obtain ⟨ys,rfl⟩: ∃ys,st=ys++[x]:=List.getLast?_eq_some_iff.1 g;rcases List.mem_append.1 i with h|h
  ·exact uZ.t _ _ _ ((List.pairwise_append.1 f).2.2 a h x (by simp)) d
  ·rw [List.mem_singleton.1 h];exact d
theorem KV{vars:List RV}{a:List RE}{e:RE}(n:OkS vars a):Bb vars a e=0↔OkS vars (a++[e]):=by
 have z:=IK (st:=a) (e:=e);constructor
 ·intro h;unfold Bb at h;cases j:varOf vars e.var with
  |none=>rw [j] at h;simp at h
  |some v=>
   rw [j] at h;dsimp only at h;have k:yI v e a=true:=by
    cases i:yI v e a with
    |true=>rfl
    |false=>rw [if_pos i] at h;omega
   rw [if_neg (by simp [k])] at h;have q: ∀x,a.getLast? =some x->vd x e= -1:=fun x f=>by
    by_cases A:vd x e= -1
    ·exact A
    ·have:Aj a e=true:=by unfold Aj;rw [f];simp [A]
     rw [if_pos this] at h;omega
   have u:vo a e.var<100:=by
    split at h
    ·omega
    ·split at h <;> omega
   unfold yI B4 at k;simp only [Bool.and_eq_true,decide_eq_true_eq] at k;obtain ⟨⟨⟨⟨⟨K,L⟩,C⟩,D⟩,s⟩,b⟩:=k;refine ⟨z.2 ⟨n.inc,q⟩,fun x f=>?_,?_,fun w=>?_⟩
   ·rcases List.mem_append.1 f with f|f
    ·exact n.fit x f
    ·rw [List.mem_singleton.1 f];refine ⟨⟨v,j,s,fun i=>?_,fun i=>?_,fun i=>?_⟩,K,L,C,D⟩
     ·simpa [Cr,i] using b
     ·unfold Cr at b;rw [if_neg (by omega),if_pos i] at b;simp only [Bool.and_eq_true,decide_eq_true_eq] at b;exact b.1
     ·unfold Cr at b;rw [if_neg (by omega),if_neg (by omega),if_pos i] at b;simpa using b
   ·refine List.pairwise_append.2 ⟨n.tr,by simp,fun x f y J=>?_⟩;rw [List.mem_singleton.1 J];rintro g ⟨M,l,r⟩ t;rw [g,j] at l;cases l;unfold Cr at b;rw [if_neg (by omega),if_pos r] at b;simp only [Bool.and_eq_true,Bool.not_eq_true',List.any_eq_false,Bool.and_eq_true,decide_eq_true_eq,not_and] at b;exact b.2 x f g t
   ·rw [Bd]
    have:=n.few w
    by_cases B:e.var=w
    ·subst B;simp;omega
    ·simp [B,this]
 ·intro h;have d:=h.fit e (by simp);obtain ⟨v,j,s,E,F,G⟩:=d.ex;unfold Bb;rw [j];dsimp only;have k:yI v e a=true:=by
   unfold yI B4;simp only [Bool.and_eq_true,decide_eq_true_eq];refine ⟨⟨⟨⟨⟨d.n0,d.n1⟩,d.a0⟩,d.a1⟩,s⟩,?_⟩;unfold Cr
   by_cases o:v.fam=2
   ·rw [if_pos o];simpa using E o
   ·rw [if_neg o]
    by_cases m:v.fam=3
    ·rw [if_pos m];simp only [Bool.and_eq_true,Bool.not_eq_true',List.any_eq_false,decide_eq_true_eq,not_and];refine ⟨F m,fun x f g t=>?_⟩;exact (List.pairwise_append.1 h.tr).2.2 x f e (by simp) g ⟨v,by rw [g];exact j,m⟩ t
    ·rw [if_neg m]
     by_cases p:v.fam=4
     ·rw [if_pos p];simpa using G p
     ·rw [if_neg p]
  rw [if_neg (by simp [k])];have q:=(z.1 h.inc).2;have u:=h.few e.var;rw [Bd,if_pos rfl] at u;rw [if_neg (show ¬100<=vo a e.var by omega)];have I:Aj a e=false:=by
   unfold Aj;cases H:a.getLast? with
   |none=>rfl
   |some x=>simp [q x H]
  rw [if_neg (by simp [I])]
theorem OkS.nil{vars:List RV}:OkS vars []:=⟨List.Pairwise.nil,by simp,List.Pairwise.nil,fun _=>by simp [vo,ofE]⟩
theorem OkS.take{vars:List RV}{a b:List RE}(h:OkS vars (a++b)):OkS vars a:=
 ⟨(List.pairwise_append.1 h.inc).1,fun e d=>h.fit e (by simp [d]),(List.pairwise_append.1 h.tr).1,fun v=>by
  have:=h.few v
  unfold vo ofE at *
  rw [List.filter_append,List.length_append] at this
  omega⟩
theorem G1{vars:List RV}: ∀{b a:List RE},OkS vars a->(BF vars a b=0↔OkS vars (a++b))
 |[],a,h=>by simp [BF,h]
 |e::b,a,h=>by
  unfold BF;have f:=KV (e:=e) h
  by_cases d:Bb vars a e=0
  ·rw [if_pos d,G1 (f.1 d),List.append_assoc];rfl
  ·rw [if_neg d];refine ⟨fun h=>absurd h d,fun g=>absurd (f.2 ?_) d⟩;rw [show a++e::b=a++[e]++b by simp] at g;exact g.take
theorem G0{vars:List RV}{st:List RE}:Bc vars st=0↔OkS vars st:=by
 unfold Bc;rw [G1 OkS.nil];rfl
theorem AX{st:List RE}{v:ByteArray}:vo st v<=st.length:=List.length_filter_le _ _
theorem Lm{st:List RE}(d:vK st){e:RE}{v:ByteArray}:ofE (vQ e st) v=if e.var=v then vQ e (ofE st v) else ofE st v:=by
 refine vK.ext ((d.put e).filter _) (by split;exact (d.filter _).put e;exact d.filter _) fun x=>?_
 unfold ofE;rw [List.mem_filter,xJ d,decide_eq_true_eq]
 by_cases h:e.var=v
 ·rw [if_pos h,xJ (d.filter _),List.mem_filter,decide_eq_true_eq];constructor
  ·rintro ⟨rfl|a,b⟩
   ·exact Or.inl rfl
   ·exact Or.inr ⟨⟨a.1,b⟩,a.2⟩
  ·rintro (rfl|a)
   ·exact ⟨Or.inl rfl,h⟩
   ·exact ⟨Or.inr ⟨a.1.1,a.2⟩,a.1.2⟩
 ·rw [if_neg h,List.mem_filter,decide_eq_true_eq];constructor
  ·rintro ⟨rfl|a,b⟩
   ·exact absurd b h
   ·exact ⟨a.1,b⟩
  ·rintro ⟨a,b⟩;exact ⟨Or.inr ⟨a,fun f=>h ((xQ.1 f).1.symm.trans b)⟩,b⟩
theorem GJ{st:List RE}(d:vK st){e:RE}{v:ByteArray}(h:e.var=v):xY (vQ e st) v=xY st v:=by
 refine vK.ext ((d.put e).filter _) (d.filter _) fun x=>?_
 unfold xY;rw [List.mem_filter,List.mem_filter,xJ d];simp only [Bool.not_eq_true',decide_eq_false_iff_not];constructor
 ·rintro ⟨rfl|b,a⟩
  ·exact absurd h a
  ·exact ⟨b.1,a⟩
 ·rintro ⟨b,a⟩;exact ⟨Or.inr ⟨b,fun f=>a ((xQ.1 f).1.trans h)⟩,a⟩
theorem JU{st:List RE}(d:vK st)(e:RE):(vQ e st).length=if (vh st e.var e.key).isSome then st.length else st.length+1:=by
 rw [Gn d];have g:=CY st e;cases f:vh st e.var e.key with
 |none=>simp;omega
 |some x=>
  have a:=zT d e;rw [f] at a;cases b:st[vJ st e]? with
  |none=>rw [b] at a;cases a
  |some y=>
   have:=(gsZ b).1
   simp;omega
theorem F0{st:List RE}{v:ByteArray}{key:List Int}:vh (ofE st v) v key=vh st v key:=by
 unfold vh ofE;rw [List.find?_filter]
 congr 1
 funext x
 by_cases h:x.var=v <;> simp [h]
theorem OkS.put{vars:List RV}{st:List RE}(h:OkS vars st){e:RE}(I:LR vars e)(q:(vh st e.var e.key).isSome=true\/vo st e.var<100)
  (E:Mp vars e.var-> ∀x∈st,x.var=e.var->vd x e≠0->x.n≠e.n):OkS vars (vQ e st):=by
 refine ⟨h.inc.put e,fun x g=>?_,?_,fun v=>?_⟩
 ·rcases (xJ h.inc).1 g with rfl|⟨g,_⟩
  ·exact I
  ·exact h.fit x g
 ·
  have G: ∀x∈vQ e st, ∀y∈vQ e st,vd x y≠0->DN vars x y:=by
   have z: ∀x∈st, ∀y∈st,vd x y≠0->DN vars x y:=by
    have key: ∀(l:List RE),l.Pairwise (DN vars)-> ∀x∈l, ∀y∈l,vd x y≠0->DN vars x y:=by
     intro l J
     induction l with
     |nil=>intro x g;simp at g
     |cons a r K=>
      obtain ⟨C,H⟩:=List.pairwise_cons.1 J;intro x g y s b;rcases List.mem_cons.1 g with k|f
      ·rcases List.mem_cons.1 s with m|d
       ·rw [k,m] at b;exact absurd (uZ.refl _) b
       ·rw [k];exact C y d
      ·rcases List.mem_cons.1 s with m|d
       ·rw [m];exact fun o p F=>C x f o.symm (by rw [<- o];exact p) F.symm
       ·exact K H x f y d b
    exact key st h.tr
   intro x g y s b;rcases (xJ h.inc).1 g with o|⟨f,B⟩
   ·rcases (xJ h.inc).1 s with p|⟨d,t⟩
    ·rw [o,p] at b;exact absurd (uZ.refl _) b
    ·rw [o];exact fun k m u=>E m y d k.symm t u.symm
   ·rcases (xJ h.inc).1 s with p|⟨d,t⟩
    ·rw [p];exact fun k m u=>E (by rw [<- k];exact m) x f k B u
    ·exact z x f y d b
  exact (List.pairwise_iff_getElem.2 fun i j hi D w=>G _ (List.getElem_mem hi) _ (List.getElem_mem D) (by
   have:=List.pairwise_iff_getElem.1 (h.inc.put e) i j hi D w
   omega))
 ·unfold vo;rw [Lm h.inc]
  by_cases A:e.var=v
  ·rw [if_pos A,JU (show vK (ofE st v) from h.inc.filter _)];subst A;rw [F0]
   have:=h.few e.var
   unfold vo at this q;rcases q with q|q
   ·rw [if_pos q];exact this
   ·split <;> omega
  ·rw [if_neg A];exact h.few v
end Go.ST
end
section
namespace Go.ST
open Go Go.DL Go.MM
open Go.TY hiding Fd
abbrev Fd:=Go.MM.Fd
def vf(l:List Fd)(s:ByteArray):Bool:=(findF l s).isSome
def wrF(l:List Fd)(h:List Int)(name:ByteArray)(n:Int):List Int:=
 if vf l name then wc (fld l name) h (min n ((2^(fld l name).w - 1:Nat):Int)).toNat else h
def xZ(l:List Fd):List ByteArray->List Int->List Int->List Int
 |k::ks,v::vs,h=>xZ l ks vs (wrF l h k v)
 |[],_,h=>h
 |_::_,[],h=>h
def keyOf(l:List Fd)(a:List ByteArray)(h:List Int):List Int:=a.map fun k=>(vD (fld l k) h:Int)
def vS(l:List RE)(n:Int):Bool:=l.any fun e=>decide (e.n=n)
def wM(l:List RE):Nat->Int->Int
 |0,n=>n
 |k+1,n=>if vS l n then wM l k (n+1) else n
theorem zi(l:List RE): ∀(k:Nat) (n:Int),n<=wM l k n/\wM l k n<=n+k/\ ∀m,n<=m->m<wM l k n->vS l m=true
 |0,n=>⟨by simp [wM],by simp [wM],fun m b a=>by simp [wM] at a;omega⟩
 |k+1,n=>by
  unfold wM
  by_cases h:vS l n=true
  ·rw [if_pos h];obtain ⟨b,a,d⟩:=zi l k (n+1);refine ⟨by omega,by omega,fun m g f=>?_⟩
   by_cases e:m=n
   ·rw [e];exact h
   ·exact d m (by omega) f
  ·rw [if_neg h];exact ⟨by omega,by omega,fun m b a=>by omega⟩
theorem Hy{l:List RE}{e:RE}{m:Int}(h:m≠e.n):vS (l.erase e) m=vS l m:=by
 induction l with
 |nil=>rfl
 |cons a r d=>
  rw [List.erase_cons]
  by_cases b:(a==e)=true
  ·rw [if_pos b]
   have:a=e:=by simpa using b
   subst this;unfold vS;rw [List.any_cons]
   have:decide (a.n=m)=false:=by simpa using fun e=>h e.symm
   rw [this];rfl
  ·rw [if_neg b];unfold vS at d ⊢;rw [List.any_cons,List.any_cons,d]
theorem pL: ∀(k:Nat) (l:List RE) (n:Int),l.length<k-> ∃m,n<=m/\m<n+k/\vS l m=false
 |0,l,n,h=>by omega
 |k+1,l,n,h=>by
  cases b:vS l n with
  |false=>exact ⟨n,by omega,by omega,b⟩
  |true=>
   unfold vS at b;obtain ⟨e,d,a⟩:=List.any_eq_true.1 b;have a:e.n=n:=by simpa using a
   obtain ⟨m,g,i,f⟩:=pL k (l.erase e) (n+1) (by rw [List.length_erase_of_mem d];have:=List.length_pos_of_mem d;omega);exact ⟨m,by omega,by omega,by rw [<- f,Hy (by omega)]⟩
theorem BQ(l:List RE)(n:Int):vS l (wM l l.length n)=false:=by
 have key: ∀(k:Nat) (n:Int),(∃ m,n<=m/\m<n+(k+1:Nat)/\vS l m=false)->vS l (wM l k n)=false:=by
  intro k
  induction k with
  |zero=>
   rintro n ⟨m,d,e,a⟩
   have:m=n:=by omega
   rw [<- this];exact a
  |succ k f=>
   rintro n ⟨m,d,e,a⟩;unfold wM;cases b:vS l n with
   |false=>simpa using b
   |true=>
    rw [if_pos rfl];refine f (n+1) ⟨m,?_,by omega,a⟩;rcases Int.lt_or_eq_of_le d with h|h
    ·omega
    ·subst h;rw [a] at b;cases b
 exact key l.length n (pL _ l n (by omega))
def xi(s:RS)(e:RE)(tick:Int):RE:=
 let k:Int:=if tick>e.at_ then (tick - e.at_).tdiv s.m else 0
 if e.n+k>=s.n then ⟨e.var,e.key,s.n,tick⟩ else ⟨e.var,e.key,e.n+k,e.at_+k * s.m⟩
abbrev Res:=List Int×Bool×Option RE
def wa(f:Option RE)(o:List RE):Bool:=f.isNone&&decide (100<=o.length)
def do1(l:List Fd)(s:RS)(f:Option RE)(o:List RE)(h:List Int)(tick:Int)(key:List Int):Res:=
 if wa f o then (h,false,none)
 else (wrF l h s.field (min (((f.map (·.n)).getD 0)+1) 65535),true,some ⟨s.var,key,min (((f.map (·.n)).getD 0)+1) 65535,tick⟩)
def do2(s:RS)(f:Option RE)(o:List RE)(h:List Int)(tick:Int)(key:List Int):Res:=
 if wa f o then (h,false,none) else (h,true,some ⟨s.var,key,(f.map (·.n)).getD 0,tick⟩)
def do3(s:RS)(f:Option RE)(h:List Int)(tick:Int):Res:=(h,(match f with
 |some e=>decide (e.at_>=tick - s.n)
 |none=>false),none)
def xw(s:RS)(f:Option RE)(o:List RE):Int:=match f with
 |some e=>e.n
 |none=>wM o o.length s.n
def do4(l:List Fd)(s:RS)(f:Option RE)(o:List RE)(h:List Int)(tick:Int)(key:List Int):Res:=
 if wa f o||(f.isNone&&decide (xw s f o>s.m)) then (h,false,none)
 else (wrF l h s.field (xw s f o),true,some ⟨s.var,key,xw s f o,tick⟩)
def do5(l:List Fd)(s:RS)(o:List RE)(h:List Int):Res:=match o.find? fun e=>decide (e.n=(vD (fld l s.field) h:Int)) with
 |some e=>(xZ l s.key e.key h,true,none)
 |none=>(h,false,none)
def yZ(s:RS)(f:Option RE)(key:List Int)(tick:Int):RE:=xi s (f.getD ⟨s.var,key,s.n,tick⟩) tick
def do6(s:RS)(f:Option RE)(o:List RE)(h:List Int)(tick:Int)(key:List Int):Res:=
 if wa f o then (h,false,none)
 else if (yZ s f key tick).n>0 then (h,true,some ⟨s.var,key,(yZ s f key tick).n - 1,(yZ s f key tick).at_⟩) else (h,false,some ⟨s.var,key,(yZ s f key tick).n,(yZ s f key tick).at_⟩)
def doR(l:List Fd)(s:RS)(f:Option RE)(o:List RE)(h:List Int)(tick:Int):Res:=
 if s.kind=0 then (h,true,none)
 else if s.kind=1 then do1 l s f o h tick (keyOf l s.key h)
 else if s.kind=2 then do2 s f o h tick (keyOf l s.key h)
 else if s.kind=3 then do3 s f h tick
 else if s.kind=4 then do4 l s f o h tick (keyOf l s.key h)
 else if s.kind=5 then do5 l s o h
 else do6 s f o h tick (keyOf l s.key h)
def cL:Option RE->List RE->List RE
 |none,st=>st
 |some e,st=>vQ e st
structure Dn where
 h:List Int
 pass:Bool
 st:List RE
def xO(l:List Fd)(s:RS)(st:List RE)(h:List Int)(tick:Int):Res:=doR l s (vh st s.var (keyOf l s.key h)) (ofE st s.var) h tick
def doE(l:List Fd)(s:RS)(st:List RE)(h:List Int)(tick:Int):Dn:=⟨(xO l s st h tick).1,(xO l s st h tick).2.1,cL (xO l s st h tick).2.2 st⟩
structure DO (l:List Fd) (s:RS) (st:List RE) (h:List Int) (tick:Int):Prop where
 lok:LOk l
 no:vf l ⟨#[]⟩=false
 hok:HOk h
 inc:vK st
 len:st.length<=1000000
 num: ∀e∈st,0<=e.n/\e.n<=65535/\0<=e.at_/\e.at_<=1073741824
 t0:0<=tick
 t1:tick<=1073741824
 k0:0<=s.kind
 k1:s.kind<=6
 keys: ∀k∈s.key,vf l k=true
 klen:s.key.length<=1000
 k3:s.kind=3->0<=s.n/\s.n<=1073741824
 k4:s.kind=4->0<=s.n/\s.n<=65535/\s.n<=s.m/\s.m<=65535
 k5:s.kind=5->vf l s.field=true/\ ∀e∈st,e.var=s.var->e.key.length=s.key.length/\ ∀x∈e.key,0<=x
 k6:s.kind=6->1<=s.n/\s.n<=65535/\1<=s.m/\s.m<=1073741824
end Go.ST
end
section
namespace Go.ST
open Go Go.DL Go.Proofs
def l29:LWZ Tryz.prog Tryz.f29 17 []:=⟨_,lrZ⟩
def l81:LWZ Tryz.prog Tryz.f81 36 []:=⟨_,lrZ⟩
def l79:LWZ Tryz.prog Tryz.f79 18 []:=⟨_,lrZ⟩
def l80:LWZ Tryz.prog Tryz.f80 20 []:=⟨_,lrZ⟩
def OV:LWZ Tryz.prog Tryz.f122 6 []:=⟨_,lrZ⟩
def l75:LWZ Tryz.prog Tryz.f75 96 []:=⟨_,lrZ⟩
def OT:LWZ Tryz.prog Tryz.f117 16 []:=⟨_,lrZ⟩
def OS:LWZ Tryz.prog Tryz.f116 9 []:=⟨_,lrZ⟩
def Mu:LWZ Tryz.prog Tryz.f109 19 []:=⟨_,lrZ⟩
def l73:LWZ Tryz.prog Tryz.f73 19 []:=⟨_,lrZ⟩
def l23:LWZ Tryz.prog Tryz.f23 59 []:=⟨_,lrZ⟩
def l74:LWZ Tryz.prog Tryz.f74 9 []:=⟨_,lrZ⟩
def l76:LWZ Tryz.prog Tryz.f76 14 []:=⟨_,lrZ⟩
def OU:LWZ Tryz.prog Tryz.f118 49 []:=⟨_,lrZ⟩
def l25:LWZ Tryz.prog Tryz.f25 25 []:=⟨_,lrZ⟩
def OQ:LWZ Tryz.prog Tryz.f114 8 [8000005,9000005]:=⟨_,lrZ⟩
def l71:LWZ Tryz.prog Tryz.f71 9 [114,113]:=⟨_,lrZ⟩
def OR:LWZ Tryz.prog Tryz.f115 8 []:=⟨_,lrZ⟩
def JL:LWZ Tryz.prog Tryz.f113 42 []:=⟨_,lrZ⟩
def l72:LWZ Tryz.prog Tryz.f72 8 []:=⟨_,lrZ⟩
def l21:LWZ Tryz.prog Tryz.f21 46 []:=⟨_,lrZ⟩
def l67:LWZ Tryz.prog Tryz.f67 20 []:=⟨_,lrZ⟩
def OP:LWZ Tryz.prog Tryz.f112 13 []:=⟨_,lrZ⟩
def l65:LWZ Tryz.prog Tryz.f65 20 []:=⟨_,lrZ⟩
def l66:LWZ Tryz.prog Tryz.f66 120 []:=⟨_,lrZ⟩
def l60:LWZ Tryz.prog Tryz.f60 23 []:=⟨_,lrZ⟩
def l14:LWZ Tryz.prog Tryz.f14 62 []:=⟨_,lrZ⟩
def l26:LWZ Tryz.prog Tryz.f26 37 []:=⟨_,lrZ⟩
def l62:LWZ Tryz.prog Tryz.f62 47 [6000006,5000007,8000029,8000038,8000044]:=⟨_,lrZ⟩
def l31:LWZ Tryz.prog Tryz.f31 28 [8000025]:=⟨_,lrZ⟩
end Go.ST
end
section
namespace Go.ST
open Go Go.DL Go.MM Go.Proofs
open Go.TY hiding Fd
theorem zF(s:ByteArray):DCalls Tryz.prog 122 [.str s] (.bool false):=by
 refine dl2 mixed [.tmp 2] [.bool false] Tryz.func122 OV.2 ?_;have h:(!(s.toList==s.toList))=false:=by simp
 exact rcZ
theorem GH(x:Int):DCalls Tryz.prog 156 [I x] (.bool false):=by
 refine dl2 mixed [.tmp 2] [.bool _] Tryz.func156 Mw.2 ?_;exact rcZ
theorem MW(x y:Int):DCalls Tryz.prog 123 [I x,I y] (I (yp x y)):=by
 refine dl2 mixed [.tmp 4] [I _] Tryz.func123 Mv.2 ?_;unfold yp;refine rnZ ?_;refine pC _ (GH _) ?_;refine rnZ ?_;refine pC _ (GH _) ?_;exact rcZ
 all_goals (refine ri ?_ trivial;split <;> (try split) <;> first|rfl|omega)
theorem gtS(a b:ByteArray):(!(Op.bytesLess a.toList b.toList||a.toList==b.toList))=ltS b a:=by
 cases d:ltS a b with
 |true=>
  have g:=Bh.asym d;unfold ltS at d;rw [d,g];rfl
 |false=>
  have f:=d;unfold ltS at f;rw [f,Bool.false_or];cases g:ltS b a with
  |true=>
   have: ¬a.toList=b.toList:=fun e=>Bh.ne g (Cl e).symm
   simpa using this
  |false=>
   have:a=b:=Bh.tot _ _ d g
   simp [this]
theorem MY(x y:ByteArray):DCalls Tryz.prog 80 [.str x,.str y] (I (zw x y)):=by
 refine dl2 mixed [.tmp 4] [I _] Tryz.func80 l80.2 ?_;unfold zw;have d:=gtS x y;have e:Op.bytesLess x.toList y.toList=ltS x y:=rfl;cases a:ltS x y with
 |true=>
  rw [a] at e;refine rnZ ?_;refine pC _ (zF _) ?_;refine rnZ ?_;refine pC _ (zF _) ?_;exact rcZ
 |false=>
  rw [a] at e;cases b:ltS y x with
  |true=>
   rw [b] at d;refine rnZ ?_;refine pC _ (zF _) ?_;refine rnZ ?_;refine pC _ (zF _) ?_;exact rcZ
  |false=>
   rw [b] at d;refine rnZ ?_;refine pC _ (zF _) ?_;refine rnZ ?_;refine pC _ (zF _) ?_;exact rcZ
theorem N5(x y:Int):DCalls Tryz.prog 79 [.slice 1 [I x,I y]] (I (lex x y)):=by
 refine dl2 mixed [.tmp 2] [I _] Tryz.func79 l79.2 ?_;unfold lex
 skip
 refine tT 0 (α:=Nat) (β:=Unit) (fun i=>{sl:=[(3,.t (I 0)),(6,.t (.slice 1 [I x,I y])),(7,.t (I 2)),(8,.t (I i))],bx:=[]})
  (fun i=>i<=2/\(1<=i->x=0)/\(2<=i->y=0)) (fun i=>2 - i) (fun _=>{sl:=[(3,.t (I 0))],bx:=[]}) (fun _=>x=0/\y=0) 0 ⟨by omega,by omega,by omega⟩ ?_ ?_ ?_
 ·exact wkZ
 ·rintro i ⟨hi,a,b⟩
  match i,hi with
  |0,_=>
   by_cases h:x=0
   ·refine rnZ ?_;exact ⟨1,⟨by omega,fun _=>h,by omega⟩,by omega,by exact wkZ⟩
   ·rw [if_pos h];exact rcZ
  |1,_=>
   rw [if_neg (by simp [a (by omega)])]
   by_cases h:y=0
   ·refine rnZ ?_;exact ⟨2,⟨by omega,fun _=>a (by omega),fun _=>h⟩,by omega,by exact wkZ⟩
   ·exact rcZ
  |2,_=>
   refine rnZ ?_;exact ⟨(),⟨a (by omega),b (by omega)⟩,by exact wkZ⟩
  |i+3,h=>omega
 rintro - ⟨a,b⟩;rw [a,b];exact rcZ
theorem EZ{a b:List Int}{i:Nat}(d:i<a.length)(e:i<b.length):wu (a.drop i) (b.drop i)=lex (yp a[i] b[i]) (wu (a.drop (i+1)) (b.drop (i+1))):=by
 rw [List.drop_eq_getElem_cons d,List.drop_eq_getElem_cons e];rfl
theorem Dq{a b:List Int}{i:Nat}(d:a.length<=i)(e:i<=b.length):wu (a.drop i) (b.drop i)=if i<b.length then -1 else 0:=by
 rw [List.drop_eq_nil_of_le d]
 by_cases h:i<b.length
 ·rw [List.drop_eq_getElem_cons h,if_pos h];rfl
 ·rw [List.drop_eq_nil_of_le (by omega),if_neg h];rfl
theorem E0{a b:List Int}{i:Nat}(d:i<a.length)(e:b.length<=i):wu (a.drop i) (b.drop i)=1:=by
 rw [List.drop_eq_nil_of_le e,List.drop_eq_getElem_cons d];rfl
theorem MX(a b:List Int)(p:a.length<2^60)(q:b.length<2^60):DCalls Tryz.prog 81 [.slice 1 (a.map I),.slice 1 (b.map I)] (I (wu a b)):=by
 refine dl2 mixed [.tmp 4] [I _] Tryz.func81 l81.2 ?_;have m:((a.map I).length:Int)=a.length:=by rw [List.length_map]
 have n:((b.map I).length:Int)=b.length:=by rw [List.length_map]
 skip
 refine tT 0 (α:=Nat) (β:=Unit) (fun i=>{sl:=[(0,.t (.slice 1 (a.map I))),(1,.t (.slice 1 (b.map I))),(9,.t (.slice 1 (a.map I))),(10,.t (I (a.map I).length)),(11,.t (I i))],bx:=[]})
  (fun i=>i<=a.length/\i<=b.length/\wu (a.drop i) (b.drop i)=wu a b) (fun i=>a.length - i) (fun _=>{sl:=[(0,.t (.slice 1 (a.map I))),(1,.t (.slice 1 (b.map I)))],bx:=[]}) (fun _=>a.length<=b.length/\wu (a.drop a.length) (b.drop a.length)=wu a b) 0 ⟨by omega,by omega,rfl⟩ ?_ ?_ ?_
 ·exact wkZ
 ·rintro i ⟨hi,k,e⟩;rcases Nat.lt_or_ge i a.length with h|h
  ·have d:(i:Int)<((a.map I).length:Int):=by omega
   rcases Nat.lt_or_ge i b.length with g|g
   ·have f: ¬(i:Int)>=((b.map I).length:Int):=by omega
    rw [EZ h g] at e;unfold lex at e;have l:=MW a[i] b[i];generalize o:yp a[i] b[i]=c at *
    by_cases j:c=0
    ·rw [if_neg (by simpa using j)] at e
     repeat' ((conv=>whnf);first|refine nr d ?_|(refine nv_ (I a[i]) (by first|(simp [h];done)|fail) ?_)|refine nq f ?_|(refine nv_ (I b[i]) (by first|(simp [g];done)|fail) ?_)|refine pC _ (l) ?_|refine nw j ?_|refine aS ?_|refine nT_ ?_)
     exact ⟨i+1,⟨h,g,e⟩,by omega,by exact wkZ⟩
    ·rw [if_pos j] at e;rw [<- e]
     repeat' ((conv=>whnf);first|exact trivial|refine nr d ?_|(refine nv_ (I a[i]) (by first|(simp [h];done)|fail) ?_)|refine nq f ?_|(refine nv_ (I b[i]) (by first|(simp [g];done)|fail) ?_)|refine pC _ (l) ?_|refine ny j ?_|refine rix ?_|refine aS ?_|refine nT_ ?_)
   ·have f:(i:Int)>=((b.map I).length:Int):=by omega
    rw [E0 h g] at e;rw [<- e]
    repeat' ((conv=>whnf);first|exact trivial|refine nr d ?_|(refine nv_ (I a[i]) (by first|(simp [h];done)|fail) ?_)|refine nr f ?_|refine rix ?_|refine aS ?_|refine nT_ ?_)
  ·have d: ¬(i:Int)<((a.map I).length:Int):=by omega
   obtain rfl:i=a.length:=by omega
   refine rnZ ?_;exact ⟨(),⟨k,e⟩,by exact wkZ⟩
 rintro - ⟨k,e⟩;rw [Dq (Nat.le_refl _) k] at e;rw [<- e]
 by_cases h:a.length<b.length
 ·have d:((a.map I).length:Int)<((b.map I).length:Int):=by omega
  rw [if_pos h];exact rcZ
 ·have d: ¬((a.map I).length:Int)<((b.map I).length:Int):=by omega
  rw [if_neg h];exact rcZ
theorem Ef(a b:List Int)(p:a.length<2^60)(q:b.length<2^60):DCalls Tryz.prog 21 [.slice 1 (a.map I),.slice 1 (b.map I)] (I (wu a b)):=by
 refine dl2 mixed [.tmp 4] [I _] Tryz.func21 l21.2 ?_;have n:((a.map I).length:Int)=a.length:=by rw [List.length_map]
 have o:((b.map I).length:Int)=b.length:=by rw [List.length_map]
 skip
 refine tT 0 (α:=Nat) (β:=Nat) (fun i=>{sl:=[(0,.t (.slice 1 (a.map I))),(1,.t (.slice 1 (b.map I))),(5,.t (I i))],bx:=[]})
  (fun i=>i<=a.length/\i<=b.length/\wu (a.drop i) (b.drop i)=wu a b) (fun i=>a.length - i) (fun _=>{sl:=[(0,.t (.slice 1 (a.map I))),(1,.t (.slice 1 (b.map I)))],bx:=[]}) (fun i=>(i=a.length\/i=b.length)/\i<=a.length/\i<=b.length/\wu (a.drop i) (b.drop i)=wu a b) 0 ⟨by omega,by omega,rfl⟩ ?_ ?_ ?_
 ·exact wkZ
 ·rintro i ⟨hi,j,d⟩;rcases Nat.lt_or_ge i a.length with h|h
  ·have e:(i:Int)<((a.map I).length:Int):=by omega
   rcases Nat.lt_or_ge i b.length with g|g
   ·have l:(i:Int)<((b.map I).length:Int):=by omega
    rw [EZ h g] at d;unfold lex yp at d
    by_cases f:a[i]<b[i]
    ·rw [if_pos f,if_pos (by decide)] at d;rw [<- d]
     repeat' ((conv=>whnf);first|exact trivial|refine nr e ?_|refine nr l ?_|(refine nv_ (I a[i]) (by first|(simp [h];done)|fail) ?_)|(refine nv_ (I b[i]) (by first|(simp [g];done)|fail) ?_)|refine nr f ?_|refine rix ?_|refine aS ?_|refine nT_ ?_)
    ·by_cases k:a[i]>b[i]
     ·rw [if_neg f,if_pos k,if_pos (by decide)] at d;rw [<- d]
      repeat' ((conv=>whnf);first|exact trivial|refine nr e ?_|refine nr l ?_|(refine nv_ (I a[i]) (by first|(simp [h];done)|fail) ?_)|(refine nv_ (I b[i]) (by first|(simp [g];done)|fail) ?_)|refine nq f ?_|refine nr k ?_|refine rix ?_|refine aS ?_|refine nT_ ?_)
     ·rw [if_neg f,if_neg k,if_neg (by decide)] at d
      repeat' ((conv=>whnf);first|refine nr e ?_|refine nr l ?_|(refine nv_ (I a[i]) (by first|(simp [h];done)|fail) ?_)|(refine nv_ (I b[i]) (by first|(simp [g];done)|fail) ?_)|refine nq f ?_|refine nq k ?_|refine aS ?_|refine nT_ ?_)
      exact ⟨i+1,⟨h,g,d⟩,by omega,by exact wkZ⟩
   ·have l: ¬(i:Int)<((b.map I).length:Int):=by omega
    refine rnZ ?_;exact ⟨i,⟨Or.inr (by omega),hi,j,d⟩,by exact wkZ⟩
  ·have e: ¬(i:Int)<((a.map I).length:Int):=by omega
   refine rnZ ?_;exact ⟨i,⟨Or.inl (by omega),hi,j,d⟩,by exact wkZ⟩
 rintro i ⟨r,hi,j,d⟩;rcases Nat.lt_trichotomy a.length b.length with h|h|h
 ·have e:((a.map I).length:Int)<((b.map I).length:Int):=by omega
  rw [Dq (by omega) j,if_pos (by omega)] at d;rw [<- d];exact rcZ
 ·have e: ¬((a.map I).length:Int)<((b.map I).length:Int):=by omega
  have m: ¬((a.map I).length:Int)>((b.map I).length:Int):=by omega
  rw [Dq (by omega) j,if_neg (by omega)] at d;rw [<- d];exact rcZ
 ·have e: ¬((a.map I).length:Int)<((b.map I).length:Int):=by omega
  have m:((a.map I).length:Int)>((b.map I).length:Int):=by omega
  rw [E0 (by omega) (by omega)] at d;rw [<- d];exact rcZ
abbrev kOk(e:RE):Prop:=e.key.length<2^60
theorem ze(a b:RE)(d:kOk a)(e:kOk b):DCalls Tryz.prog 29 [uS a,uS b] (I (vd a b)):=by
 refine dl2 mixed [.tmp 4] [I _] Tryz.func29 l29.2 ?_;have f:=MY a.var b.var;have g:=MX a.key b.key d e;have h:=N5 (zw a.var b.var) (wu a.key b.key);unfold vd;exact rcZ
theorem Fm(a b:RE)(h:kOk a)(i:kOk b):DCalls Tryz.prog 67 [uS a,uS b] (I (vd a b)):=by
 refine dl2 mixed [.tmp 4] [I _] Tryz.func67 l67.2 ?_;have j:=Ef a.key b.key h i;have f:=gtS a.var b.var;have g:Op.bytesLess a.var.toList b.var.toList=ltS a.var b.var:=rfl;unfold vd lex zw;cases d:ltS a.var b.var with
 |true=>
  rw [d] at g;exact rcZ
 |false=>
  rw [d] at g;cases e:ltS b.var a.var with
  |true=>
   rw [e] at f;exact rcZ
  |false=>
   rw [e] at f;exact rcZ
theorem eqS(a b:ByteArray):(a.toList==b.toList)=decide (a=b):=by
 by_cases h:a=b
 ·simp [h]
 ·have: ¬a.toList=b.toList:=fun e=>h (Cl e)
  simp [h,this]
theorem vu(e:RE):(uR e).length=4:=rfl
abbrev esT(st:List RE):T:=.slice 4 (st.map uS)
theorem vL{st:List RE}{i:Nat}(h:i<st.length):(st.map uS)[i]?.getD .nil= .agg (uR st[i]):=by simp [h,uS]
def xp{α:Type}(p:α->Bool)(xs:List α):Int:=match xs.findIdx? p with
 |some i=>(i:Int)
 |none=> -1
theorem CU{α:Type}{p:α->Bool}{xs:List α}{i:Nat}(h:i<xs.length)(a:p xs[i]=true)(d: ∀j (h:j<xs.length),j<i->p xs[j]=false):xp p xs=i:=by
 unfold xp
 have:xs.findIdx? p=some i:=List.findIdx?_eq_some_iff_getElem.2 ⟨h,a,fun j b=>by simp [d j (by omega) b]⟩
 rw [this]
theorem CV{α:Type}{p:α->Bool}{xs:List α}(b: ∀j (h:j<xs.length),p xs[j]=false):xp p xs= -1:=by
 unfold xp
 have:xs.findIdx? p=none:=List.findIdx?_eq_none_iff.2 fun x d=>by
  obtain ⟨j,a,rfl⟩:=List.getElem_of_mem d;exact b j a
 rw [this]
theorem Cw{α:Type}(p:α->Bool)(xs:List α):(xp p xs= -1/\xs.find? p=none)\/ ∃(i:Nat) (h:i<xs.length),xp p xs=i/\xs.find? p=some xs[i]:=by
 unfold xp;cases h:xs.findIdx? p with
 |none=>
  refine Or.inl ⟨rfl,?_⟩;rw [List.find?_eq_none];intro x f;simpa using List.findIdx?_eq_none_iff.1 h x f
 |some i=>
  obtain ⟨a,b,d⟩:=List.findIdx?_eq_some_iff_getElem.1 h;refine Or.inr ⟨i,a,rfl,?_⟩;rw [List.find?_eq_some_iff_getElem];exact ⟨b,i,a,rfl,fun j e=>by simpa using d j e⟩
theorem JH{α:Type}(p:α->Bool)(xs:List α):xs.any p=decide (xp p xs>=0):=by
 unfold xp;cases h:xs.findIdx? p with
 |none=>
  have:=List.findIdx?_eq_none_iff.1 h
  simpa using this
 |some i=>
  obtain ⟨a,b,_⟩:=List.findIdx?_eq_some_iff_getElem.1 h
  have:xs.any p=true:=List.any_eq_true.2 ⟨xs[i],List.getElem_mem a,b⟩
  rw [this];simp
theorem Dp(xs:List RE)(f:FuncId)(c:T)(p:RE->Bool)(m:xs.length<2^60)(k: ∀(i:Nat) (h:i<xs.length),DCalls Tryz.prog f [.agg (uR xs[i]),c] (.bool (p xs[i]))):
  DCalls Tryz.prog 109 [esT xs,.clos f [c]] (I (xp p xs)):=by
 refine dl2 mixed [.tmp 4] [.int _ _] Tryz.func109 Mu.2 ?_
 skip
 refine uA (α:=Nat) (fun i=>{sl:=[(0,.t (esT xs)),(1,.t (.clos f [c])),(6,.t (esT xs)),(7,.t (I xs.length)),(8,.t (I i))],bx:=[]})
  (fun i=>i<=xs.length/\ ∀j (h:j<xs.length),j<i->p xs[j]=false) (fun i=>xs.length - i) 0 (by simp) ?_ ?_
 ·exact wkZ
 rintro i ⟨hi,e⟩;rcases Nat.lt_or_ge i xs.length with h|h
 ·have a:=k i h;cases b:p xs[i] with
  |true=>
   rw [b] at a;rw [CU h b e]
   repeat' ((conv=>whnf);first|exact trivial|(refine nv_ (.agg (uR xs[i])) (by first|exact vL h) ?_)|refine pC _ (a) ?_|refine aD1 ?_|refine rix ?_|(refine And.intro (by first|exact vu _) ?_)|refine aS ?_|refine nT_ ?_)
  |false=>
   rw [b] at a
   repeat' ((conv=>whnf);first|(refine nv_ (.agg (uR xs[i])) (by first|exact vL h) ?_)|refine pC _ (a) ?_|refine aD1 ?_|(refine And.intro (by first|exact vu _) ?_)|refine aS ?_|refine nT_ ?_)
   refine ⟨i+1,⟨h,fun j d l=>?_⟩,by omega,?_⟩
   ·rcases Nat.lt_or_ge j i with g|g
    ·exact e j d g
    ·obtain rfl:j=i:=by omega
     exact b
   ·exact wkZ
 ·rw [CV fun j d=>e j d (by omega)];exact rcZ
theorem GW(xs:List RE)(f:FuncId)(c:T)(p:RE->Bool)(b:xs.length<2^60)(a: ∀(i:Nat) (h:i<xs.length),DCalls Tryz.prog f [.agg (uR xs[i]),c] (.bool (p xs[i]))):
  DCalls Tryz.prog 116 [esT xs,.clos f [c]] (.bool (xs.any p)):=by
 refine dl2 mixed [.tmp 4] [.bool _] Tryz.func116 OS.2 ?_;have d:=Dp xs f c p b a;rw [JH p xs];generalize xp p xs=k at *
 exact rcZ
abbrev vsT(vars:List RV):T:=.slice 5 (vars.map yh)
theorem Ae(v:RV):(vG v).length=5:=rfl
theorem yS{vars:List RV}{i:Nat}(h:i<vars.length):(vars.map yh)[i]?.getD .nil= .agg (vG vars[i]):=by simp [h,yh]
abbrev B0(name:ByteArray):RV->Bool:=fun v=>decide (v.name=name)
theorem Kg(v:RV)(e:RE):DCalls Tryz.prog 74 [.agg (vG v),.cptr (uR e) 0] (.bool (decide (v.name=e.var))):=by
 refine dl2 mixed [.tmp 3] [.bool _] Tryz.func74 l74.2 ?_;have h:=eqS v.name e.var;exact rcZ
theorem Jh(vars:List RV)(e:RE)(l:vars.length<2^60):DCalls Tryz.prog 73 [vsT vars,.clos 74 [.cptr (uR e) 0]] (I (xp (B0 e.var) vars)):=by
 refine dl2 mixed [.tmp 4] [.int _ _] Tryz.func73 l73.2 ?_
 skip
 refine uA (α:=Nat) (fun i=>{sl:=[(0,.t (vsT vars)),(1,.t (.clos 74 [.cptr (uR e) 0])),(6,.t (vsT vars)),(7,.t (I vars.length)),(8,.t (I i))],bx:=[]})
  (fun i=>i<=vars.length/\ ∀j (h:j<vars.length),j<i->B0 e.var vars[j]=false) (fun i=>vars.length - i) 0 (by simp) ?_ ?_
 ·exact wkZ
 rintro i ⟨hi,f⟩;rcases Nat.lt_or_ge i vars.length with h|h
 ·have a:=Kg vars[i] e;cases b:decide (vars[i].name=e.var) with
  |true=>
   rw [b] at a;rw [CU h b f]
   repeat' ((conv=>whnf);first|exact trivial|(refine nv_ (.agg (vG vars[i])) (by first|exact yS h) ?_)|refine pC _ (a) ?_|refine aD1 ?_|refine rix ?_|(refine And.intro (by first|exact Ae _) ?_)|refine aS ?_|refine nT_ ?_)
  |false=>
   rw [b] at a
   repeat' ((conv=>whnf);first|(refine nv_ (.agg (vG vars[i])) (by first|exact yS h) ?_)|refine pC _ (a) ?_|refine aD1 ?_|(refine And.intro (by first|exact Ae _) ?_)|refine aS ?_|refine nT_ ?_)
   refine ⟨i+1,⟨h,fun j d k=>?_⟩,by omega,?_⟩
   ·rcases Nat.lt_or_ge j i with g|g
    ·exact f j d g
    ·obtain rfl:j=i:=by omega
     exact b
   ·exact wkZ
 ·rw [CV fun j d=>f j d (by omega)];exact rcZ
theorem H6(vars:List RV)(name:ByteArray)(l:vars.length<2^60):DCalls Tryz.prog 65 [vsT vars,.str name] (I (xp (B0 name) vars)):=by
 refine dl2 mixed [.tmp 4] [.int _ _] Tryz.func65 l65.2 ?_;have m:((vars.map yh).length:Int)=vars.length:=by rw [List.length_map]
 skip
 refine uA (α:=Nat) (fun i=>{sl:=[(0,.t (vsT vars)),(1,.t (.str name)),(5,.t (I i))],bx:=[]})
  (fun i=>i<=vars.length/\ ∀j (h:j<vars.length),j<i->B0 name vars[j]=false) (fun i=>vars.length - i) 0 (by simp) ?_ ?_
 ·exact wkZ
 rintro i ⟨hi,f⟩;rcases Nat.lt_or_ge i vars.length with h|h
 ·have b:=eqS vars[i].name name;have a:(i:Int)<((vars.map yh).length:Int):=by omega
  have k:(vars.map yh)[i]?.getD .nil= .agg (vG vars[i]):=yS h;cases d:decide (vars[i].name=name) with
  |true=>
   rw [d] at b;rw [CU h d f]
   repeat' ((conv=>whnf);first|exact trivial|refine nr a ?_|(refine nv_ (.agg (vG vars[i])) (by first|exact yS h) ?_)|refine nb_ _ b ?_|refine rix ?_|refine aS ?_|refine nT_ ?_)
  |false=>
   rw [d] at b
   repeat' ((conv=>whnf);first|refine nr a ?_|(refine nv_ (.agg (vG vars[i])) (by first|exact yS h) ?_)|refine nb_ _ b ?_|refine aS ?_|refine nT_ ?_)
   refine ⟨i+1,⟨h,fun j e a=>?_⟩,by omega,?_⟩
   ·rcases Nat.lt_or_ge j i with g|g
    ·exact f j e g
    ·obtain rfl:j=i:=by omega
     exact d
   ·exact wkZ
 ·have a: ¬(i:Int)<((vars.map yh).length:Int):=by omega
  rw [CV fun j e=>f j e (by omega)];exact rcZ
theorem I4(n:Nat)(b:n<=60):DCalls Tryz.prog 112 [I n] (I (2^n:Nat)):=by
 refine dl2 mixed [.tmp 2] [I _] Tryz.func112 OP.2 ?_
 skip
 refine uA (α:=Nat) (fun i=>{sl:=[(0,.t (I n)),(3,.t (I (2^i:Nat))),(4,.t (I i))],bx:=[]})
  (fun i=>i<=n) (fun i=>n - i) 0 (by simp) ?_ ?_
 ·exact wkZ
 rintro i hi;rcases Nat.lt_or_ge i n with h|h
 ·have a:(2:Nat)^(i+1)<=2^60:=Nat.pow_le_pow_right (by decide) (by omega);have e:((2^i:Nat):Int) * 2=((2^(i+1):Nat):Int):=by rw [Nat.pow_succ];push_cast;rfl
  refine rnZ ?_;refine ⟨i+1,h,by omega,?_⟩
  repeat' (first|(exact leI (by rw [e,yb (by omega)]))|exact wJ|refine And.intro ?_ ?_)
 ·obtain rfl:i=n:=by omega
  exact rcZ
theorem C9{st:List RE}{v:ByteArray}{i:Nat}(h:i<st.length):vo (st.take (i+1)) v=vo (st.take i) v+if st[i].var=v then 1 else 0:=by
 rw [List.take_succ_eq_append_getElem h,Bd]
theorem Hi(st:List RE)(v:ByteArray)(g:st.length<2^60):DCalls Tryz.prog 60 [esT st,.str v] (I (vo st v)):=by
 refine dl2 mixed [.tmp 4] [I _] Tryz.func60 l60.2 ?_;have j:((st.map uS).length:Int)=st.length:=by rw [List.length_map]
 skip
 refine uA (α:=Nat) (fun i=>{sl:=[(0,.t (esT st)),(1,.t (.str v)),(5,.t (I (vo (st.take i) v))),(6,.t (I i))],bx:=[]})
  (fun i=>i<=st.length) (fun i=>st.length - i) 0 (by simp) ?_ ?_
 ·exact wkZ
 rintro i hi;rcases Nat.lt_or_ge i st.length with h|h
 ·have a:(i:Int)<((st.map uS).length:Int):=by omega
  have b:=eqS st[i].var v;have f:=C9 (v:=v) h;have e:=AX (st:=st.take i) (v:=v);rw [List.length_take] at e
  by_cases d:st[i].var=v
  ·rw [decide_eq_true d] at b;rw [if_pos d] at f
   repeat' ((conv=>whnf);first|refine nr a ?_|(refine nv_ (.agg (uR st[i])) (by first|exact vL h) ?_)|refine nb_ _ b ?_|refine aS ?_|refine nT_ ?_)
   exact ⟨i+1,h,by omega,by exact wkZ⟩
  ·rw [decide_eq_false d] at b;rw [if_neg d,Nat.add_zero] at f
   repeat' ((conv=>whnf);first|refine nr a ?_|(refine nv_ (.agg (uR st[i])) (by first|exact vL h) ?_)|refine nb_ _ b ?_|refine aS ?_|refine nT_ ?_)
   exact ⟨i+1,h,by omega,by exact wkZ⟩
 ·have a: ¬(i:Int)<((st.map uS).length:Int):=by omega
  obtain rfl:i=st.length:=by omega
  rw [List.take_length];exact rcZ
theorem LN(x e:RE):DCalls Tryz.prog 117 [.agg (uR x),.cptr (uR e) 0] (.bool (decide (x.var=e.var)&&decide (x.n=e.n))):=by
 refine dl2 mixed [.tmp 3] [.bool _] Tryz.func117 OT.2 ?_;have h:=eqS x.var e.var
 by_cases a:x.var=e.var
 ·rw [decide_eq_true a] at h;rw [decide_eq_true a,Bool.true_and]
  by_cases b:x.n=e.n
  ·rw [decide_eq_true b];exact rcZ
  ·rw [decide_eq_false b];exact rcZ
 ·rw [decide_eq_false a] at h;rw [decide_eq_false a,Bool.false_and];exact rcZ
structure VOk (v:RV):Prop where
 len:v.ws.length<2^40
 w: ∀w∈v.ws,1<=w/\w<=60
theorem Fe{k w:List Int}{i:Nat}(a:i<k.length)(b:i<w.length):wX (k.drop i) (w.drop i)=(decide (0<=k[i])&&decide (k[i]<2^w[i].toNat)&&wX (k.drop (i+1)) (w.drop (i+1))):=by
 rw [List.drop_eq_getElem_cons a,List.drop_eq_getElem_cons b];rfl
theorem Qg{w:Int}(d:1<=w)(e:w<=60):IntKind.wrap .i64 (1 * 2^(min w.toNat (IntKind.bits .i64)))=2^w.toNat:=by
 have a:IntKind.bits .i64=64:=rfl;rw [a,Nat.min_eq_left (by omega),Int.one_mul];have f:(2:Int)^w.toNat<=2^60:=by exact_mod_cast Nat.pow_le_pow_right (by decide) (show w.toNat<=60 by omega)
 have b:(0:Int)<2^w.toNat:=Int.pow_pos (by decide);rw [oA] <;> omega
theorem B5{e:RE}:B4 e=false↔(e.n<0\/e.n>65535\/e.at_<0\/e.at_>1073741824):=by
 unfold B4;rw [<- Bool.not_eq_true];simp only [Bool.and_eq_true,decide_eq_true_eq];omega
theorem MZ(v:RV)(D:VOk v)(e:RE)(U:kOk e)(a:List RE)(H:a.length<2^60):DCalls Tryz.prog 75 [.agg (vG v),.agg (uR e),esT a] (.bool (yI v e a)):=by
 refine dl2 mixed [.tmp 6] [.bool _] Tryz.func75 l75.2 ?_;have K:((e.key.map I).length:Int)=e.key.length:=by rw [List.length_map]
 have P:((v.ws.map I).length:Int)=v.ws.length:=by rw [List.length_map]
 have O:=D.len;unfold yI
 by_cases L:e.key.length=v.ws.length
 case neg=>
  have f:wX e.key v.ws=false:=by
   cases J:wX e.key v.ws with
   |false=>rfl
   |true=>exact absurd (BM J) L
  have M:((e.key.map I).length:Int)≠((v.ws.map I).length:Int):=by omega
  rw [f,Bool.and_false,Bool.false_and];exact rcZ
 have M:((e.key.map I).length:Int)=((v.ws.map I).length:Int):=by omega
 cases u:B4 e with
 |false=>
  rcases B5.1 u with h|h|h|h
  ·rw [Bool.false_and,Bool.false_and];exact rcZ
  ·rw [Bool.false_and,Bool.false_and];have s: ¬e.n<0:=by omega
   exact rcZ
  ·rw [Bool.false_and,Bool.false_and]
   by_cases s:e.n<0
   ·exact rcZ
   by_cases B:e.n>65535
   ·exact rcZ
   exact rcZ
  ·rw [Bool.false_and,Bool.false_and]
   by_cases s:e.n<0
   ·exact rcZ
   by_cases B:e.n>65535
   ·exact rcZ
   have G: ¬e.at_<0:=by omega
   exact rcZ
 |true=>
 have N: ¬(e.n<0\/e.n>65535\/e.at_<0\/e.at_>1073741824):=fun h=>by rw [B5.2 h] at u;cases u
 have s: ¬e.n<0:=by omega
 have B: ¬e.n>65535:=by omega
 have G: ¬e.at_<0:=by omega
 have T: ¬e.at_>1073741824:=by omega
 rw [Bool.true_and];refine rnZ ?_;refine tT 0 (α:=Nat) (β:=Unit) (fun i=>{sl:=[(2,.t (esT a)),(3,.ptr 3 0),(4,.ptr 4 0),(37,.t (.slice 1 (e.key.map I))),(38,.t (I e.key.length)),(39,.t (I i))],bx:=[(3,.d 5 (vG v)),(4,.d 4 (uR e))]})
  (fun i=>i<=e.key.length/\wX (e.key.drop i) (v.ws.drop i)=wX e.key v.ws) (fun i=>e.key.length - i) (fun _=>{sl:=[(2,.t (esT a)),(3,.ptr 3 0),(4,.ptr 4 0)],bx:=[(3,.d 5 (vG v)),(4,.d 4 (uR e))]}) (fun _=>wX e.key v.ws=true) 0 ⟨by omega,rfl⟩ ?_ ?_ ?_
 ·exact wkZ
 ·rintro i ⟨hi,f⟩;rcases Nat.lt_or_ge i e.key.length with h|h
  ·have r:i<v.ws.length:=by omega
   rw [Fe h r] at f;obtain ⟨Q,R⟩:=D.w v.ws[i] (List.getElem_mem r);have C:=Qg Q R;have l:(e.key.map I)[i]?.getD .nil=I e.key[i]:=by simp [h]
   have p:(v.ws.map I)[i]?.getD .nil=I v.ws[i]:=by simp [r]
   generalize v.ws[i]=w at *
   generalize e.key[i]=k at *
   by_cases q:k<0
   ·rw [show decide (0<=k)=false by simp;omega,Bool.false_and,Bool.false_and] at f;rw [<- f,Bool.false_and]
    repeat' ((conv=>whnf);first|exact trivial|(refine nv_ (I k) (by first|exact l) ?_)|refine nr q ?_|refine aD1 ?_|refine rb0 ?_|refine aS ?_|refine nT_ ?_)
   ·rw [show decide (0<=k)=true by simp;omega,Bool.true_and] at f
    by_cases g:k<2^w.toNat
    ·rw [decide_eq_true g,Bool.true_and] at f;have j: ¬k>=IntKind.wrap .i64 (1 * 2^(min w.toNat (IntKind.bits .i64))):=by rw [C];omega
     repeat' ((conv=>whnf);first|(refine nv_ (I k) (by first|exact l) ?_)|(refine nv_ (I w) (by first|exact p) ?_)|refine nq q ?_|refine nq j ?_|refine aD1 ?_|(refine And.intro (by first|exact Ae _|exact vu _|(omega;done)|fail) ?_)|refine aS ?_|refine nT_ ?_)
     exact ⟨i+1,⟨h,f⟩,by omega,by exact wkZ⟩
    ·rw [decide_eq_false g,Bool.false_and] at f;have j:k>=IntKind.wrap .i64 (1 * 2^(min w.toNat (IntKind.bits .i64))):=by rw [C];omega
     rw [<- f,Bool.false_and]
     repeat' ((conv=>whnf);first|exact trivial|(refine nv_ (I k) (by first|exact l) ?_)|(refine nv_ (I w) (by first|exact p) ?_)|refine nq q ?_|refine nr j ?_|refine aD1 ?_|refine rb0 ?_|(refine And.intro (by first|exact Ae _|exact vu _|(omega;done)|fail) ?_)|refine aS ?_|refine nT_ ?_)
  ·have F:wX e.key v.ws=true:=by
    rw [<- f,List.drop_eq_nil_of_le h,List.drop_eq_nil_of_le (by omega)];rfl
   refine rnZ ?_;exact ⟨(),F,by exact wkZ⟩
 rintro - f;rw [f,Bool.true_and];unfold Cr;have S:=GW a 117 (.cptr (uR e) 0) (fun x=>decide (x.var=e.var)&&decide (x.n=e.n)) H fun i h=>LN a[i] e
 generalize (a.any fun x=>decide (x.var=e.var)&&decide (x.n=e.n))=b at *
 by_cases y:v.fam=2
 ·rw [if_pos y]
  by_cases E:e.n=0
  ·rw [decide_eq_true E];exact rcZ
  ·rw [decide_eq_false E];exact rcZ
 rw [if_neg y]
 by_cases z:v.fam=3
 ·rw [if_pos z]
  by_cases g:e.n>=v.n
  ·rw [show decide (v.n<=e.n)=true by simpa using g,Bool.true_and]
   by_cases o:e.n<=v.m
   ·rw [decide_eq_true o,Bool.true_and];exact rcZ
   ·rw [decide_eq_false o,Bool.false_and];exact rcZ
  ·rw [show decide (v.n<=e.n)=false by simp;omega,Bool.false_and,Bool.false_and];exact rcZ
 rw [if_neg z]
 by_cases A:v.fam=4
 ·rw [if_pos A]
  by_cases g:v.n=0
  ·rw [decide_eq_true g,Bool.true_or];exact rcZ
  ·rw [decide_eq_false g,Bool.false_or]
   by_cases o:e.n<=v.n
   ·rw [decide_eq_true o];exact rcZ
   ·rw [decide_eq_false o];exact rcZ
 rw [if_neg A];exact rcZ
theorem MN(v:RV)(H:VOk v)(e:RE)(he:kOk e)(a:List RE)(hb:a.length<2^60):DCalls Tryz.prog 66 [.agg (vG v),.agg (uR e),esT a] (.bool (yI v e a)):=by
 refine dl2 mixed [.tmp 6] [.bool _] Tryz.func66 l66.2 ?_;have R:((e.key.map I).length:Int)=e.key.length:=by rw [List.length_map]
 have X:((v.ws.map I).length:Int)=v.ws.length:=by rw [List.length_map]
 have W:=H.len;unfold yI
 by_cases S:e.key.length=v.ws.length
 case neg=>
  have f:wX e.key v.ws=false:=by
   cases Q:wX e.key v.ws with
   |false=>rfl
   |true=>exact absurd (BM Q) S
  have T:((e.key.map I).length:Int)≠((v.ws.map I).length:Int):=by omega
  rw [f,Bool.and_false,Bool.false_and];exact rcZ
 have T:((e.key.map I).length:Int)=((v.ws.map I).length:Int):=by omega
 cases F:B4 e with
 |false=>
  rw [Bool.false_and,Bool.false_and];have V:=B5.1 F
  by_cases L:e.n<0
  ·exact rcZ
  by_cases M:e.n>65535
  ·exact rcZ
  by_cases N:e.at_<0
  ·exact rcZ
  have O:e.at_>1073741824:=by omega
  exact rcZ
 |true=>
 have U: ¬(e.n<0\/e.n>65535\/e.at_<0\/e.at_>1073741824):=fun h=>by rw [B5.2 h] at F;cases F
 have L: ¬e.n<0:=by omega
 have M: ¬e.n>65535:=by omega
 have N: ¬e.at_<0:=by omega
 have O: ¬e.at_>1073741824:=by omega
 rw [Bool.true_and];refine rnZ ?_;refine tT 0 (α:=Nat) (β:=Unit) (fun i=>{sl:=[(2,.t (esT a)),(3,.ptr 3 0),(4,.ptr 4 0),(7,.t (I i))],bx:=[(3,.d 5 (vG v)),(4,.d 4 (uR e))]})
  (fun i=>i<=e.key.length/\wX (e.key.drop i) (v.ws.drop i)=wX e.key v.ws) (fun i=>e.key.length - i) (fun _=>{sl:=[(2,.t (esT a)),(3,.ptr 3 0),(4,.ptr 4 0)],bx:=[(3,.d 5 (vG v)),(4,.d 4 (uR e))]}) (fun _=>wX e.key v.ws=true) 0 ⟨by omega,rfl⟩ ?_ ?_ ?_
 ·exact wkZ
 ·rintro i ⟨hi,f⟩;rcases Nat.lt_or_ge i e.key.length with h|h
  ·have D:i<v.ws.length:=by omega
   have b:(i:Int)<((e.key.map I).length:Int):=by omega
   rw [Fe h D] at f;obtain ⟨w1,w2⟩:=H.w v.ws[i] (List.getElem_mem D);have p:(e.key.map I)[i]?.getD .nil=I e.key[i]:=by simp [h]
   have u:(v.ws.map I)[i]?.getD .nil=I (v.ws[i].toNat:Nat):=by
    rw [show ((v.ws[i].toNat:Nat):Int)=v.ws[i] by omega];simp [D]
   have s:=I4 v.ws[i].toNat (by omega);have Z:((2^v.ws[i].toNat:Nat):Int)=2^v.ws[i].toNat:=by simp
   generalize v.ws[i].toNat=w at *
   generalize e.key[i]=k at *
   by_cases z:k<0
   ·rw [show decide (0<=k)=false by simp;omega,Bool.false_and,Bool.false_and] at f;rw [<- f,Bool.false_and]
    repeat' ((conv=>whnf);first|exact trivial|refine nr b ?_|(refine nv_ (I k) (by first|exact p) ?_)|refine nr z ?_|refine rb0 ?_|refine aS ?_|refine nT_ ?_)
   ·rw [show decide (0<=k)=true by simp;omega,Bool.true_and] at f
    by_cases g:k<2^w
    ·rw [decide_eq_true g,Bool.true_and] at f;have o: ¬k>=((2^w:Nat):Int):=by omega
     repeat' ((conv=>whnf);first|refine nr b ?_|(refine nv_ (I k) (by first|exact p) ?_)|(refine nv_ (I (w:Nat)) (by first|exact u) ?_)|refine pC _ (s) ?_|refine nq z ?_|refine nq o ?_|refine aS ?_|refine nT_ ?_)
     exact ⟨i+1,⟨h,f⟩,by omega,by exact wkZ⟩
    ·rw [decide_eq_false g,Bool.false_and] at f;have o:k>=((2^w:Nat):Int):=by omega
     rw [<- f,Bool.false_and]
     repeat' ((conv=>whnf);first|exact trivial|refine nr b ?_|(refine nv_ (I k) (by first|exact p) ?_)|(refine nv_ (I (w:Nat)) (by first|exact u) ?_)|refine pC _ (s) ?_|refine nq z ?_|refine nr o ?_|refine rb0 ?_|refine aS ?_|refine nT_ ?_)
  ·have K:wX e.key v.ws=true:=by
    rw [<- f,List.drop_eq_nil_of_le h,List.drop_eq_nil_of_le (by omega)];rfl
   have b: ¬(i:Int)<((e.key.map I).length:Int):=by omega
   refine rnZ ?_;exact ⟨(),K,by exact wkZ⟩
 rintro - f;rw [f,Bool.true_and];unfold Cr
 by_cases A:v.fam=2
 ·rw [if_pos A]
  by_cases J:e.n=0
  ·rw [decide_eq_true J];exact rcZ
  ·rw [decide_eq_false J];exact rcZ
 rw [if_neg A]
 by_cases B:v.fam=3
 ·rw [if_pos B];refine rnZ ?_;have P:((a.map uS).length:Int)=a.length:=by rw [List.length_map]
  refine tT 3 (α:=Nat) (β:=Unit) (fun i=>{sl:=[(2,.t (esT a)),(3,.ptr 3 0),(4,.ptr 4 0),(8,.t (I i))],bx:=[(3,.d 5 (vG v)),(4,.d 4 (uR e))]})
   (fun i=>i<=a.length/\ ∀j (h:j<a.length),j<i->(decide (a[j].var=e.var)&&decide (a[j].n=e.n))=false) (fun i=>a.length - i) (fun _=>{sl:=[(3,.ptr 3 0),(4,.ptr 4 0)],bx:=[(3,.d 5 (vG v)),(4,.d 4 (uR e))]}) (fun _=>(a.any fun x=>decide (x.var=e.var)&&decide (x.n=e.n))=false) 0 ⟨by omega,fun j h y=>by omega⟩ ?_ ?_ ?_
  ·exact wkZ
  ·rintro i ⟨hi,s⟩;rcases Nat.lt_or_ge i a.length with h|h
   ·have b:(i:Int)<((a.map uS).length:Int):=by omega
    have r:=eqS a[i].var e.var;have q:(decide (a[i].var=e.var)&&decide (a[i].n=e.n))=true->(decide (v.n<=e.n)&&decide (e.n<=v.m)&& !(a.any fun x=>decide (x.var=e.var)&&decide (x.n=e.n)))=false:=fun E=>by
     have:(a.any fun x=>decide (x.var=e.var)&&decide (x.n=e.n))=true:=List.any_eq_true.2 ⟨a[i],List.getElem_mem h,E⟩
     rw [this];simp
    have next:(decide (a[i].var=e.var)&&decide (a[i].n=e.n))=false->i+1<=a.length/\ ∀j (h:j<a.length),j<i+1->(decide (a[j].var=e.var)&&decide (a[j].n=e.n))=false:=fun E=>by
     refine ⟨h,fun j y b=>?_⟩;rcases Nat.lt_or_ge j i with G|G
     ·exact s j y G
     ·obtain rfl:j=i:=by omega
      exact E
    by_cases g:a[i].var=e.var
    ·rw [decide_eq_true g] at r q next
     by_cases l:a[i].n=e.n
     ·rw [decide_eq_true l] at q;rw [q rfl]
      repeat' ((conv=>whnf);first|exact trivial|refine nr b ?_|(refine nv_ (.agg (uR a[i])) (by first|exact vL h) ?_)|refine nb_ _ r ?_|refine nv l ?_|refine rb0 ?_|refine aS ?_|refine nT_ ?_)
     ·rw [decide_eq_false l] at next
      repeat' ((conv=>whnf);first|refine nr b ?_|(refine nv_ (.agg (uR a[i])) (by first|exact vL h) ?_)|refine nb_ _ r ?_|refine nu l ?_|refine aS ?_|refine nT_ ?_)
      exact ⟨i+1,next rfl,by omega,by exact wkZ⟩
    ·rw [decide_eq_false g] at r next
     repeat' ((conv=>whnf);first|refine nr b ?_|(refine nv_ (.agg (uR a[i])) (by first|exact vL h) ?_)|refine nb_ _ r ?_|refine aS ?_|refine nT_ ?_)
     exact ⟨i+1,next rfl,by omega,by exact wkZ⟩
   ·have b: ¬(i:Int)<((a.map uS).length:Int):=by omega
    refine rnZ ?_;refine ⟨(),?_,by exact wkZ⟩;rw [List.any_eq_false];intro x Y;obtain ⟨j,y,rfl⟩:=List.getElem_of_mem Y;simpa using s j y (by omega)
  rintro - q;rw [q]
  by_cases g:e.n>=v.n
  ·rw [show decide (v.n<=e.n)=true by simpa using g,Bool.true_and]
   by_cases l:e.n<=v.m
   ·rw [decide_eq_true l];exact rcZ
   ·rw [decide_eq_false l];exact rcZ
  ·rw [show decide (v.n<=e.n)=false by simp;omega];exact rcZ
 rw [if_neg B]
 by_cases C:v.fam=4
 ·rw [if_pos C]
  by_cases g:v.n=0
  ·rw [decide_eq_true g,Bool.true_or];exact rcZ
  ·rw [decide_eq_false g,Bool.false_or]
   by_cases l:e.n<=v.n
   ·rw [decide_eq_true l];exact rcZ
   ·rw [decide_eq_false l];exact rcZ
 rw [if_neg C]
 repeat' ((conv=>whnf);first|exact trivial|refine nu A ?_|refine nu B ?_|refine nu C ?_|refine rb1 ?_|refine aS ?_|refine nT_ ?_)
end Go.ST
end
