/- Joined by program: parts of a data level over the model, of the program's functions over it, and of the statement's proof. -/
import Derived.Test.YtnfonfjleonbdaaGreatGd
import Derived.Test.YtnfonfjleonbdaaGreatGc
import Derived.Test.YtnfonfjleonbdaaGreatGe
import Derived.Test.YtnfonfjleonbdaaGreatProg
import Derived.KernelRfl
import Derived.Shelf.Sort.Plain
import Derived.Shelf.Slices.In.SortNone
set_option maxRecDepth 100000
set_option maxHeartbeats 8000000
section
namespace Go.MM
open Go Go.DL Go.Proofs
theorem Bt:Tryz.prog.underlying 34=some (.slice 36):=by kernel_rfl
theorem Bu:Tryz.prog.underlying 37=some (.slice 39):=by kernel_rfl
theorem yM:Tryz.prog.cellsOf 3=1:=by kernel_rfl
theorem Ih:Tryz.prog.cellsOf 27=10:=by kernel_rfl
theorem wu{us:List T}(h:cB Tryz.prog 3 us): ∃n,us=[I n]/\(Lit.int .i64 n).wf=true:=by
 cases h with
 |int h n a=>rw [Tryz.underlying3] at h;cases h;exact ⟨n,rfl,a⟩
 |bool h|str h|nil h|slice h|struct h|array h=>rw [Tryz.underlying3] at h;cases h
theorem IA{us:List T}(h:cB Tryz.prog 27 us): ∃x:List Int,us=x.map I/\x.length=10/\ ∀n∈x,(Lit.int .i64 n).wf=true:=by
 cases h with
 |array h us c f=>
  rw [Tryz.underlying27] at h;cases h;rw [Ih] at c;have key: ∀i,i<10-> ∃n,us[i]? =some (I n)/\(Lit.int .i64 n).wf=true:=fun i a=>by
   obtain ⟨n,e,w⟩:=wu (f i a);rw [yM,Nat.mul_one,List.take_one] at e;refine ⟨n,?_,w⟩
   have:(us.drop i).head? =us[i]? :=by rw [List.head?_drop]
   rw [this] at e;cases b:us[i]? with
   |none=>rw [b] at e;cases e
   |some x=>rw [b] at e;cases e;rfl
  refine ⟨us.map fun t=>match t with|.int _ n=>n|_=>0,?_,by simpa using c,fun n j=>?_⟩
  ·refine List.ext_getElem? fun i=>?_
   rcases Nat.lt_or_ge i 10 with a|a
   ·obtain ⟨n,e,_⟩:=key i a;rw [e];simp [e]
   ·rw [List.getElem?_eq_none (by omega),List.getElem?_eq_none (by simp;omega)]
  ·obtain ⟨t,g,rfl⟩:=List.mem_map.1 j;obtain ⟨i,a⟩:=List.mem_iff_getElem?.1 g;obtain ⟨n,e,w⟩:=key i (by have:=(gsZ a).1;omega);rw [e] at a;cases a;exact w
 |int h|bool h|str h|nil h|slice h|struct h=>rw [Tryz.underlying27] at h;cases h
theorem Nv(us:List T):mkT Tryz.prog 27 us= .agg us:=by unfold mkT;rw [Tryz.underlying27]
theorem zG:Tryz.prog.cellsOf 9=1:=by kernel_rfl
theorem Ii:Tryz.prog.cellsOf 34=1:=by kernel_rfl
theorem Cs:Tryz.prog.cellsOf 36=5:=by kernel_rfl
theorem Ij:Tryz.prog.cellsOf 37=1:=by kernel_rfl
theorem Ct:Tryz.prog.cellsOf 39=9:=by kernel_rfl
theorem Ev:Tryz.prog.cellsOf 54=3:=by kernel_rfl
theorem Nw(us:List T):mkT Tryz.prog 36 us= .agg us:=by unfold mkT;rw [Tryz.underlying36]
theorem Nx(us:List T):mkT Tryz.prog 39 us= .agg us:=by unfold mkT;rw [Tryz.underlying39]
theorem Ny(us:List T):mkT Tryz.prog 54 us= .agg us:=by unfold mkT;rw [Tryz.underlying54]
theorem Kf:Tryz.prog.underlying 9=some .string:=by kernel_rfl
theorem yW{us:List T}(h:cB Tryz.prog 9 us): ∃s,us=[.str s]:=by
 cases h with
 |str h s a=>exact ⟨s,rfl⟩
 |bool h|int h|nil h|slice h|struct h|array h=>rw [Kf] at h;cases h
def RdP(us:List T):Prop:= ∃r:RP,dn us (uW r)/\r.nodes<=aQ us/\(aQ us<2^62->AY r)
def K8(us:List T):Prop:= ∃rs:List RP,dn us [.slice 5 (rs.map zw)]/\uV rs+1<=aQ us/\(aQ us<2^62->zN rs)
theorem I3{xs:List (List T)}(h: ∀x∈xs,RdP x): ∃rs:List RP,rs.length=xs.length/\(∀ (i:Nat) (x:List T) (r:RP),xs[i]? =some x->rs[i]? =some r->dn x (uW r))/\uV rs<=aQ (xs.map .agg)/\(aQ (xs.map .agg)<2^62->zN rs):=by
 induction xs with
 |nil=>exact ⟨[],rfl,by simp,by simp [uV],fun _=>trivial⟩
 |cons x xs g=>
  obtain ⟨r,j,m,l⟩:=h x (by simp);obtain ⟨rs,k1,k2,n,f⟩:=g fun y k=>h y (by simp [k])
  refine ⟨r::rs,by simp [k1],fun i a b e c=>?_,?_,fun c=>?_⟩
  ·cases i with
   |zero=>simp at e c;subst e;subst c;exact j
   |succ i=>exact k2 i a b (by simpa using e) (by simpa using c)
  ·simp only [uV,List.map_cons,aQ,T.bulk];omega
  ·simp only [List.map_cons,aQ,T.bulk] at c;exact ⟨l (by omega),f (by omega)⟩
theorem Kz{us:List T}(h:us.length=5): ∃a b c d e,us=[a,b,c,d,e]:=by
 match us,h with
 |[a,b,c,d,e],_=>exact ⟨a,b,c,d,e,rfl⟩
theorem I5{t:TypeId}{us:List T}(h:cB Tryz.prog t us):(t=36->RdP us)/\(t=34->K8 us):=by
 induction h with
 |bool h b=>exact ⟨fun e=>(by subst e;rw [Tryz.underlying36] at h;cases h),fun e=>(by subst e;rw [Bt] at h;cases h)⟩
 |int h n M=>exact ⟨fun e=>(by subst e;rw [Tryz.underlying36] at h;cases h),fun e=>(by subst e;rw [Bt] at h;cases h)⟩
 |str h s N=>exact ⟨fun e=>(by subst e;rw [Tryz.underlying36] at h;cases h),fun e=>(by subst e;rw [Bt] at h;cases h)⟩
 |array h us g f j=>exact ⟨fun e=>(by subst e;rw [Tryz.underlying36] at h;cases h),fun e=>(by subst e;rw [Bt] at h;cases h)⟩
 |nil h=>
  refine ⟨fun e=>(by subst e;rw [Tryz.underlying36] at h;cases h),fun e=>?_⟩;exact ⟨[],.cons (Les.nil 5) rfl .nil,by simp [uV,aQ,T.bulk],fun _=>trivial⟩
 |slice h xs o g j=>
  refine ⟨fun e=>(by subst e;rw [Tryz.underlying36] at h;cases h),fun e=>?_⟩;subst e;rw [Bt] at h;cases h;obtain ⟨rs,k1,k2,O,G⟩:=I3 (xs:=xs) fun x I=>(j x I).1 rfl
  have K:xs.map (mkT Tryz.prog 36)=xs.map .agg:=List.map_congr_left fun x _=>Nw x
  rw [K,Cs];refine ⟨rs,.cons (Les.slice (by simp [k1]) fun i x y o B=>?_) rfl .nil,by simp only [aQ,T.bulk];omega,fun p=>G (by simp only [aQ,T.bulk] at p;omega)⟩;rw [List.getElem?_map] at o B;obtain ⟨J,q,rfl⟩:=Option.map_eq_some_iff.1 o;obtain ⟨u,l,rfl⟩:=Option.map_eq_some_iff.1 B;rw [wC];exact ⟨k2 i J u q l,vZ u⟩
 |struct h us g f j=>
  refine ⟨fun e=>?_,fun e=>(by subst e;rw [Bt] at h;cases h)⟩;subst e;rw [Tryz.underlying36] at h;cases h;rw [Cs] at g;obtain ⟨a,b,c,d,e,rfl⟩:=Kz g;have z:=f ⟨ "Kind",3,0,false, "", "",0⟩ (by simp);have E:=f ⟨ "Field",9,1,false, "", "",8⟩ (by simp);have A:=f ⟨ "N",3,2,false, "", "",24⟩ (by simp);have C:=f ⟨ "M",3,3,false, "", "",32⟩ (by simp);have v:=(j ⟨ "Args",34,4,false, "", "",40⟩ (by simp)).2 rfl;simp only [yM,zG,Ii,List.drop,List.take] at z E A C v;obtain ⟨k,e0,_⟩:=wu z;obtain ⟨s,F⟩:=yW E;obtain ⟨n,w,_⟩:=wu A;obtain ⟨m,r,_⟩:=wu C;obtain ⟨rs,H,L,D⟩:=v;simp only [List.cons.injEq,and_true] at e0 F w r;subst e0;subst F;subst w;subst r;refine ⟨.mk k s n m rs,.cons (Les.refl _) rfl (.cons (Les.refl _) rfl (.cons (Les.refl _) rfl (.cons (Les.refl _) rfl H))),?_,fun p=>?_⟩
  ·simp only [RP.nodes,aQ,T.bulk] at L ⊢;omega
  ·simp only [aQ,T.bulk] at D p;exact ⟨by omega,D (by omega)⟩
def RdO(us:List T):Prop:= ∃r:RO,dn us (uy r)/\r.wt<=aQ us/\(aQ us<2^62->zb r)
def K7(us:List T):Prop:= ∃rs:List RO,dn us [.slice 9 (rs.map yR)]/\vC rs+1<=aQ us/\(aQ us<2^62->zM rs)
theorem I2{xs:List (List T)}(h: ∀x∈xs,RdO x): ∃rs:List RO,rs.length=xs.length/\(∀ (i:Nat) (x:List T) (r:RO),xs[i]? =some x->rs[i]? =some r->dn x (uy r))/\vC rs<=aQ (xs.map .agg)/\(aQ (xs.map .agg)<2^62->zM rs):=by
 induction xs with
 |nil=>exact ⟨[],rfl,by simp,by simp [vC],fun _=>trivial⟩
 |cons x xs g=>
  obtain ⟨r,j,m,l⟩:=h x (by simp);obtain ⟨rs,k1,k2,n,f⟩:=g fun y k=>h y (by simp [k])
  refine ⟨r::rs,by simp [k1],fun i a b e c=>?_,?_,fun c=>?_⟩
  ·cases i with
   |zero=>simp at e c;subst e;subst c;exact j
   |succ i=>exact k2 i a b (by simpa using e) (by simpa using c)
  ·simp only [vC,List.map_cons,aQ,T.bulk];omega
  ·simp only [List.map_cons,aQ,T.bulk] at c;exact ⟨l (by omega),f (by omega)⟩
theorem KB{us:List T}(h:us.length=9): ∃a b c d e f g i j,us=[a,b,c,d,e,f,g,i,j]:=by
 match us,h with
 |[a,b,c,d,e,f,g,i,j],_=>exact ⟨a,b,c,d,e,f,g,i,j,rfl⟩
theorem dn.K2{a b c d e:T}{r:RP}(h:dn [a,b,c,d,e] (uW r)){x y:T}{xs f:List T}(k:dn (x::xs) (y::f)):dn (a::b::c::d::e::x::xs) (uW r++y::f):=dn.append h k
theorem GA{t:TypeId}{us:List T}(h:cB Tryz.prog t us):(t=39->RdO us)/\(t=37->K7 us):=by
 induction h with
 |bool h b=>exact ⟨fun e=>(by subst e;rw [Tryz.underlying39] at h;cases h),fun e=>(by subst e;rw [Bu] at h;cases h)⟩
 |int h n R=>exact ⟨fun e=>(by subst e;rw [Tryz.underlying39] at h;cases h),fun e=>(by subst e;rw [Bu] at h;cases h)⟩
 |str h s S=>exact ⟨fun e=>(by subst e;rw [Tryz.underlying39] at h;cases h),fun e=>(by subst e;rw [Bu] at h;cases h)⟩
 |array h us m l o=>exact ⟨fun e=>(by subst e;rw [Tryz.underlying39] at h;cases h),fun e=>(by subst e;rw [Bu] at h;cases h)⟩
 |nil h=>
  refine ⟨fun e=>(by subst e;rw [Tryz.underlying39] at h;cases h),fun e=>?_⟩;exact ⟨[],.cons (Les.nil 9) rfl .nil,by simp [vC,aQ,T.bulk],fun _=>trivial⟩
 |slice h xs r m o=>
  refine ⟨fun e=>(by subst e;rw [Tryz.underlying39] at h;cases h),fun e=>?_⟩;subst e;rw [Bu] at h;cases h;obtain ⟨rs,k1,k2,U,J⟩:=I2 (xs:=xs) fun x L=>(o x L).1 rfl
  have P:xs.map (mkT Tryz.prog 39)=xs.map .agg:=List.map_congr_left fun x _=>Nx x
  rw [P,Ct];refine ⟨rs,.cons (Les.slice (by simp [k1]) fun i x y r E=>?_) rfl .nil,by simp only [aQ,T.bulk];omega,fun u=>J (by simp only [aQ,T.bulk] at u;omega)⟩;rw [List.getElem?_map] at r E;obtain ⟨M,v,rfl⟩:=Option.map_eq_some_iff.1 r;obtain ⟨w,q,rfl⟩:=Option.map_eq_some_iff.1 E;rw [vO];exact ⟨k2 i M w v q,uG w⟩
 |struct h us m l o=>
  refine ⟨fun e=>?_,fun e=>(by subst e;rw [Bu] at h;cases h)⟩;subst e;rw [Tryz.underlying39] at h;cases h;rw [Ct] at m;obtain ⟨a,b,c,d,e,f,g,i,j,rfl⟩:=KB m;have C:=l ⟨ "Kind",3,0,false, "", "",0⟩ (by simp);have H:=(I5 (l ⟨ "Pred",36,1,false, "", "",8⟩ (by simp))).1 rfl;have D:=l ⟨ "Field",9,6,false, "", "",72⟩ (by simp);have F:=l ⟨ "N",3,7,false, "", "",88⟩ (by simp);have A:=(o ⟨ "Args",37,8,false, "", "",96⟩ (by simp)).2 rfl;simp only [yM,zG,Cs,Ij,List.drop,List.take] at C H D F A;obtain ⟨k,e0,_⟩:=wu C;obtain ⟨p,N,O,z⟩:=H;obtain ⟨s,I⟩:=yW D;obtain ⟨n,B,_⟩:=wu F;obtain ⟨rs,K,Q,G⟩:=A;simp only [List.cons.injEq,and_true] at e0 I B;subst e0;subst I;subst B;refine ⟨.mk k p s n rs,.cons (Les.refl _) rfl (dn.K2 N (.cons (Les.refl _) rfl (.cons (Les.refl _) rfl K))),?_,fun u=>?_⟩
  ·simp only [RO.wt,aQ,T.bulk] at O Q ⊢;omega
  ·simp only [aQ,T.bulk] at z G u;exact ⟨z (by omega),by omega,G (by omega)⟩
theorem Ht{us:List T}(h:cB Tryz.prog 54 us): ∃f:RF,us=vY f/\f.name.size<aQ us:=by
 cases h with
 |struct h us l e=>
  rw [Tryz.underlying54] at h;cases h;rw [Ev] at l
  match us,l with
  |[a,b,c],_=>
   have j:=e ⟨ "Name",9,0,false, "", "",0⟩ (by simp);have g:=e ⟨ "At",3,1,false, "", "",16⟩ (by simp);have k:=e ⟨ "Width",3,2,false, "", "",24⟩ (by simp);simp only [yM,zG,List.drop,List.take] at j g k;obtain ⟨s,e0⟩:=yW j;obtain ⟨n,o,_⟩:=wu g;obtain ⟨m,i,_⟩:=wu k;simp only [List.cons.injEq,and_true] at e0 o i;subst e0;subst o;subst i;exact ⟨⟨s,n,m⟩,rfl,by simp [aQ,T.bulk];omega⟩
 |int h|bool h|str h|nil h|slice h|array h=>rw [Tryz.underlying54] at h;cases h
theorem Gz{us:List T}(h:cB Tryz.prog 22 us): ∃l:List RF,Les (mkT Tryz.prog 22 us) (yd l)/\l.length<=aQ us/\ ∀f∈l,f.name.size<aQ us:=by
 have e: ∀t,mkT Tryz.prog 22 [t]=t:=fun t=>by unfold mkT;rw [Tryz.underlying22];rfl
 cases h with
 |nil h=>exact ⟨[],by rw [e];exact Les.nil 3,by simp,by simp⟩
 |slice h xs c j=>
  rw [Tryz.underlying22] at h;cases h;rw [e,Ev];have i:xs.map (mkT Tryz.prog 54)=xs.map .agg:=List.map_congr_left fun x _=>Ny x
  rw [i];have key: ∃l:List RF,l.length=xs.length/\xs.map .agg=l.map wQ/\l.length<=aQ (xs.map .agg)/\ ∀f∈l,f.name.size<aQ (xs.map .agg):=by
   clear j i
   induction xs with
   |nil=>exact ⟨[],rfl,rfl,by simp,by simp⟩
   |cons x xs k=>
    obtain ⟨f,m,q⟩:=Ht (c x (by simp));obtain ⟨l,k1,k2,p,a⟩:=k fun y o=>c y (by simp [o])
    refine ⟨f::l,by simp [k1],by simp only [List.map_cons,k2,m];rfl,by simp only [List.map_cons,aQ,T.bulk,List.length_cons];omega,fun g b=>?_⟩;simp only [List.map_cons,aQ,T.bulk];rcases List.mem_cons.1 b with rfl|b
    ·omega
    ·have:=a g b;omega
  obtain ⟨l,k1,k2,p,a⟩:=key;refine ⟨l,by rw [k2];exact Les.refl _,by simp only [aQ,T.bulk];omega,fun f n=>by simp only [aQ,T.bulk];have:=a f n;omega⟩
 |int h|bool h|str h|array h|struct h=>rw [Tryz.underlying22] at h;cases h
end Go.MM
end
section
namespace Go.TY
open Go Go.DL Go.MM Go.Proofs
structure RG where
 pol:RO
 st:RS
def uw(g:RG):List T:=uy g.pol++ur g.st
def uE(g:RG):T:=.agg (uw g)
theorem xm(g:RG):(uw g).length=15:=by simp [uw,uG,ur]
structure SmS (B:Nat) (s:RS):Prop where
 var:s.var.size<B
 field:s.field.size<B
 keys: ∀k∈s.key,k.size<B
 len:s.key.length<B
theorem SmS.mono{B a:Nat}{s:RS}(h:SmS B s)(c:B<=a):SmS a s:=⟨by have:=h.var;omega,by have:=h.field;omega,fun k b=>by have:=h.keys k b;omega,by have:=h.len;omega⟩
structure SmG (B:Nat) (g:RG):Prop where
 st:SmS B g.st
 wt:g.pol.wt<=B
 names:B<=2^61->zb g.pol
theorem EV:Tryz.prog.underlying 40=some (.slice 9):=by kernel_rfl
theorem CK:Tryz.prog.underlying 24=some (.slice 44):=by kernel_rfl
theorem EU:Tryz.prog.underlying 59=some (.slice 3):=by kernel_rfl
theorem F5:Tryz.prog.cellsOf 40=1:=by kernel_rfl
theorem F4:Tryz.prog.cellsOf 59=1:=by kernel_rfl
theorem CM:Tryz.prog.cellsOf 42=6:=by kernel_rfl
theorem B3:Tryz.prog.cellsOf 44=15:=by kernel_rfl
theorem IQ(us:List T):mkT Tryz.prog 44 us= .agg us:=by unfold mkT;rw [Tryz.underlying44]
theorem mkStr(t:T):mkT Tryz.prog 9 [t]=t:=by unfold mkT;rw [Kf];rfl
theorem mkInt(t:T):mkT Tryz.prog 3 [t]=t:=by unfold mkT;rw [Tryz.underlying3];rfl
theorem I8{us:List T}(h:cB Tryz.prog 40 us): ∃l:List ByteArray,dn us [.slice 1 (l.map .str)]/\l.length+1<=aQ us/\ ∀s∈l,s.size<aQ us:=by
 cases h with
 |nil h=>exact ⟨[],.cons (Les.nil 1) rfl .nil,by simp [aQ,T.bulk],by simp⟩
 |slice h xs c i=>
  rw [EV] at h;cases h;rw [zG];have key: ∃l:List ByteArray,xs.map (mkT Tryz.prog 9)=l.map .str/\l.length<=aQ (xs.map (mkT Tryz.prog 9))/\ ∀s∈l,s.size<aQ (xs.map (mkT Tryz.prog 9)):=by
   clear i
   induction xs with
   |nil=>exact ⟨[],rfl,by simp,by simp⟩
   |cons x xs f=>
    obtain ⟨s,rfl⟩:=yW (c x (by simp));obtain ⟨l,k1,k2,b⟩:=f fun y e=>c y (by simp [e])
    refine ⟨s::l,by simp only [List.map_cons,k1,mkStr],?_,fun z a=>?_⟩
    ·simp only [List.map_cons,aQ,mkStr,T.bulk,List.length_cons];omega
    ·simp only [List.map_cons,aQ,mkStr,T.bulk];rcases List.mem_cons.1 a with rfl|a
     ·omega
     ·have:=b z a;omega
  obtain ⟨l,k1,k2,b⟩:=key;refine ⟨l,by rw [<- k1];exact .cons (Les.refl _) rfl .nil,by simp only [aQ,T.bulk];omega,fun s g=>by simp only [aQ,T.bulk];have:=b s g;omega⟩
 |int h|bool h|str h|array h|struct h=>rw [EV] at h;cases h
theorem I4{us:List T}(h:cB Tryz.prog 59 us): ∃l:List Int,dn us [.slice 1 (l.map I)]/\l.length+1<=aQ us:=by
 cases h with
 |nil h=>exact ⟨[],.cons (Les.nil 1) rfl .nil,by simp [aQ,T.bulk]⟩
 |slice h xs a e=>
  rw [EU] at h;cases h;rw [yM];have key: ∃l:List Int,xs.map (mkT Tryz.prog 3)=l.map I/\l.length<=aQ (xs.map (mkT Tryz.prog 3)):=by
   clear e
   induction xs with
   |nil=>exact ⟨[],rfl,by simp⟩
   |cons x xs c=>
    obtain ⟨s,rfl,_⟩:=wu (a x (by simp));obtain ⟨l,k1,k2⟩:=c fun y b=>a y (by simp [b])
    refine ⟨s::l,by simp only [List.map_cons,k1,mkInt],?_⟩;simp only [List.map_cons,aQ,mkInt,T.bulk,List.length_cons];omega
  obtain ⟨l,k1,k2⟩:=key;refine ⟨l,by rw [<- k1];exact .cons (Les.refl _) rfl .nil,by simp only [aQ,T.bulk];omega⟩
 |int h|bool h|str h|array h|struct h=>rw [EU] at h;cases h
theorem KA{us:List T}(h:us.length=6): ∃a b c d e f,us=[a,b,c,d,e,f]:=by
 match us,h with
 |[a,b,c,d,e,f],_=>exact ⟨a,b,c,d,e,f,rfl⟩
theorem I7{us:List T}(h:cB Tryz.prog 42 us): ∃s:RS,dn us (ur s)/\SmS (aQ us) s:=by
 cases h with
 |struct h us o g=>
  rw [Tryz.underlying42] at h;cases h;rw [CM] at o;obtain ⟨a,b,c,d,e,f,rfl⟩:=KA o;have q:=g ⟨ "Kind",3,0,false, "", "",0⟩ (by simp);have y:=g ⟨ "Var",9,1,false, "", "",8⟩ (by simp);have r:=g ⟨ "Key",40,2,false, "", "",24⟩ (by simp);have u:=g ⟨ "Field",9,3,false, "", "",48⟩ (by simp);have p:=g ⟨ "N",3,4,false, "", "",64⟩ (by simp);have i:=g ⟨ "M",3,5,false, "", "",72⟩ (by simp);simp only [yM,zG,F5,List.drop,List.take] at q y r u p i;obtain ⟨k,e0,_⟩:=wu q;obtain ⟨v,A⟩:=yW y;obtain ⟨l,C,D,x⟩:=I8 r;obtain ⟨s,j⟩:=yW u;obtain ⟨n,w,_⟩:=wu p;obtain ⟨m,t,_⟩:=wu i;simp only [List.cons.injEq,and_true] at e0 A j w t;subst e0;subst A;subst j;subst w;subst t;refine ⟨⟨k,v,l,s,n,m⟩,.cons (Les.refl _) rfl (.cons (Les.refl _) rfl (dn.append (us:=[T.slice 1 (l.map .str)]) C (.cons (Les.refl _) rfl (.cons (Les.refl _) rfl (.cons (Les.refl _) rfl .nil))))),?_⟩;simp only [aQ,T.bulk] at D x ⊢;exact ⟨by show v.size<_;omega,by show s.size<_;omega,fun z B=>by have:=x z B;omega,by show l.length<_;omega⟩
 |int h|bool h|str h|nil h|slice h|array h=>rw [Tryz.underlying42] at h;cases h
theorem Hu{us:List T}(h:cB Tryz.prog 44 us): ∃g:RG,dn us (uw g)/\SmG (aQ us) g:=by
 cases h with
 |struct h us p j=>
  rw [Tryz.underlying44] at h;cases h;rw [B3] at p;have k:=(GA (j ⟨ "Policy",39,0,false, "", "",0⟩ (by simp))).1 rfl;have n:=I7 (j ⟨ "Step",42,9,false, "", "",120⟩ (by simp));rw [Ct] at k;rw [CM] at n;obtain ⟨r,i,u,m⟩:=k;obtain ⟨s,o,f⟩:=n;dsimp only at i u m o f;have c:us=(us.drop 0).take 9++(us.drop 9).take 6:=by
   rw [List.drop_zero,List.take_of_length_le (l:=us.drop 9) (by simp;omega),List.take_append_drop]
  have e: ∀a b:List T,aQ (a++b)=aQ a+aQ b:=fun a b=>by
   induction a with
   |nil=>simp [aQ]
   |cons x xs q=>simp only [List.cons_append,aQ,q];omega
  have t:=e ((us.drop 0).take 9) ((us.drop 9).take 6);rw [<- c] at t;refine ⟨⟨r,s⟩,?_,⟨f.mono (by omega),by show r.wt<=_;omega,fun h=>m (by omega)⟩⟩;rw [c];exact dn.append i o
 |int h|bool h|str h|nil h|slice h|array h=>rw [Tryz.underlying44] at h;cases h
theorem I6{us:List T}(h:cB Tryz.prog 24 us): ∃gs:List RG,Les (mkT Tryz.prog 24 us) (.slice 15 (gs.map uE))/\gs.length<=aQ us/\ ∀g∈gs,SmG (aQ us) g:=by
 have e: ∀t,mkT Tryz.prog 24 [t]=t:=fun t=>by unfold mkT;rw [CK];rfl
 cases h with
 |nil h=>exact ⟨[],by rw [e];exact Les.nil 15,by simp,by simp⟩
 |slice h xs f u=>
  rw [CK] at h;cases h;rw [e,B3];have s:xs.map (mkT Tryz.prog 44)=xs.map .agg:=List.map_congr_left fun x _=>IQ x
  rw [s];have key: ∃gs:List RG,gs.length=xs.length/\(∀ (i:Nat) (x:List T) (r:RG),xs[i]? =some x->gs[i]? =some r->dn x (uw r))/\gs.length<=aQ (xs.map .agg)/\ ∀g∈gs,SmG (aQ (xs.map .agg)) g:=by
   clear u s
   induction xs with
   |nil=>exact ⟨[],rfl,by simp,by simp,by simp⟩
   |cons x xs v=>
    obtain ⟨g,w,q⟩:=Hu (f x (by simp));obtain ⟨gs,k1,k2,E,m⟩:=v fun y j=>f y (by simp [j])
    have F:=q.st.var;refine ⟨g::gs,by simp [k1],fun i a b n c=>?_,by simp only [List.map_cons,aQ,T.bulk,List.length_cons];omega,fun z l=>?_⟩
    ·cases i with
     |zero=>simp at n c;subst n;subst c;exact w
     |succ i=>exact k2 i a b (by simpa using n) (by simpa using c)
    ·have up: ∀{B:Nat} {z:RG},SmG B z->B<=aQ ((x::xs).map .agg)->SmG (aQ ((x::xs).map .agg)) z:=fun h c=>⟨h.st.mono c,by have:=h.wt;omega,fun D=>h.names (by omega)⟩
     rcases List.mem_cons.1 l with rfl|l
     ·exact up q (by simp only [List.map_cons,aQ,T.bulk];omega)
     ·exact up (m z l) (by simp only [List.map_cons,aQ,T.bulk];omega)
  obtain ⟨gs,k1,k2,E,m⟩:=key;refine ⟨gs,Les.slice (by simp [k1]) fun i x y f j=>?_,by simp only [aQ,T.bulk];omega,fun g C=>?_⟩
  ·rw [List.getElem?_map] at f j;obtain ⟨A,o,rfl⟩:=Option.map_eq_some_iff.1 f;obtain ⟨p,k,rfl⟩:=Option.map_eq_some_iff.1 j;exact ⟨k2 i A p o k,xm p⟩
  ·have h:=m g C;have c:aQ (xs.map .agg)<=aQ [T.slice 15 (xs.map .agg)]:=by simp only [aQ,T.bulk];omega
   exact ⟨h.st.mono c,by have:=h.wt;omega,fun D=>h.names (by omega)⟩
 |int h|bool h|str h|array h|struct h=>rw [CK] at h;cases h
end Go.TY
end
section
end
section
namespace Go.TY
open Go Go.DL Go.Proofs
noncomputable def c84:aV:=(sr [oo 4 (.mov kF)] (.seq (sr [mv 6 0,ln 7 6,mv 8 1,ln 9 8,oo 10 (.bin .neq (tm 7) (tm 9))] (.cond (tm 10) (sr [oo 4 (.mov kF)] .ret) .skip)) (.seq (sr [mv 11 0,ln 12 11,oo 13 (.mov (Kc 0))] (.block 0 (.loop (sr [oo 14 (.bin .lss (tm 13) (tm 12))] (.seq (.cond (tm 14) .skip (.exit 0)) (.seq (.block 1 (sr [mv 15 13,mv 5 15] (sr [mv 16 0,mv 17 5,ix 18 1 16 17,ld 19 18,mv 20 1,mv 21 5,ix 22 1 20 21,ld 23 22,oo 24 (.bin .neq (tm 19) (tm 23))] (.cond (tm 24) (sr [oo 4 (.mov kF)] .ret) .skip)))) (rg [oo 25 (.bin .add (tm 13) (Kc 1)),mv 13 25]))))))) (sr [oo 4 (.mov kT)] .ret))))
theorem l84:(Tryz.f84.body.bind (bt Tryz.prog 26 []))=some c84:=by kernel_rfl
end Go.TY
end
section
end
section
namespace Go.TY
open Go Go.DL Go.MM Go.Proofs
def yJ(s:RS):Bool:=(s.kind==0)&&uq s.var e0&&uq s.field e0&&(s.n==0)&&(s.m==0)&&(s.key.length==0)
def xt(k:Int)(a e b:Bool)(n m:Int):Bool:=
 if k=1 then a&&(e||b)
 else if k=2 then a&&e
 else if k=3 then Br n&&(m==0)&&e
 else if k=4 then b&&xX n&&xX m&&decide (n<=m)
 else if k=5 then a&&b
 else if k=6 then e&&decide (n>=1)&&xX n&&decide (m>=1)&&Br m
 else false
def okS(s:RS):Bool:=yJ s||(zc s.var&&decide (1<=s.key.length)&&decide (s.key.length<=4)&&s.key.all vh&&xt s.kind ((s.n==0)&&(s.m==0)) (uq s.field e0) (vh s.field) s.n s.m)
def vR(s:RS):Int:=if okS s then 0 else 1
def fz2{α:Type}(f g:α->Int)(xs:List α):Int:=uT (xs.flatMap fun x=>[f x,g x])
theorem Fj{α:Type}{f g:α->Int}: ∀{xs:List α} {i:Nat} (h:i<xs.length),(∀ j (h:j<xs.length),j<i->f xs[j]=0/\g xs[j]=0)->f xs[i]≠0->fz2 f g xs=f xs[i]
 |x::xs,0,h,_,h0=>by simp at h0;simp [fz2,uT,h0]
 |x::xs,i+1,h,hz,h0=>by
  have a:=hz 0 (by simp) (by omega);simp only [List.getElem_cons_zero] at a
  have:=Fj (f:=f) (g:=g) (xs:=xs) (i:=i) (by simpa using h) (fun j b c=>hz (j+1) (by simpa using b) (by omega)) h0
  unfold fz2 at this ⊢;simp only [List.flatMap_cons,List.cons_append,List.nil_append,uT,a.1,a.2,ne_eq,not_true_eq_false,if_false,List.getElem_cons_succ];exact this
theorem Fk{α:Type}{f g:α->Int}: ∀{xs:List α} {i:Nat} (h:i<xs.length),(∀ j (h:j<xs.length),j<i->f xs[j]=0/\g xs[j]=0)->f xs[i]=0->g xs[i]≠0->fz2 f g xs=g xs[i]
 |x::xs,0,h,_,hf,h0=>by simp at h0 hf;simp [fz2,uT,h0,hf]
 |x::xs,i+1,h,hz,hf,h0=>by
  have a:=hz 0 (by simp) (by omega);simp only [List.getElem_cons_zero] at a
  have:=Fk (f:=f) (g:=g) (xs:=xs) (i:=i) (by simpa using h) (fun j b c=>hz (j+1) (by simpa using b) (by omega)) hf h0
  unfold fz2 at this ⊢;simp only [List.flatMap_cons,List.cons_append,List.nil_append,uT,a.1,a.2,ne_eq,not_true_eq_false,if_false,List.getElem_cons_succ];exact this
theorem Fi{α:Type}{f g:α->Int}: ∀{xs:List α},(∀ j (h:j<xs.length),f xs[j]=0/\g xs[j]=0)->fz2 f g xs=0
 |[],_=>rfl
 |x::xs,hz=>by
  have a:=hz 0 (by simp);simp only [List.getElem_cons_zero] at a
  have:=Fi (f:=f) (g:=g) (xs:=xs) fun j b=>hz (j+1) (by simpa using b)
  unfold fz2 at this ⊢;simp only [List.flatMap_cons,List.cons_append,List.nil_append,uT,a.1,a.2,ne_eq,not_true_eq_false,if_false];exact this
def yO(gs:List RG):Int:=if gs.length>8 then 2 else fz2 (fun g=>vQ g.pol) (fun g=>vR g.st) gs
abbrev z15:List T:=[I 0,I 0,.str ⟨#[]⟩,I 0,I 0,.nil,.str ⟨#[]⟩,I 0,.nil,I 0,.str ⟨#[]⟩,.nil,.str ⟨#[]⟩,I 0,I 0]
theorem GH(g:RG):((aN z15 0 15 (uw g)).drop 0).take 9=uy g.pol:=by
 rw [tq (n:=15) rfl,List.drop_zero];unfold uw;rw [<- uG g.pol,List.take_left]
theorem Hy(g:RG):((aN z15 0 15 (uw g)).drop 9).take 6=ur g.st:=by
 rw [tq (n:=15) rfl];unfold uw;have e:(uy g.pol++ur g.st).drop 9=ur g.st:=by
  rw [<- uG g.pol,List.drop_left]
 rw [e];rfl
def vB(l:List Fd)(s:ByteArray):Bool:=(findF l s).isSome
def zY(ks:List ByteArray)(i:Nat):Bool:=(ks.take i).any fun x=>uq (ks.getD i e0) x
def zZ(ks:List ByteArray):Bool:=(List.range ks.length).any (zY ks)
def Fz(l:List Fd)(k:Int)(f:ByteArray)(m:Int):Int:=match findF l f with
 |none=>0
 |some F=>if k=4/\m>((2^F.w - 1:Nat):Int) then 1 else 0
def wH(l:List Fd)(s:RS):Int:=
 if vR s≠0 then vR s
 else if s.kind=0 then 0
 else if (!uq s.field e0&& !vB l s.field)|| !s.key.all (vB l) then 4
 else if zZ s.key then 1
 else Fz l s.kind s.field s.m
theorem GV{s:RS}(h:vR s=0)(c:s.kind=4):uq s.field e0=false:=by
 unfold vR at h;have a:okS s=true:=by
  cases e:okS s with
  |true=>rfl
  |false=>rw [e] at h;simp at h
 unfold okS at a;have f:yJ s=false:=by unfold yJ;rw [c];rfl
 rw [f,Bool.false_or] at a;simp only [Bool.and_eq_true] at a;have b:=a.2;unfold xt at b;rw [c] at b;simp only [show ¬((4:Int)=1) by omega,show ¬((4:Int)=2) by omega,show ¬((4:Int)=3) by omega,if_false,if_true,Bool.and_eq_true] at b;exact za b.1.1.1
end Go.TY
end
section
end
section
namespace Go.TY
open Go Go.DL Go.MM Go.Proofs
theorem HG(a b:List Int)(s:a.length<2^60):DCalls Tryz.prog 84 [.slice 1 (a.map I),.slice 1 (b.map I)] (.bool (a==b)):=by
 refine dl2 mixed [.tmp 4] [.bool _] Tryz.func84 l84 ?_;have w:((a.map I).length:Int)=a.length:=by rw [List.length_map]
 have v:((b.map I).length:Int)=b.length:=by rw [List.length_map]
 by_cases c:a.length=b.length
 case neg=>
  have e:(a==b)=false:=beq_false_of_ne fun e=>c (by rw [e])
  rw [e];have l:((a.map I).length:Int)≠((b.map I).length:Int):=by omega
  repeat' ((conv=>whnf);first|refine sG l ?_|refine rb0 ?_|refine aS ?_|exact trivial)
 have l:((a.map I).length:Int)=((b.map I).length:Int):=by omega
 repeat' ((conv=>whnf);first|refine sF l ?_|refine aS ?_|fail)
 refine tT (α:=Nat) (fun i=>{sl:=[(0,.t (.slice 1 (a.map I))),(1,.t (.slice 1 (b.map I))),(11,.t (.slice 1 (a.map I))),(12,.t (I a.length)),(13,.t (I i))],bx:=[]})
  (fun i=>i<=a.length/\ ∀j (h:j<a.length) (k:j<b.length),j<i->a[j]=b[j]) (fun i=>a.length - i) 0 (by simp) ?_ ?_
 ·repeat' (first|(exact leI (by simp))|exact wJ|refine And.intro ?_ ?_)
 rintro i ⟨u,n⟩;rcases Nat.lt_or_ge i a.length with h|h
 ·have k:i<b.length:=by omega
  by_cases f:a[i]=b[i]
  ·repeat' ((conv=>whnf);first|(refine nv_ (I a[i]) (by first|(simp [h];done)|fail) ?_)|(refine nv_ (I b[i]) (by first|(simp [k];done)|fail) ?_)|refine sF f ?_|refine aD1 ?_|refine aS ?_|refine nT_ ?_)
   refine ⟨i+1,⟨h,fun j q g r=>?_⟩,by omega,?_⟩
   ·rcases Nat.lt_or_ge j i with m|m
    ·exact n j q g m
    ·obtain rfl:j=i:=by omega
     exact f
   ·repeat' (first|exact wJ|refine And.intro ?_ ?_)
  ·have e:(a==b)=false:=beq_false_of_ne fun e=>f (by subst e;rfl)
   rw [e]
   repeat' ((conv=>whnf);first|exact trivial|(refine nv_ (I a[i]) (by first|(simp [h];done)|fail) ?_)|(refine nv_ (I b[i]) (by first|(simp [k];done)|fail) ?_)|refine sG f ?_|refine aD1 ?_|refine rb0 ?_|refine aS ?_|refine nT_ ?_)
 ·have e:(a==b)=true:=by
   have:a=b:=List.ext_getElem c fun j o p=>n j o p (by omega)
   simp [this]
  rw [e]
  repeat' ((conv=>whnf);first|refine aD0 ?_|refine rb1 ?_|refine aS ?_|exact trivial)
end Go.TY
end
section
namespace Go.TY
open Go Go.DL Go.Proofs
section
variable {α:Type}{enc:α->T}{d:α}
end
def FU(ks:List ByteArray):List ByteArray:=xh ltS ks
end Go.TY
end
section
namespace Go.TY
open Go Go.DL Go.MM
section
variable {α:Type}[DecidableEq α]
theorem DW: ∀{l acc:List α},(once acc l).length<=acc.length+l.length
 |[],acc=>Nat.le_refl _
 |x::l,acc=>by
  unfold once
  have:=DW (l:=l) (acc:=if x∈acc then acc else acc++[x])
  rw [List.length_cons];split at this
  ·rw [if_pos (by assumption)];omega
  ·rw [List.length_append,List.length_singleton] at this;rw [if_neg (by assumption)];omega
end
end Go.TY
end
section
end
section
namespace Go.TY
open Go Go.DL Go.MM Go.Proofs
def zo(l:List Fd)(gs:List RG):Option VS:=Bv l ⟨[],[]⟩ (uu (gs.map (·.st)))
theorem AX{ks:List Nat}{bx:Nat->Option BX}{n e w:Nat}{us xs:List T}(h:us=xs):LeV ks bx (.t (.slice w us)) (.own n e w xs):=by rw [h];exact LeV.data _ _ _ _
theorem Cx{α:Type}{f g:α->Int}: ∀{xs:List α},fz2 f g xs=0-> ∀x∈xs,f x=0/\g x=0
 |[],_,_,hx=>by cases hx
 |x::xs,h,y,b=>by
  have h:uT (f x::g x::xs.flatMap fun x=>[f x,g x])=0:=h;simp only [uT] at h
  by_cases a:f x=0
  ·by_cases c:g x=0
   ·simp only [a,c] at h;rcases List.mem_cons.1 b with rfl|b
    ·exact ⟨a,c⟩
    ·exact Cx (by simpa [fz2] using h) y b
   ·simp [a,c] at h
  ·simp [a] at h
def zj(l:List Fd)(gs:List RG):Int:=
 if yO gs≠0 then yO gs
 else if fz2 (fun g=>xH l g.pol) (fun g=>wH l g.st) gs≠0 then fz2 (fun g=>xH l g.pol) (fun g=>wH l g.st) gs
 else if (zo l gs).isNone then 11 else 0
end Go.TY
end
section
end
section
end
section
end
section
namespace Go.TY
open Go Go.DL Go.MM Go.Proofs
theorem Bc{l:List Fd}{gs:List RG}:(zo l gs).isNone=true↔ ¬PW l (uu (gs.map (·.st))):=by
 unfold zo;have b:=Cp (ts:=uu (gs.map (·.st))) (AJ.start (l:=l))
 rw [List.nil_append] at b
 by_cases a:PW l (uu (gs.map (·.st)))
 ·obtain ⟨e,c,f⟩:=b.1 a;rw [c];simp [a]
 ·rw [b.2 a];simp [a]
def wE(gs:List RG):List ByteArray:=FU (once [] ((uu (gs.map (·.st))).map (·.var)))
def v0:RV:=⟨e0,0,[],0,0⟩
def wL(l:List Fd)(gs:List RG):List RV:=(wE gs).map fun s=>(uY l (uu (gs.map (·.st))) s).getD v0
theorem DV{ks:List ByteArray}(_:ks.Nodup){x:ByteArray}:x∈FU ks↔x∈ks:=by
 unfold FU;exact Ah
theorem CD{α:Type}[DecidableEq α]{lt:α->α->Bool}{x:α}: ∀{l:List α},(put lt l x).length<=l.length+1
 |[]=>by simp [put]
 |y::l=>by
  have c:=CD (lt:=lt) (x:=x) (l:=l);have b:=List.length_filter_le (fun a=> !decide (a=x)) (y::l);unfold put;split
  ·simp only [List.length_cons] at *;omega
  ·simp only [List.length_cons] at *;omega
theorem BG{α:Type}[DecidableEq α]{lt:α->α->Bool}: ∀{l acc:List α},(l.foldl (put lt) acc).length<=acc.length+l.length
 |[],_=>by simp
 |x::l,acc=>by
  have a:=CD (lt:=lt) (x:=x) (l:=acc);have b:=BG (lt:=lt) (l:=l) (acc:=put lt acc x);rw [List.foldl_cons,List.length_cons];omega
theorem Ci{α:Type}[DecidableEq α]{lt:α->α->Bool}{l:List α}:(xh lt l).length<=l.length:=by
 have:=BG (lt:=lt) (l:=l) (acc:=[])
 rw [List.length_nil,Nat.zero_add] at this;exact this
end Go.TY
end
noncomputable section
namespace Go.TY
open Go Go.DL Go.Proofs
def LN:aV:=(sr [oo 4 (.mov kF)] (.seq (sr [mv 6 0,ln 7 6,mv 8 1,ln 9 8,oo 10 (.bin .neq (tm 7) (tm 9))] (.cond (tm 10) (sr [oo 4 (.mov kF)] .ret) .skip)) (.seq (sr [oo 5 (.mov (Kc 0))] (.block 0 (.loop (.seq (sr [mv 11 5,mv 12 0,ln 13 12,oo 14 (.bin .lss (tm 11) (tm 13))] (.cond (tm 14) .skip (.exit 0))) (.seq (.block 1 (sr [mv 17 0,mv 18 5,ix 19 1 17 18,ld 20 19,mv 21 1,mv 22 5,ix 23 1 21 22,ld 24 23,oo 25 (.bin .neq (tm 20) (tm 24))] (.cond (tm 25) (sr [oo 4 (.mov kF)] .ret) .skip))) (rg [mv 15 5,oo 16 (.bin .add (tm 15) (Kc 1)),mv 5 16])))))) (sr [oo 4 (.mov kT)] .ret))))
theorem M9:(Tryz.f175.body.bind (bt Tryz.prog 26 []))=some LN:=by kernel_rfl
def LY:aV:=(sr [oo 2 (.box 6 (tm 0)),oo 3 (.box 6 (tm 1)),oo 4 (.mov kF)] (.seq (sr [fa 6 0 2,ld 7 6,fa 8 0 3,ld 9 8,oo 10 (.bin .neq (tm 7) (tm 9)),mv 11 10,oF 12 11 (.offA 1 (tm 2)),oF 13 11 (.load 1 false (tm 12)),oF 14 11 (.offA 1 (tm 3)),oF 15 11 (.load 1 false (tm 14)),oF 16 11 (.bin .neq (tm 13) (tm 15)),oo 17 (.pick (tm 11) kT (tm 16)),mv 18 17,oF 19 18 (.offA 3 (tm 2)),oF 20 18 (.load 1 false (tm 19)),oF 21 18 (.offA 3 (tm 3)),oF 22 18 (.load 1 false (tm 21)),oF 23 18 (.bin .neq (tm 20) (tm 22)),oo 24 (.pick (tm 18) kT (tm 23)),mv 25 24,oF 26 25 (.offA 4 (tm 2)),oF 27 25 (.load 1 false (tm 26)),oF 28 25 (.offA 4 (tm 3)),oF 29 25 (.load 1 false (tm 28)),oF 30 25 (.bin .neq (tm 27) (tm 29)),oo 31 (.pick (tm 25) kT (tm 30)),mv 32 31,oF 33 32 (.offA 5 (tm 2)),oF 34 32 (.load 1 false (tm 33)),oF 35 32 (.offA 5 (tm 3)),oF 36 32 (.load 1 false (tm 35)),oF 37 32 (.bin .neq (tm 34) (tm 36)),oo 38 (.pick (tm 32) kT (tm 37)),mv 39 38,oF 40 39 (.offA 2 (tm 2)),oF 41 39 (.load 1 false (tm 40)),oF 42 39 (.len (tm 41)),oF 43 39 (.offA 2 (tm 3)),oF 44 39 (.load 1 false (tm 43)),oF 45 39 (.len (tm 44)),oF 46 39 (.bin .neq (tm 42) (tm 45)),oo 47 (.pick (tm 39) kT (tm 46))] (.cond (tm 47) (sr [oo 4 (.mov kF)] .ret) .skip)) (.seq (sr [oo 5 (.mov (Kc 0))] (.block 0 (.loop (.seq (sr [mv 48 5,fa 49 2 2,ld 50 49,ln 51 50,oo 52 (.bin .lss (tm 48) (tm 51))] (.cond (tm 52) .skip (.exit 0))) (.seq (.block 1 (sr [fa 55 2 2,ld 56 55,mv 57 5,ix 58 1 56 57,ld 59 58,fa 60 2 3,ld 61 60,mv 62 5,ix 63 1 61 62,ld 64 63,oo 65 (.bin .neq (tm 59) (tm 64))] (.cond (tm 65) (sr [oo 4 (.mov kF)] .ret) .skip))) (rg [mv 53 5,oo 54 (.bin .add (tm 53) (Kc 1)),mv 5 54])))))) (sr [oo 4 (.mov kT)] .ret))))
theorem Nk:(Tryz.f203.body.bind (bt Tryz.prog 66 []))=some LY:=by kernel_rfl
def c49:aV:=(sr [oo 2 (.mov (Kc 0))] (.seq (sr [mv 3 0] (.block 0 (sr [oo 5 (.bin .eql (tm 3) (Kc 1)),mv 4 5] (.cond (tm 4) (sr [oo 2 (.mov (Kc 1))] .ret) (.seq (sr [oo 7 (.bin .eql (tm 3) (Kc 2)),mv 6 7] (.cond (tm 6) .skip (rg [oo 8 (.bin .eql (tm 3) (Kc 3)),mv 6 8]))) (.cond (tm 6) (sr [oo 2 (.mov (Kc 2))] .ret) (.seq (sr [oo 10 (.bin .eql (tm 3) (Kc 4)),mv 9 10] (.cond (tm 9) .skip (rg [oo 11 (.bin .eql (tm 3) (Kc 5)),mv 9 11]))) (.cond (tm 9) (sr [oo 2 (.mov (Kc 3))] .ret) .skip)))))))) (sr [oo 2 (.mov (Kc 4))] .ret)))
theorem l49:(Tryz.f49.body.bind (bt Tryz.prog 12 []))=some c49:=by kernel_rfl
def c50:aV:=(sr [oo 4 (.mov (.const .nil))] (sr [oo 5 (.mov (.const .nil))] (.seq (sr [oo 6 (.mov (Kc 0))] (.block 0 (.loop (.seq (sr [mv 9 6,mv 10 1,ln 11 10,oo 12 (.bin .lss (tm 9) (tm 11))] (.cond (tm 12) .skip (.exit 0))) (.seq (.block 1 (sr [mv 16 0,mv 17 1,mv 18 6,ix 19 1 17 18,ld 20 19,oo 21 (.call 17 [(tm 16),(tm 20)]),mv 15 21,oo 22 (.ext (tm 15) 0),oo 23 (.ext (tm 15) 1),⟨some 7,.alloc [S0,Z0,Z0],none,[]⟩,o0 (.store 3 (tm 7) (tm 22)),mv 8 23] (rg [mv 24 5,fa 25 2 7,ld 26 25,oo 27 (.buildF 1 1 [Z0] [(0,(tm 26))]),oo 28 (.append 59 3 1 8 (tm 24) (tm 27)),mv 5 28]))) (rg [mv 13 6,oo 14 (.bin .add (tm 13) (Kc 1)),mv 6 14])))))) (sr [mv 29 5,mv 4 29] .ret))))
theorem l50:(Tryz.f50.body.bind (bt Tryz.prog 30 [8000027]))=some c50:=by kernel_rfl
def c51:aV:=(sr [oo 1 (.box 6 (tm 0)),oo 2 (.mov kF)] (sr [fa 3 0 1,ld 4 3,oo 5 (.bin .eql (tm 4) (Kc 4)),mv 6 5,oF 7 6 (.offA 0 (tm 1)),oF 8 6 (.load 1 false (tm 7)),oF 9 6 (.bin .eql (tm 8) (Kc 6)),oo 10 (.pick (tm 6) kT (tm 9)),mv 2 10] .ret))
theorem l51:(Tryz.f51.body.bind (bt Tryz.prog 11 []))=some c51:=by kernel_rfl
def Lx:aV:=(sr [oo 4 (.box 6 (tm 1)),oo 5 (.box 6 (tm 2)),oo 6 (.mov kF)] (.seq (sr [lA 8 6 4,oo 9 (.call 51 [tm 8]),mv 10 9,oT 11 10 (.load 6 true (tm 5)),oT 12 10 (.call 51 [tm 11]),oo 13 (.pick (tm 10) (tm 12) kF),mv 14 13,oT 15 14 (.offA 4 (tm 4)),oT 16 14 (.load 1 false (tm 15)),oT 17 14 (.offA 4 (tm 5)),oT 18 14 (.load 1 false (tm 17)),oT 19 14 (.bin .neq (tm 16) (tm 18)),mT 20 19 14,oF 21 20 (.offA 5 (tm 4)),oF 22 20 (.load 1 false (tm 21)),oF 23 20 (.offA 5 (tm 5)),oF 24 20 (.load 1 false (tm 23)),oF 25 20 (.bin .neq (tm 22) (tm 24)),oT 26 14 (.pick (tm 20) kT (tm 25)),oo 27 (.pick (tm 14) (tm 26) kF)] (.cond (tm 27) (sr [oo 6 (.mov kF)] .ret) .skip)) (sr [mv 28 0,fa 29 2 4,ld 30 29,oo 31 (.call 50 [(tm 28),(tm 30)]),mv 32 0,fa 33 2 5,ld 34 33,oo 35 (.call 50 [(tm 32),(tm 34)]),oo 36 (.call 175 [(tm 31),(tm 35)]),mv 7 36] (sr [mv 37 7,mv 38 37,oT 39 38 (.offA 0 (tm 4)),oT 40 38 (.load 1 false (tm 39)),oT 41 38 (.call 49 [tm 40]),oT 42 38 (.offA 0 (tm 5)),oT 43 38 (.load 1 false (tm 42)),oT 44 38 (.call 49 [tm 43]),oT 45 38 (.bin .eql (tm 41) (tm 44)),oo 46 (.pick (tm 38) (tm 45) kF),mv 6 46] .ret))))
theorem MQ:(Tryz.f134.body.bind (bt Tryz.prog 47 []))=some Lx:=by kernel_rfl
def c48:aV:=(sr [oo 4 (.mov (.const .nil))] (sr [oo 5 (.mov (.const .nil))] (sr [oo 6 (.mov kF)] (.seq (sr [oo 7 (.mov (Kc 0))] (.block 0 (.loop (.seq (.cut (sr [mv 8 7,mv 9 0,ln 10 9,oo 11 (.bin .lss (tm 8) (tm 10))] (.cond (tm 11) .skip (.exit 0)))) (.seq (.block 1 (.seq (.cut (sr [mv 14 0,mv 15 7,ix 16 1 14 15,ld 17 16,mv 18 1,oo 19 (.bin .geq (tm 17) (tm 18)),mv 20 19,mT 21 6 20,oT 22 20 (.not (tm 21)),oo 23 (.pick (tm 20) (tm 22) kF)] (.cond (tm 23) (sr [mv 24 5,mv 25 1,⟨some 26,.buildF 1 1 [S0] [(0,(tm 25))],none,[]⟩,oo 27 (.append 40 9 1 16 (tm 24) (tm 26)),mv 5 27] (rg [oo 6 (.mov kT)])) .skip))) (sr [mv 28 0,mv 29 7,ix 30 1 28 29,ld 31 30,mv 32 1,oo 33 (.bin .neq (tm 31) (tm 32))] (.cond (tm 33) (rg [mv 34 5,mv 35 0,mv 36 7,ix 37 1 35 36,ld 38 37,⟨some 39,.buildF 1 1 [S0] [(0,(tm 38))],none,[]⟩,oo 40 (.append 40 9 1 16 (tm 34) (tm 39)),mv 5 40]) .skip)))) (rg [mv 12 7,oo 13 (.bin .add (tm 12) (Kc 1)),mv 7 13])))))) (.seq (sr [mv 41 6,oo 42 (.not (tm 41))] (.cond (tm 42) (rg [mv 43 5,mv 44 1,⟨some 45,.buildF 1 1 [S0] [(0,(tm 44))],none,[]⟩,oo 46 (.append 40 9 1 16 (tm 43) (tm 45)),mv 5 46]) .skip)) (sr [mv 47 5,mv 4 47] .ret))))))
theorem l48:(Tryz.f48.body.bind (bt Tryz.prog 48 [5000004,5000006,8000026,8000039,8000045]))=some c48:=by kernel_rfl
def c10:aV:=(sr [oo 4 (.mov (.const .nil))] (sr [oo 5 (.mov (.const .nil))] (.seq (sr [oo 6 (.mov (Kc 0))] (.block 0 (.loop (.seq (sr [mv 13 6,mv 14 1,ln 15 14,oo 16 (.bin .lss (tm 13) (tm 15))] (.cond (tm 16) .skip (.exit 0))) (.seq (.block 1 (sr [mv 19 1,mv 20 6,ix 21 15 19 20,fa 22 9 21,fa 23 0 22,ld 24 23,oo 25 (.bin .neq (tm 24) (Kc 0))] (.cond (tm 25) (rg [mv 26 5,mv 27 1,mv 28 6,ix 29 15 27 28,fa 30 9 29,fa 31 1 30,ld 32 31,oo 33 (.call 48 [(tm 26),(tm 32)]),mv 5 33]) .skip))) (rg [mv 17 6,oo 18 (.bin .add (tm 17) (Kc 1)),mv 6 18])))))) (sr [oo 7 (.mov (.const .nil))] (.seq (sr [oo 8 (.mov (Kc 0))] (.block 2 (.loop (.seq (sr [mv 34 8,mv 35 5,ln 36 35,oo 37 (.bin .lss (tm 34) (tm 36))] (.cond (tm 37) .skip (.exit 2))) (.seq (.block 3 (sr [mv 40 5,mv 41 8,ix 42 1 40 41,ld 43 42,⟨some 44,.build [S0,Z0,.nil,Z0,Z0] [(0,1,(tm 43))],none,[]⟩,⟨some 9,.alloc [S0,Z0,.nil,Z0,Z0],none,[]⟩,o0 (.store 5 (tm 9) (tm 44))] (sr [oo 10 (.mov kF)] (.seq (sr [oo 11 (.mov (Kc 0))] (.block 4 (.loop (.seq (sr [mv 45 11,mv 46 1,ln 47 46,oo 48 (.bin .lss (tm 45) (tm 47))] (.cond (tm 48) .skip (.exit 4))) (.seq (.block 5 (sr [mv 51 1,mv 52 11,ix 53 15 51 52,fa 54 9 53,lA 55 6 54,⟨some 12,.alloc [Z0,S0,.nil,S0,Z0,Z0],none,[]⟩,o0 (.store 6 (tm 12) (tm 55))] (.seq (sr [fa 56 0 12,ld 57 56,oo 58 (.bin .eql (tm 57) (Kc 0)),mv 59 58,oF 60 59 (.offA 1 (tm 12)),oF 61 59 (.load 1 false (tm 60)),mF 62 5 59,mF 63 8 59,oF 64 59 (.idxL 1 (tm 62) (tm 63)),oF 65 59 (.load 1 false (tm 64)),oF 66 59 (.bin .neq (tm 61) (tm 65)),oo 67 (.pick (tm 59) kT (tm 66))] (.cond (tm 67) (.exit 5) .skip)) (sr [fa 68 0 12,ld 69 68,oo 70 (.call 49 [tm 69]),fa 71 1 9,o0 (.store 1 (tm 71) (tm 70))] (sr [mv 72 0,fa 73 2 12,ld 74 73,oo 75 (.call 50 [(tm 72),(tm 74)]),fa 76 2 9,o0 (.store 1 (tm 76) (tm 75))] (sr [lA 77 6 12,oo 78 (.call 51 [tm 77]),mv 79 78,mT 80 10 79,oT 81 79 (.not (tm 80)),oo 82 (.pick (tm 79) (tm 81) kF)] (.cond (tm 82) (sr [fa 83 4 12,ld 84 83,fa 85 3 9,o0 (.store 1 (tm 85) (tm 84))] (sr [fa 86 5 12,ld 87 86,fa 88 4 9,o0 (.store 1 (tm 88) (tm 87))] (rg [oo 10 (.mov kT)]))) .skip))))))) (rg [mv 49 11,oo 50 (.bin .add (tm 49) (Kc 1)),mv 11 50])))))) (rg [mv 89 7,lA 90 5 9,⟨some 91,.buildF 5 1 [S0,Z0,.nil,Z0,Z0] [(0,(tm 90))],none,[]⟩,oo 92 (.append 30 67 5 64 (tm 89) (tm 91)),mv 7 92]))))) (rg [mv 38 8,oo 39 (.bin .add (tm 38) (Kc 1)),mv 8 39])))))) (sr [mv 93 7,mv 4 93] .ret))))))
theorem l10:(Tryz.f10.body.bind (bt Tryz.prog 94 [8000091]))=some c10:=by kernel_rfl
def Lw:aV:=(sr [oo 3 (.box 6 (tm 1)),oo 4 (.mov (Kc 0))] (sr [lA 14 6 3,oo 15 (.call 172 [tm 14]),mv 5 15] (.seq (sr [mv 16 5,oo 17 (.bin .neq (tm 16) (Kc 0)),mv 18 17,oF 19 18 (.offA 0 (tm 3)),oF 20 18 (.load 1 false (tm 19)),oF 21 18 (.bin .eql (tm 20) (Kc 0)),oo 22 (.pick (tm 18) kT (tm 21))] (.cond (tm 22) (sr [mv 23 5,mv 4 23] .ret) .skip)) (sr [⟨some 24,.buildS 9 1 0 [S0] [],none,[]⟩,fa 25 2 3,ld 26 25,oo 27 (.append 40 9 1 16 (tm 24) (tm 26)),mv 6 27] (.seq (.cut (sr [fa 28 3 3,ld 29 28,⟨some 30,.bin .neq (tm 29) (.const S0),none,[]⟩] (.cond (tm 30) (rg [mv 31 6,fa 32 3 3,ld 33 32,⟨some 34,.buildF 1 1 [S0] [(0,(tm 33))],none,[]⟩,oo 35 (.append 40 9 1 16 (tm 31) (tm 34)),mv 6 35]) .skip))) (.seq (sr [oo 7 (.mov (Kc 0))] (.block 0 (.loop (.seq (sr [mv 36 7,mv 37 6,ln 38 37,oo 39 (.bin .lss (tm 36) (tm 38))] (.cond (tm 39) .skip (.exit 0))) (.seq (.block 1 (sr [mv 43 0,mv 44 6,mv 45 7,ix 46 1 44 45,ld 47 46,oo 48 (.call 17 [(tm 43),(tm 47)]),mv 42 48,oo 49 (.ext (tm 42) 0),oo 50 (.ext (tm 42) 1),⟨some 8,.alloc [S0,Z0,Z0],none,[]⟩,o0 (.store 3 (tm 8) (tm 49)),mv 9 50] (sr [mv 51 9,oo 52 (.not (tm 51))] (.cond (tm 52) (sr [oo 4 (.mov (Kc 4))] .ret) .skip)))) (rg [mv 40 7,oo 41 (.bin .add (tm 40) (Kc 1)),mv 7 41])))))) (.seq (sr [oo 10 (.mov (Kc 0))] (.block 2 (.loop (.seq (sr [mv 53 10,fa 54 2 3,ld 55 54,ln 56 55,oo 57 (.bin .lss (tm 53) (tm 56))] (.cond (tm 57) .skip (.exit 2))) (.seq (.block 3 (sr [oo 11 (.mov (Kc 0))] (.block 4 (.loop (.seq (sr [mv 60 11,mv 61 10,oo 62 (.bin .lss (tm 60) (tm 61))] (.cond (tm 62) .skip (.exit 4))) (.seq (.block 5 (sr [fa 65 2 3,ld 66 65,mv 67 11,ix 68 1 66 67,ld 69 68,fa 70 2 3,ld 71 70,mv 72 10,ix 73 1 71 72,ld 74 73,oo 75 (.bin .eql (tm 69) (tm 74))] (.cond (tm 75) (sr [oo 4 (.mov (Kc 1))] .ret) .skip))) (rg [mv 63 11,oo 64 (.bin .add (tm 63) (Kc 1)),mv 11 64]))))))) (rg [mv 58 10,oo 59 (.bin .add (tm 58) (Kc 1)),mv 10 59])))))) (.seq (.cut (rg [mv 77 0,fa 78 3 3,ld 79 78,oo 80 (.call 17 [(tm 77),(tm 79)]),mv 76 80,oo 81 (.ext (tm 76) 0),oo 82 (.ext (tm 76) 1),⟨some 12,.alloc [S0,Z0,Z0],none,[]⟩,o0 (.store 3 (tm 12) (tm 81)),mv 13 82])) (.seq (sr [fa 83 0 3,ld 84 83,oo 85 (.bin .eql (tm 84) (Kc 4)),mv 86 85,oT 87 86 (.offA 5 (tm 3)),oT 88 86 (.load 1 false (tm 87)),oT 89 86 (.load 3 true (tm 12)),oT 90 86 (.call 111 [tm 89]),oT 91 86 (.bin .gtr (tm 88) (tm 90)),oo 92 (.pick (tm 86) (tm 91) kF)] (.cond (tm 92) (sr [oo 4 (.mov (Kc 1))] .ret) .skip)) (sr [oo 4 (.mov (Kc 0))] .ret))))))))))
theorem MP:(Tryz.f133.body.bind (bt Tryz.prog 93 [5000005,6000021,8000034]))=some Lw:=by kernel_rfl
def c94:aV:=(sr [oo 4 (.mov (Kc 0))] (sr [mv 13 1,oo 14 (.call 131 [tm 13]),mv 5 14] (.seq (sr [mv 15 5,oo 16 (.bin .neq (tm 15) (Kc 0))] (.cond (tm 16) (sr [mv 17 5,mv 4 17] .ret) .skip)) (.seq (sr [oo 6 (.mov (Kc 0))] (.block 0 (.loop (.seq (sr [mv 18 6,mv 19 1,ln 20 19,oo 21 (.bin .lss (tm 18) (tm 20))] (.cond (tm 21) .skip (.exit 0))) (.seq (.block 1 (sr [mv 24 0,mv 25 1,mv 26 6,ix 27 15 25 26,oo 28 (.nar 9 (tm 27)),lA 29 9 28,oo 30 (.call 132 [(tm 24),(tm 29)]),mv 7 30] (.seq (sr [mv 31 7,oo 32 (.bin .neq (tm 31) (Kc 0))] (.cond (tm 32) (sr [mv 33 7,mv 4 33] .ret) .skip)) (sr [mv 34 0,mv 35 1,mv 36 6,ix 37 15 35 36,fa 38 9 37,lA 39 6 38,oo 40 (.call 133 [(tm 34),(tm 39)]),mv 8 40] (sr [mv 41 8,oo 42 (.bin .neq (tm 41) (Kc 0))] (.cond (tm 42) (sr [mv 43 8,mv 4 43] .ret) .skip)))))) (rg [mv 22 6,oo 23 (.bin .add (tm 22) (Kc 1)),mv 6 23])))))) (.seq (sr [oo 9 (.mov (Kc 0))] (.block 2 (.loop (.seq (sr [mv 44 9,mv 45 1,ln 46 45,oo 47 (.bin .lss (tm 44) (tm 46))] (.cond (tm 47) .skip (.exit 2))) (.seq (.block 3 (sr [oo 10 (.mov (Kc 0))] (.block 4 (.loop (.seq (sr [mv 50 10,mv 51 9,oo 52 (.bin .lss (tm 50) (tm 51))] (.cond (tm 52) .skip (.exit 4))) (.seq (.block 5 (.seq (.cut (rg [mv 55 1,mv 56 10,ix 57 15 55 56,fa 58 9 57,lA 59 6 58,⟨some 11,.alloc [Z0,S0,.nil,S0,Z0,Z0],none,[]⟩,o0 (.store 6 (tm 11) (tm 59))])) (.seq (.cut (rg [mv 60 1,mv 61 9,ix 62 15 60 61,fa 63 9 62,lA 64 6 63,⟨some 12,.alloc [Z0,S0,.nil,S0,Z0,Z0],none,[]⟩,o0 (.store 6 (tm 12) (tm 64))])) (sr [fa 65 0 11,ld 66 65,oo 67 (.bin .neq (tm 66) (Kc 0)),mv 68 67,oT 69 68 (.offA 0 (tm 12)),oT 70 68 (.load 1 false (tm 69)),oT 71 68 (.bin .neq (tm 70) (Kc 0)),oo 72 (.pick (tm 68) (tm 71) kF),mv 73 72,oT 74 73 (.offA 1 (tm 11)),oT 75 73 (.load 1 false (tm 74)),oT 76 73 (.offA 1 (tm 12)),oT 77 73 (.load 1 false (tm 76)),oT 78 73 (.bin .eql (tm 75) (tm 77)),oo 79 (.pick (tm 73) (tm 78) kF),mv 80 79,mT 81 0 80,oT 82 80 (.load 6 true (tm 11)),oT 83 80 (.load 6 true (tm 12)),oT 84 80 (.call 134 [(tm 81),(tm 82),(tm 83)]),oT 85 80 (.not (tm 84)),oo 86 (.pick (tm 80) (tm 85) kF)] (.cond (tm 86) (sr [oo 4 (.mov (Kc 11))] .ret) .skip))))) (rg [mv 53 10,oo 54 (.bin .add (tm 53) (Kc 1)),mv 10 54]))))))) (rg [mv 48 9,oo 49 (.bin .add (tm 48) (Kc 1)),mv 9 49])))))) (sr [oo 4 (.mov (Kc 0))] .ret))))))
theorem l94:(Tryz.f94.body.bind (bt Tryz.prog 87 [6000019,6000020,2000028000009]))=some c94:=by kernel_rfl
def LQ:aV:=(sr [oo 1 (.box 6 (tm 0)),oo 2 (.mov kF)] (sr [lA 9 6 1,⟨some 10,.build [Z0,S0,.nil,S0,Z0,Z0] [],none,[]⟩,oo 11 (.call 203 [(tm 9),(tm 10)]),mv 3 11] (.seq (sr [mv 12 3] (.cond (tm 12) (sr [oo 2 (.mov kT)] .ret) .skip)) (sr [fa 13 1 1,ld 14 13,oo 15 (.call 204 [tm 14]),mv 4 15] (.seq (.seq (.cut (rg [mv 16 4,oo 17 (.not (tm 16)),mv 18 17,oF 19 18 (.offA 2 (tm 1)),oF 20 18 (.load 1 false (tm 19)),oF 21 18 (.len (tm 20)),oF 22 18 (.bin .lss (tm 21) (Kc 1)),oo 23 (.pick (tm 18) kT (tm 22)),mv 24 23,oF 25 24 (.offA 2 (tm 1)),oF 26 24 (.load 1 false (tm 25)),oF 27 24 (.len (tm 26)),oF 28 24 (.bin .gtr (tm 27) (Kc 4)),oo 29 (.pick (tm 24) kT (tm 28))])) (.cond (tm 29) (sr [oo 2 (.mov kF)] .ret) .skip)) (.seq (sr [oo 5 (.mov (Kc 0))] (.block 0 (.loop (.seq (sr [mv 30 5,fa 31 2 1,ld 32 31,ln 33 32,oo 34 (.bin .lss (tm 30) (tm 33))] (.cond (tm 34) .skip (.exit 0))) (.seq (.block 1 (sr [fa 37 2 1,ld 38 37,mv 39 5,ix 40 1 38 39,ld 41 40,oo 42 (.call 200 [tm 41]),mv 6 42] (sr [mv 43 6,oo 44 (.not (tm 43))] (.cond (tm 44) (sr [oo 2 (.mov kF)] .ret) .skip)))) (rg [mv 35 5,oo 36 (.bin .add (tm 35) (Kc 1)),mv 5 36])))))) (sr [fa 45 3 1,ld 46 45,oo 47 (.call 200 [tm 46]),mv 7 47] (.seq (.cut (rg [fa 48 4 1,ld 49 48,oo 50 (.bin .eql (tm 49) (Kc 0)),mv 51 50,oT 52 51 (.offA 5 (tm 1)),oT 53 51 (.load 1 false (tm 52)),oT 54 51 (.bin .eql (tm 53) (Kc 0)),oo 55 (.pick (tm 51) (tm 54) kF),mv 8 55])) (.seq (sr [fa 56 0 1,ld 57 56] (.block 2 (sr [oo 59 (.bin .eql (tm 57) (Kc 1)),mv 58 59] (.cond (tm 58) (sr [mv 60 7,mv 61 60,oF 62 61 (.offA 3 (tm 1)),oF 63 61 (.load 1 false (tm 62)),⟨some 64,.bin .eql (tm 63) (.const S0),some (61,false),[]⟩,oo 65 (.pick (tm 61) kT (tm 64)),mv 66 65,mT 67 8 66,oo 68 (.pick (tm 66) (tm 67) kF),mv 2 68] .ret) (sr [oo 70 (.bin .eql (tm 57) (Kc 2)),mv 69 70] (.cond (tm 69) (sr [fa 71 3 1,ld 72 71,⟨some 73,.bin .eql (tm 72) (.const S0),none,[]⟩,mv 74 73,mT 75 8 74,oo 76 (.pick (tm 74) (tm 75) kF),mv 2 76] .ret) (sr [oo 78 (.bin .eql (tm 57) (Kc 3)),mv 77 78] (.cond (tm 77) (sr [fa 79 3 1,ld 80 79,⟨some 81,.bin .eql (tm 80) (.const S0),none,[]⟩,mv 82 81,oT 83 82 (.offA 4 (tm 1)),oT 84 82 (.load 1 false (tm 83)),oT 85 82 (.bin .geq (tm 84) (Kc 0)),oo 86 (.pick (tm 82) (tm 85) kF),mv 87 86,oT 88 87 (.offA 4 (tm 1)),oT 89 87 (.load 1 false (tm 88)),oT 90 87 (.bin .leq (tm 89) (Kc 1073741824)),oo 91 (.pick (tm 87) (tm 90) kF),mv 92 91,oT 93 92 (.offA 5 (tm 1)),oT 94 92 (.load 1 false (tm 93)),oT 95 92 (.bin .eql (tm 94) (Kc 0)),oo 96 (.pick (tm 92) (tm 95) kF),mv 2 96] .ret) (sr [oo 98 (.bin .eql (tm 57) (Kc 4)),mv 97 98] (.cond (tm 97) (sr [mv 99 7,mv 100 99,oT 101 100 (.offA 4 (tm 1)),oT 102 100 (.load 1 false (tm 101)),oT 103 100 (.bin .geq (tm 102) (Kc 0)),oo 104 (.pick (tm 100) (tm 103) kF),mv 105 104,oT 106 105 (.offA 4 (tm 1)),oT 107 105 (.load 1 false (tm 106)),oT 108 105 (.offA 5 (tm 1)),oT 109 105 (.load 1 false (tm 108)),oT 110 105 (.bin .leq (tm 107) (tm 109)),oo 111 (.pick (tm 105) (tm 110) kF),mv 112 111,oT 113 112 (.offA 5 (tm 1)),oT 114 112 (.load 1 false (tm 113)),oT 115 112 (.bin .leq (tm 114) (Kc 65535)),oo 116 (.pick (tm 112) (tm 115) kF),mv 2 116] .ret) (sr [oo 118 (.bin .eql (tm 57) (Kc 5)),mv 117 118] (.cond (tm 117) (sr [mv 119 7,mv 120 119,mT 121 8 120,oo 122 (.pick (tm 120) (tm 121) kF),mv 2 122] .ret) (sr [oo 124 (.bin .eql (tm 57) (Kc 6)),mv 123 124] (.cond (tm 123) (sr [fa 125 3 1,ld 126 125,⟨some 127,.bin .eql (tm 126) (.const S0),none,[]⟩,mv 128 127,oT 129 128 (.offA 4 (tm 1)),oT 130 128 (.load 1 false (tm 129)),oT 131 128 (.bin .geq (tm 130) (Kc 1)),oo 132 (.pick (tm 128) (tm 131) kF),mv 133 132,oT 134 133 (.offA 4 (tm 1)),oT 135 133 (.load 1 false (tm 134)),oT 136 133 (.bin .leq (tm 135) (Kc 65535)),oo 137 (.pick (tm 133) (tm 136) kF),mv 138 137,oT 139 138 (.offA 5 (tm 1)),oT 140 138 (.load 1 false (tm 139)),oT 141 138 (.bin .geq (tm 140) (Kc 1)),oo 142 (.pick (tm 138) (tm 141) kF),mv 143 142,oT 144 143 (.offA 5 (tm 1)),oT 145 143 (.load 1 false (tm 144)),oT 146 143 (.bin .leq (tm 145) (Kc 1073741824)),oo 147 (.pick (tm 143) (tm 146) kF),mv 2 147] .ret) .skip)))))))))))))) (sr [oo 2 (.mov kF)] .ret))))))))))
theorem Nc:(Tryz.f189.body.bind (bt Tryz.prog 148 [6000005,6000014]))=some LQ:=by kernel_rfl
def LK:aV:=(sr [oo 1 (.box 6 (tm 0)),oo 2 (.mov (Kc 0))] (sr [lA 4 6 1,oo 5 (.call 189 [tm 4]),mv 3 5] (.seq (sr [mv 6 3,oo 7 (.not (tm 6))] (.cond (tm 7) (sr [oo 2 (.mov (Kc 1))] .ret) .skip)) (sr [oo 2 (.mov (Kc 0))] .ret))))
theorem M6:(Tryz.f172.body.bind (bt Tryz.prog 8 []))=some LK:=by kernel_rfl
def Lu:aV:=(sr [oo 2 (.mov (Kc 0))] (.seq (sr [mv 6 0,ln 7 6,oo 8 (.bin .gtr (tm 7) (Kc 8))] (.cond (tm 8) (sr [oo 2 (.mov (Kc 2))] .ret) .skip)) (.seq (sr [oo 3 (.mov (Kc 0))] (.block 0 (.loop (.seq (sr [mv 9 3,mv 10 0,ln 11 10,oo 12 (.bin .lss (tm 9) (tm 11))] (.cond (tm 12) .skip (.exit 0))) (.seq (.block 1 (sr [mv 15 0,mv 16 3,ix 17 15 15 16,oo 18 (.nar 9 (tm 17)),lA 19 9 18,oo 20 (.call 171 [tm 19]),mv 4 20] (.seq (sr [mv 21 4,oo 22 (.bin .neq (tm 21) (Kc 0))] (.cond (tm 22) (sr [mv 23 4,mv 2 23] .ret) .skip)) (sr [mv 24 0,mv 25 3,ix 26 15 24 25,fa 27 9 26,lA 28 6 27,oo 29 (.call 172 [tm 28]),mv 5 29] (sr [mv 30 5,oo 31 (.bin .neq (tm 30) (Kc 0))] (.cond (tm 31) (sr [mv 32 5,mv 2 32] .ret) .skip)))))) (rg [mv 13 3,oo 14 (.bin .add (tm 13) (Kc 1)),mv 3 14])))))) (sr [oo 2 (.mov (Kc 0))] .ret))))
theorem MN:(Tryz.f131.body.bind (bt Tryz.prog 33 [2000018000009]))=some Lu:=by kernel_rfl
def c90:aV:=(sr [oo 1 (.box 9 (tm 0)),oo 2 (.mov kF)] (sr [lA 5 9 1,oo 6 (.call 38 [tm 5]),oo 3 (.alloc [Z0,Z0]),o0 (.store 2 (tm 3) (tm 6))] (sr [fa 7 1 1,lA 8 5 7,oo 9 (.call 92 [tm 8]),oo 4 (.alloc [Z0,Z0]),o0 (.store 2 (tm 4) (tm 9))] (sr [fa 10 0 3,ld 11 10,oo 12 (.bin .leq (tm 11) (Kc 400)),mv 13 12,oT 14 13 (.offA 1 (tm 3)),oT 15 13 (.load 1 false (tm 14)),oT 16 13 (.bin .leq (tm 15) (Kc 60)),oo 17 (.pick (tm 13) (tm 16) kF),mv 18 17,oT 19 18 (.offA 0 (tm 4)),oT 20 18 (.load 1 false (tm 19)),oT 21 18 (.bin .leq (tm 20) (Kc 400)),oo 22 (.pick (tm 18) (tm 21) kF),mv 2 22] .ret))))
theorem l90:(Tryz.f90.body.bind (bt Tryz.prog 23 []))=some c90:=by kernel_rfl
def c37:aV:=(sr [oo 2 (.mov kF)] (.seq (sr [oo 3 (.mov (Kc 0))] (.block 0 (.loop (.seq (sr [mv 5 3,mv 6 0,ln 7 6,oo 8 (.bin .lss (tm 5) (tm 7)),mv 9 8,mT 10 3 9,oT 11 9 (.bin .lss (tm 10) (Kc 12)),oo 12 (.pick (tm 9) (tm 11) kF)] (.cond (tm 12) .skip (.exit 0))) (.seq (.block 1 (sr [mv 15 0,mv 16 3,ix 17 15 15 16,oo 18 (.nar 9 (tm 17)),lA 19 9 18,oo 20 (.call 90 [tm 19]),mv 4 20] (sr [mv 21 4,oo 22 (.not (tm 21)),mv 23 22,mF 24 0 23,mF 25 3 23,oF 26 23 (.idxL 15 (tm 24) (tm 25)),oF 27 23 (.offA 9 (tm 26)),oF 28 23 (.offA 2 (tm 27)),oF 29 23 (.load 1 false (tm 28)),oF 30 23 (.len (tm 29)),oF 31 23 (.bin .gtr (tm 30) (Kc 20)),oo 32 (.pick (tm 23) kT (tm 31))] (.cond (tm 32) (sr [oo 2 (.mov kF)] .ret) .skip)))) (rg [mv 13 3,oo 14 (.bin .add (tm 13) (Kc 1)),mv 3 14])))))) (sr [mv 33 0,ln 34 33,oo 35 (.bin .leq (tm 34) (Kc 12)),mv 2 35] .ret)))
theorem l37:(Tryz.f37.body.bind (bt Tryz.prog 36 [2000018000009]))=some c37:=by kernel_rfl
end Go.TY
end
section
namespace Go.TY
open Go Go.DL Go.MM Go.Proofs
theorem FG(a b:List Int)(p:a.length<2^60\/b.length<2^60):DCalls Tryz.prog 175 [.slice 1 (a.map I),.slice 1 (b.map I)] (.bool (a==b)):=by
 refine dl2 mixed [.tmp 4] [.bool _] Tryz.func175 M9 ?_;have w:((a.map I).length:Int)=a.length:=by rw [List.length_map]
 have v:((b.map I).length:Int)=b.length:=by rw [List.length_map]
 by_cases f:a.length=b.length
 case neg=>
  have e:(a==b)=false:=beq_false_of_ne fun e=>f (by rw [e])
  rw [e];have m:((a.map I).length:Int)≠((b.map I).length:Int):=by omega
  repeat' ((conv=>whnf);first|refine sG m ?_|refine rb0 ?_|refine aS ?_|exact trivial)
 have p:a.length<2^60:=by omega
 have m:((a.map I).length:Int)=((b.map I).length:Int):=by omega
 repeat' ((conv=>whnf);first|refine sF m ?_|refine aS ?_|fail)
 refine tT (α:=Nat) (fun i=>{sl:=[(0,.t (.slice 1 (a.map I))),(1,.t (.slice 1 (b.map I))),(5,.t (I i))],bx:=[]})
  (fun i=>i<=a.length/\ ∀j (h:j<a.length) (l:j<b.length),j<i->a[j]=b[j]) (fun i=>a.length - i) 0 (by simp) ?_ ?_
 ·repeat' (first|exact wJ|refine And.intro ?_ ?_)
 rintro i ⟨u,o⟩;rcases Nat.lt_or_ge i a.length with h|h
 ·have l:i<b.length:=by omega
  have c:(i:Int)<((a.map I).length:Int):=by omega
  by_cases g:a[i]=b[i]
  ·repeat' ((conv=>whnf);first|refine sC c ?_|(refine nv_ (I a[i]) (by first|(simp [h];done)|fail) ?_)|(refine nv_ (I b[i]) (by first|(simp [l];done)|fail) ?_)|refine sF g ?_|refine aS ?_|refine nT_ ?_)
   refine ⟨i+1,⟨h,fun j s k c=>?_⟩,by omega,?_⟩
   ·rcases Nat.lt_or_ge j i with n|n
    ·exact o j s k n
    ·obtain rfl:j=i:=by omega
     exact g
   ·repeat' (first|exact wJ|refine And.intro ?_ ?_)
  ·have e:(a==b)=false:=beq_false_of_ne fun e=>g (by subst e;rfl)
   rw [e]
   repeat' ((conv=>whnf);first|exact trivial|refine sC c ?_|(refine nv_ (I a[i]) (by first|(simp [h];done)|fail) ?_)|(refine nv_ (I b[i]) (by first|(simp [l];done)|fail) ?_)|refine sG g ?_|refine rb0 ?_|refine aS ?_|refine nT_ ?_)
 ·have e:(a==b)=true:=by
   have:a=b:=List.ext_getElem f fun j q r=>o j q r (by omega)
   simp [this]
  rw [e];have c: ¬(i:Int)<((a.map I).length:Int):=by omega
  repeat' ((conv=>whnf);first|refine su c ?_|refine rb1 ?_|refine aS ?_|exact trivial)
def zk:List ByteArray->List ByteArray->Bool
 |[],[]=>true
 |x::xs,y::ys=>uq x y&&zk xs ys
 |_,_=>false
theorem C7: ∀{a b:List ByteArray},zk a b=true↔a=b
 |[],[]=>by simp [zk]
 |[],_::_=>by simp [zk]
 |_::_,[]=>by simp [zk]
 |x::xs,y::ys=>by
  unfold zk;rw [Bool.and_eq_true,C7 (a:=xs),uR,List.cons.injEq]
theorem BS(k:Int):DCalls Tryz.prog 49 [I k] (I (vA k)):=by
 refine dl2 mixed [.tmp 2] [.int _ _] Tryz.func49 l49 ?_;unfold vA
 by_cases k1:k=1
 ·rw [if_pos k1]
  repeat' ((conv=>whnf);first|refine sE k1 ?_|refine rix ?_|refine aS ?_|exact trivial)
 rw [if_neg k1]
 by_cases k2:k=2
 ·rw [if_pos (Or.inl k2)]
  repeat' ((conv=>whnf);first|refine sD k1 ?_|refine sE k2 ?_|refine rix ?_|refine aS ?_|exact trivial)
 by_cases a:k=3
 ·rw [if_pos (Or.inr a)]
  repeat' ((conv=>whnf);first|refine sD k1 ?_|refine sD k2 ?_|refine sE a ?_|refine rix ?_|refine aS ?_|exact trivial)
 rw [if_neg (by omega)]
 by_cases b:k=4
 ·rw [if_pos (Or.inl b)]
  repeat' ((conv=>whnf);first|refine sD k1 ?_|refine sD k2 ?_|refine sD a ?_|refine sE b ?_|refine rix ?_|refine aS ?_|exact trivial)
 by_cases c:k=5
 ·rw [if_pos (Or.inr c)]
  repeat' ((conv=>whnf);first|refine sD k1 ?_|refine sD k2 ?_|refine sD a ?_|refine sD b ?_|refine sE c ?_|refine rix ?_|refine aS ?_|exact trivial)
 rw [if_neg (by omega)]
 repeat' ((conv=>whnf);first|refine sD k1 ?_|refine sD k2 ?_|refine sD a ?_|refine sD b ?_|refine sD c ?_|refine rix ?_|refine aS ?_|exact trivial)
theorem Aw(s:RS):DCalls Tryz.prog 51 [.agg (ur s)] (.bool s.own):=by
 refine dl2 mixed [.tmp 2] [.bool _] Tryz.func51 l51 ?_;obtain ⟨k,v,ks,f,n,m⟩:=s;unfold RS.own;dsimp only
 by_cases b:k=4
 ·rw [b]
  repeat' ((conv=>whnf);first|exact trivial|refine aE1 ?_|refine rb1 ?_|refine aS ?_|refine nT_ ?_)
 by_cases a:k=6
 ·rw [a]
  repeat' ((conv=>whnf);first|exact trivial|refine aE1 ?_|refine aE0 ?_|refine rb1 ?_|refine aS ?_|refine nT_ ?_)
 have e:((k==4)||(k==6))=false:=by simp [b,a]
 rw [e]
 repeat' ((conv=>whnf);first|exact trivial|refine sD b ?_|refine sD a ?_|refine rb0 ?_|refine aS ?_|refine nT_ ?_)
theorem D6(l:List Fd)(c:LOk l)(k:ByteArray):DCalls Tryz.prog 17 [fds l,.str k] (.tup [.agg [.str (fld l k).name,I (fld l k).a,I (fld l k).w],.bool (vB l k)]):=by
 have h:=t51 l k c.len;unfold yC at h;unfold fld vB;cases b:findF l k with
 |none=>rw [b] at h;exact h
 |some F=>rw [b] at h;exact h
theorem BT(l:List Fd)(e:LOk l)(ks:List ByteArray)(g:ks.length<2^40):DCalls Tryz.prog 50 [fds l,.slice 1 (ks.map .str)] (.slice 1 ((ks.map fun k=>((fld l k).w:Int)).map I)):=by
 refine dl2 mixed [.tmp 4] [.slice 1 _] Tryz.func50 l50 ?_;have c:((ks.map T.str).length:Int)=ks.length:=by rw [List.length_map]
 skip
 refine tx 0 (α:=Nat) (β:=Unit) (fun i=>{sl:=[(0,.t (fds l)),(1,.t (.slice 1 (ks.map .str))),(5,.own 28 3 1 ((ks.take i).map fun k=>I ((fld l k).w:Int))),(6,.t (I i))],bx:=[]})
  (fun i=>i<=ks.length) (fun i=>ks.length - i) (fun _=>{sl:=[(5,.t (.slice 1 ((ks.map fun k=>((fld l k).w:Int)).map I)))],bx:=[]}) (fun _=>True) 0 (by simp) ?_ ?_ ?_
 ·repeat' (first|exact wJ|refine And.intro ?_ ?_)
 ·rintro i j;rcases Nat.lt_or_ge i ks.length with h|h
  ·have a:(i:Int)<((ks.map T.str).length:Int):=by omega
   have b:=D6 l e ks[i];have f:ks.take (i+1)=ks.take i++[ks[i]]:=by rw [List.take_succ_eq_append_getElem h]
   repeat' ((conv=>whnf);first|refine sC a ?_|(refine nv_ (.str ks[i]) (by first|(simp [h];done)|fail) ?_)|refine uc _ (b) ?_|(refine And.intro (by first|((simp only [List.length_map,List.length_take,List.length_cons,List.length_nil];omega);done)|fail) ?_)|refine aS ?_|refine nT_ ?_)
   refine ⟨i+1,h,by omega,?_⟩
   repeat' (first|(exact ug (by rw [f,List.map_append];rfl))|exact wJ|refine And.intro ?_ ?_)
  ·have:i=ks.length:=by omega
   subst this;rw [List.take_length];have a: ¬(ks.length:Int)<((ks.map T.str).length:Int):=by omega
   repeat' ((conv=>whnf);first|refine su a ?_|(exact ⟨(),trivial,by (repeat' (first|(exact AX (by rw [List.map_map];rfl))|exact wJ|refine And.intro ?_ ?_));done⟩)|refine aS ?_|fail)
 ·rintro _ _
  repeat' ((conv=>whnf);first|refine aS ?_|exact trivial)
theorem I0(l:List Fd)(p:LOk l)(s t:RS)(u:s.key.length<2^40)(y:t.key.length<2^40):DCalls Tryz.prog 134 [fds l,.agg (ur s),.agg (ur t)] (.bool (wq l s t)):=by
 have a:=Aw s;have b:=Aw t;have i:=BT l p s.key u;have e:=BT l p t.key y;have c:=FG (s.key.map fun k=>((fld l k).w:Int)) (t.key.map fun k=>((fld l k).w:Int)) (by rw [List.length_map];omega);have h:=BS s.kind;have j:=BS t.kind;unfold wq uO;generalize (s.key.map fun k=>((fld l k).w:Int))=w1 at *
 generalize (t.key.map fun k=>((fld l k).w:Int))=w2 at *
 generalize (w1==w2)=z at *
 generalize vA s.kind=f1 at *
 generalize vA t.kind=f2 at *
 generalize s.own=os at *
 generalize t.own=ot at *
 obtain ⟨k,v,ks,f,n,m⟩:=s;obtain ⟨C,B,x,D,A,r⟩:=t;dsimp only at *
 refine dl2 mixed [.tmp 6] [.bool _] Tryz.func134 MQ ?_;generalize o:(n !=A)=bn;generalize q:(m !=r)=bm;generalize g:(f1==f2)=bf;cases os with
 |false=>cases z <;> repeat' ((conv=>whnf);first|exact trivial|refine uc _ (a) ?_|refine uc _ (i) ?_|refine uc _ (e) ?_|refine uc _ (c) ?_|refine uc _ (h) ?_|refine uc _ (j) ?_|refine nb_ _ g ?_|refine rb0 ?_|refine rbx ?_|refine aS ?_|refine nT_ ?_)
 |true=>
 cases ot with
 |false=>cases z <;> repeat' ((conv=>whnf);first|exact trivial|refine uc _ (a) ?_|refine uc _ (b) ?_|refine uc _ (i) ?_|refine uc _ (e) ?_|refine uc _ (c) ?_|refine uc _ (h) ?_|refine uc _ (j) ?_|refine nb_ _ g ?_|refine rb0 ?_|refine rbx ?_|refine aS ?_|refine nT_ ?_)
 |true=>
 cases bn with
 |true=>repeat' ((conv=>whnf);first|exact trivial|refine uc _ (a) ?_|refine uc _ (b) ?_|refine nb_ _ o ?_|refine rb0 ?_|refine aS ?_|refine nT_ ?_)
 |false=>
 cases bm with
 |true=>repeat' ((conv=>whnf);first|exact trivial|refine uc _ (a) ?_|refine uc _ (b) ?_|refine nb_ _ o ?_|refine nb_ _ q ?_|refine rb0 ?_|refine aS ?_|refine nT_ ?_)
 |false=>cases z <;> repeat' ((conv=>whnf);first|exact trivial|refine uc _ (a) ?_|refine uc _ (b) ?_|refine nb_ _ o ?_|refine nb_ _ q ?_|refine uc _ (i) ?_|refine uc _ (e) ?_|refine uc _ (c) ?_|refine uc _ (h) ?_|refine uc _ (j) ?_|refine nb_ _ g ?_|refine rb0 ?_|refine rbx ?_|refine aS ?_|refine nT_ ?_)
theorem wB{b:Bool}{p:Prop}(a:b=true↔p)(h: ¬p):b=false:=by
 cases b with
 |false=>rfl
 |true=>exact (h (a.1 rfl)).elim
def Ba(a b:RS):Bool:=(a.kind==b.kind)&&uq a.var b.var&&uq a.field b.field&&(a.n==b.n)&&(a.m==b.m)&&zk a.key b.key
theorem wG{a b:RS}:Ba a b=true↔a=b:=by
 obtain ⟨e,c,f,n,m,k⟩:=a;obtain ⟨g,p,l,o,j,i⟩:=b;unfold Ba;simp only [Bool.and_eq_true,uR,beq_iff_eq,C7,RS.mk.injEq];exact ⟨fun h=>⟨h.1.1.1.1.1,h.1.1.1.1.2,h.2,h.1.1.1.2,h.1.1.2,h.1.2⟩,fun h=>⟨⟨⟨⟨⟨h.1,h.2.1⟩,h.2.2.2.1⟩,h.2.2.2.2.1⟩,h.2.2.2.2.2⟩,h.2.2.1⟩⟩
theorem FH(a b:RS)(L:a.key.length<2^60):DCalls Tryz.prog 203 [.agg (ur a),.agg (ur b)] (.bool (Ba a b)):=by
 obtain ⟨k,v,l,f,n,m⟩:=a;obtain ⟨J,A,c,B,K,F⟩:=b;dsimp only at L;refine dl2 mixed [.tmp 4] [.bool _] Tryz.func203 Nk ?_;have p:(!(v.toList==A.toList))= !uq v A:=by rw [uL]
 have q:(!(f.toList==B.toList))= !uq f B:=by rw [uL]
 by_cases o:k=J
 case neg=>rw [wB wG fun e=>o (by cases e;rfl)];repeat' ((conv=>whnf);first|exact trivial|refine sG o ?_|refine rb0 ?_|refine aS ?_|refine nT_ ?_)
 by_cases w:v=A
 case neg=>
  rw [wB wG fun e=>w (by cases e;rfl)];rw [wB uR w] at p
  repeat' ((conv=>whnf);first|exact trivial|refine sF o ?_|refine nb_ _ p ?_|refine rb0 ?_|refine aS ?_|refine nT_ ?_)
 rw [uR.2 w] at p
 by_cases z:f=B
 case neg=>
  rw [wB wG fun e=>z (by cases e;rfl)];rw [wB uR z] at q
  repeat' ((conv=>whnf);first|exact trivial|refine sF o ?_|refine nb_ _ p ?_|refine nb_ _ q ?_|refine rb0 ?_|refine aS ?_|refine nT_ ?_)
 rw [uR.2 z] at q
 by_cases r:n=K
 case neg=>rw [wB wG fun e=>r (by cases e;rfl)];repeat' ((conv=>whnf);first|exact trivial|refine sF o ?_|refine nb_ _ p ?_|refine nb_ _ q ?_|refine sG r ?_|refine rb0 ?_|refine aS ?_|refine nT_ ?_)
 by_cases s:m=F
 case neg=>rw [wB wG fun e=>s (by cases e;rfl)];repeat' ((conv=>whnf);first|exact trivial|refine sF o ?_|refine nb_ _ p ?_|refine nb_ _ q ?_|refine sF r ?_|refine sG s ?_|refine rb0 ?_|refine aS ?_|refine nT_ ?_)
 have R:((l.map T.str).length:Int)=l.length:=by rw [List.length_map]
 have Q:((c.map T.str).length:Int)=c.length:=by rw [List.length_map]
 by_cases u:l.length=c.length
 case neg=>
  rw [wB wG fun e=>u (by cases e;rfl)];have E:((l.map T.str).length:Int)≠((c.map T.str).length:Int):=by omega
  repeat' ((conv=>whnf);first|exact trivial|refine sF o ?_|refine nb_ _ p ?_|refine nb_ _ q ?_|refine sF r ?_|refine sF s ?_|refine sG E ?_|refine rb0 ?_|refine aS ?_|refine nT_ ?_)
 have E:((l.map T.str).length:Int)=((c.map T.str).length:Int):=by omega
 repeat' ((conv=>whnf);first|refine sF o ?_|refine nb_ _ p ?_|refine nb_ _ q ?_|refine sF r ?_|refine sF s ?_|refine sF E ?_|refine aS ?_|refine nT_ ?_)
 refine tT (α:=Nat) (fun i=>{sl:=[(2,.ptr 2 0),(3,.ptr 3 0),(5,.t (I i))],bx:=[(2,.d 6 (ur ⟨k,v,l,f,n,m⟩)),(3,.d 6 (ur ⟨J,A,c,B,K,F⟩))]})
  (fun i=>i<=l.length/\ ∀j (h:j<l.length) (D:j<c.length),j<i->l[j]=c[j]) (fun i=>l.length - i) 0 (by simp) ?_ ?_
 ·repeat' (first|exact wJ|refine And.intro ?_ ?_)
 rintro i ⟨P,H⟩;rcases Nat.lt_or_ge i l.length with h|h
 ·have D:i<c.length:=by omega
  have g:(i:Int)<((l.map T.str).length:Int):=by omega
  have x:(!(l[i].toList==c[i].toList))= !uq l[i] c[i]:=by rw [uL]
  by_cases y:l[i]=c[i]
  ·rw [uR.2 y] at x
   repeat' ((conv=>whnf);first|refine sC g ?_|(refine nv_ (.str l[i]) (by first|(simp [h];done)|fail) ?_)|(refine nv_ (.str c[i]) (by first|(simp [D];done)|fail) ?_)|refine nb_ _ x ?_|refine aS ?_|refine nT_ ?_)
   refine ⟨i+1,⟨h,fun j O C g=>?_⟩,by omega,?_⟩
   ·rcases Nat.lt_or_ge j i with G|G
    ·exact H j O C G
    ·obtain rfl:j=i:=by omega
     exact y
   ·repeat' (first|exact wJ|refine And.intro ?_ ?_)
  ·rw [wB uR y] at x;rw [wB wG fun e=>y (by cases e;rfl)]
   repeat' ((conv=>whnf);first|exact trivial|refine sC g ?_|(refine nv_ (.str l[i]) (by first|(simp [h];done)|fail) ?_)|(refine nv_ (.str c[i]) (by first|(simp [D];done)|fail) ?_)|refine nb_ _ x ?_|refine rb0 ?_|refine aS ?_|refine nT_ ?_)
 ·have e:l=c:=List.ext_getElem u fun j M N=>H j M N (by omega)
  rw [wG.2 (by rw [o,z,r,s,w,e])];have g: ¬(i:Int)<((l.map T.str).length:Int):=by omega
  repeat' ((conv=>whnf);first|exact trivial|refine su g ?_|refine rb1 ?_|refine aS ?_|refine nT_ ?_)
end Go.TY
end
section
end
section
namespace Go.TY
open Go Go.DL Go.MM Go.Proofs
theorem F6(g:RG):((uw g).drop 0).take 9=uy g.pol:=by
 have:=GH g
 rwa [tq (n:=15) rfl] at this
theorem xC(g:RG):((uw g).drop 9).take 6=ur g.st:=by
 have:=Hy g
 rwa [tq (n:=15) rfl] at this
def Fe(r:RO):Bool:=decide (r.size<=400)&&decide (r.deep<=60)&&decide (r.pred.nodes<=400)
theorem Cu{a b:Nat}:decide ((a:Int)<=(b:Int))=decide (a<=b):=by
 by_cases h:a<=b
 ·rw [decide_eq_true h,decide_eq_true (by omega)]
 ·rw [decide_eq_false h,decide_eq_false (by omega)]
theorem En(r:RO)(o:r.wt<2^60):DCalls Tryz.prog 90 [.agg (uy r)] (.bool (Fe r)):=by
 refine dl2 mixed [.tmp 2] [.bool _] Tryz.func90 l90 ?_;have t:=t89 _ r (Nat.le_refl _) o;have m:r.pred.nodes<2^60:=by
  obtain ⟨k,p,f,n,l⟩:=r;simp only [RO.wt] at o;show p.nodes<_;omega
 have s:=t103 _ r.pred (Nat.le_refl _) m;have v:decide ((r.size:Int)<=400)=decide (r.size<=400):=Cu;have u:decide ((r.deep:Int)<=60)=decide (r.deep<=60):=Cu;have q:decide ((r.pred.nodes:Int)<=400)=decide (r.pred.nodes<=400):=Cu;unfold Fe;obtain ⟨k,⟨j,g,h,b,i⟩,f,n,l⟩:=r;have e:(RO.mk k (.mk j g h b i) f n l).pred= .mk j g h b i:=rfl;rw [e] at s q ⊢;clear o m e;generalize (RO.mk k (.mk j g h b i) f n l).size=a at *
 generalize (RO.mk k (.mk j g h b i) f n l).deep=d at *
 generalize (RP.mk j g h b i).nodes=c at *
 generalize (RP.mk j g h b i).depth=c' at *
 generalize decide (a<=400)=b1 at *
 generalize decide (d<=60)=b2 at *
 generalize decide (c<=400)=b3 at *
 cases b1 <;> cases b2 <;> repeat' ((conv=>whnf);first|exact trivial|refine uc _ (t) ?_|refine uc _ (s) ?_|refine nb_ _ v ?_|refine nb_ _ u ?_|refine nb_ _ q ?_|refine rb0 ?_|refine rbx ?_|refine aS ?_|refine nT_ ?_)
end Go.TY
end
section
end
section
namespace Go.TY
open Go Go.DL Go.MM Go.Proofs
theorem zQ(g:RG):(uw g).take 9=uy g.pol:=by
 have:=F6 g
 rwa [List.drop_zero] at this
theorem xW(g:RG):9<=(uw g).length:=by rw [xm];exact nlZ rfl
theorem wc(g:RG):15<=(uw g).length:=by rw [xm];exact Nat.le_refl _
theorem HW(g:RG):11<(uw g).length:=by rw [xm];exact nlZ rfl
theorem xu(g:RG):((uw g).take 9).length=9:=by rw [zQ,uG]
theorem GF(s:RS):Ba s ⟨0,e0,[],e0,0,0⟩=yJ s:=by
 obtain ⟨k,v,l,f,n,m⟩:=s;unfold Ba yJ
 have:zk l []=(l.length==0):=by cases l <;> rfl
 rw [this]
theorem Hr(s:RS)(a:s.key.length<2^60):DCalls Tryz.prog 203 [.agg (ur s),.agg [I 0,.str e0,.nil,.str e0,I 0,I 0]] (.bool (yJ s)):=by
 rw [<- GF];exact (FH s ⟨0,e0,[],e0,0,0⟩ a).lesAll ⟨Les.refl _,Les.agg (.cons (Les.refl _) rfl (.cons (Les.refl _) rfl (.cons (Les.nil 1) rfl (.cons (Les.refl _) rfl (.cons (Les.refl _) rfl (.cons (Les.refl _) rfl .nil)))))),trivial⟩
theorem IG(a e b:Bool)(n m:Int):xt 3 a e b n m=(e&&(decide (n>=0)&&(decide (n<=1073741824)&&(m==0)))):=by
 unfold xt Br;rw [if_neg (by omega),if_neg (by omega),if_pos rfl];cases e <;> cases c:decide (0<=n) <;> cases f:decide (n<=1073741824) <;> cases g:(m==0) <;> simp_all
theorem II(b e a:Bool)(n m:Int):xt 4 b e a n m=(a&&(decide (n>=0)&&(decide (n<=m)&&decide (m<=65535)))):=by
 unfold xt xX;rw [if_neg (by omega),if_neg (by omega),if_neg (by omega),if_pos rfl];cases a
 ·rfl
 ·rw [Bool.eq_iff_iff];simp only [Bool.true_and,Bool.and_eq_true,decide_eq_true_eq];omega
theorem IJ(a e b:Bool)(n m:Int):xt 6 a e b n m=(e&&(decide (n>=1)&&(decide (n<=65535)&&(decide (m>=1)&&decide (m<=1073741824))))):=by
 unfold xt xX Br;rw [if_neg (by omega),if_neg (by omega),if_neg (by omega),if_neg (by omega),if_neg (by omega),if_pos rfl];cases e
 ·rfl
 ·rw [Bool.eq_iff_iff];simp only [Bool.true_and,Bool.and_eq_true,decide_eq_true_eq];omega
theorem D4(s:RS)(M:s.var.size<2^62)(K:s.field.size<2^62)(U: ∀k∈s.key,k.size<2^62)(G:s.key.length<2^60):DCalls Tryz.prog 189 [.agg (ur s)] (.bool (okS s)):=by
 refine dl2 mixed [.tmp 2] [.bool _] Tryz.func189 Nc ?_;have B:=Hr s G;unfold okS;generalize yJ s=z0 at *
 obtain ⟨k,v,l,f,n,m⟩:=s;dsimp only at M K U G ⊢;cases z0 with
 |true=>repeat' ((conv=>whnf);first|refine uc _ (B) ?_|refine rb1 ?_|refine aS ?_|exact trivial)
 |false=>
 rw [Bool.false_or];have H:=t108 v M;have Q:=t104 f K;have p:=uL f e0;have J:((l.map T.str).length:Int)=(l.length:Int):=by rw [List.length_map]
 generalize zc v=pv at *
 generalize vh f=nd at *
 generalize uq f e0=e at *
 repeat' ((conv=>whnf);first|refine uc _ (B) ?_|refine uc _ (H) ?_|refine aS ?_|refine nT_ ?_)
 refine tV (β:=Unit) (fun _=>{sl:=[(1,.ptr 1 0),(29,.t (.bool (!(pv&&decide (1<=l.length)&&decide (l.length<=4)))))],bx:=[(1,.d 6 (ur ⟨k,v,l,f,n,m⟩))]}) (fun _=>True) ?_ ?_
 ·by_cases L:1<=l.length
  ·have r: ¬((l.map T.str).length:Int)<1:=by omega
   rw [decide_eq_true L,Bool.and_true]
   by_cases R:l.length<=4
   ·have D: ¬((l.map T.str).length:Int)>4:=by omega
    rw [decide_eq_true R,Bool.and_true];cases pv <;> repeat' ((conv=>whnf);first|refine su r ?_|refine su D ?_|(exact ⟨(),trivial,by (repeat' (first|exact wJ|refine And.intro ?_ ?_));done⟩)|refine aS ?_|refine nT_ ?_)
   ·have D:((l.map T.str).length:Int)>4:=by omega
    rw [decide_eq_false R,Bool.and_false];cases pv <;> repeat' ((conv=>whnf);first|refine su r ?_|refine sC D ?_|(exact ⟨(),trivial,by (repeat' (first|exact wJ|refine And.intro ?_ ?_));done⟩)|refine aS ?_|refine nT_ ?_)
  ·have r:((l.map T.str).length:Int)<1:=by omega
   rw [decide_eq_false L,Bool.and_false,Bool.false_and];cases pv <;> repeat' ((conv=>whnf);first|refine sC r ?_|(exact ⟨(),trivial,by (repeat' (first|exact wJ|refine And.intro ?_ ?_));done⟩)|refine aS ?_|refine nT_ ?_)
 rintro _ _;generalize (pv&&decide (1<=l.length)&&decide (l.length<=4))=g at *
 cases g with
 |false=>repeat' ((conv=>whnf);first|refine rb0 ?_|exact trivial)
 |true=>
 rw [Bool.true_and]
 skip
 refine tx 0 (α:=Nat) (β:=Unit) (fun i=>{sl:=[(1,.ptr 1 0),(5,.t (I i))],bx:=[(1,.d 6 (ur ⟨k,v,l,f,n,m⟩))]})
  (fun i=>i<=l.length/\ ∀j (h:j<l.length),j<i->vh l[j]=true) (fun i=>l.length - i)
  (fun _=>{sl:=[(1,.ptr 1 0)],bx:=[(1,.d 6 (ur ⟨k,v,l,f,n,m⟩))]}) (fun _=>l.all vh=true) 0 (by simp) ?_ ?_ ?_
 ·repeat' (first|exact wJ|refine And.intro ?_ ?_)
 ·rintro i ⟨V,N⟩;rcases Nat.lt_or_ge i l.length with h|h
  ·have o:(i:Int)<((l.map T.str).length:Int):=by omega
   have q:=t104 l[i] (U _ (List.getElem_mem h));have y:(l.map T.str)[i]?.getD .nil= .str l[i]:=by simp [h]
   cases z:vh l[i] with
   |true=>
    rw [z] at q
    repeat' ((conv=>whnf);first|refine sC o ?_|(refine nv_ (.str l[i]) (by first|exact y) ?_)|refine uc _ (q) ?_|refine aS ?_|refine nT_ ?_)
    refine ⟨i+1,⟨h,fun j C o=>?_⟩,by omega,?_⟩
    ·rcases Nat.lt_or_ge j i with F|F
     ·exact N j C F
     ·obtain rfl:j=i:=by omega
      exact z
    ·repeat' (first|exact wJ|refine And.intro ?_ ?_)
   |false=>
    rw [z] at q;have e:l.all vh=false:=by
     rw [List.all_eq_false];exact ⟨l[i],List.getElem_mem h,by rw [z];simp⟩
    rw [e];clear e
    repeat' ((conv=>whnf);first|exact trivial|refine sC o ?_|(refine nv_ (.str l[i]) (by first|exact y) ?_)|refine uc _ (q) ?_|refine rb0 ?_|refine aS ?_|refine nT_ ?_)
  ·have o: ¬(i:Int)<((l.map T.str).length:Int):=by omega
   have A:l.all vh=true:=by
    rw [List.all_eq_true];intro x y;obtain ⟨j,C,rfl⟩:=List.getElem_of_mem y;exact N j C (by omega)
   repeat' ((conv=>whnf);first|refine su o ?_|(exact ⟨(),A,by (repeat' (first|exact wJ|refine And.intro ?_ ?_));done⟩)|refine aS ?_|refine nT_ ?_)
 rintro _ A;rw [A,Bool.true_and];clear A
 repeat' ((conv=>whnf);first|refine uc _ (Q) ?_|refine aS ?_|refine nT_ ?_)
 refine tV (β:=Unit) (fun _=>{sl:=[(1,.ptr 1 0),(7,.t (.bool nd)),(8,.t (.bool ((n==0)&&(m==0))))],bx:=[(1,.d 6 (ur ⟨k,v,l,f,n,m⟩))]}) (fun _=>True) ?_ ?_
 ·by_cases q:n=0
  ·by_cases w:m=0
   ·rw [show ((n==0)&&(m==0))=true by simp [q,w]]
    repeat' ((conv=>whnf);first|refine sE q ?_|refine sE w ?_|(exact ⟨(),trivial,by (repeat' (first|exact wJ|refine And.intro ?_ ?_));done⟩)|refine aS ?_|refine nT_ ?_)
   ·rw [show ((n==0)&&(m==0))=false by simp [w]]
    repeat' ((conv=>whnf);first|refine sE q ?_|refine sD w ?_|(exact ⟨(),trivial,by (repeat' (first|exact wJ|refine And.intro ?_ ?_));done⟩)|refine aS ?_|refine nT_ ?_)
  ·rw [show ((n==0)&&(m==0))=false by simp [q]]
   repeat' ((conv=>whnf);first|refine sD q ?_|(exact ⟨(),trivial,by (repeat' (first|exact wJ|refine And.intro ?_ ?_));done⟩)|refine aS ?_|refine nT_ ?_)
 rintro _ _;clear B H Q;generalize ((n==0)&&(m==0))=br at *
 by_cases k1:k=1
 ·subst k1;unfold xt;rw [if_pos rfl];cases br <;> cases e <;> cases nd <;> repeat' ((conv=>whnf);first|exact trivial|refine nb_ _ p ?_|refine aE1 ?_|refine rb1 ?_|refine rb0 ?_|refine aS ?_|refine nT_ ?_)
 by_cases k2:k=2
 ·subst k2;unfold xt;rw [if_neg (by omega),if_pos rfl];cases br <;> cases e <;> repeat' ((conv=>whnf);first|exact trivial|refine nb_ _ p ?_|refine aE1 ?_|refine aE0 ?_|refine rb1 ?_|refine rb0 ?_|refine aS ?_|refine nT_ ?_)
 by_cases S:k=3
 ·subst S;rw [IG]
  by_cases a:n>=0
  ·by_cases b:n<=1073741824
   ·rw [decide_eq_true a,decide_eq_true b,Bool.true_and,Bool.true_and]
    by_cases c:m=0
    ·rw [show (m==0)=true by simp [c]];cases e <;> repeat' ((conv=>whnf);first|exact trivial|refine nb_ _ p ?_|refine sC a ?_|refine sC b ?_|refine sE c ?_|refine aE1 ?_|refine aE0 ?_|refine rb1 ?_|refine rb0 ?_|refine aS ?_|refine nT_ ?_)
    ·rw [show (m==0)=false by simp [c]];cases e <;> repeat' ((conv=>whnf);first|exact trivial|refine nb_ _ p ?_|refine sC a ?_|refine sC b ?_|refine sD c ?_|refine aE1 ?_|refine aE0 ?_|refine rb0 ?_|refine aS ?_|refine nT_ ?_)
   ·rw [decide_eq_true a,decide_eq_false b,Bool.true_and,Bool.false_and];cases e <;> repeat' ((conv=>whnf);first|exact trivial|refine nb_ _ p ?_|refine sC a ?_|refine su b ?_|refine aE1 ?_|refine aE0 ?_|refine rb0 ?_|refine aS ?_|refine nT_ ?_)
  ·rw [decide_eq_false a,Bool.false_and];cases e <;> repeat' ((conv=>whnf);first|exact trivial|refine nb_ _ p ?_|refine su a ?_|refine aE1 ?_|refine aE0 ?_|refine rb0 ?_|refine aS ?_|refine nT_ ?_)
 by_cases E:k=4
 ·subst E;rw [II]
  by_cases a:n>=0
  ·by_cases b:n<=m
   ·rw [decide_eq_true a,decide_eq_true b,Bool.true_and,Bool.true_and]
    by_cases c:m<=65535
    ·rw [decide_eq_true c];cases nd <;> repeat' ((conv=>whnf);first|exact trivial|refine sC a ?_|refine sC b ?_|refine sC c ?_|refine aE1 ?_|refine aE0 ?_|refine rb1 ?_|refine rb0 ?_|refine aS ?_|refine nT_ ?_)
    ·rw [decide_eq_false c];cases nd <;> repeat' ((conv=>whnf);first|exact trivial|refine sC a ?_|refine sC b ?_|refine su c ?_|refine aE1 ?_|refine aE0 ?_|refine rb0 ?_|refine aS ?_|refine nT_ ?_)
   ·rw [decide_eq_true a,decide_eq_false b,Bool.true_and,Bool.false_and];cases nd <;> repeat' ((conv=>whnf);first|exact trivial|refine sC a ?_|refine su b ?_|refine aE1 ?_|refine aE0 ?_|refine rb0 ?_|refine aS ?_|refine nT_ ?_)
  ·rw [decide_eq_false a,Bool.false_and];cases nd <;> repeat' ((conv=>whnf);first|exact trivial|refine su a ?_|refine aE1 ?_|refine aE0 ?_|refine rb0 ?_|refine aS ?_|refine nT_ ?_)
 by_cases P:k=5
 ·subst P;unfold xt;rw [if_neg (by omega),if_neg (by omega),if_neg (by omega),if_neg (by omega),if_pos rfl];cases br <;> cases nd <;> repeat' ((conv=>whnf);first|exact trivial|refine aE1 ?_|refine aE0 ?_|refine rb1 ?_|refine rb0 ?_|refine aS ?_|refine nT_ ?_)
 by_cases O:k=6
 ·subst O;rw [IJ]
  by_cases a:n>=1
  ·by_cases b:n<=65535
   ·rw [decide_eq_true a,decide_eq_true b,Bool.true_and,Bool.true_and]
    by_cases c:m>=1
    ·rw [decide_eq_true c,Bool.true_and]
     by_cases u:m<=1073741824
     ·rw [decide_eq_true u];cases e <;> repeat' ((conv=>whnf);first|exact trivial|refine nb_ _ p ?_|refine sC a ?_|refine sC b ?_|refine sC c ?_|refine sC u ?_|refine aE1 ?_|refine aE0 ?_|refine rb1 ?_|refine rb0 ?_|refine aS ?_|refine nT_ ?_)
     ·rw [decide_eq_false u];cases e <;> repeat' ((conv=>whnf);first|exact trivial|refine nb_ _ p ?_|refine sC a ?_|refine sC b ?_|refine sC c ?_|refine su u ?_|refine aE1 ?_|refine aE0 ?_|refine rb0 ?_|refine aS ?_|refine nT_ ?_)
    ·rw [decide_eq_false c,Bool.false_and];cases e <;> repeat' ((conv=>whnf);first|exact trivial|refine nb_ _ p ?_|refine sC a ?_|refine sC b ?_|refine su c ?_|refine aE1 ?_|refine aE0 ?_|refine rb0 ?_|refine aS ?_|refine nT_ ?_)
   ·rw [decide_eq_true a,decide_eq_false b,Bool.true_and,Bool.false_and];cases e <;> repeat' ((conv=>whnf);first|exact trivial|refine nb_ _ p ?_|refine sC a ?_|refine su b ?_|refine aE1 ?_|refine aE0 ?_|refine rb0 ?_|refine aS ?_|refine nT_ ?_)
  ·rw [decide_eq_false a,Bool.false_and];cases e <;> repeat' ((conv=>whnf);first|exact trivial|refine nb_ _ p ?_|refine su a ?_|refine aE1 ?_|refine aE0 ?_|refine rb0 ?_|refine aS ?_|refine nT_ ?_)
 unfold xt;rw [if_neg k1,if_neg k2,if_neg S,if_neg E,if_neg P,if_neg O]
 repeat' ((conv=>whnf);first|exact trivial|refine aE0 ?_|refine rb0 ?_|refine aS ?_|refine nT_ ?_)
theorem BH(s:RS)(h:SmS (2^60) s):DCalls Tryz.prog 172 [.agg (ur s)] (I (vR s)):=by
 refine dl2 mixed [.tmp 2] [.int _ _] Tryz.func172 M6 ?_;have a:=D4 s (by have:=h.var;omega) (by have:=h.field;omega) (fun k c=>by have:=h.keys k c;omega) h.len;unfold vR;generalize okS s=b at *
 cases b <;> repeat' ((conv=>whnf);first|refine uc _ (a) ?_|refine rix ?_|(refine And.intro (by first|(rfl;done)|fail) ?_)|exact trivial)
theorem CE(gs:List RG)(z:gs.length<2^60)(y: ∀g∈gs,SmG (2^59) g):DCalls Tryz.prog 131 [.slice 15 (gs.map uE)] (I (yO gs)):=by
 refine dl2 mixed [.tmp 2] [.int _ _] Tryz.func131 MN ?_;have v:((gs.map uE).length:Int)=(gs.length:Int):=by rw [List.length_map]
 unfold yO
 by_cases w:gs.length>8
 ·rw [if_pos w];have o:((gs.map uE).length:Int)>8:=by omega
  repeat' ((conv=>whnf);first|refine sC o ?_|refine rix ?_|refine aS ?_|exact trivial)
 rw [if_neg w];have o: ¬((gs.map uE).length:Int)>8:=by omega
 repeat' ((conv=>whnf);first|refine su o ?_|refine aS ?_|fail)
 refine tT (α:=Nat) (fun i=>{sl:=[(0,.t (.slice 15 (gs.map uE))),(3,.t (I i))],bx:=[]})
  (fun i=>i<=gs.length/\ ∀j (h:j<gs.length),j<i->vQ gs[j].pol=0/\vR gs[j].st=0) (fun i=>gs.length - i) 0 (by simp) ?_ ?_
 ·repeat' (first|exact wJ|refine And.intro ?_ ?_)
 rintro i ⟨A,m⟩;rcases Nat.lt_or_ge i gs.length with h|h
 ·have a:(i:Int)<((gs.map uE).length:Int):=by omega
  have q:=y gs[i] (List.getElem_mem h);have l:=t63 gs[i].pol (by have:=q.wt;omega) (q.names (by omega));have p:=BH gs[i].st (q.st.mono (by omega));have r:(gs.map uE)[i]?.getD .nil= .agg (uw gs[i]):=by simp [h];rfl
  have b:=zQ gs[i];have k:=xC gs[i]
  by_cases c:vQ gs[i].pol=0
  ·rw [c] at l
   by_cases n:vR gs[i].st=0
   ·rw [n] at p
    repeat' ((conv=>whnf);first|refine sC a ?_|(refine nv_ (.agg (uw gs[i])) (by first|exact r) ?_)|(refine nv_ (.agg (uy gs[i].pol)) (by first|exact congrArg T.agg b) ?_)|(refine nv_ (.agg (ur gs[i].st)) (by first|exact congrArg T.agg k) ?_)|refine uc _ (l) ?_|refine uc _ (p) ?_|refine aN0 ?_|(refine And.intro (by first|exact xu _|exact xW _|exact wc _) ?_)|refine aS ?_|fail)
    refine ⟨i+1,⟨h,fun j s a=>?_⟩,by omega,?_⟩
    ·rcases Nat.lt_or_ge j i with u|u
     ·exact m j s u
     ·obtain rfl:j=i:=by omega
      exact ⟨c,n⟩
    ·repeat' (first|exact wJ|refine And.intro ?_ ?_)
   ·have e:=Fk (f:=fun g:RG=>vQ g.pol) (g:=fun g=>vR g.st) h m c n;rw [e];clear e;dsimp only;generalize vR gs[i].st=x at *
    repeat' ((conv=>whnf);first|refine sC a ?_|(refine nv_ (.agg (uw gs[i])) (by first|exact r) ?_)|(refine nv_ (.agg (uy gs[i].pol)) (by first|exact congrArg T.agg b) ?_)|(refine nv_ (.agg (ur gs[i].st)) (by first|exact congrArg T.agg k) ?_)|refine uc _ (l) ?_|refine uc _ (p) ?_|refine sG n ?_|refine aN0 ?_|refine rix ?_|(refine And.intro (by first|exact xu _|exact xW _|exact wc _) ?_)|refine aS ?_|exact trivial)
  ·have e:=Fj (f:=fun g:RG=>vQ g.pol) (g:=fun g=>vR g.st) h m c;rw [e];clear e;dsimp only;generalize vQ gs[i].pol=x at *
   repeat' ((conv=>whnf);first|refine sC a ?_|(refine nv_ (.agg (uw gs[i])) (by first|exact r) ?_)|(refine nv_ (.agg (uy gs[i].pol)) (by first|exact congrArg T.agg b) ?_)|refine uc _ (l) ?_|refine sG c ?_|refine rix ?_|(refine And.intro (by first|exact xu _|exact xW _|exact wc _) ?_)|refine aS ?_|exact trivial)
 ·have a: ¬(i:Int)<((gs.map uE).length:Int):=by omega
  have e:=Fi (f:=fun g:RG=>vQ g.pol) (g:=fun g=>vR g.st) (xs:=gs) fun j s=>m j s (by omega)
  rw [e]
  repeat' ((conv=>whnf);first|refine su a ?_|refine rix ?_|refine aS ?_|exact trivial)
def ye(g:RG):Bool:=Fe g.pol&&decide (g.st.key.length<=20)
def Aa(gs:List RG):Bool:=gs.all ye&&decide (gs.length<=12)
theorem JM(g:RG):(uw g)[11]?.getD .nil= .slice 1 (g.st.key.map .str):=by
 unfold uw;rw [List.getElem?_append_right (by rw [uG];omega),uG];rfl
theorem D3(gs:List RG)(D:gs.length<2^60)(C: ∀g∈gs,g.pol.wt<2^60):DCalls Tryz.prog 37 [.slice 15 (gs.map uE)] (.bool (Aa gs)):=by
 refine dl2 mixed [.tmp 2] [.bool _] Tryz.func37 l37 ?_;have w:((gs.map uE).length:Int)=(gs.length:Int):=by rw [List.length_map]
 skip
 refine tx 0 (α:=Nat) (β:=Unit) (fun i=>{sl:=[(0,.t (.slice 15 (gs.map uE))),(3,.t (I i))],bx:=[]})
  (fun i=>i<=gs.length/\i<=12/\ ∀j (h:j<gs.length),j<i->ye gs[j]=true) (fun i=>gs.length - i)
  (fun _=>{sl:=[(0,.t (.slice 15 (gs.map uE)))],bx:=[]}) (fun _=>gs.length<=12->gs.all ye=true) 0 (by simp) ?_ ?_ ?_
 ·repeat' (first|exact wJ|refine And.intro ?_ ?_)
 ·rintro i ⟨E,A,y⟩;have f:(¬ i<gs.length\/ ¬i<12)->gs.length<=12->gs.all ye=true:=fun F s=>by
   rw [List.all_eq_true];intro x p;obtain ⟨j,u,rfl⟩:=List.getElem_of_mem p;exact y j u (by omega)
  rcases Nat.lt_or_ge i gs.length with h|h
  ·have a:(i:Int)<((gs.map uE).length:Int):=by omega
   rcases Nat.lt_or_ge i 12 with s|s
   ·have l:(i:Int)<12:=by omega
    have n:=En gs[i].pol (C gs[i] (List.getElem_mem h));have p:(gs.map uE)[i]?.getD .nil= .agg (uw gs[i]):=by simp [h];rfl
    have e:=zQ gs[i];have m:=JM gs[i];have B:((gs[i].st.key.map T.str).length:Int)=gs[i].st.key.length:=by rw [List.length_map]
    have b:ye gs[i]=false->Aa gs=false:=fun k=>by
     unfold Aa;rw [show gs.all ye=false from List.all_eq_false.2 ⟨gs[i],List.getElem_mem h,by rw [k];simp⟩,Bool.false_and]
    clear f;cases k:Fe gs[i].pol with
    |false=>
     rw [k] at n;rw [b (by unfold ye;rw [k];rfl)];clear b
     repeat' ((conv=>whnf);first|refine sC a ?_|refine sC l ?_|(refine nv_ (.agg (uw gs[i])) (by first|exact p) ?_)|(refine nv_ (.agg (uy gs[i].pol)) (by first|exact congrArg T.agg e) ?_)|refine uc _ (n) ?_|refine rb0 ?_|(refine And.intro (by first|exact xu _|exact xW _|exact wc _) ?_)|refine aS ?_|exact trivial)
    |true=>
     rw [k] at n
     by_cases z:gs[i].st.key.length<=20
     ·have q: ¬((gs[i].st.key.map T.str).length:Int)>20:=by omega
      have r:ye gs[i]=true:=by unfold ye;rw [k,decide_eq_true z];rfl
      clear b
      repeat' ((conv=>whnf);first|refine sC a ?_|refine sC l ?_|refine su q ?_|(refine nv_ (.agg (uw gs[i])) (by first|exact p) ?_)|(refine nv_ (.agg (uy gs[i].pol)) (by first|exact congrArg T.agg e) ?_)|(refine nv_ (.slice 1 (gs[i].st.key.map .str)) (by first|exact m) ?_)|refine uc _ (n) ?_|(refine And.intro (by first|exact xu _|exact xW _|exact HW _) ?_)|refine aS ?_|fail)
      refine ⟨i+1,⟨h,by omega,fun j u a=>?_⟩,by omega,?_⟩
      ·rcases Nat.lt_or_ge j i with v|v
       ·exact y j u v
       ·obtain rfl:j=i:=by omega
        exact r
      ·repeat' (first|exact wJ|refine And.intro ?_ ?_)
     ·have q:((gs[i].st.key.map T.str).length:Int)>20:=by omega
      rw [b (by unfold ye;rw [decide_eq_false z,Bool.and_false])];clear b
      repeat' ((conv=>whnf);first|refine sC a ?_|refine sC l ?_|refine sC q ?_|(refine nv_ (.agg (uw gs[i])) (by first|exact p) ?_)|(refine nv_ (.agg (uy gs[i].pol)) (by first|exact congrArg T.agg e) ?_)|(refine nv_ (.slice 1 (gs[i].st.key.map .str)) (by first|exact m) ?_)|refine uc _ (n) ?_|refine rb0 ?_|(refine And.intro (by first|exact xu _|exact xW _|exact HW _) ?_)|refine aS ?_|exact trivial)
   ·have l: ¬(i:Int)<12:=by omega
    have o:=f (Or.inr (by omega))
    repeat' ((conv=>whnf);first|refine sC a ?_|refine su l ?_|(exact ⟨(),o,by (repeat' (first|exact wJ|refine And.intro ?_ ?_));done⟩)|refine aS ?_|fail)
  ·have a: ¬(i:Int)<((gs.map uE).length:Int):=by omega
   have o:=f (Or.inl (by omega))
   repeat' ((conv=>whnf);first|refine su a ?_|(exact ⟨(),o,by (repeat' (first|exact wJ|refine And.intro ?_ ?_));done⟩)|refine aS ?_|fail)
 ·rintro _ o;unfold Aa
  by_cases c:gs.length<=12
  ·have q:((gs.map uE).length:Int)<=12:=by omega
   rw [o c,decide_eq_true c]
   repeat' ((conv=>whnf);first|refine sC q ?_|refine rb1 ?_|refine aS ?_|exact trivial)
  ·have q: ¬((gs.map uE).length:Int)<=12:=by omega
   rw [decide_eq_false c,Bool.and_false]
   repeat' ((conv=>whnf);first|refine su q ?_|refine rb0 ?_|refine aS ?_|exact trivial)
section
variable {α:Type}[DecidableEq α]{lt:α->α->Bool}
def vH(lt:α->α->Bool)(s:α):Bool->List α->List α
 |false,r=>put lt r s
 |true,r=>r.filter fun y=> !decide (y=s)
theorem Hv{s x:α}{r:List α}(h:lt x s=true):vH lt s false (x::r)=x::vH lt s false r:=by
 show put lt (x::r) s=_
 unfold put;rw [if_pos h];cases r <;> rfl
theorem D9{s x:α}{r:List α}(h:lt x s=false):vH lt s false (x::r)=s::vH lt s true (x::r):=by
 show put lt (x::r) s=_
 rw [put,if_neg (by rw [h];simp)];rfl
theorem D8{s x:α}{r:List α}(h:x=s):vH lt s true (x::r)=vH lt s true r:=by
 simp only [vH];rw [List.filter_cons,if_neg (by simp [h])]
theorem Ea{s x:α}{r:List α}(h:x≠s):vH lt s true (x::r)=x::vH lt s true r:=by
 simp only [vH];rw [List.filter_cons,if_pos (by simp [h])]
end
theorem Gy(l:List ByteArray)(s:ByteArray)(G:l.length<2^40):DCalls Tryz.prog 48 [.slice 1 (l.map T.str),T.str s] (.slice 1 ((put ltS l s).map T.str)):=by
 refine dl2 mixed [.tmp 4] [.slice 1 _] Tryz.func48 l48 ?_;have F:((l.map T.str).length:Int)=l.length:=by rw [List.length_map]
 have B:=CD (lt:=ltS) (x:=s) (l:=l)
 skip
 refine tx 0 (α:=Nat×Bool×Nat×List ByteArray) (β:=Bool×Nat×List ByteArray) (fun p=>{sl:=[(0,.t (.slice 1 (l.map T.str))),(1,.t (T.str s)),(5,.own p.2.2.1 9 1 (p.2.2.2.map T.str)),(6,.t (.bool p.2.1)),(7,.t (I p.1))],bx:=[]})
  (fun p=>p.1<=l.length/\(p.2.2.1=27\/p.2.2.1=40)/\p.2.2.2++vH ltS s p.2.1 (l.drop p.1)=put ltS l s) (fun p=>l.length - p.1)
  (fun q=>{sl:=[(1,.t (T.str s)),(5,.own q.2.1 9 1 (q.2.2.map T.str)),(6,.t (.bool q.1))],bx:=[]}) (fun q=>(q.2.1=27\/q.2.1=40)/\q.2.2++vH ltS s q.1 []=put ltS l s) (0,false,27,[]) ⟨by simp,Or.inl rfl,rfl⟩ ?_ ?_ ?_
 ·repeat' (first|exact wJ|refine And.intro ?_ ?_)
 ·rintro ⟨i,d,r,a⟩ ⟨E,f,b⟩;dsimp only at E f b;have m:a.length<=l.length+1:=by
   have:=congrArg List.length b
   rw [List.length_append] at this;omega
  rcases Nat.lt_or_ge i l.length with h|h
  ·have u:(i:Int)<((l.map T.str).length:Int):=by omega
   rw [List.drop_eq_getElem_cons h] at b;obtain ⟨x,C⟩: ∃x,l[i]=x:=⟨_,rfl⟩
   rw [C] at b;have e:(l.map T.str)[i]?.getD .nil=T.str x:=by simp [h,C]
   clear B
   skip
   refine tV (β:=Unit) (fun _=>{sl:=[(0,.t (.slice 1 (l.map T.str))),(1,.t (T.str s)),(5,.own r 9 1 (a.map T.str)),(6,.t (.bool d)),(7,.t (I i))],bx:=[]}) (fun _=>True) ?_ ?_
   ·repeat' ((conv=>whnf);first|refine sC u ?_|(exact ⟨(),trivial,by (repeat' (first|exact wJ|refine And.intro ?_ ?_));done⟩)|refine aS ?_|fail)
   rintro _ _;have D: ∀(o:List ByteArray) y,(o++[y]).map T.str=o.map T.str++[T.str y]:=fun o y=>by rw [List.map_append];rfl
   skip
   refine tV (β:=Bool×Nat×List ByteArray) (fun p=>{sl:=[(0,.t (.slice 1 (l.map T.str))),(1,.t (T.str s)),(5,.own p.2.1 9 1 (p.2.2.map T.str)),(6,.t (.bool p.1)),(7,.t (I i))],bx:=[]})
    (fun p=>(p.2.1=27\/p.2.1=40)/\p.2.2.length<=l.length+2/\(x=s->p.2.2++vH ltS s p.1 (l.drop (i+1))=put ltS l s)/\(x≠s->(p.2.2++[x])++vH ltS s p.1 (l.drop (i+1))=put ltS l s)) ?_ ?_
   ·cases d with
    |false=>
     cases g:ltS x s with
     |true=>
      have j:(!(Op.bytesLess x.toList s.toList))=false:=by unfold ltS at g;rw [g];rfl
      have c:(r=27\/r=40)/\a.length<=l.length+2/\(x=s->a++vH ltS s false (l.drop (i+1))=put ltS l s)/\(x≠s->(a++[x])++vH ltS s false (l.drop (i+1))=put ltS l s):=
       ⟨f,by omega,fun k=>absurd k (zy.ne g),fun _=>by rw [Hv g,List.append_cons] at b;exact b⟩
      clear b;rcases f with rfl|rfl
      ·repeat' ((conv=>whnf);first|(refine nv_ (T.str x) (by first|exact e) ?_)|refine nb_ _ j ?_|(exact ⟨(false,27,a),c,by (repeat' (first|exact wJ|refine And.intro ?_ ?_));done⟩)|refine aS ?_|refine nT_ ?_)
      ·repeat' ((conv=>whnf);first|(refine nv_ (T.str x) (by first|exact e) ?_)|refine nb_ _ j ?_|(exact ⟨(false,40,a),c,by (repeat' (first|exact wJ|refine And.intro ?_ ?_));done⟩)|refine aS ?_|refine nT_ ?_)
     |false=>
      have j:(!(Op.bytesLess x.toList s.toList))=true:=by unfold ltS at g;rw [g];rfl
      have c:(27=27\/27=40)/\(a++[s]).length<=l.length+2/\(x=s->(a++[s])++vH ltS s true (l.drop (i+1))=put ltS l s)/\(x≠s->((a++[s])++[x])++vH ltS s true (l.drop (i+1))=put ltS l s):=
       ⟨Or.inl rfl,by rw [List.length_append,List.length_cons,List.length_nil];omega,fun k=>by rw [D9 g,List.append_cons,D8 k] at b;exact b,fun n=>by rw [D9 g,List.append_cons,Ea n,List.append_cons] at b;exact b⟩
      clear b;rcases f with rfl|rfl <;> repeat' ((conv=>whnf);first|(refine nv_ (T.str x) (by first|exact e) ?_)|refine nb_ _ j ?_|(exact ⟨(true,27,a++[s]),c,by (repeat' (first|(exact ug (D a s))|exact wJ|refine And.intro ?_ ?_));done⟩)|(refine And.intro (by first|((simp only [List.length_map];omega);done)|fail) ?_)|refine aS ?_|refine nT_ ?_)
    |true=>
     have c:(r=27\/r=40)/\a.length<=l.length+2/\(x=s->a++vH ltS s true (l.drop (i+1))=put ltS l s)/\(x≠s->(a++[x])++vH ltS s true (l.drop (i+1))=put ltS l s):=
       ⟨f,by omega,fun k=>by rw [D8 k] at b;exact b,fun n=>by rw [Ea n,List.append_cons] at b;exact b⟩
     clear b;cases g:ltS x s with
     |true=>
      have j:(!(Op.bytesLess x.toList s.toList))=false:=by unfold ltS at g;rw [g];rfl
      rcases f with rfl|rfl
      ·repeat' ((conv=>whnf);first|(refine nv_ (T.str x) (by first|exact e) ?_)|refine nb_ _ j ?_|(exact ⟨(true,27,a),c,by (repeat' (first|exact wJ|refine And.intro ?_ ?_));done⟩)|refine aS ?_|refine nT_ ?_)
      ·repeat' ((conv=>whnf);first|(refine nv_ (T.str x) (by first|exact e) ?_)|refine nb_ _ j ?_|(exact ⟨(true,40,a),c,by (repeat' (first|exact wJ|refine And.intro ?_ ?_));done⟩)|refine aS ?_|refine nT_ ?_)
     |false=>
      have j:(!(Op.bytesLess x.toList s.toList))=true:=by unfold ltS at g;rw [g];rfl
      rcases f with rfl|rfl
      ·repeat' ((conv=>whnf);first|(refine nv_ (T.str x) (by first|exact e) ?_)|refine nb_ _ j ?_|(exact ⟨(true,27,a),c,by (repeat' (first|exact wJ|refine And.intro ?_ ?_));done⟩)|refine aS ?_|refine nT_ ?_)
      ·repeat' ((conv=>whnf);first|(refine nv_ (T.str x) (by first|exact e) ?_)|refine nb_ _ j ?_|(exact ⟨(true,40,a),c,by (repeat' (first|exact wJ|refine And.intro ?_ ?_));done⟩)|refine aS ?_|refine nT_ ?_)
   clear f b m;rintro ⟨d,r,a⟩ ⟨f,m,A,w⟩;dsimp only at f m A w;have v:l.length - (i+1)<l.length - i:=by omega
   by_cases k:x=s
   ·have z:(!(x.toList==s.toList))=false:=by rw [uL,uR.2 k];rfl
    have c:i+1<=l.length/\(r=27\/r=40)/\a++vH ltS s d (l.drop (i+1))=put ltS l s:=⟨h,f,A k⟩
    clear A w;rcases f with rfl|rfl
    ·repeat' ((conv=>whnf);first|(refine nv_ (T.str x) (by first|exact e) ?_)|refine nb_ _ z ?_|(exact ⟨(i+1,d,27,a),c,v,by (repeat' (first|exact wJ|refine And.intro ?_ ?_));done⟩)|refine aS ?_|refine nT_ ?_)
    ·repeat' ((conv=>whnf);first|(refine nv_ (T.str x) (by first|exact e) ?_)|refine nb_ _ z ?_|(exact ⟨(i+1,d,40,a),c,v,by (repeat' (first|exact wJ|refine And.intro ?_ ?_));done⟩)|refine aS ?_|refine nT_ ?_)
   ·have z:(!(x.toList==s.toList))=true:=by rw [uL,wB uR k];rfl
    have c:i+1<=l.length/\(40=27\/40=40)/\(a++[x])++vH ltS s d (l.drop (i+1))=put ltS l s:=⟨h,Or.inr rfl,w k⟩
    clear A w;rcases f with rfl|rfl <;> repeat' ((conv=>whnf);first|(refine nv_ (T.str x) (by first|exact e) ?_)|refine nb_ _ z ?_|(exact ⟨(i+1,d,40,a++[x]),c,v,by (repeat' (first|(exact ug (D a x))|exact wJ|refine And.intro ?_ ?_));done⟩)|(refine And.intro (by first|((simp only [List.length_map];omega);done)|fail) ?_)|refine aS ?_|refine nT_ ?_)
  ·have u: ¬(i:Int)<((l.map T.str).length:Int):=by omega
   rw [List.drop_eq_nil_of_le h] at b
   skip
   refine tV (β:=Empty) (fun x=>x.elim) (fun _=>True) ?_ ?_
   ·repeat' ((conv=>whnf);first|refine su u ?_|(exact ⟨(d,r,a),⟨f,b⟩,by (repeat' (first|exact wJ|refine And.intro ?_ ?_));done⟩)|refine aS ?_|fail)
   ·exact fun x=>x.elim
 ·rintro ⟨d,r,a⟩ ⟨f,b⟩;dsimp only at f b;have m:a.length<=l.length+1:=by
   have:=congrArg List.length b
   rw [List.length_append] at this;omega
  cases d with
  |true=>
   have b:a++[]=put ltS l s:=b;rw [List.append_nil] at b;rw [<- b];rcases f with rfl|rfl <;> repeat' ((conv=>whnf);first|refine aS ?_|exact trivial)
  |false=>
   have b:a++[s]=put ltS l s:=b;rw [<- b,List.map_append];rcases f with rfl|rfl <;> repeat' ((conv=>whnf);first|refine aS ?_|exact trivial)
end Go.TY
end
section
end
section
end
section
end
section
end
section
end
section
end
section
end
section
end
section
namespace Go.TY
open Go Go.DL Go.MM
theorem vg{gs:List RG}{s:RS}:s∈uu (gs.map (·.st))↔ ∃g∈gs,g.st=s/\s.kind≠0:=by
 unfold uu;rw [List.mem_filter,List.mem_map];simp only [bne_iff_ne,ne_eq];exact ⟨fun ⟨⟨g,a,b⟩,c⟩=>⟨g,a,b,c⟩,fun ⟨g,a,b,c⟩=>⟨⟨g,a,b⟩,c⟩⟩
theorem FA{gs:List RG}{x:ByteArray}:x∈wE gs↔ ∃s∈uu (gs.map (·.st)),s.var=x:=by
 unfold wE;rw [DV (Ak (l:=(uu (gs.map (·.st))).map (·.var)) (acc:=[]) List.nodup_nil),yZ,List.mem_map]
 simp
theorem GI{l:List Fd}{ss:List RS}{x:ByteArray}(h: ∃s∈ss,s.var=x): ∃a∈ss,a.var=x/\uY l ss x=some ⟨x,vA a.kind,uO l a,((uD ss x).map (·.n)).getD 0,((uD ss x).map (·.m)).getD 0⟩:=by
 obtain ⟨s,c,e⟩:=h;unfold uY;cases b:ss.find? fun s=>decide (s.var=x) with
 |none=>
  have:=List.find?_eq_none.1 b s c
  simp [e] at this
 |some a=>exact ⟨a,List.mem_of_find?_eq_some b,by simpa using List.find?_some b,rfl⟩
theorem BR{ss:List RS}{t:RS}{x:ByteArray}:uD (ss++[t]) x=match uD ss x with
  |some s=>some s
  |none=>if (decide (t.var=x)&&t.own)=true then some t else none:=by
 unfold uD;rw [wm];cases ss.find? fun s=>decide (s.var=x)&&s.own <;> rfl
theorem HA{l:List Fd}{ss:List RS}{t:RS}{x:ByteArray}(h:t.var≠x):uY l (ss++[t]) x=uY l ss x/\uD (ss++[t]) x=uD ss x:=by
 have e:uD (ss++[t]) x=uD ss x:=by
  rw [BR];cases uD ss x <;> simp [h]
 refine ⟨?_,e⟩;unfold uY;rw [wm,e];cases ss.find? fun s=>decide (s.var=x) <;> simp [h]
theorem Hn{ss:List RS}{x:ByteArray}(h:ss.find? (fun s=>decide (s.var=x))=none):uD ss x=none:=by
 unfold uD;rw [List.find?_eq_none] at h ⊢;intro s b a;rw [Bool.and_eq_true] at a;exact h s b a.1
def nOf(o:Option RV):Int:=(o.map (·.n)).getD 0
def mOf(o:Option RV):Int:=(o.map (·.m)).getD 0
theorem HB{l:List Fd}{ss:List RS}{t:RS}(g:PW l (ss++[t])):
  uY l (ss++[t]) t.var=some ⟨t.var,vA t.kind,uO l t,if t.own&& !(uD ss t.var).isSome then t.n else nOf (uY l ss t.var),if t.own&& !(uD ss t.var).isSome then t.m else mOf (uY l ss t.var)⟩/\
  (uD (ss++[t]) t.var).isSome=((uD ss t.var).isSome||t.own):=by
 constructor
 ·unfold uY nOf mOf;rw [wm,BR];cases a:ss.find? fun s=>decide (s.var=t.var) with
  |none=>
   rw [Hn a];cases t.own <;> simp
  |some c=>
   have h:=List.mem_of_find?_eq_some a;have e:c.var=t.var:=by simpa using List.find?_some a
   have b:=vo.1 ((Cr.1 g).2 c h e);simp only [Option.map_some,Option.getD_some];rw [b.2.1,b.2.2];cases uD ss t.var with
   |some f=>simp
   |none=>cases t.own <;> simp
 ·rw [BR];cases uD ss t.var with
  |some f=>rfl
  |none=>cases t.own <;> simp
theorem FV{gs:List RG}{g:RG}:uu ((gs++[g]).map (·.st))=if g.st.kind=0 then uu (gs.map (·.st)) else uu (gs.map (·.st))++[g.st]:=by
 unfold uu;rw [List.map_append,List.filter_append]
 by_cases h:g.st.kind=0
 ·rw [if_pos h];simp [h]
 ·rw [if_neg h];simp [h]
theorem Co{gs:List RG}{i:Nat}(h:i<gs.length):uu ((gs.take (i+1)).map (·.st))=if gs[i].st.kind=0 then uu ((gs.take i).map (·.st)) else uu ((gs.take i).map (·.st))++[gs[i].st]:=by
 rw [List.take_succ_eq_append_getElem h,FV]
theorem Ic{l:List Fd}{gs:List RG}(h:PW l (uu (gs.map (·.st))))(i:Nat):PW l (uu ((gs.take i).map (·.st))):=by
 rw [F2] at h ⊢;intro s f t j e;refine h s ?_ t ?_ e
 ·obtain ⟨g,a,b,c⟩:=vg.1 f;exact vg.2 ⟨g,List.mem_of_mem_take a,b,c⟩
 ·obtain ⟨g,a,b,c⟩:=vg.1 j;exact vg.2 ⟨g,List.mem_of_mem_take a,b,c⟩
def Ik(x:ByteArray):Option RV->List T
 |none=>[.str x,I 0,.nil,I 0,I 0]
 |some v=>uN v
end Go.TY
end
section
namespace Go.TY
open Go Go.DL Go.MM Go.Proofs
theorem Cn(a b:ByteArray):uq a b=uq b a:=by
 cases h:uq b a with
 |true=>rw [uR.1 h];exact uR.2 rfl
 |false=>exact wB uR fun e=>by rw [e,uR.2 rfl] at h;cases h
def zO(s:RS):List ByteArray:=s.key++(if uq s.field e0 then [] else [s.field])
theorem Gm(l:List Fd)(s:RS):((!uq s.field e0&& !vB l s.field)|| !s.key.all (vB l))= !(zO s).all (vB l):=by
 unfold zO;rw [List.all_append];cases uq s.field e0 <;> cases s.key.all (vB l) <;> simp
theorem CV{ks:List ByteArray}{i:Nat}(h:i<ks.length):zY ks i=false↔ ∀j (_:j<i),uq (ks.getD j e0) ks[i]=false:=by
 unfold zY;rw [List.any_eq_false,show ks.getD i e0=ks[i] from by rw [List.getD_eq_getElem?_getD,ggZ h];rfl];constructor
 ·intro a j c;have b:j<ks.length:=by omega
  have e:ks[j]∈ks.take i:=by
   rw [List.mem_iff_getElem];exact ⟨j,by rw [List.length_take];omega,by rw [List.getElem_take]⟩
  have:=a ks[j] e
  rw [show ks.getD j e0=ks[j] from by rw [List.getD_eq_getElem?_getD,ggZ b];rfl,Cn];simpa using this
 ·intro a x f;obtain ⟨j,c,rfl⟩:=List.getElem_of_mem f;rw [List.length_take] at c;rw [List.getElem_take]
  have:=a j (by omega)
  rw [show ks.getD j e0=ks[j] from by rw [List.getD_eq_getElem?_getD,ggZ (show j<ks.length by omega)];rfl,Cn] at this;rw [this];simp
theorem JW(l:List Fd)(W:LOk l)(s:RS)(h:SmS (2^39) s):DCalls Tryz.prog 133 [fds l,.agg (ur s)] (I (wH l s)):=by
 refine dl2 mixed [.tmp 4] [.int _ _] Tryz.func133 MP ?_;have R:=BH s (h.mono (by omega));have c:=fun h hk=>@GV s h hk
 have Z:=h.len;unfold wH
 by_cases H:vR s=0
 case neg=>
  rw [if_pos H];generalize vR s=e at *
  obtain ⟨k,v,ks,f,n,m⟩:=s
  repeat' ((conv=>whnf);first|refine uc _ (R) ?_|refine sG H ?_|refine rix ?_|refine aS ?_|exact trivial)
 rw [H] at R;have c:=c H;rw [if_neg (by simpa using H)];clear H;have Jz:=Gm l s;rw [Jz];have C:zO s=s.key++(if uq s.field e0 then [] else [s.field]):=rfl;have hnl:(zO s).length<=s.key.length+1:=by
  rw [C,List.length_append];split <;> simp
 have P:uq s.field e0=false->s.field∈zO s:=fun S=>by
  rw [C,S];simp
 generalize zO s=ns at *
 obtain ⟨k,v,ks,f,n,m⟩:=s;dsimp only at Z c C hnl P ⊢;have hkk:((ks.map T.str).length:Int)=(ks.length:Int):=by rw [List.length_map]
 have hnn:((ns.map T.str).length:Int)=(ns.length:Int):=by rw [List.length_map]
 by_cases V:k=0
 ·rw [if_pos V]
  repeat' ((conv=>whnf);first|exact trivial|refine uc _ (R) ?_|refine sE V ?_|refine aN0 ?_|refine rix ?_|refine aS ?_|refine nT_ ?_)
 rw [if_neg V];have N:(!(f.toList==e0.toList))= !uq f e0:=by rw [uL]
 repeat' ((conv=>whnf);first|refine uc _ (R) ?_|refine sD V ?_|refine aN0 ?_|refine aS ?_|refine nT_ ?_)
 refine tV (β:=Unit) (fun _=>{sl:=[(0,.t (fds l)),(3,.ptr 3 0),(6,.t (.slice 1 (ns.map .str)))],bx:=[(3,.d 6 (ur ⟨k,v,ks,f,n,m⟩))]}) (fun _=>True) ?_ ?_
 ·clear P c;cases hs:uq f e0 with
  |true=>
   rw [hs] at N C;have D:ks.map T.str=ns.map T.str:=by rw [C];simp
   repeat' ((conv=>whnf);first|refine nb_ _ N ?_|(exact ⟨(),trivial,by (repeat' (first|(exact AX D.symm)|exact wJ|refine And.intro ?_ ?_));done⟩)|refine aS ?_|refine nT_ ?_)
  |false=>
   rw [hs] at N C;have D:ks.map T.str++[T.str f]=ns.map T.str:=by rw [C];simp
   repeat' ((conv=>whnf);first|refine nb_ _ N ?_|(exact ⟨(),trivial,by (repeat' (first|(exact AX D.symm)|exact wJ|refine And.intro ?_ ?_));done⟩)|refine aS ?_|refine nT_ ?_)
 rintro _ _
 skip
 refine tx 0 (α:=Nat) (β:=Unit) (fun i=>{sl:=[(0,.t (fds l)),(3,.ptr 3 0),(6,.t (.slice 1 (ns.map .str))),(7,.t (I i))],bx:=[(3,.d 6 (ur ⟨k,v,ks,f,n,m⟩))]})
  (fun i=>i<=ns.length/\ ∀j (h:j<ns.length),j<i->vB l ns[j]=true) (fun i=>ns.length - i)
  (fun _=>{sl:=[(0,.t (fds l)),(3,.ptr 3 0)],bx:=[(3,.d 6 (ur ⟨k,v,ks,f,n,m⟩))]}) (fun _=>ns.all (vB l)=true) 0 (by simp) ?_ ?_ ?_
 ·repeat' (first|exact wJ|refine And.intro ?_ ?_)
 ·rintro i ⟨hi,J⟩;rcases Nat.lt_or_ge i ns.length with h|h
  ·have b:(i:Int)<((ns.map T.str).length:Int):=by omega
   have B:=D6 l W ns[i];have E:(ns.map T.str)[i]?.getD .nil= .str ns[i]:=by simp [h]
   cases p:vB l ns[i] with
   |true=>
    rw [p] at B
    repeat' ((conv=>whnf);first|refine sC b ?_|(refine nv_ (.str ns[i]) (by first|exact E) ?_)|refine uc _ (B) ?_|refine aS ?_|refine nT_ ?_)
    refine ⟨i+1,⟨h,fun j g b=>?_⟩,by omega,?_⟩
    ·rcases Nat.lt_or_ge j i with A|A
     ·exact J j g A
     ·obtain rfl:j=i:=by omega
      exact p
    ·repeat' (first|exact wJ|refine And.intro ?_ ?_)
   |false=>
    rw [p] at B;have e:ns.all (vB l)=false:=by
     rw [List.all_eq_false];exact ⟨ns[i],List.getElem_mem h,by rw [p];simp⟩
    rw [e];clear e P
    repeat' ((conv=>whnf);first|exact trivial|refine sC b ?_|(refine nv_ (.str ns[i]) (by first|exact E) ?_)|refine uc _ (B) ?_|refine rix ?_|refine aS ?_|refine nT_ ?_)
  ·have b: ¬(i:Int)<((ns.map T.str).length:Int):=by omega
   have O:ns.all (vB l)=true:=by
    rw [List.all_eq_true];intro x E;obtain ⟨j,g,rfl⟩:=List.getElem_of_mem E;exact J j g (by omega)
   repeat' ((conv=>whnf);first|refine su b ?_|(exact ⟨(),O,by (repeat' (first|exact wJ|refine And.intro ?_ ?_));done⟩)|refine aS ?_|fail)
 rintro _ O;rw [O];simp only [Bool.not_true,Bool.false_eq_true,if_false];have K:k=4->vB l f=true:=fun z=>List.all_eq_true.1 O f (P (c z))
 clear O P c C N Jz
 skip
 refine tx 2 (α:=Nat) (β:=Unit) (fun i=>{sl:=[(0,.t (fds l)),(3,.ptr 3 0),(10,.t (I i))],bx:=[(3,.d 6 (ur ⟨k,v,ks,f,n,m⟩))]})
  (fun i=>i<=ks.length/\ ∀j (h:j<ks.length),j<i->zY ks j=false) (fun i=>ks.length - i)
  (fun _=>{sl:=[(0,.t (fds l)),(3,.ptr 3 0)],bx:=[(3,.d 6 (ur ⟨k,v,ks,f,n,m⟩))]}) (fun _=>zZ ks=false) 0 (by simp) ?_ ?_ ?_
 ·repeat' (first|exact wJ|refine And.intro ?_ ?_)
 ·rintro i ⟨hi,J⟩;rcases Nat.lt_or_ge i ks.length with h|h
  ·have b:(i:Int)<((ks.map T.str).length:Int):=by omega
   have E:(ks.map T.str)[i]?.getD .nil= .str ks[i]:=by simp [h]
   repeat' ((conv=>whnf);first|refine sC b ?_|refine aS ?_|refine nT_ ?_)
   refine tx 4 (α:=Nat) (β:=Unit) (fun q=>{sl:=[(0,.t (fds l)),(3,.ptr 3 0),(10,.t (I i)),(11,.t (I q))],bx:=[(3,.d 6 (ur ⟨k,v,ks,f,n,m⟩))]})
    (fun q=>q<=i/\ ∀j (_:j<i),j<q->uq (ks.getD j e0) ks[i]=false) (fun q=>i - q)
    (fun _=>{sl:=[(0,.t (fds l)),(3,.ptr 3 0),(10,.t (I i))],bx:=[(3,.d 6 (ur ⟨k,v,ks,f,n,m⟩))]}) (fun _=>zY ks i=false) 0 (by simp) ?_ ?_ ?_
   ·repeat' (first|exact wJ|refine And.intro ?_ ?_)
   ·rintro q ⟨hq,G⟩;rcases Nat.lt_or_ge q i with Y|Y
    ·have Q:(q:Int)<(i:Int):=by omega
     have L:q<ks.length:=by omega
     have o:(ks.map T.str)[q]?.getD .nil= .str ks[q]:=by simp [L]
     have hg:ks.getD q e0=ks[q]:=by rw [List.getD_eq_getElem?_getD,ggZ L];rfl
     have u:=uL ks[q] ks[i];have JG:(q:Int)<((ks.map T.str).length:Int):=by omega
     cases p:uq ks[q] ks[i] with
     |true=>
      rw [p] at u;have e:zZ ks=true:=by
       unfold zZ;refine List.any_eq_true.2 ⟨i,List.mem_range.2 h,?_⟩;cases hd:zY ks i with
       |true=>rfl
       |false=>
        have:=(CV h).1 hd q Y
        rw [hg,p] at this;cases this
      rw [e];clear e J G K
      repeat' ((conv=>whnf);first|exact trivial|refine sC Q ?_|(refine nv_ (.str ks[q]) (by first|exact o) ?_)|(refine nv_ (.str ks[i]) (by first|exact E) ?_)|refine nb_ _ u ?_|refine rix ?_|refine aS ?_|refine nT_ ?_)
     |false=>
      rw [p] at u
      repeat' ((conv=>whnf);first|refine sC Q ?_|(refine nv_ (.str ks[q]) (by first|exact o) ?_)|(refine nv_ (.str ks[i]) (by first|exact E) ?_)|refine nb_ _ u ?_|refine aS ?_|refine nT_ ?_)
      refine ⟨q+1,⟨Y,fun j g b=>?_⟩,by omega,?_⟩
      ·rcases Nat.lt_or_ge j q with A|A
       ·exact G j g A
       ·obtain rfl:j=q:=by omega
        rw [hg];exact p
      ·repeat' (first|exact wJ|refine And.intro ?_ ?_)
    ·have Q: ¬(q:Int)<(i:Int):=by omega
     have hd:=(CV h).2 fun j g=>G j g (by omega)
     repeat' ((conv=>whnf);first|refine su Q ?_|(exact ⟨(),hd,by (repeat' (first|exact wJ|refine And.intro ?_ ?_));done⟩)|refine aS ?_|fail)
   ·rintro _ hd
    skip
    refine ⟨i+1,⟨h,fun j g b=>?_⟩,by omega,?_⟩
    ·rcases Nat.lt_or_ge j i with A|A
     ·exact J j g A
     ·obtain rfl:j=i:=by omega
      exact hd
    ·repeat' (first|exact wJ|refine And.intro ?_ ?_)
  ·have b: ¬(i:Int)<((ks.map T.str).length:Int):=by omega
   have hd:zZ ks=false:=by
    unfold zZ;rw [List.any_eq_false];intro j g;rw [J j (List.mem_range.1 g) (by have:=List.mem_range.1 g;omega)];simp
   repeat' ((conv=>whnf);first|refine su b ?_|(exact ⟨(),hd,by (repeat' (first|exact wJ|refine And.intro ?_ ?_));done⟩)|refine aS ?_|refine nT_ ?_)
 ·rintro _ hd;rw [hd];simp only [Bool.false_eq_true,if_false];have B:=D6 l W f;have o:Fz l k f m=match findF l f with
   |none=>0
   |some F=>if k=4/\m>((2^F.w - 1:Nat):Int) then 1 else 0:=rfl
  generalize Fz l k f m=y at *
  by_cases z:k=4
  ·have S:=K z;unfold vB at S;obtain ⟨F,hF⟩:=Option.isSome_iff_exists.1 S;rw [hF] at o;dsimp only at o;have r:=t66 F (W.find hF);have X:=B7 hF;rw [X] at B;generalize (2^F.w - 1:Nat)=M at *
   have r:DCalls Tryz.prog 111 [.agg [.str F.name,I F.a,I F.w]] (I (M:Int)):=r
   skip
   refine tV (β:=Unit) (fun _=>{sl:=[(3,.ptr 3 0),(12,.ptr 12 0)],bx:=[(3,.d 6 (ur ⟨k,v,ks,f,n,m⟩)),(12,.d 3 [.str F.name,I F.a,I F.w])]}) (fun _=>True) ?_ ?_
   ·repeat' ((conv=>whnf);first|refine uc _ (B) ?_|(exact ⟨(),trivial,by (repeat' (first|exact wJ|refine And.intro ?_ ?_));done⟩)|refine aS ?_|refine nT_ ?_)
   rintro _ _
   by_cases U:m>(M:Int)
   ·rw [if_pos ⟨z,U⟩] at o;subst o
    repeat' ((conv=>whnf);first|exact trivial|refine sE z ?_|refine uc _ (r) ?_|refine sC U ?_|refine rix ?_|refine aS ?_|refine nT_ ?_)
   ·rw [if_neg (fun h=>U h.2)] at o;subst o
    repeat' ((conv=>whnf);first|exact trivial|refine sE z ?_|refine uc _ (r) ?_|refine su U ?_|refine rix ?_|refine aS ?_|refine nT_ ?_)
  ·have o:y=0:=by
    rw [o];cases findF l f with
    |none=>rfl
    |some F=>exact if_neg (fun h=>z h.1)
   subst o;generalize fld l f=F at *
   skip
   refine tV (β:=Unit) (fun _=>{sl:=[(3,.ptr 3 0),(12,.ptr 12 0)],bx:=[(3,.d 6 (ur ⟨k,v,ks,f,n,m⟩)),(12,.d 3 [.str F.name,I F.a,I F.w])]}) (fun _=>True) ?_ ?_
   ·repeat' ((conv=>whnf);first|refine uc _ (B) ?_|(exact ⟨(),trivial,by (repeat' (first|exact wJ|refine And.intro ?_ ?_));done⟩)|refine aS ?_|refine nT_ ?_)
   rintro _ _
   repeat' ((conv=>whnf);first|exact trivial|refine sD z ?_|refine rix ?_|refine aS ?_|refine nT_ ?_)
def xM(l:List Fd)(s t:RS):Bool:= !((s.kind !=0)&&((t.kind !=0)&&(uq s.var t.var&& !wq l s t)))
theorem AU{l:List Fd}{s t:RS}:xM l s t=true↔(s.kind≠0->t.kind≠0->s.var=t.var->wq l s t=true):=by
 unfold xM;rw [Bool.not_eq_true',Bool.and_eq_false_iff,Bool.and_eq_false_iff,Bool.and_eq_false_iff];constructor
 ·intro h a b c;rcases h with h|h|h|h
  ·simp [a] at h
  ·simp [b] at h
  ·rw [uR.2 c] at h;cases h
  ·simpa using h
 ·intro h
  by_cases a:s.kind=0
  ·left;simp [a]
  by_cases b:t.kind=0
  ·right;left;simp [b]
  cases c:uq s.var t.var with
  |false=>right;right;left;rfl
  |true=>right;right;right;rw [h a b (uR.1 c)];rfl
theorem Et{l:List Fd}{gs:List RG}:PW l (uu (gs.map (·.st)))↔ ∀i (f:i<gs.length) j (_:j<i),xM l (gs[j]'(by omega)).st gs[i].st=true:=by
 constructor
 ·intro h i f j x;rw [AU];intro c o r;exact F2.1 h _ (vg.2 ⟨gs[j]'(by omega),List.getElem_mem _,rfl,c⟩) _ (vg.2 ⟨gs[i],List.getElem_mem f,rfl,o⟩) r
 ·intro h;refine PW.of fun s q t u e=>?_
  obtain ⟨g,n,w,k⟩:=vg.1 q;obtain ⟨y,k1,k2,m⟩:=vg.1 u;obtain ⟨a,v,rfl⟩:=List.getElem_of_mem n;obtain ⟨b,p,rfl⟩:=List.getElem_of_mem k1;subst w;subst k2;rcases Nat.lt_trichotomy a b with c|c|c
  ·exact AU.1 (h b p a c) k m e
  ·subst c;exact Bx _
  ·exact By (AU.1 (h a v b c) m k e.symm)
theorem Gw(l:List Fd)(hl:LOk l)(gs:List RG)(hgl:gs.length<2^40)(P: ∀g∈gs,SmG (2^39) g):DCalls Tryz.prog 94 [fds l,.slice 15 (gs.map uE)] (I (zj l gs)):=by
 refine dl2 mixed [.tmp 4] [.int _ _] Tryz.func94 l94 ?_;have hlen:((gs.map uE).length:Int)=(gs.length:Int):=by rw [List.length_map]
 have Y:=CE gs (by omega) fun g L=>⟨(P g L).st.mono (by omega),by have:=(P g L).wt;omega,fun _=>(P g L).names (by omega)⟩
 unfold zj
 by_cases R:yO gs=0
 case neg=>
  rw [if_pos R];generalize yO gs=x at *
  repeat' ((conv=>whnf);first|refine uc _ (Y) ?_|refine sG R ?_|refine rix ?_|refine aS ?_|exact trivial)
 rw [if_neg (by simpa using R)];rw [R] at Y
 repeat' ((conv=>whnf);first|refine uc _ (Y) ?_|refine aN0 ?_|refine aS ?_|fail)
 refine tx 0 (α:=Nat) (β:=Unit) (fun i=>{sl:=[(0,.t (fds l)),(1,.t (.slice 15 (gs.map uE))),(6,.t (I i))],bx:=[]})
  (fun i=>i<=gs.length/\ ∀j (h:j<gs.length),j<i->xH l gs[j].pol=0/\wH l gs[j].st=0) (fun i=>gs.length - i)
  (fun _=>{sl:=[(0,.t (fds l)),(1,.t (.slice 15 (gs.map uE)))],bx:=[]}) (fun _=>fz2 (fun g=>xH l g.pol) (fun g=>wH l g.st) gs=0) 0 (by simp) ?_ ?_ ?_
 ·repeat' (first|exact wJ|refine And.intro ?_ ?_)
 ·rintro i ⟨hi,A⟩;rcases Nat.lt_or_ge i gs.length with h|h
  ·have o:(i:Int)<((gs.map uE).length:Int):=by omega
   have N:=P gs[i] (List.getElem_mem h);have Q:=t40 l hl gs[i].pol (by have:=N.wt;omega) (N.names (by omega));rw [<- IT] at Q;have J:=JW l hl gs[i].st (N.st.mono (by omega));have O:(gs.map uE)[i]?.getD .nil= .agg (uw gs[i]):=by simp [h];rfl
   have F:=zQ gs[i];have w:=xC gs[i]
   by_cases s:xH l gs[i].pol=0
   ·rw [s] at Q
    by_cases y:wH l gs[i].st=0
    ·rw [y] at J
     repeat' ((conv=>whnf);first|refine sC o ?_|(refine nv_ (.agg (uw gs[i])) (by first|exact O) ?_)|(refine nv_ (.agg (uy gs[i].pol)) (by first|exact congrArg T.agg F) ?_)|(refine nv_ (.agg (ur gs[i].st)) (by first|exact congrArg T.agg w) ?_)|refine uc _ (Q) ?_|refine uc _ (J) ?_|refine aN0 ?_|(refine And.intro (by first|exact xu _|exact xW _|exact wc _) ?_)|refine aS ?_|fail)
     refine ⟨i+1,⟨h,fun j hj o=>?_⟩,by omega,?_⟩
     ·rcases Nat.lt_or_ge j i with C|C
      ·exact A j hj C
      ·obtain rfl:j=i:=by omega
       exact ⟨s,y⟩
     ·repeat' (first|exact wJ|refine And.intro ?_ ?_)
    ·have e:=Fk (f:=fun g:RG=>xH l g.pol) (g:=fun g=>wH l g.st) h A s y;have S:fz2 (fun g:RG=>xH l g.pol) (fun g=>wH l g.st) gs≠0:=by rw [e];exact y
     rw [if_pos S,e];clear e S;dsimp only;generalize wH l gs[i].st=x at *
     repeat' ((conv=>whnf);first|refine sC o ?_|(refine nv_ (.agg (uw gs[i])) (by first|exact O) ?_)|(refine nv_ (.agg (uy gs[i].pol)) (by first|exact congrArg T.agg F) ?_)|(refine nv_ (.agg (ur gs[i].st)) (by first|exact congrArg T.agg w) ?_)|refine uc _ (Q) ?_|refine uc _ (J) ?_|refine sG y ?_|refine aN0 ?_|refine rix ?_|(refine And.intro (by first|exact xu _|exact xW _|exact wc _) ?_)|refine aS ?_|exact trivial)
   ·have e:=Fj (f:=fun g:RG=>xH l g.pol) (g:=fun g=>wH l g.st) h A s;have S:fz2 (fun g:RG=>xH l g.pol) (fun g=>wH l g.st) gs≠0:=by rw [e];exact s
    rw [if_pos S,e];clear e S;dsimp only;generalize xH l gs[i].pol=x at *
    repeat' ((conv=>whnf);first|refine sC o ?_|(refine nv_ (.agg (uw gs[i])) (by first|exact O) ?_)|(refine nv_ (.agg (uy gs[i].pol)) (by first|exact congrArg T.agg F) ?_)|refine uc _ (Q) ?_|refine sG s ?_|refine rix ?_|(refine And.intro (by first|exact xu _|exact xW _|exact wc _) ?_)|refine aS ?_|exact trivial)
  ·have o: ¬(i:Int)<((gs.map uE).length:Int):=by omega
   have e:=Fi (f:=fun g:RG=>xH l g.pol) (g:=fun g=>wH l g.st) (xs:=gs) fun j hj=>A j hj (by omega)
   repeat' ((conv=>whnf);first|refine su o ?_|(exact ⟨(),e,by (repeat' (first|exact wJ|refine And.intro ?_ ?_));done⟩)|refine aS ?_|fail)
 ·rintro _ hz;rw [if_neg (by simpa using hz)];clear hz Y R;have H: ¬PW l (uu (gs.map (·.st)))->(if (zo l gs).isNone=true then (11:Int) else 0)=11:=fun h=>if_pos (Bc.2 h)
  have z:PW l (uu (gs.map (·.st)))->(if (zo l gs).isNone=true then (11:Int) else 0)=0:=fun h=>if_neg fun e=>Bc.1 e h
  generalize (if (zo l gs).isNone=true then (11:Int) else 0)=res at *
  skip
  refine tT (α:=Nat) (fun i=>{sl:=[(0,.t (fds l)),(1,.t (.slice 15 (gs.map uE))),(9,.t (I i))],bx:=[]})
   (fun i=>i<=gs.length/\ ∀a (E:a<gs.length) b (_:b<a),a<i->xM l (gs[b]'(by omega)).st gs[a].st=true) (fun i=>gs.length - i) 0 (by simp) ?_ ?_
  ·repeat' (first|exact wJ|refine And.intro ?_ ?_)
  rintro i ⟨hi,A⟩;rcases Nat.lt_or_ge i gs.length with h|h
  ·have o:(i:Int)<((gs.map uE).length:Int):=by omega
   have O:(gs.map uE)[i]?.getD .nil= .agg (uw gs[i]):=by simp [h];rfl
   have w:=xC gs[i];have N:=P gs[i] (List.getElem_mem h)
   repeat' ((conv=>whnf);first|refine sC o ?_|refine aS ?_|fail)
   refine tx 4 (α:=Nat) (β:=Unit) (fun q=>{sl:=[(0,.t (fds l)),(1,.t (.slice 15 (gs.map uE))),(9,.t (I i)),(10,.t (I q))],bx:=[]})
    (fun q=>q<=i/\ ∀b (_:b<i),b<q->xM l (gs[b]'(by omega)).st gs[i].st=true) (fun q=>i - q)
    (fun _=>{sl:=[(0,.t (fds l)),(1,.t (.slice 15 (gs.map uE))),(9,.t (I i))],bx:=[]}) (fun _=> ∀b (_:b<i),xM l (gs[b]'(by omega)).st gs[i].st=true) 0 (by simp) ?_ ?_ ?_
   ·repeat' (first|exact wJ|refine And.intro ?_ ?_)
   ·rintro q ⟨hq,M⟩;rcases Nat.lt_or_ge q i with J|J
    ·have wb:(q:Int)<(i:Int):=by omega
     have U:q<gs.length:=by omega
     have JG:(q:Int)<((gs.map uE).length:Int):=by omega
     have hy:(gs.map uE)[q]?.getD .nil= .agg (uw gs[q]):=by simp [U];rfl
     have G:=xC gs[q];have X:=P gs[q] (List.getElem_mem U);have E:=I0 l hl gs[q].st gs[i].st (by have:=X.st.len;omega) (by have:=N.st.len;omega);have c:xM l gs[q].st gs[i].st=true->q+1<=i/\ ∀b (_:b<i),b<q+1->xM l (gs[b]'(by omega)).st gs[i].st=true:=fun r=>⟨J,fun b D o=>by
      rcases Nat.lt_or_ge b q with C|C
      ·exact M b D C
      ·obtain rfl:b=q:=by omega
       exact r⟩
     have u:xM l gs[q].st gs[i].st=false->res=11:=fun r=>H fun hpw=>by
      have:=Et.1 hpw i h q J
      rw [r] at this;cases this
     have B:i - (q+1)<i - q:=by omega
     clear H z A M;unfold xM at c u;generalize wq l gs[q].st gs[i].st=ag at *
     generalize gs[q]=gq at *
     generalize gs[i]=gi at *
     obtain ⟨qp,qs⟩:=gq;obtain ⟨ip,is⟩:=gi;obtain ⟨k,v,ks,f,n,m⟩:=qs;obtain ⟨k',W,K,f',n',m'⟩:=is;dsimp only at G w E c u;have V:=uL v W
     repeat' ((conv=>whnf);first|refine sC wb ?_|refine aS ?_|fail)
     refine tV (β:=Unit) (fun _=>{sl:=[(0,.t (fds l)),(1,.t (.slice 15 (gs.map uE))),(9,.t (I i)),(10,.t (I q)),(11,.ptr 11 0)],bx:=[(11,.d 6 (ur ⟨k,v,ks,f,n,m⟩))]}) (fun _=>True) ?_ ?_
     ·repeat' ((conv=>whnf);first|(refine nv_ (.agg (uw ⟨qp,⟨k,v,ks,f,n,m⟩⟩)) (by first|exact hy) ?_)|(refine nv_ (.agg (ur ⟨k,v,ks,f,n,m⟩)) (by first|exact congrArg T.agg G) ?_)|(exact ⟨(),trivial,by (repeat' (first|exact wJ|refine And.intro ?_ ?_));done⟩)|(refine And.intro (by first|exact wc _) ?_)|refine aS ?_|fail)
     rintro _ _
     skip
     refine tV (β:=Unit) (fun _=>{sl:=[(0,.t (fds l)),(1,.t (.slice 15 (gs.map uE))),(9,.t (I i)),(10,.t (I q)),(11,.ptr 11 0),(12,.ptr 12 0)],bx:=[(11,.d 6 (ur ⟨k,v,ks,f,n,m⟩)),(12,.d 6 (ur ⟨k',W,K,f',n',m'⟩))]}) (fun _=>True) ?_ ?_
     ·repeat' ((conv=>whnf);first|(refine nv_ (.agg (uw ⟨ip,⟨k',W,K,f',n',m'⟩⟩)) (by first|exact O) ?_)|(refine nv_ (.agg (ur ⟨k',W,K,f',n',m'⟩)) (by first|exact congrArg T.agg w) ?_)|(exact ⟨(),trivial,by (repeat' (first|exact wJ|refine And.intro ?_ ?_));done⟩)|(refine And.intro (by first|exact wc _) ?_)|refine aS ?_|fail)
     rintro _ _;clear O hy w G N X o wb JG
     by_cases s:k=0
     ·have p:=c (by simp [s])
      repeat' ((conv=>whnf);first|refine sF s ?_|(exact ⟨q+1,p,B,by (repeat' (first|exact wJ|refine And.intro ?_ ?_));done⟩)|refine aS ?_|refine nT_ ?_)
     by_cases y:k'=0
     ·have p:=c (by simp [y])
      repeat' ((conv=>whnf);first|refine sG s ?_|refine sF y ?_|(exact ⟨q+1,p,B,by (repeat' (first|exact wJ|refine And.intro ?_ ?_));done⟩)|refine aS ?_|refine nT_ ?_)
     cases Z:uq v W with
     |false=>
      rw [Z] at V;have p:=c (by simp [Z])
      repeat' ((conv=>whnf);first|refine sG s ?_|refine sG y ?_|refine nb_ _ V ?_|(exact ⟨q+1,p,B,by (repeat' (first|exact wJ|refine And.intro ?_ ?_));done⟩)|refine aS ?_|refine nT_ ?_)
     |true=>
      rw [Z] at V;cases ag with
      |true=>
       have p:=c (by simp)
       repeat' ((conv=>whnf);first|refine sG s ?_|refine sG y ?_|refine nb_ _ V ?_|refine uc _ (E) ?_|(exact ⟨q+1,p,B,by (repeat' (first|exact wJ|refine And.intro ?_ ?_));done⟩)|refine aS ?_|refine nT_ ?_)
      |false=>
       have qm:=u (by simp [s,y,Z]);clear c u;rw [qm]
       repeat' ((conv=>whnf);first|exact trivial|refine sG s ?_|refine sG y ?_|refine nb_ _ V ?_|refine uc _ (E) ?_|refine rix ?_|refine aS ?_|refine nT_ ?_)
    ·have wb: ¬(q:Int)<(i:Int):=by omega
     have r: ∀b (_:b<i),xM l (gs[b]'(by omega)).st gs[i].st=true:=fun b D=>M b D (by omega)
     repeat' ((conv=>whnf);first|refine su wb ?_|(exact ⟨(),r,by (repeat' (first|exact wJ|refine And.intro ?_ ?_));done⟩)|refine aS ?_|fail)
   ·rintro _ r
    skip
    refine ⟨i+1,⟨h,fun a E b D o=>?_⟩,by omega,?_⟩
    ·rcases Nat.lt_or_ge a i with C|C
     ·exact A a E b D C
     ·obtain rfl:a=i:=by omega
      exact r b D
    ·repeat' (first|exact wJ|refine And.intro ?_ ?_)
  ·have o: ¬(i:Int)<((gs.map uE).length:Int):=by omega
   rw [z (Et.2 fun a E b D=>A a E b D (by omega))];clear A H z
   repeat' ((conv=>whnf);first|refine su o ?_|refine rix ?_|refine aS ?_|exact trivial)
def nmQ(gs:List RG):List ByteArray:=xh ltS ((uu (gs.map (·.st))).map (·.var))
theorem C0(gs:List RG):nmQ gs=wE gs:=by
 unfold nmQ wE FU;exact Gs zy fun x=>by rw [yZ];simp
theorem Hk{gs:List RG}{i:Nat}(h:i<gs.length):nmQ (gs.take (i+1))=if gs[i].st.kind=0 then nmQ (gs.take i) else put ltS (nmQ (gs.take i)) gs[i].st.var:=by
 unfold nmQ;rw [Co h];split
 ·rfl
 ·rw [List.map_append,Db];rfl
theorem EK(gs:List RG):(nmQ gs).length<=gs.length:=by
 unfold nmQ;refine Nat.le_trans Ci ?_;rw [List.length_map];unfold uu;exact Nat.le_trans (List.length_filter_le _ _) (by rw [List.length_map];omega)
theorem IK(g:RG):(uw g)[9]?.getD .nil=I g.st.kind:=by
 unfold uw;rw [List.getElem?_append_right (by rw [uG];omega),uG];rfl
theorem Kh(g:RG):(uw g)[10]?.getD .nil= .str g.st.var:=by
 unfold uw;rw [List.getElem?_append_right (by rw [uG];omega),uG];rfl
theorem JR(g:RG):9<(uw g).length:=by rw [xm];exact nlZ rfl
theorem KC(g:RG):10<(uw g).length:=by rw [xm];exact nlZ rfl
def vc(x:ByteArray)(b a:T)(n m:Int):List T:=[.str x,b,a,I n,I m]
structure xl (l:List Fd) (x:ByteArray) (ss:List RS) (c1 c2:T) (n m:Int) (fd:Bool):Prop where
 cells:vc x c1 c2 n m=Ik x (uY l ss x)
 n:n=nOf (uY l ss x)
 m:m=mOf (uY l ss x)
 fd:fd=(uD ss x).isSome
theorem xl.start(l:List Fd)(x:ByteArray):xl l x [] (I 0) .nil 0 0 false:=⟨rfl,rfl,rfl,rfl⟩
theorem xl.skip{l:List Fd}{x:ByteArray}{ss:List RS}{b a:T}{n m:Int}{fd:Bool}(h:xl l x ss b a n m fd){t:RS}(c:t.var≠x):xl l x (ss++[t]) b a n m fd:=by
 have:=HA (l:=l) (ss:=ss) c
 exact ⟨by rw [this.1];exact h.cells,by rw [this.1];exact h.n,by rw [this.1];exact h.m,by rw [this.2];exact h.fd⟩
theorem xl.take{l:List Fd}{ss:List RS}{t:RS}{e c:T}{n m:Int}{fd:Bool}(h:xl l t.var ss e c n m fd)(f:PW l (ss++[t])):
  xl l t.var (ss++[t]) (I (vA t.kind)) (.slice 1 ((uO l t).map I)) (if (t.own&& !fd)=true then t.n else n) (if (t.own&& !fd)=true then t.m else m) (fd||t.own):=by
 obtain ⟨a,b⟩:=HB f;rw [<- h.fd, <-h.n, <-h.m] at a;rw [<- h.fd] at b;exact ⟨by rw [a];rfl,by rw [a];rfl,by rw [a];rfl,b.symm⟩
theorem Eo(l:List Fd)(hl:LOk l)(gs:List RG)(hgl:gs.length<2^39)(hg: ∀g∈gs,g.st.key.length<2^40)(hp:PW l (uu (gs.map (·.st)))):
  DCalls Tryz.prog 10 [fds l,.slice 15 (gs.map uE)] (.slice 5 ((wL l gs).map wZ)):=by
 refine dl2 mixed [.tmp 4] [.slice 5 ((wL l gs).map wZ)] Tryz.func10 l10 ?_;have Y:((gs.map uE).length:Int)=(gs.length:Int):=by rw [List.length_map]
 skip
 refine tx 0 (α:=Nat) (β:=Unit) (fun i=>{sl:=[(0,.t (fds l)),(1,.t (.slice 15 (gs.map uE))),(5,.t (.slice 1 ((nmQ (gs.take i)).map T.str))),(6,.t (I i))],bx:=[]})
  (fun i=>i<=gs.length) (fun i=>gs.length - i)
  (fun _=>{sl:=[(0,.t (fds l)),(1,.t (.slice 15 (gs.map uE))),(5,.t (.slice 1 ((wE gs).map T.str)))],bx:=[]}) (fun _=>True) 0 (by simp) ?_ ?_ ?_
 ·repeat' (first|(exact LeV.empty _)|exact wJ|refine And.intro ?_ ?_)
 ·rintro i Z;rcases Nat.lt_or_ge i gs.length with h|h
  ·have o:(i:Int)<((gs.map uE).length:Int):=by omega
   have B:(gs.map uE)[i]?.getD .nil= .agg (uw gs[i]):=by simp [h];rfl
   have V:=IK gs[i];have hv:=Kh gs[i];have H:=Hk h;have S:=EK (gs.take i);rw [List.length_take] at S;generalize nmQ (gs.take i)=out at *
   generalize gs[i]=g at *
   have h2:=Gy out g.st.var (by omega)
   by_cases c:g.st.kind=0
   ·rw [if_pos c] at H
    repeat' ((conv=>whnf);first|refine sC o ?_|(refine nv_ (.agg (uw g)) (by first|exact B) ?_)|(refine nv_ (I g.st.kind) (by first|exact V) ?_)|refine sF c ?_|(refine And.intro (by first|exact JR _) ?_)|refine aS ?_|fail)
    refine ⟨i+1,h,by omega,?_⟩
    repeat' (first|(exact leT (by rw [H]))|exact wJ|refine And.intro ?_ ?_)
   ·rw [if_neg c] at H
    repeat' ((conv=>whnf);first|refine sC o ?_|(refine nv_ (.agg (uw g)) (by first|exact B) ?_)|(refine nv_ (I g.st.kind) (by first|exact V) ?_)|(refine nv_ (.str g.st.var) (by first|exact hv) ?_)|refine sG c ?_|refine uc _ (h2) ?_|(refine And.intro (by first|exact JR _|exact KC _) ?_)|refine aS ?_|fail)
    refine ⟨i+1,h,by omega,?_⟩
    repeat' (first|(exact leT (by rw [H]))|exact wJ|refine And.intro ?_ ?_)
  ·have o: ¬(i:Int)<((gs.map uE).length:Int):=by omega
   have e:nmQ (gs.take i)=wE gs:=by rw [List.take_of_length_le h,C0]
   repeat' ((conv=>whnf);first|refine su o ?_|(exact ⟨(),trivial,by (repeat' (first|(exact leT (by rw [e]))|exact wJ|refine And.intro ?_ ?_));done⟩)|refine aS ?_|fail)
 rintro _ _;have hnl:(wE gs).length<2^39:=by rw [<- C0];have:=EK gs;omega
 have Ag: ∀x∈wE gs, ∃s∈uu (gs.map (·.st)),s.var=x:=fun x B=>FA.1 B
 unfold wL;generalize wE gs=ns at *
 have hnn:((ns.map T.str).length:Int)=(ns.length:Int):=by rw [List.length_map]
 skip
 refine tT (α:=Nat) (fun k=>{sl:=[(0,.t (fds l)),(1,.t (.slice 15 (gs.map uE))),(5,.t (.slice 1 (ns.map T.str))),(7,.own 92 67 5 ((ns.take k).map fun s=>wZ ((uY l (uu (gs.map (·.st))) s).getD v0))),(8,.t (I k))],bx:=[]})
  (fun k=>k<=ns.length) (fun k=>ns.length - k) 0 (by simp) ?_ ?_
 ·repeat' (first|exact wJ|refine And.intro ?_ ?_)
 rintro k V;rcases Nat.lt_or_ge k ns.length with h|h
 ·have o:(k:Int)<((ns.map T.str).length:Int):=by omega
  have B:(ns.map T.str)[k]?.getD .nil= .str ns[k]:=by simp [h]
  have H:ns.take (k+1)=ns.take k++[ns[k]]:=by rw [List.take_succ_eq_append_getElem h]
  have W:=Ag ns[k] (List.getElem_mem h);have hkl:((ns.take k).map fun s=>wZ ((uY l (uu (gs.map (·.st))) s).getD v0)).length=k:=by rw [List.length_map,List.length_take];omega
  have O:((ns.take (k+1)).map fun s=>wZ ((uY l (uu (gs.map (·.st))) s).getD v0))=((ns.take k).map fun s=>wZ ((uY l (uu (gs.map (·.st))) s).getD v0))++[wZ ((uY l (uu (gs.map (·.st))) ns[k]).getD v0)]:=by rw [H,List.map_append];rfl
  generalize ns[k]=x at *
  generalize ((ns.take k).map fun s=>wZ ((uY l (uu (gs.map (·.st))) s).getD v0))=out at *
  repeat' ((conv=>whnf);first|refine sC o ?_|(refine nv_ (.str x) (by first|exact B) ?_)|refine aS ?_|refine nT_ ?_)
  refine tx 4 (α:=Nat×T×T×Int×Int×Bool) (β:=Unit) (fun p=>{sl:=[(0,.t (fds l)),(1,.t (.slice 15 (gs.map uE))),(5,.t (.slice 1 (ns.map T.str))),(7,.own 92 67 5 out),(8,.t (I k)),(9,.ptr 9 0),(10,.t (.bool p.2.2.2.2.2)),(11,.t (I p.1))],bx:=[(9,.d 5 (vc x p.2.1 p.2.2.1 p.2.2.2.1 p.2.2.2.2.1))]})
   (fun p=>p.1<=gs.length/\xl l x (uu ((gs.take p.1).map (·.st))) p.2.1 p.2.2.1 p.2.2.2.1 p.2.2.2.2.1 p.2.2.2.2.2) (fun p=>gs.length - p.1)
   (fun _=>{sl:=[(0,.t (fds l)),(1,.t (.slice 15 (gs.map uE))),(5,.t (.slice 1 (ns.map T.str))),(7,.own 92 67 5 out),(8,.t (I k)),(9,.ptr 9 0)],bx:=[(9,.d 5 (uN ((uY l (uu (gs.map (·.st))) x).getD v0)))]}) (fun _=>True) (0,I 0,.nil,0,0,false) ⟨by simp,xl.start l x⟩ ?_ ?_ ?_
  ·repeat' (first|exact wJ|refine And.intro ?_ ?_)
  ·rintro ⟨i,J,N,n,m,fd⟩ ⟨Z,a⟩;dsimp only at Z a;rcases Nat.lt_or_ge i gs.length with C|C
   ·have L:(i:Int)<((gs.map uE).length:Int):=by omega
    have U:(gs.map uE)[i]?.getD .nil= .agg (uw gs[i]):=by simp [C];rfl
    have v:=xC gs[i];have w:=Co C;have Mn:=hg gs[i] (List.getElem_mem C);have A:=Ic hp (i+1);rw [w] at A;have y:gs.length - (i+1)<gs.length - i:=by omega
    have f:gs[i].st.kind=0->i+1<=gs.length/\xl l x (uu ((gs.take (i+1)).map (·.st))) J N n m fd:=fun e=>⟨C,by rw [w,if_pos e];exact a⟩
    have b:gs[i].st.kind≠0->gs[i].st.var≠x->i+1<=gs.length/\xl l x (uu ((gs.take (i+1)).map (·.st))) J N n m fd:=fun e M=>⟨C,by rw [w,if_neg e];exact a.skip M⟩
    have j:gs[i].st.kind≠0->gs[i].st.var=x->i+1<=gs.length/\xl l x (uu ((gs.take (i+1)).map (·.st))) (I (vA gs[i].st.kind)) (.slice 1 ((uO l gs[i].st).map I)) (if (gs[i].st.own&& !fd)=true then gs[i].st.n else n) (if (gs[i].st.own&& !fd)=true then gs[i].st.m else m) (fd||gs[i].st.own):=fun e M=>⟨C,by
     rw [if_neg e] at A;rw [w,if_neg e];subst M;exact a.take A⟩
    clear A w a;generalize gs[i]=g at *
    obtain ⟨R,q⟩:=g;have Q:=BT l hl q.key Mn;have hF:=BS q.kind;have X:=Aw q;change DCalls _ _ _ (.slice 1 ((uO l q).map I)) at Q;dsimp only at v f b j;generalize uO l q=ws at *
    generalize vA q.kind=fam at *
    generalize q.own=ow at *
    obtain ⟨E,z,u,G,F,D⟩:=q;dsimp only at v f b j Q hF X;have P:(!(z.toList==x.toList))= !uq z x:=by rw [uL]
    by_cases c:E=0
    ·have r:=f c
     repeat' ((conv=>whnf);first|refine sC L ?_|(refine nv_ (.agg (uw ⟨R,⟨E,z,u,G,F,D⟩⟩)) (by first|exact U) ?_)|(refine nv_ (.agg (ur ⟨E,z,u,G,F,D⟩)) (by first|exact congrArg T.agg v) ?_)|refine sE c ?_|(exact ⟨(i+1,J,N,n,m,fd),r,y,by (repeat' (first|exact wJ|refine And.intro ?_ ?_));done⟩)|(refine And.intro (by first|exact wc _) ?_)|refine aS ?_|refine nT_ ?_)
    cases e:uq z x with
    |false=>
     rw [e] at P;have r:=b c fun M=>by rw [uR.2 M] at e;cases e
     repeat' ((conv=>whnf);first|refine sC L ?_|(refine nv_ (.agg (uw ⟨R,⟨E,z,u,G,F,D⟩⟩)) (by first|exact U) ?_)|(refine nv_ (.agg (ur ⟨E,z,u,G,F,D⟩)) (by first|exact congrArg T.agg v) ?_)|refine sD c ?_|(refine nv_ (.str x) (by first|exact B) ?_)|refine nb_ _ P ?_|(exact ⟨(i+1,J,N,n,m,fd),r,y,by (repeat' (first|exact wJ|refine And.intro ?_ ?_));done⟩)|(refine And.intro (by first|exact wc _) ?_)|refine aS ?_|refine nT_ ?_)
    |true=>
     rw [e] at P;have r:=j c (uR.1 e);clear f b j;cases ow <;> cases fd <;> repeat' ((conv=>whnf);first|refine sC L ?_|(refine nv_ (.agg (uw ⟨R,⟨E,z,u,G,F,D⟩⟩)) (by first|exact U) ?_)|(refine nv_ (.agg (ur ⟨E,z,u,G,F,D⟩)) (by first|exact congrArg T.agg v) ?_)|refine sD c ?_|(refine nv_ (.str x) (by first|exact B) ?_)|refine nb_ _ P ?_|refine uc _ (hF) ?_|refine uc _ (Q) ?_|refine uc _ (X) ?_|(exact ⟨(i+1,I fam,.slice 1 (ws.map I),n,m,false),r,y,by (repeat' (first|exact wJ|refine And.intro ?_ ?_));done⟩)|(exact ⟨(i+1,I fam,.slice 1 (ws.map I),n,m,true),r,y,by (repeat' (first|exact wJ|refine And.intro ?_ ?_));done⟩)|(exact ⟨(i+1,I fam,.slice 1 (ws.map I),F,D,true),r,y,by (repeat' (first|exact wJ|refine And.intro ?_ ?_));done⟩)|(refine And.intro (by first|exact wc _) ?_)|refine aS ?_|refine nT_ ?_)
   ·have L: ¬(i:Int)<((gs.map uE).length:Int):=by omega
    have e:vc x J N n m=uN ((uY l (uu (gs.map (·.st))) x).getD v0):=by
     have:=a.cells
     rw [List.take_of_length_le C] at this;obtain ⟨s0,_,_,hs⟩:=GI (l:=l) W;rw [hs] at this ⊢;exact this
    clear a;generalize uN ((uY l (uu (gs.map (·.st))) x).getD v0)=cv at *
    repeat' ((conv=>whnf);first|refine su L ?_|(exact ⟨(),trivial,by (repeat' (first|(exact ui e.symm)|exact wJ|refine And.intro ?_ ?_));done⟩)|refine aS ?_|fail)
  ·rintro _ _;have K:(uN ((uY l (uu (gs.map (·.st))) x).getD v0)).length=5:=rfl
   have qg:wZ ((uY l (uu (gs.map (·.st))) x).getD v0)= .agg (uN ((uY l (uu (gs.map (·.st))) x).getD v0)):=rfl
   rw [qg] at O;generalize uN ((uY l (uu (gs.map (·.st))) x).getD v0)=cv at *
   clear qg
   repeat' ((conv=>whnf);first|(refine And.intro (by first|exact K|exact ⟨trivial,K⟩|((simp only [];omega);done)|fail) ?_)|refine aS ?_|fail)
   refine ⟨k+1,h,by omega,?_⟩
   repeat' (first|(exact ug O)|exact wJ|refine And.intro ?_ ?_)
 ·have o: ¬(k:Int)<((ns.map T.str).length:Int):=by omega
  have:k=ns.length:=by omega
  subst this;rw [List.take_length];have e:(ns.map fun s=>wZ ((uY l (uu (gs.map (·.st))) s).getD v0))=(ns.map fun s=>(uY l (uu (gs.map (·.st))) s).getD v0).map wZ:=by rw [List.map_map];rfl
  rw [<- e]
  repeat' ((conv=>whnf);first|refine su o ?_|refine aS ?_|exact trivial)
end Go.TY
end
section
namespace Go.ST
open Go Go.DL Go.MM
open Go.TY hiding Fd
theorem GN{b:List ByteArray}{f:ByteArray->RV}(c: ∀n∈b,(f n).name=n){n:ByteArray}(h:n∈b):varOf (b.map f) n=some (f n):=by
 induction b with
 |nil=>cases h
 |cons a r g=>
  unfold varOf at g ⊢;rw [List.map_cons,List.find?_cons]
  by_cases e:a=n
  ·subst e;simp [c a (by simp)]
  ·have i:decide ((f a).name=n)=false:=by rw [c a (by simp)];simpa using e
   rw [i];have j:n∈r:=by
    rcases List.mem_cons.1 h with h|h
    ·exact absurd h.symm e
    ·exact h
   exact g (fun x k=>c x (by simp [k])) j
theorem BV{l:List Fd}{ss:List RS}{s:RS}(h:s∈ss): ∃a,a∈ss/\a.var=s.var/\uY l ss s.var=some ⟨s.var,vA a.kind,uO l a,((uD ss s.var).map (·.n)).getD 0,((uD ss s.var).map (·.m)).getD 0⟩:=by
 unfold uY;cases b:ss.find? fun t=>decide (t.var=s.var) with
 |none=>have:=List.find?_eq_none.1 b s h;simp at this
 |some a=>
  have c:=List.find?_some b;exact ⟨a,List.mem_of_find?_eq_some b,by simpa using c,rfl⟩
theorem Gq{ss:List RS}{s:RS}(h:s∈ss)(e:s.own=true): ∃a,a∈ss/\a.var=s.var/\a.own=true/\uD ss s.var=some a:=by
 unfold uD;cases c:ss.find? fun t=>decide (t.var=s.var)&&t.own with
 |none=>have:=List.find?_eq_none.1 c s h;simp [e] at this
 |some a=>
  have b:=List.find?_some c;simp only [Bool.and_eq_true,decide_eq_true_eq] at b;exact ⟨a,List.mem_of_find?_eq_some c,b.1,b.2,rfl⟩
theorem Aj{gs:List RG}{n:ByteArray}:n∈wE gs↔ ∃s∈uu (gs.map (·.st)),s.var=n:=by
 unfold wE;rw [DV (Ak List.nodup_nil),yZ];simp
theorem FZ{l:List Fd}{gs:List RG}: ∀n∈wE gs,((uY l (uu (gs.map (·.st))) n).getD v0).name=n:=by
 intro n b;obtain ⟨s,a,rfl⟩:=Aj.1 b;obtain ⟨c, -, -,h⟩:=BV (l:=l) a;rw [h];rfl
structure Fits (l:List Fd) (gs:List RG):Prop where
 pol: ∀g∈gs,xH l g.pol=0
 st: ∀g∈gs,wH l g.st=0
 pw:PW l (uu (gs.map (·.st)))
 vs: ∃v,zo l gs=some v
theorem EC{l:List Fd}{gs:List RG}(h:zj l gs=0):Fits l gs:=by
 unfold zj at h
 by_cases b:yO gs=0
 case neg=>rw [if_pos b] at h;exact absurd h b
 rw [if_neg (by simpa using b)] at h
 by_cases a:fz2 (fun g=>xH l g.pol) (fun g=>wH l g.st) gs=0
 case neg=>rw [if_pos a] at h;exact absurd h a
 rw [if_neg (by simpa using a)] at h;cases c:zo l gs with
 |none=>rw [c] at h;simp at h
 |some v=>
  refine ⟨fun g e=>(Cx a g e).1,fun g e=>(Cx a g e).2,?_,v,c⟩
  have:=Bc (l:=l) (gs:=gs)
  rw [c] at this
  by_cases f:PW l (uu (gs.map (·.st)))
  ·exact f
  ·have:=this.2 f;simp at this
structure Kk (l:List Fd) (s:RS):Prop where
 k0:1<=s.kind
 k1:s.kind<=6
 keys: ∀k∈s.key,uA l k=true
 klen:s.key.length<=4
 nd:s.key.Nodup
 fo:uq s.field e0=true\/uA l s.field=true
 k3:s.kind=3->0<=s.n/\s.n<=1073741824
 k4:s.kind=4->0<=s.n/\s.n<=65535/\s.n<=s.m/\s.m<=65535/\uA l s.field=true/\s.m<=((2^(fld l s.field).w - 1:Nat):Int)
 k5:s.kind=5->uA l s.field=true
 k6:s.kind=6->1<=s.n/\s.n<=65535/\1<=s.m/\s.m<=1073741824
theorem E8{ks:List ByteArray}(h:zZ ks=false):ks.Nodup:=by
 unfold zZ at h;rw [List.any_eq_false] at h;rw [List.nodup_iff_pairwise_ne,List.pairwise_iff_getElem];intro i j c a b e
 have:=h j (List.mem_range.2 a)
 unfold zY at this;refine this (List.any_eq_true.2 ⟨ks[i],?_,?_⟩)
 ·rw [List.mem_take_iff_getElem];exact ⟨i,by omega,rfl⟩
 ·rw [List.getD_eq_getElem?_getD,ggZ a, <-e];exact uR.2 rfl
theorem yb{l:List Fd}{s:RS}(h:wH l s=0)(y:s.kind≠0):Kk l s:=by
 unfold wH at h
 by_cases g:vR s=0
 case neg=>rw [if_pos g] at h;exact absurd h g
 rw [if_neg (by simpa using g),if_neg y] at h;cases j:(!uq s.field e0&& !vB l s.field)|| !s.key.all (vB l) with
 |true=>rw [j] at h;simp at h
 |false=>
 rw [j] at h;cases p:zZ s.key with
 |true=>rw [p] at h;simp at h
 |false=>
 rw [p] at h;simp only [Bool.false_eq_true,if_false] at h;have ok:okS s=true:=by
  unfold vR at g;cases e:okS s with
  |true=>rfl
  |false=>rw [e] at g;simp at g
 unfold okS at ok;have B:yJ s=false:=by unfold yJ;simp [y]
 rw [B,Bool.false_or] at ok;simp only [Bool.and_eq_true,decide_eq_true_eq] at ok;obtain ⟨⟨⟨⟨M,L⟩,A⟩,K⟩,c⟩:=ok;rw [Bool.or_eq_false_iff] at j;obtain ⟨G,x⟩:=j;have keys: ∀k∈s.key,uA l k=true:=by
  simp only [Bool.not_eq_false',List.all_eq_true] at x;exact x
 have z:uq s.field e0=true\/uA l s.field=true:=by
  show uq s.field e0=true\/vB l s.field=true
  cases a:uq s.field e0 <;> cases b:vB l s.field <;> simp [a,b] at G ⊢
 have i:vh s.field=true->uA l s.field=true:=fun J=>by
  rcases z with f|f
  ·have:=za J;rw [this] at f;cases f
  ·exact f
 unfold xt at c;refine ⟨?_,?_,keys,A,E8 p,z,fun H=>?_,fun D=>?_,fun C=>?_,fun E=>?_⟩
 ·by_cases k1:s.kind=1
  ·omega
  by_cases k2:s.kind=2
  ·omega
  by_cases t:s.kind=3
  ·omega
  by_cases n:s.kind=4
  ·omega
  by_cases r:s.kind=5
  ·omega
  by_cases q:s.kind=6
  ·omega
  simp only [k1,k2,t,n,r,q,if_false] at c;cases c
 ·by_cases k1:s.kind=1
  ·omega
  by_cases k2:s.kind=2
  ·omega
  by_cases t:s.kind=3
  ·omega
  by_cases n:s.kind=4
  ·omega
  by_cases r:s.kind=5
  ·omega
  by_cases q:s.kind=6
  ·omega
  simp only [k1,k2,t,n,r,q,if_false] at c;cases c
 ·rw [H] at c;simp [Br] at c;omega
 ·rw [D] at c h;simp [xX] at c;have o:=i c.1.1.1;refine ⟨by omega,by omega,by omega,by omega,o,?_⟩;unfold Fz at h;unfold uA at o;obtain ⟨F,v⟩:=Option.isSome_iff_exists.1 o;rw [B7 v];rw [v] at h;dsimp only at h
  by_cases u:(4:Int)=4/\s.m>((2^F.w - 1:Nat):Int)
  ·rw [if_pos u] at h;cases h
  ·have: ¬s.m>((2^F.w - 1:Nat):Int):=fun I=>u ⟨rfl,I⟩
   omega
 ·rw [C] at c;simp at c;exact i c.2
 ·rw [E] at c;simp [xX,Br] at c;omega
theorem vg{gs:List RG}{g:RG}(a:g∈gs)(b:g.st.kind≠0):g.st∈uu (gs.map (·.st)):=by
 unfold uu;rw [List.mem_filter];exact ⟨List.mem_map.2 ⟨g,a,rfl⟩,by simpa using b⟩
theorem Hz{l:List Fd}{gs:List RG}(f:Fits l gs){g:RG}(q:g∈gs)(s:g.st.kind≠0):Dc l (wL l gs) g.st:=by
 have p:=yb (f.st g q) s;have c:=vg q s;obtain ⟨w,x,i,e⟩:=BV (l:=l) c;have r:=vo.1 (f.pw.all w x g.st c i);have k:g.st.own=true-> ∃a,uD (uu (gs.map (·.st))) g.st.var=some a/\a.n=g.st.n/\a.m=g.st.m:=fun j=>by
  obtain ⟨a,v,z,y,b⟩:=Gq c j
  have:=(vo.1 (f.pw.all a v g.st c z)).1 y j
  exact ⟨a,b,this⟩
 refine ⟨p.k0,p.k1,p.keys,by have:=p.klen;omega,⟨_,GN FZ (Aj.2 ⟨g.st,c,rfl⟩),?_,?_,fun t=>?_,fun u=>?_⟩,p.k3,p.k4,p.k5,p.k6⟩
 ·rw [e];exact r.2.2
 ·rw [e];exact r.2.1
 ·obtain ⟨a,b,h,o⟩:=k (by unfold RS.own;rw [t];rfl);rw [e,b];exact ⟨h,o⟩
 ·obtain ⟨a,b,h,o⟩:=k (by unfold RS.own;rw [u];rfl);rw [e,b];exact h
theorem BZ{l:List Fd}(f:LOk l){gs:List RG}(h:Fits l gs): ∀v∈wL l gs,VOk v:=by
 intro v c;unfold wL at c;obtain ⟨n,t,rfl⟩:=List.mem_map.1 c;obtain ⟨s,o,rfl⟩:=Aj.1 t;obtain ⟨y,b,m,e⟩:=BV (l:=l) o;rw [e];unfold uu at b;rw [List.mem_filter] at b;obtain ⟨i,j⟩:=b;obtain ⟨g,q,rfl⟩:=List.mem_map.1 i;have p:=yb (h.st g q) (by simpa using j);refine ⟨?_,fun w a=>?_⟩
 ·show (uO l g.st).length<2^40
  unfold uO;rw [List.length_map]
  have:=p.klen;omega
 ·have a:w∈uO l g.st:=a;unfold uO at a;obtain ⟨k,r,rfl⟩:=List.mem_map.1 a
  have:=Hj f (p.keys k r)
  have u:=this.w1;have x:=this.w2;omega
theorem Bb{l:List Fd}{gs:List RG}:(wL l gs).length<=gs.length:=by
 unfold wL wE;rw [List.length_map];refine Nat.le_trans Ci ?_;have a:=DW (l:=(uu (gs.map (·.st))).map (·.var)) (acc:=[])
 have b:(uu (gs.map (·.st))).length<=gs.length:=by
  unfold uu;exact Nat.le_trans (List.length_filter_le _ _) (by rw [List.length_map];omega)
 rw [List.length_map,List.length_nil] at a;omega
theorem KK{l:List RF}(h:MM.Checked l):uA (l.map RF.fd) ⟨#[]⟩=false:=by
 unfold uA;cases e:findF (l.map RF.fd) ⟨#[]⟩ with
 |none=>rfl
 |some F=>
  exfalso;unfold findF at e;have j:uq (⟨#[]⟩:ByteArray) wF=false:=by decide+kernel
  rw [j] at e;simp only [Bool.false_eq_true,if_false] at e;have b:=List.mem_of_find?_eq_some e;have g:=List.find?_some e;obtain ⟨f,c,rfl⟩:=List.mem_map.1 b;have a:=h.name f c;have i:f.name=⟨#[]⟩:=uR.1 (show uq f.name _=true from g);rw [i] at a
  revert a
  decide+kernel
def preB(l:List Fd)(s:RS)(st:List RE)(h:List Int)(tick:Int):Bool:=
 !uA l ⟨#[]⟩&&(h.length==10)&&vS h&&xf st&&decide (st.length<=1000000)&&st.all Ao&&decide (0<=tick)&&decide (tick<=1073741824)&&decide (0<=s.kind)&&decide (s.kind<=6)
  &&s.key.all (uA l)&&decide (s.key.length<=1000)&&(!decide (s.kind=3)||(decide (0<=s.n)&&decide (s.n<=1073741824)))
  &&(!decide (s.kind=4)||(decide (0<=s.n)&&decide (s.n<=65535)&&decide (s.n<=s.m)&&decide (s.m<=65535)))
  &&(!decide (s.kind=5)||(uA l s.field&&st.all fun e=> !decide (e.var=s.var)||(decide (e.key.length=s.key.length)&&e.key.all fun x=>decide (0<=x))))
  &&(!decide (s.kind=6)||(decide (1<=s.n)&&decide (s.n<=65535)&&decide (1<=s.m)&&decide (s.m<=1073741824)))
  &&st.all fun e=>decide (e.key.length<2^60)
theorem IU{l:List Fd}(n:LOk l){s:RS}{st:List RE}{h:List Int}{tick:Int}(b:preB l s st h tick=true):B1 l s st h tick/\ ∀e∈st,e.key.length<2^60:=by
 unfold preB at b;simp only [Bool.and_eq_true,decide_eq_true_eq,List.all_eq_true,Bool.not_eq_true',beq_iff_eq,Bool.or_eq_true,decide_eq_false_iff_not] at b;obtain ⟨⟨⟨⟨⟨⟨⟨⟨⟨⟨⟨⟨⟨⟨⟨⟨g,p⟩,i⟩,E⟩,w⟩,v⟩,f⟩,u⟩,D⟩,r⟩,o⟩,A⟩,q⟩,j⟩,y⟩,C⟩,B⟩:=b;refine ⟨⟨n,g,⟨p,i⟩,xY.1 E,w,fun e a=>?_,f,u,D,r,o,A,fun z=>?_,fun m=>?_,fun k=>?_,fun t=>?_⟩,B⟩
 ·have:=v e a
  unfold Ao at this;simp only [Bool.and_eq_true,decide_eq_true_eq] at this;omega
 ·rcases q with h|h
  ·exact absurd z h
  ·exact h
 ·rcases j with h|h
  ·exact absurd m h
  ·omega
 ·rcases y with h|h
  ·exact absurd k h
  ·refine ⟨h.1,fun e a x=>?_⟩;rcases h.2 e a with c|c
   ·exact absurd x c
   ·exact c
 ·rcases C with h|h
  ·exact absurd t h
  ·omega
abbrev xF(t:Int×Int×Int):List Int:=[0,t.2.1 * 256+t.1,0,0,0,0,0,0,0,0]
def FT(l:List Fd)(s:RS)(name:ByteArray)(t:Int×Int×Int)(st:List RE):Int:=if (doE l s st (xF t) t.2.2).pass then (vk (fld l name) (doE l s st (xF t) t.2.2).h:Int) else -1
def wg(l:List Fd)(s:RS)(name:ByteArray):List (Int×Int×Int)->List Int×List RE->List Int×List RE
 |[],r=>r
 |t::ts,r=>wg l s name ts (r.1++[FT l s name t r.2],(doE l s r.2 (xF t) t.2.2).st)
def CI(l:List Fd)(s:RS)(name:ByteArray):List (Int×Int×Int)->List RE->Bool
 |[],_=>true
 |t::ts,st=>decide (0<=t.1)&&decide (t.1<256)&&decide (0<=t.2.1)&&decide (t.2.1<256)&&preB l s st (xF t) t.2.2&&vS (doE l s st (xF t) t.2.2).h&&((doE l s st (xF t) t.2.2).h.length==10)&&CI l s name ts (doE l s st (xF t) t.2.2).st
end Go.ST
end
noncomputable section
namespace Go.ST7
open Go Go.DL Go.Proofs
def c32:aV:=(sr [oo 8 (.box 6 (tm 2)),oo 9 (.box 10 (tm 3)),oo 10 (.box 6 (tm 4)),oo 11 (.box 10 (tm 5)),oo 12 (.mov kF)] (sr [oo 13 (.mov (.const (.clos 83 [])))] (.seq (.block 0 (sr [fa 19 0 8,ld 20 19,oo 21 (.bin .eql (tm 20) (Kc 0)),mv 22 21,oF 23 22 (.offA 0 (tm 10)),oF 24 22 (.load 1 false (tm 23)),oF 25 22 (.bin .eql (tm 24) (Kc 0)),oo 26 (.pick (tm 22) kT (tm 25)),mv 27 26,oF 28 27 (.offA 1 (tm 8)),oF 29 27 (.load 1 false (tm 28)),oF 30 27 (.offA 1 (tm 10)),oF 31 27 (.load 1 false (tm 30)),oF 32 27 (.bin .neq (tm 29) (tm 31)),oo 33 (.pick (tm 27) kT (tm 32)),mv 18 33] (.cond (tm 18) (sr [oo 12 (.mov kT)] .ret) (sr [fa 35 0 8,ld 36 35,fa 37 0 10,ld 38 37,oo 39 (.bin .eql (tm 36) (tm 38)),mv 40 39,oT 41 40 (.offA 0 (tm 8)),oT 42 40 (.load 1 false (tm 41)),oT 43 40 (.bin .eql (tm 42) (Kc 3)),mT 44 43 40,oF 45 44 (.offA 0 (tm 8)),oF 46 44 (.load 1 false (tm 45)),oF 47 44 (.bin .eql (tm 46) (Kc 5)),oT 48 40 (.pick (tm 44) kT (tm 47)),oo 49 (.pick (tm 40) (tm 48) kF),mv 34 49] (.cond (tm 34) (sr [oo 12 (.mov kT)] .ret) (sr [mv 51 13,fa 52 0 8,ld 53 52,oo 54 (.bY (tm 51) [tm 53]),mv 50 54] (.cond (tm 50) (sr [oo 12 (.mov kF)] .ret) .skip))))))) (sr [mv 56 0,fa 57 2 8,ld 58 57,lA 59 10 9,oo 60 (.call 58 [(tm 56),(tm 58),(tm 59)]),mv 55 60,oo 61 (.ext (tm 55) 0),oo 62 (.ext (tm 55) 1),mv 14 61,mv 15 62] (sr [mv 64 0,fa 65 2 10,ld 66 65,lA 67 10 11,oo 68 (.call 58 [(tm 64),(tm 66),(tm 67)]),mv 63 68,oo 69 (.ext (tm 63) 0),oo 70 (.ext (tm 63) 1),mv 16 69,mv 17 70] (sr [mv 71 14,mv 72 16,oo 73 (.call 84 [(tm 71),(tm 72)]),oo 74 (.not (tm 73)),mv 75 74,mT 76 1 75,oT 77 75 (.offA 1 (tm 8)),oT 78 75 (.load 1 false (tm 77)),oT 79 75 (.call 22 [(tm 76),(tm 78)]),oT 80 75 (.len (tm 79)),oT 81 75 (.bin .leq (tm 80) (Kc 98)),oo 82 (.pick (tm 75) (tm 81) kF),mv 12 82] .ret))))))
theorem l32:(Tryz.f32.body.bind (bt Tryz.prog 83 [83]))=some c32:=by kernel_rfl
def c83:aV:=(sr [oo 2 (.mov kF)] (sr [mv 3 0,oo 4 (.bin .eql (tm 3) (Kc 4)),mv 5 4,mF 6 0 5,oF 7 5 (.bin .eql (tm 6) (Kc 5)),oo 8 (.pick (tm 5) kT (tm 7)),mv 2 8] .ret))
theorem l83:(Tryz.f83.body.bind (bt Tryz.prog 9 []))=some c83:=by kernel_rfl
def c33:aV:=(sr [oo 8 (.box 6 (tm 2)),oo 9 (.box 10 (tm 3)),oo 10 (.box 6 (tm 4)),oo 11 (.box 10 (tm 5)),oo 12 (.mov kF)] (.seq (sr [fa 17 0 8,ld 18 17,oo 19 (.bin .eql (tm 18) (Kc 0)),mv 20 19,oF 21 20 (.offA 0 (tm 10)),oF 22 20 (.load 1 false (tm 21)),oF 23 20 (.bin .eql (tm 22) (Kc 0)),oo 24 (.pick (tm 20) kT (tm 23)),mv 25 24,oF 26 25 (.offA 1 (tm 8)),oF 27 25 (.load 1 false (tm 26)),oF 28 25 (.offA 1 (tm 10)),oF 29 25 (.load 1 false (tm 28)),oF 30 25 (.bin .neq (tm 27) (tm 29)),oo 31 (.pick (tm 25) kT (tm 30))] (.cond (tm 31) (sr [oo 12 (.mov kT)] .ret) .skip)) (.seq (sr [fa 32 0 8,ld 33 32,fa 34 0 10,ld 35 34,oo 36 (.bin .eql (tm 33) (tm 35)),mv 37 36,oT 38 37 (.offA 0 (tm 8)),oT 39 37 (.load 1 false (tm 38)),oT 40 37 (.bin .eql (tm 39) (Kc 3)),mT 41 40 37,oF 42 41 (.offA 0 (tm 8)),oF 43 41 (.load 1 false (tm 42)),oF 44 41 (.bin .eql (tm 43) (Kc 5)),oT 45 37 (.pick (tm 41) kT (tm 44)),oo 46 (.pick (tm 37) (tm 45) kF)] (.cond (tm 46) (sr [oo 12 (.mov kT)] .ret) .skip)) (sr [mv 48 0,fa 49 2 8,ld 50 49,lA 51 10 9,oo 52 (.call 20 [(tm 48),(tm 50),(tm 51)]),mv 47 52,oo 53 (.ext (tm 47) 0),oo 54 (.ext (tm 47) 1),mv 13 53,mv 14 54] (sr [mv 56 0,fa 57 2 10,ld 58 57,lA 59 10 11,oo 60 (.call 20 [(tm 56),(tm 58),(tm 59)]),mv 55 60,oo 61 (.ext (tm 55) 0),oo 62 (.ext (tm 55) 1),mv 15 61,mv 16 62] (sr [fa 63 0 8,ld 64 63,oo 65 (.bin .neq (tm 64) (Kc 4)),mv 66 65,oT 67 66 (.offA 0 (tm 8)),oT 68 66 (.load 1 false (tm 67)),oT 69 66 (.bin .neq (tm 68) (Kc 5)),oo 70 (.pick (tm 66) (tm 69) kF),mv 71 70,mT 72 13 71,mT 73 15 71,oT 74 71 (.call 21 [(tm 72),(tm 73)]),oT 75 71 (.bin .neq (tm 74) (Kc 0)),oo 76 (.pick (tm 71) (tm 75) kF),mv 77 76,mT 78 1 77,oT 79 77 (.offA 1 (tm 8)),oT 80 77 (.load 1 false (tm 79)),oT 81 77 (.call 60 [(tm 78),(tm 80)]),oT 82 77 (.bin .leq (tm 81) (Kc 98)),oo 83 (.pick (tm 77) (tm 82) kF),mv 12 83] .ret))))))
theorem l33:(Tryz.f33.body.bind (bt Tryz.prog 84 []))=some c33:=by kernel_rfl
def c41:aV:=(sr [oo 6 (.mov kF)] (sr [mv 9 0,mv 10 1,oo 11 (.call 94 [(tm 9),(tm 10)]),mv 7 11] (.seq (sr [mv 12 7,oo 13 (.bin .neq (tm 12) (Kc 0)),mv 14 13,mF 15 2 14,oF 16 14 (.len (tm 15)),oF 17 14 (.bin .gtr (tm 16) (Kc 250)),oo 18 (.pick (tm 14) kT (tm 17))] (.cond (tm 18) (sr [oo 6 (.mov kF)] .ret) .skip)) (sr [mv 19 0,mv 20 1,oo 21 (.call 10 [(tm 19),(tm 20)]),mv 22 2,oo 23 (.call 14 [(tm 21),(tm 22)]),mv 8 23] (sr [mv 24 8,oo 25 (.bin .eql (tm 24) (Kc 0)),mv 6 25] .ret)))))
theorem l41:(Tryz.f41.body.bind (bt Tryz.prog 26 []))=some c41:=by kernel_rfl
def c8:aV:=(sr [oo 8 (.box 10 (tm 3)),oo 10 (.mov kF)] (sr [mv 16 0,oo 17 (.call 36 [tm 16]),mv 11 17] (sr [mv 18 1,oo 19 (.call 37 [tm 18]),mv 12 19] (sr [lA 20 10 8,oo 21 (.call 15 [tm 20]),mv 13 21] (.seq (sr [mv 22 11,oo 23 (.bin .neq (tm 22) (Kc 0)),mv 24 23,mF 25 12 24,oF 26 24 (.not (tm 25)),oo 27 (.pick (tm 24) kT (tm 26)),mv 28 27,mF 29 13 28,oF 30 28 (.not (tm 29)),oo 31 (.pick (tm 28) kT (tm 30)),mv 32 31,mF 33 4 32,oF 34 32 (.bin .lss (tm 33) (Kc 0)),oo 35 (.pick (tm 32) kT (tm 34)),mv 36 35,mF 37 4 36,oF 38 36 (.bin .gtr (tm 37) (Kc 1073741824)),oo 39 (.pick (tm 36) kT (tm 38))] (.cond (tm 39) (sr [oo 10 (.mov kF)] .ret) .skip)) (.seq (sr [oo 14 (.mov (Kc 0))] (.block 0 (.loop (.seq (sr [mv 40 14,mv 41 1,ln 42 41,oo 43 (.bin .lss (tm 40) (tm 42))] (.cond (tm 43) .skip (.exit 0))) (.seq (.block 1 (sr [mv 46 1,mv 47 14,ix 48 15 46 47,oo 49 (.nar 9 (tm 48)),lA 50 9 49,oo 51 (.call 38 [tm 50]),oo 15 (.alloc [Z0,Z0]),o0 (.store 2 (tm 15) (tm 51))] (sr [fa 52 0 15,ld 53 52,oo 54 (.bin .gtr (tm 53) (Kc 20)),mv 55 54,mF 56 1 55,mF 57 14 55,oF 58 55 (.idxL 15 (tm 56) (tm 57)),oF 59 55 (.nar 9 (tm 58)),oF 60 55 (.load 9 true (tm 59)),oF 61 55 (.call 39 [tm 60]),oF 62 55 (.bin .gtr (tm 61) (Kc 2)),oo 63 (.pick (tm 55) kT (tm 62)),mv 64 63,mF 65 1 64,mF 66 14 64,oF 67 64 (.idxL 15 (tm 65) (tm 66)),oF 68 64 (.nar 9 (tm 67)),oF 69 64 (.load 9 true (tm 68)),oF 70 64 (.call 40 [tm 69]),oF 71 64 (.not (tm 70)),oo 72 (.pick (tm 64) kT (tm 71))] (.cond (tm 72) (sr [oo 10 (.mov kF)] .ret) .skip)))) (rg [mv 44 14,oo 45 (.bin .add (tm 44) (Kc 1)),mv 14 45])))))) (sr [mv 73 0,mv 74 1,mv 75 2,oo 76 (.call 41 [(tm 73),(tm 74),(tm 75)]),mv 10 76] .ret)))))))
theorem l8:(Tryz.f8.body.bind (bt Tryz.prog 77 [2000049000009,2000059000009,2000068000009]))=some c8:=by kernel_rfl
def c43:aV:=(sr [⟨some 8,.alloc [Z0,S0,.nil,S0,Z0,Z0],none,[]⟩] (sr [mv 9 0,⟨some 10,.buildS 9 1 1 [S0] [(0,(.const (.str ⟨#[115,114,99]⟩)))],none,[]⟩,mv 11 1,mv 12 2,mv 13 3,⟨some 14,.build [Z0,S0,.nil,S0,Z0,Z0] [(0,1,(tm 9)),(1,1,(.const (.str ⟨#[118]⟩))),(2,1,(tm 10)),(3,1,(tm 11)),(4,1,(tm 12)),(5,1,(tm 13))],none,[]⟩,o0 (.store 6 (tm 8) (tm 14))] .ret))
theorem l43:(Tryz.f43.body.bind (bt Tryz.prog 15 []))=some c43:=by kernel_rfl
def c95:aV:=(sr [oo 0 (.mov (.const .nil))] (sr [⟨some 1,.build [S0,Z0,Z0] [(0,1,(.const (.str ⟨#[100,115,116]⟩))),(1,1,(Kc 16)),(2,1,(Kc 8))],none,[]⟩,⟨some 2,.build [S0,Z0,Z0] [(0,1,(.const (.str ⟨#[115,114,99]⟩))),(1,1,(Kc 24)),(2,1,(Kc 8))],none,[]⟩,⟨some 3,.build [S0,Z0,Z0] [(0,1,(.const (.str ⟨#[107,105,110,100]⟩))),(1,1,(Kc 33)),(2,1,(Kc 3))],none,[]⟩,⟨some 4,.buildS 54 3 3 [S0,Z0,Z0] [(0,(tm 1)),(1,(tm 2)),(2,(tm 3))],none,[]⟩,mv 0 4] .ret))
theorem l95:(Tryz.f95.body.bind (bt Tryz.prog 5 []))=some c95:=by kernel_rfl
end Go.ST7
end
section
namespace Go.STA
open Go Go.DL Go.Proofs
noncomputable def c42:aV:=(sr [oo 4 (.box 6 (tm 0)),oo 8 (.mov (.const .nil)),oo 9 (.mov (.const .nil))] (sr [oo 10 (.mov (.const .nil))] (.seq (sr [oo 11 (.mov (Kc 0))] (.block 0 (.loop (.seq (sr [mv 18 11,mv 19 3,ln 20 19,oo 21 (.bin .lss (tm 18) (tm 20))] (.cond (tm 21) .skip (.exit 0))) (.seq (.block 1 (sr [mv 24 3,mv 25 11,ix 26 3 24 25,oo 27 (.idxA 3 1 (tm 26) (Kc 1)),ld 28 27,oo 29 (.bin .mul (tm 28) (Kc 256)),mv 30 3,mv 31 11,ix 32 3 30 31,oo 33 (.idxA 3 1 (tm 32) (Kc 0)),ld 34 33,oo 35 (.bin .add (tm 29) (tm 34)),oo 36 (.build [Z0,Z0,Z0,Z0,Z0,Z0,Z0,Z0,Z0,Z0] [(0,1,(Kc 0)),(1,1,(tm 35))]),oo 12 (.alloc [Z0,Z0,Z0,Z0,Z0,Z0,Z0,Z0,Z0,Z0]),o0 (.store 10 (tm 12) (tm 36))] (.seq (.cut (rg [oo 38 (.call 95 []),lA 39 6 4,mv 40 1,lA 41 10 12,mv 42 3,mv 43 11,ix 44 3 42 43,oo 45 (.idxA 3 1 (tm 44) (Kc 2)),ld 46 45,oo 47 (.call 11 [(tm 38),(tm 39),(tm 40),(tm 41),(tm 46)]),mv 37 47,oo 48 (.ext (tm 37) 0),oo 49 (.ext (tm 37) 1),oo 50 (.ext (tm 37) 2),oo 13 (.alloc [Z0,Z0,Z0,Z0,Z0,Z0,Z0,Z0,Z0,Z0]),o0 (.store 10 (tm 13) (tm 48)),mv 14 49,mv 15 50])) (sr [mv 51 15,mv 1 51] (.seq (.cut (rg [oo 53 (.call 95 []),mv 54 2,oo 55 (.call 17 [(tm 53),(tm 54)]),mv 52 55,oo 56 (.ext (tm 52) 0),oo 57 (.ext (tm 52) 1),⟨some 16,.alloc [S0,Z0,Z0],none,[]⟩,o0 (.store 3 (tm 16) (tm 56)),mv 17 57])) (sr [mv 58 14] (.cond (tm 58) (rg [mv 59 10,lA 60 3 16,lA 61 10 13,oo 62 (.call 18 [(tm 60),(tm 61)]),oo 63 (.buildF 1 1 [Z0] [(0,(tm 62))]),oo 64 (.append 59 3 1 8 (tm 59) (tm 63)),mv 10 64]) (rg [mv 65 10,oo 66 (.buildF 1 1 [Z0] [(0,(.const (.int .i64 (-1))))]),oo 67 (.append 59 3 1 8 (tm 65) (tm 66)),mv 10 67])))))))) (rg [mv 22 11,oo 23 (.bin .add (tm 22) (Kc 1)),mv 11 23])))))) (sr [mv 68 10,mv 69 1,mv 8 68,mv 9 69] .ret))))
theorem l42:(Tryz.f42.body.bind (bt Tryz.prog 70 [6000006,6000008,8000063,8000066]))=some c42:=by kernel_rfl
end Go.STA
end
section
namespace Go.ST
open Go Go.DL Go.MM Go.Proofs
open Go.TY hiding Fd
def vN:ByteArray:=⟨#[118]⟩
abbrev stp(k:Int)(f:ByteArray)(n m:Int):RS:=⟨k,vN,[BU],f,n,m⟩
theorem yY(k:Int)(f:ByteArray)(n m:Int):DCalls Tryz.prog 43 [I k,.str f,I n,I m] (vu (stp k f n m)):=by
 refine dl2 mixed [.cell 8 42] [.agg (ur (stp k f n m))] Tryz.func43 Go.ST7.l43 ?_
 repeat' ((conv=>whnf);first|refine aS ?_|exact trivial)
def L17:List Fd:=[⟨Cw,16,8⟩,⟨BU,24,8⟩,⟨Dh,33,3⟩]
theorem Hm:LOk L17:=⟨by decide,fun f a=>by
 simp only [L17,List.mem_cons,List.not_mem_nil,or_false] at a;rcases a with rfl|rfl|rfl <;> exact ⟨by decide,by decide,by decide⟩⟩
theorem Gg:DCalls Tryz.prog 95 [] (fds L17):=by
 refine dl2 mixed [.tmp 0] [fds L17] Tryz.func95 Go.ST7.l95 ?_
 repeat' ((conv=>whnf);first|refine aS ?_|exact trivial)
abbrev tri(t:Int×Int×Int):T:=.agg [I t.1,I t.2.1,I t.2.2]
abbrev BY(ts:List (Int×Int×Int)):T:=.slice 3 (ts.map tri)
theorem Ec(l:List Fd)(s:RS)(name:ByteArray): ∀(a b:List (Int×Int×Int)) (r:List Int×List RE),wg l s name (a++b) r=wg l s name b (wg l s name a r)
 |[],_,_=>rfl
 |_::a,b,_=>Ec l s name a b _
theorem C8(l:List Fd)(s:RS)(name:ByteArray){ts:List (Int×Int×Int)}{i:Nat}(h:i<ts.length)(r:List Int×List RE):
  wg l s name (ts.take (i+1)) r=((wg l s name (ts.take i) r).1++[FT l s name ts[i] (wg l s name (ts.take i) r).2],(doE l s (wg l s name (ts.take i) r).2 (xF ts[i]) ts[i].2.2).st):=by
 rw [List.take_succ_eq_append_getElem h,Ec];rfl
structure K9 (l:List Fd) (s:RS) (t:Int×Int×Int) (st:List RE):Prop where
 a0:0<=t.1
 a1:t.1<256
 b0:0<=t.2.1
 b1:t.2.1<256
 pre:B1 l s st (xF t) t.2.2
 k: ∀e∈st,kOk e
 ok:HOk (doE l s st (xF t) t.2.2).h
theorem ES{l:List Fd}(a:LOk l){s:RS}{name:ByteArray}: ∀{ts:List (Int×Int×Int)} {r:List Int×List RE},CI l s name ts r.2=true-> ∀i (h:i<ts.length),K9 l s ts[i] (wg l s name (ts.take i) r).2
 |[],_,_,i,h=>by simp at h
 |t::ts,r,hb,i,h=>by
  unfold CI at hb;simp only [Bool.and_eq_true,decide_eq_true_eq,beq_iff_eq] at hb;obtain ⟨⟨⟨⟨⟨⟨⟨b,c⟩,f⟩,k⟩,e⟩,g⟩,m⟩,j⟩:=hb;cases i with
  |zero=>
   obtain ⟨p,q⟩:=IU a e;exact ⟨b,c,f,k,p,q,⟨m,g⟩⟩
  |succ i=>exact ES a (ts:=ts) (r:=(r.1++[FT l s name t r.2],(doE l s r.2 (xF t) t.2.2).st)) j i (by simpa using h)
theorem NK{ts:List (Int×Int×Int)}{i:Nat}(h:i<ts.length):(ts.map tri)[i]?.getD .nil=tri ts[i]:=by simp [h]
theorem HL(s:RS)(st:List RE)(name:ByteArray)(ts:List (Int×Int×Int))(hl:ts.length<2^20)(Y:CI L17 s name ts st=true)(X:uA L17 name=true):
  DCalls Tryz.prog 42 [vu s,esT st,.str name,BY ts] (.tup [.slice 1 ((wg L17 s name ts ([],st)).1.map I),esT (wg L17 s name ts ([],st)).2]):=by
 refine dl2 mixed [.tmp 8,.tmp 9] [.slice 1 _,esT _] Tryz.func42 Go.STA.l42 ?_;have hn:((ts.map tri).length:Int)=ts.length:=by rw [List.length_map]
 have V:=ES (name:=name) (r:=([],st)) Hm Y;have u:=Gg;have f: ∀i,i<=ts.length->(wg L17 s name (ts.take i) ([],st)).1.length=i:=by
  intro i
  induction i with
  |zero=>intro _;simp [wg]
  |succ i ih=>intro h;rw [C8 L17 s name h,List.length_append,ih (by omega)];rfl
 have j:=Bq L17 Hm name;rw [X] at j;have S:FOk (MM.fld L17 name):=Hj Hm X
 repeat' ((conv=>whnf);first|refine aS ?_|fail)
 refine tx 0 (α:=Nat×Nat) (β:=Unit) (fun p=>{sl:=[(1,.t (esT (wg L17 s name (ts.take p.1) ([],st)).2)),(2,.t (.str name)),(3,.t (BY ts)),(4,.ptr 4 0),(10,.own p.2 3 1 ((wg L17 s name (ts.take p.1) ([],st)).1.map I)),(11,.t (I p.1))],bx:=[(4,.d 6 (ur s))]})
  (fun p=>p.1<=ts.length/\(p.2=64\/p.2=67)) (fun p=>ts.length - p.1)
  (fun _=>{sl:=[(1,.t (esT (wg L17 s name ts ([],st)).2)),(10,.t (.slice 1 ((wg L17 s name ts ([],st)).1.map I)))],bx:=[]}) (fun _=>True) (0,64) ⟨by simp,Or.inl rfl⟩ ?_ ?_ ?_
 ·repeat' (first|exact wJ|refine And.intro ?_ ?_)
 ·rintro ⟨i,r⟩ ⟨hi,F⟩;dsimp only at hi F;rcases Nat.lt_or_ge i ts.length with h|h
  ·have l:(i:Int)<((ts.map tri).length:Int):=by omega
   have U:=NK h;have a:=V i h;have g:=C8 L17 s name h ([],st);have hol:=f i (by omega);have b:=J3 a.pre a.k;have W:=t57 (MM.fld L17 name) S _ a.ok;obtain ⟨t,x⟩: ∃t,ts[i]=t:=⟨_,rfl⟩
   rw [x] at U g b W;have b0:=x▸a.a0;have b1:=x▸a.a1;have b2:=x▸a.b0;have b3:=x▸a.b1;have hx:=ten (x▸a.ok);generalize wg L17 s name (ts.take i) ([],st)=q at *
   have e2:FT L17 s name t q.2=if (doE L17 s q.2 (xF t) t.2.2).pass then (vk (fld L17 name) (doE L17 s q.2 (xF t) t.2.2).h:Int) else -1:=rfl
   rw [e2] at g;obtain ⟨e,c,v⟩:=t;dsimp only at *
   have E:IntKind.wrap .i64 (IntKind.wrap .i64 (c * 256)+e)=c * 256+e:=by rw [nW (n:=c * 256) (by omega) (by omega),nW (by omega) (by omega)]
   have D:((i+1:Nat):Int)=IntKind.wrap .i64 ((i:Int)+1):=by rw [nW] <;> omega
   have Z:hd (xF (e,c,v))= .agg [I 0,I (c * 256+e),I 0,I 0,I 0,I 0,I 0,I 0,I 0,I 0]:=rfl;rw [Z] at b;generalize doE L17 s q.2 (xF (e,c,v)) v=d at *
   obtain ⟨dh,K,B⟩:=d;dsimp only at *
   obtain ⟨L,M,P,G,Q,N,O,H,R,J,rfl⟩:=hx;have b:DCalls Tryz.prog 11 [fds L17,vu s,esT q.2,.agg [I 0,I (c * 256+e),I 0,I 0,I 0,I 0,I 0,I 0,I 0,I 0],I v] (.tup [hd [L,M,P,G,Q,N,O,H,R,J],.bool K,esT B]):=b;rw [<- E] at b;have A:ts.length - (i+1)<ts.length - i:=by omega
   have ha:=a;clear Y V f a
   repeat' ((conv=>whnf);first|refine sC l ?_|(refine nv_ (.agg [I e,I c,I v]) (by first|exact U) ?_)|refine aS ?_|refine nT_ ?_)
   refine tV (β:=Unit) (fun _=>{sl:=[(2,.t (.str name)),(3,.t (BY ts)),(4,.ptr 4 0),(10,.own r 3 1 (q.1.map I)),(11,.t (I i)),(13,.ptr 13 0),(14,.t (.bool K)),(15,.t (esT B))],bx:=[(4,.d 6 (ur s)),(13,.d 10 [I L,I M,I P,I G,I Q,I N,I O,I H,I R,I J])]}) (fun _=>True) ?_ ?_
   ·repeat' ((conv=>whnf);first|(refine nv_ (.agg [I e,I c,I v]) (by first|exact U) ?_)|refine uc _ (u) ?_|refine uc _ (b) ?_|(exact ⟨(),trivial,by (repeat' (first|exact wJ|refine And.intro ?_ ?_));done⟩)|refine aS ?_|refine nT_ ?_)
   rintro _ _;clear b
   skip
   refine tV (β:=Unit) (fun _=>{sl:=[(1,.t (esT B)),(2,.t (.str name)),(3,.t (BY ts)),(4,.ptr 4 0),(10,.own r 3 1 (q.1.map I)),(11,.t (I i)),(13,.ptr 13 0),(14,.t (.bool K)),(16,.ptr 16 0)],bx:=[(4,.d 6 (ur s)),(13,.d 10 [I L,I M,I P,I G,I Q,I N,I O,I H,I R,I J]),(16,.d 3 [.str (MM.fld L17 name).name,I (MM.fld L17 name).a,I (MM.fld L17 name).w])]}) (fun _=>True) ?_ ?_
   ·repeat' ((conv=>whnf);first|refine uc _ (u) ?_|refine uc _ (j) ?_|(exact ⟨(),trivial,by (repeat' (first|exact wJ|refine And.intro ?_ ?_));done⟩)|refine aS ?_|fail)
   rintro _ _;have C: ∀z:Int,(q.1++[z]).map I=q.1.map I++[I z]:=fun z=>by rw [List.map_append];rfl
   have y:((q.1.map I).length+1) * 8<=140737488355328:=by rw [List.length_map];omega
   clear u j;cases K with
   |true=>
    rw [if_pos rfl] at g;generalize (vk (MM.fld L17 name) [L,M,P,G,Q,N,O,H,R,J]:Int)=z at *
    have m:(wg L17 s name (ts.take (i+1)) ([],st)).1.map I=q.1.map I++[I z]:=by rw [g];exact C z
    have o:(wg L17 s name (ts.take (i+1)) ([],st)).2=B:=by rw [g]
    rcases F with rfl|rfl
    all_goals
     repeat' ((conv=>whnf);first|refine uc _ (W) ?_|(exact ⟨(i+1,64),⟨h,Or.inl rfl⟩,A,by (repeat' (first|(exact leI D)|(exact ug m)|((refine leT ?_;rw [o]))|exact wJ|refine And.intro ?_ ?_));done⟩)|(refine And.intro (by first|exact y) ?_)|refine aS ?_|fail)
   |false=>
    rw [if_neg (by simp)] at g;have m:(wg L17 s name (ts.take (i+1)) ([],st)).1.map I=q.1.map I++[I (-1)]:=by rw [g];exact C _
    have o:(wg L17 s name (ts.take (i+1)) ([],st)).2=B:=by rw [g]
    rcases F with rfl|rfl
    all_goals
     repeat' ((conv=>whnf);first|(exact ⟨(i+1,67),⟨h,Or.inr rfl⟩,A,by (repeat' (first|(exact leI D)|(exact ug m)|((refine leT ?_;rw [o]))|exact wJ|refine And.intro ?_ ?_));done⟩)|(refine And.intro (by first|exact y) ?_)|refine aS ?_|fail)
  ·have l: ¬(i:Int)<((ts.map tri).length:Int):=by omega
   obtain rfl:i=ts.length:=by omega
   rw [List.take_length];rcases F with rfl|rfl <;> repeat' ((conv=>whnf);first|refine su l ?_|(exact ⟨(),trivial,by (repeat' (first|(exact AX rfl)|exact wJ|refine And.intro ?_ ?_));done⟩)|refine aS ?_|fail)
 ·rintro _ _
  repeat' ((conv=>whnf);first|refine aS ?_|exact trivial)
theorem EP(l:List Fd)(b:LOk l)(j:uA l ⟨#[]⟩=false)(h:List Int)(f:HOk h)(name:ByteArray)(n:Int)(p:0<=n):DCalls Tryz.prog 61 [fds l,hd h,.str name,I n] (hd (wrF l h name n)):=by
 have c:=Bq l b name;have k:=xA b f (name:=name) p;have o:=eqS name ⟨#[]⟩;refine dl2 mixed [.cell 8 27] [hd _] Tryz.func61 Go.ST4.l61 ?_;cases a:uA l name with
 |false=>
  have m:wrF l h name n=h:=by unfold wrF;rw [a];rfl
  rw [a] at c;rw [m];obtain ⟨x0,x1,x2,x3,x4,x5,x6,x7,x8,x9,rfl⟩:=ten f
  repeat' ((conv=>whnf);first|refine uc _ (c) ?_|refine aS ?_|exact trivial)
 |true=>
  have g:name≠⟨#[]⟩:=fun e=>by rw [e,j] at a;cases a
  rw [decide_eq_false g] at o;rw [a] at c;have r:=t66 _ (yp b a);have A:=Nat.two_pow_pos (fld l name).w;have i:=t52 _ (yp b a) h f (min n ((2^(fld l name).w - 1:Nat):Int)).toNat (by omega);have m:wrF l h name n=yA (fld l name) h (min n ((2^(fld l name).w - 1:Nat):Int)).toNat:=by unfold wrF;rw [if_pos a]
  rw [<- m,Int.toNat_of_nonneg (by omega), <-Dr] at i;obtain ⟨x0,x1,x2,x3,x4,x5,x6,x7,x8,x9,rfl⟩:=ten f;obtain ⟨v,y,B,s,C,x,z,t,D,u,q⟩:=ten k;rw [q] at i ⊢
  repeat' ((conv=>whnf);first|refine uc _ (c) ?_|refine nb_ _ o ?_|refine uc _ (r) ?_|refine uc _ (i) ?_|refine aS ?_|exact trivial)
theorem I1(s:RS)(e:RE)(tick:Int)(u:1<=s.n/\s.n<=65535)(p:1<=s.m/\s.m<=1073741824)(B:0<=tick/\tick<=1073741824)(l:0<=e.n/\e.n<=65535)(r:0<=e.at_/\e.at_<=1073741824):
  DCalls Tryz.prog 64 [vu s,um e,I tick] (um (wh s e tick)):=by
 obtain ⟨w,q,key,j,n,m⟩:=s;obtain ⟨v,z,f,a⟩:=e;dsimp only at u p l r;refine dl2 mixed [.cell 6 64] [um _] Tryz.func64 Go.ST4.l64 ?_;have g:m≠0:=by omega
 unfold wh;dsimp only
 by_cases c:tick>a
 ·rw [if_pos c];have o:0<=(tick - a).tdiv m:=Int.tdiv_nonneg (by omega) (by omega);have y:(tick - a).tdiv m<=tick - a:=Int.tdiv_le_self _ (by omega);have A:(tick - a).tdiv m * m<=tick - a:=by
   rw [Int.tdiv_eq_ediv_of_nonneg (by omega)];exact Int.ediv_mul_le _ (by omega)
  have x:0<=(tick - a).tdiv m * m:=Int.mul_nonneg o (by omega);have t:W64 (tick - a)=tick - a:=nW (by omega) (by omega);have k:W64 ((W64 (tick - a)).tdiv m)=(tick - a).tdiv m:=by rw [t];exact nW (by omega) (by omega)
  have i:W64 (f+W64 ((W64 (tick - a)).tdiv m))=f+(tick - a).tdiv m:=by rw [k];exact nW (by omega) (by omega)
  have h:W64 (a+W64 (W64 ((W64 (tick - a)).tdiv m) * m))=a+(tick - a).tdiv m * m:=by
   rw [k,show W64 ((tick - a).tdiv m * m)=(tick - a).tdiv m * m from nW (by omega) (by omega)];exact nW (by omega) (by omega)
  rw [<- i, <-h]
  by_cases b:W64 (f+W64 ((W64 (tick - a)).tdiv m))>=n
  ·rw [if_pos b]
   repeat' ((conv=>whnf);first|exact trivial|refine sC c ?_|refine sC b ?_|(refine And.intro (by first|exact g) ?_)|refine aS ?_|refine nT_ ?_)
  ·rw [if_neg b]
   repeat' ((conv=>whnf);first|exact trivial|refine sC c ?_|refine su b ?_|(refine And.intro (by first|exact g) ?_)|refine aS ?_|refine nT_ ?_)
 ·rw [if_neg c];have i:W64 (f+0)=f+0:=nW (by omega) (by omega);have h:W64 (a+W64 (0 * m))=a+0 * m:=by
   rw [Int.zero_mul,show W64 0=0 from nW (by omega) (by omega)];exact nW (by omega) (by omega)
  rw [<- i, <-h]
  by_cases b:W64 (f+0)>=n
  ·rw [if_pos b]
   repeat' ((conv=>whnf);first|exact trivial|refine su c ?_|refine sC b ?_|refine aS ?_|refine nT_ ?_)
  ·rw [if_neg b]
   repeat' ((conv=>whnf);first|exact trivial|refine su c ?_|refine su b ?_|refine aS ?_|refine nT_ ?_)
def Fh(o:List RE)(a b:Int):Int:=if vz o o.length a<=b then vz o o.length a else -1
theorem JZ(st:List RE)(v:ByteArray)(L:st.length<2^40)(a l:Int)(S:0<=a/\a<=65535)(U:l<=2^40):
  DCalls Tryz.prog 63 [esT st,.str v,I a,I l] (I (Fh (ofE st v) a l)):=by
 refine dl2 mixed [.tmp 8] [I _] Tryz.func63 Go.ST4.l63 ?_;have Q:=NB st v L;have M:(ofE st v).length<=st.length:=List.length_filter_le _ _;generalize ofE st v=o at *
 have C:((o.map um).length:Int)=o.length:=by rw [List.length_map]
 have r:=xL o o.length a;have p:=Ae o a;unfold Fh;obtain ⟨F,O⟩: ∃F,F=vz o o.length a:=⟨_,rfl⟩
 rw [<- O] at r p ⊢;obtain ⟨X,R,J⟩:=r
 repeat' ((conv=>whnf);first|refine uc _ (Q) ?_)
 refine tx 0 (α:=Nat) (β:=Unit) (fun j=>{sl:=[(2,.t (I a)),(3,.t (I l)),(9,.t (esT o)),(10,.t (I (a+(j:Int))))],bx:=[]})
  (fun j=>j<=o.length/\a+(j:Int)<=F) (fun j=>o.length - j) (fun _=>{sl:=[],bx:=[]}) (fun _=> ¬F<=l) 0 ⟨Nat.zero_le _,by omega⟩ ?_ ?_ ?_
 ·have e0:a+((0:Nat):Int)=a:=by omega
  repeat' (first|(exact leI e0)|exact wJ|refine And.intro ?_ ?_)
 ·rintro j ⟨V,y⟩;have E:IntKind.wrap .i64 (a+((o.map um).length:Int))=a+o.length:=by rw [C];exact nW (by omega) (by omega)
  have G:a+(j:Int)<=IntKind.wrap .i64 (a+((o.map um).length:Int)):=by rw [E];omega
  by_cases c:a+(j:Int)<=l
  ·repeat' ((conv=>whnf);first|refine sC c ?_|refine sC G ?_|refine aS ?_|fail)
   refine tx 2 (α:=Nat) (β:=Unit) (fun i=>{sl:=[(2,.t (I a)),(3,.t (I l)),(9,.t (esT o)),(10,.t (I (a+(j:Int)))),(11,.t (.bool (uS (o.take i) (a+(j:Int))))),(12,.t (I i))],bx:=[]})
    (fun i=>i<=o.length) (fun i=>o.length - i) (fun _=>{sl:=[(2,.t (I a)),(3,.t (I l)),(9,.t (esT o)),(10,.t (I (a+(j:Int)))),(11,.t (.bool (uS o (a+(j:Int)))))],bx:=[]}) (fun _=>True) 0 (Nat.zero_le _) ?_ ?_ ?_
   ·repeat' (first|exact wJ|refine And.intro ?_ ?_)
   ·rintro i H;rcases Nat.lt_or_ge i o.length with h|h
    ·have g:(i:Int)<((o.map um).length:Int):=by omega
     have k:((i+1:Nat):Int)=IntKind.wrap .i64 ((i:Int)+1):=by rw [nW] <;> omega
     have f:uS (o.take (i+1)) (a+(j:Int))=(uS (o.take i) (a+(j:Int))||decide (o[i].n=a+(j:Int))):=by
      unfold uS;rw [List.take_succ_eq_append_getElem h,List.any_append];simp
     have u:=ggZ h;generalize o[i]=x at *
     obtain ⟨W,Y,D,Z⟩:=x;cases m:uS (o.take i) (a+(j:Int)) with
     |true=>
      rw [m,Bool.true_or] at f;have s:=congrArg T.bool f
      repeat' ((conv=>whnf);first|refine sC g ?_|(exact ⟨i+1,h,(by omega),by (repeat' (first|(exact leI k)|(exact leT s)|exact wJ|refine And.intro ?_ ?_));done⟩)|refine aS ?_|fail)
     |false=>
      rw [m,Bool.false_or] at f
      by_cases w:D=a+(j:Int)
      ·rw [decide_eq_true w] at f;have s:=congrArg T.bool f
       repeat' ((conv=>whnf);first|refine sC g ?_|(refine nv_ (I D) (by first|(simp [u,um,uk,T.cells];done)|fail) ?_)|refine sE w ?_|(exact ⟨i+1,h,(by omega),by (repeat' (first|(exact leI k)|(exact leT s)|exact wJ|refine And.intro ?_ ?_));done⟩)|(refine And.intro (by first|((simp [u,um,uk,T.cells]);done)|fail) ?_)|refine aS ?_|refine nT_ ?_)
      ·rw [decide_eq_false w] at f;have s:=congrArg T.bool f
       repeat' ((conv=>whnf);first|refine sC g ?_|(refine nv_ (I D) (by first|(simp [u,um,uk,T.cells];done)|fail) ?_)|refine sD w ?_|(exact ⟨i+1,h,(by omega),by (repeat' (first|(exact leI k)|(exact leT s)|exact wJ|refine And.intro ?_ ?_));done⟩)|(refine And.intro (by first|((simp [u,um,uk,T.cells]);done)|fail) ?_)|refine aS ?_|refine nT_ ?_)
    ·have g: ¬(i:Int)<((o.map um).length:Int):=by omega
     have e0:T.bool (uS o (a+(j:Int)))= .bool (uS (o.take i) (a+(j:Int))):=by rw [List.take_of_length_le h]
     repeat' ((conv=>whnf);first|refine su g ?_|(exact ⟨(),trivial,by (repeat' (first|(exact leT e0)|exact wJ|refine And.intro ?_ ?_));done⟩)|refine aS ?_|fail)
   ·rintro - -;have k:a+((j+1:Nat):Int)=IntKind.wrap .i64 (a+(j:Int)+1):=by rw [nW (by omega) (by omega)];omega
    have N:(uS o (a+(j:Int))=true/\j+1<=o.length/\a+((j+1:Nat):Int)<=F)\/(uS o (a+(j:Int))=false/\F=a+(j:Int)):=by
     cases m:uS o (a+(j:Int)) with
     |true=>
      have K:F≠a+(j:Int):=fun e=>by rw [e,m] at p;cases p
      exact Or.inl ⟨rfl,by omega,by omega⟩
     |false=>
      rcases Int.lt_or_eq_of_le y with A|A
      ·have:=J (a+(j:Int)) (by omega) A
       rw [m] at this;cases this
      ·exact Or.inr ⟨rfl,A.symm⟩
    rcases N with ⟨m,z,P⟩|⟨m,z⟩
    ·generalize uS o (a+(j:Int))=b at *
     subst m;have B:o.length - (j+1)<o.length - j:=by omega
     repeat' ((conv=>whnf);first|(exact ⟨j+1,⟨z,P⟩,B,by (repeat' (first|(exact leI k)|exact wJ|refine And.intro ?_ ?_));done⟩)|fail)
    ·generalize uS o (a+(j:Int))=b at *
     subst m;rw [z,if_pos c]
     repeat' ((conv=>whnf);first|refine rix ?_|exact trivial)
  ·have q: ¬F<=l:=by omega
   repeat' ((conv=>whnf);first|refine su c ?_|(exact ⟨(),q,by (repeat' (first|exact wJ|refine And.intro ?_ ?_));done⟩)|refine aS ?_|fail)
 ·rintro - q;rw [if_neg q]
  repeat' ((conv=>whnf);first|refine rix ?_|exact trivial)
abbrev vt(d:Dn):T:=.agg (d.h.map I++[.bool d.pass,esT d.st])
def zT(l:List Fd)(s:RS)(st:List RE)(h:List Int):Dn:=⟨(do5 l s (ofE st s.var) h).1,(do5 l s (ofE st s.var) h).2.1,st⟩
theorem B2(l:List Fd)(s:RS)(st:List RE)(h:List Int):zT l s st h=match st.find? fun x=>decide (x.var=s.var)&&decide (x.n=(vk (fld l s.field) h:Int)) with
  |some e=>⟨wT l s.key e.key h,true,st⟩
  |none=>⟨h,false,st⟩:=by
 have b:((ofE st s.var).find? fun x=>decide (x.n=(vk (fld l s.field) h:Int)))=st.find? fun x=>decide (x.var=s.var)&&decide (x.n=(vk (fld l s.field) h:Int)):=by
  unfold ofE;rw [List.find?_filter]
  congr 1
  funext a
  simp
 unfold zT do5;rw [<- b];split <;> rename_i c <;> rw [c]
theorem JX{l:List Fd}{s:RS}{st:List RE}{h:List Int}(G:LOk l)(hno:uA l ⟨#[]⟩=false)(hlen:st.length<2^40)(S:s.key.length<2^40)(hh:HOk h)(z:uA l s.field=true)(K: ∀x∈st,x.var=s.var->x.key.length=s.key.length/\ ∀v∈x.key,0<=v):
  DCalls Tryz.prog 59 [fds l,vu s,esT st,hd h] (vt (zT l s st h)):=by
 have hF:=Bq l G s.field;rw [z] at hF;have W:=t57 _ (yp G z) _ hh;rw [B2];obtain ⟨N,b,key,c,n,m⟩:=s;dsimp only at hF W K S z ⊢;obtain ⟨g,hg⟩: ∃g:Nat,g=vk (fld l c) h:=⟨_,rfl⟩
 rw [<- hg] at W ⊢;obtain ⟨x0,x1,x2,x3,x4,x5,x6,x7,x8,x9,hx⟩:=ten hh;have hn:((st.map um).length:Int)=st.length:=by rw [List.length_map]
 have hm:((key.map T.str).length:Int)=key.length:=by rw [List.length_map]
 have u: ∀r:List T,(∀ (e:RE) (q:H10),st.find? (fun x=>decide (x.var=b)&&decide (x.n=(g:Int)))=some e->q.ls=wT l key e.key h->r=q.ls.map I++[.bool true,esT st])->(st.find? (fun x=>decide (x.var=b)&&decide (x.n=(g:Int)))=none->r=h.map I++[.bool false,esT st])->
   DCalls Tryz.prog 59 [fds l,vu ⟨N,b,key,c,n,m⟩,esT st,hd h] (.agg r):=fun r rs rn=>by
  refine dl2 mixed [.cell 8 46] [.agg r] Tryz.func59 Go.ST4.l59 ?_;subst hx;clear hg
  repeat' ((conv=>whnf);first|refine uc _ (hF) ?_|refine uc _ (W) ?_|refine aS ?_|refine nT_ ?_)
  refine tx 0 (α:=Nat) (β:=Unit) (fun i=>{sl:=[(0,.t (fds l)),(2,.t (esT st)),(5,.ptr 5 0),(7,.ptr 7 0),(8,.ptr 8 0),(11,.t (I (g:Int))),(12,.t (I i))],bx:=[(5,.d 6 (ur ⟨N,b,key,c,n,m⟩)),(7,.d 10 [I x0,I x1,I x2,I x3,I x4,I x5,I x6,I x7,I x8,I x9]),(8,.d 12 [I 0,I 0,I 0,I 0,I 0,I 0,I 0,I 0,I 0,I 0,.bool false,.nil])]})
   (fun i=>i<=st.length/\st.find? (fun x=>decide (x.var=b)&&decide (x.n=(g:Int)))=(st.drop i).find? (fun x=>decide (x.var=b)&&decide (x.n=(g:Int)))) (fun i=>st.length - i)
   (fun _=>{sl:=[(2,.t (esT st)),(7,.ptr 7 0),(8,.ptr 8 0)],bx:=[(7,.d 10 [I x0,I x1,I x2,I x3,I x4,I x5,I x6,I x7,I x8,I x9]),(8,.d 12 [I 0,I 0,I 0,I 0,I 0,I 0,I 0,I 0,I 0,I 0,.bool false,.nil])]}) (fun _=>st.find? (fun x=>decide (x.var=b)&&decide (x.n=(g:Int)))=none) 0 ⟨Nat.zero_le _,rfl⟩ ?_ ?_ ?_
  ·repeat' (first|exact wJ|refine And.intro ?_ ?_)
  ·rintro i ⟨hi,a⟩;rcases Nat.lt_or_ge i st.length with h|h
   ·have k:(i:Int)<((st.map um).length:Int):=by omega
    have J:((i+1:Nat):Int)=IntKind.wrap .i64 ((i:Int)+1):=by rw [nW] <;> omega
    have o:=ggZ h;have Ag:=List.getElem_mem h;rw [List.drop_eq_getElem_cons h,List.find?_cons] at a;generalize st[i]=x at *
    obtain ⟨C,f,L,xa⟩:=x;dsimp only at a;have F:=eqS C b
    by_cases Q:C=b
    ·rw [decide_eq_true Q] at F a
     by_cases M:L=(g:Int)
     ·rw [decide_eq_true M] at a;have a:st.find? (fun x=>decide (x.var=b)&&decide (x.n=(g:Int)))=some ⟨C,f,L,xa⟩:=a;obtain ⟨O,aH⟩:=K _ Ag Q;dsimp only at O aH;have hxl:((f.map I).length:Int)=key.length:=by rw [List.length_map];omega
      repeat' ((conv=>whnf);first|refine sC k ?_|(refine nv_ (.str C) (by first|(simp [o,um,uk,T.cells];done)|fail) ?_)|(refine nv_ (I L) (by first|(simp [o,um,uk,T.cells];done)|fail) ?_)|refine nb_ _ F ?_|refine sE M ?_|(refine And.intro (by first|((simp [o,um,uk,T.cells]);done)|fail) ?_)|refine aS ?_|refine nT_ ?_)
      refine tx 2 (α:=Nat×H10) (β:=H10) (fun q=>{sl:=[(0,.t (fds l)),(2,.t (esT st)),(5,.ptr 5 0),(7,.ptr 7 0),(8,.ptr 8 0),(11,.t (I (g:Int))),(12,.t (I i)),(13,.ptr 13 0),(14,.t (I q.1))],bx:=[(5,.d 6 (ur ⟨N,b,key,c,n,m⟩)),(7,.d 10 [I x0,I x1,I x2,I x3,I x4,I x5,I x6,I x7,I x8,I x9]),(8,.d 12 [I 0,I 0,I 0,I 0,I 0,I 0,I 0,I 0,I 0,I 0,.bool false,.nil]),(13,.d 10 (q.2.ls.map I))]})
       (fun q=>q.1<=key.length/\q.2.ls=wT l (key.take q.1) (f.take q.1) [x0,x1,x2,x3,x4,x5,x6,x7,x8,x9]) (fun q=>key.length - q.1)
       (fun q=>{sl:=[(2,.t (esT st)),(8,.ptr 8 0),(13,.ptr 13 0)],bx:=[(8,.d 12 [I 0,I 0,I 0,I 0,I 0,I 0,I 0,I 0,I 0,I 0,.bool false,.nil]),(13,.d 10 (q.ls.map I))]}) (fun q=>q.ls=wT l key f [x0,x1,x2,x3,x4,x5,x6,x7,x8,x9]) (0,⟨x0,x1,x2,x3,x4,x5,x6,x7,x8,x9⟩) ⟨Nat.zero_le _,rfl⟩ ?_ ?_ ?_
      ·repeat' (first|exact wJ|refine And.intro ?_ ?_)
      ·rintro ⟨j,q⟩ ⟨hj,B⟩;dsimp only at hj B;rcases Nat.lt_or_ge j key.length with w|w
       ·have P:(j:Int)<((key.map T.str).length:Int):=by omega
        have Mr:((j+1:Nat):Int)=IntKind.wrap .i64 ((j:Int)+1):=by rw [nW] <;> omega
        have y:j<f.length:=by omega
        have D:HOk q.ls:=by rw [B];exact yL G hh fun v hv=>aH v (List.mem_of_mem_take hv)
        have E:0<=f[j]:=aH _ (List.getElem_mem y);have hW:=EP l G hno q.ls D key[j] f[j] E;have H:wT l (key.take (j+1)) (f.take (j+1)) [x0,x1,x2,x3,x4,x5,x6,x7,x8,x9]=wrF l q.ls key[j] f[j]:=by
         rw [List.take_succ_eq_append_getElem w,List.take_succ_eq_append_getElem y,Bf _ _ _ _ _ _ (by rw [List.length_take,List.length_take];omega),B]
        have Y:(key.map T.str)[((j:Int)).toNat]?.getD .nil= .str key[j]:=by simp [w]
        have Z:(f.map I)[((j:Int)).toNat]?.getD .nil=I f[j]:=by simp [y]
        obtain ⟨y0,y1,y2,y3,y4,y5,y6,y7,y8,y9,hy⟩:=ten (xA G D (name:=key[j]) E);rw [hy] at hW H;have U:0<=(j:Int)/\(j:Int)<((f.map I).length:Int):=by omega
        have R:0<=(i:Int)/\(i:Int)<((st.map um).length:Int):=by omega
        generalize key[j]=nm at *
        generalize f[j]=vl at *
        obtain ⟨z0,z1,z2,z3,z4,z5,z6,z7,z8,z9⟩:=q;have V:key.length - (j+1)<key.length - j:=by omega
        repeat' ((conv=>whnf);first|refine sC P ?_|(refine nv_ (.str nm) (by first|exact Y) ?_)|(refine nv_ (.slice 1 (f.map I)) (by first|(simp [o,um,uk,T.cells];done)|fail) ?_)|(refine nv_ (I vl) (by first|exact Z) ?_)|refine uc _ (hW) ?_|(exact ⟨(j+1,⟨y0,y1,y2,y3,y4,y5,y6,y7,y8,y9⟩),⟨w,H.symm⟩,V,by (repeat' (first|(exact leI Mr)|exact wJ|refine And.intro ?_ ?_));done⟩)|(refine And.intro (by first|exact U|exact R|((simp [o,um,uk,T.cells]);done)|fail) ?_)|refine aS ?_|refine nT_ ?_)
       ·have P: ¬(j:Int)<((key.map T.str).length:Int):=by omega
        have hq2:q.ls=wT l key f [x0,x1,x2,x3,x4,x5,x6,x7,x8,x9]:=by rw [B,List.take_of_length_le w,List.take_of_length_le (by omega)]
        repeat' ((conv=>whnf);first|refine su P ?_|(exact ⟨q,hq2,by (repeat' (first|exact wJ|refine And.intro ?_ ?_));done⟩)|refine aS ?_|refine nT_ ?_)
      ·rintro q B;have X:=rs _ q a B;subst X;obtain ⟨z0,z1,z2,z3,z4,z5,z6,z7,z8,z9⟩:=q
       repeat' ((conv=>whnf);first|refine aS ?_|exact trivial)
     ·rw [decide_eq_false M] at a
      repeat' ((conv=>whnf);first|refine sC k ?_|(refine nv_ (.str C) (by first|(simp [o,um,uk,T.cells];done)|fail) ?_)|(refine nv_ (I L) (by first|(simp [o,um,uk,T.cells];done)|fail) ?_)|refine nb_ _ F ?_|refine sD M ?_|(exact ⟨i+1,⟨h,a⟩,(by omega),by (repeat' (first|(exact leI J)|exact wJ|refine And.intro ?_ ?_));done⟩)|(refine And.intro (by first|((simp [o,um,uk,T.cells]);done)|fail) ?_)|refine aS ?_|refine nT_ ?_)
    ·rw [decide_eq_false Q] at F a
     repeat' ((conv=>whnf);first|refine sC k ?_|(refine nv_ (.str C) (by first|(simp [o,um,uk,T.cells];done)|fail) ?_)|refine nb_ _ F ?_|(exact ⟨i+1,⟨h,a⟩,(by omega),by (repeat' (first|(exact leI J)|exact wJ|refine And.intro ?_ ?_));done⟩)|(refine And.intro (by first|((simp [o,um,uk,T.cells]);done)|fail) ?_)|refine aS ?_|refine nT_ ?_)
   ·have k: ¬(i:Int)<((st.map um).length:Int):=by omega
    rw [List.drop_eq_nil_of_le h] at a
    repeat' ((conv=>whnf);first|refine su k ?_|(exact ⟨(),a,by (repeat' (first|exact wJ|refine And.intro ?_ ?_));done⟩)|refine aS ?_|fail)
  ·rintro - cG;have X:=rn cG;subst X
   repeat' ((conv=>whnf);first|refine aS ?_|exact trivial)
 cases A:st.find? (fun x=>decide (x.var=b)&&decide (x.n=(g:Int))) with
 |none=>
  exact u _ (fun e q p=>by rw [A] at p;cases p) (fun _=>rfl)
 |some x=>
  refine u _ (fun e q p w=>?_) (fun p=>by rw [A] at p;cases p);rw [A] at p;cases p;rw [w]
theorem H9{l:List Fd}{s:RS}{st:List RE}{h:List Int}{tick:Int}(f:HOk h)(a:s.kind=0):DCalls Tryz.prog 12 [fds l,vu s,esT st,hd h,I tick] (vt (doE l s st h tick)):=by
 have c:doE l s st h tick=⟨h,true,st⟩:=by unfold doE we doR;rw [if_pos a];rfl
 rw [c];obtain ⟨x0,x1,x2,x3,x4,x5,x6,x7,x8,x9,rfl⟩:=ten f;obtain ⟨g,e,key,b,n,m⟩:=s;dsimp only at a;subst a;refine dl2 mixed [.cell 10 46] [vt _] Tryz.func12 Go.ST4.l12 ?_
 repeat' ((conv=>whnf);first|exact trivial|refine aE1 ?_|refine aS ?_|refine nT_ ?_)
theorem Ix(f:Option RE): ∃(ev:ByteArray) (c:T) (a b:Int),G6 f= .tup [.agg [.str ev,c,I a,I b],.bool f.isSome]/\a=(f.map (·.n)).getD 0/\(∀ x,f=some x->a=x.n/\b=x.at_):=by
 cases f with
 |none=>exact ⟨_,_,_,_,rfl,rfl,fun x h=>by cases h⟩
 |some x=>exact ⟨_,_,_,_,rfl,rfl,fun y h=>by cases h;exact ⟨rfl,rfl⟩⟩
theorem NA{l:List Fd}{s:RS}{st:List RE}{h:List Int}{tick:Int}(p:B1 l s st h tick)(v: ∀x∈st,kOk x):DCalls Tryz.prog 12 [fds l,vu s,esT st,hd h,I tick] (vt (doE l s st h tick)):=by
 by_cases hk0:s.kind=0
 ·exact H9 p.hok hk0
 obtain ⟨f,R⟩: ∃f,f=uB st s.var (keyOf l s.key h):=⟨_,rfl⟩
 obtain ⟨o,O⟩: ∃o,o=ofE st s.var:=⟨_,rfl⟩
 have hlen:=p.len;have hol:o.length<=1000000:=by rw [O];exact Nat.le_trans (List.length_filter_le _ _) hlen
 have Ha:(keyOf l s.key h).length<=1000:=by unfold keyOf;rw [List.length_map];exact p.klen
 have U: ∀x,f=some x->0<=x.n/\x.n<=65535/\0<=x.at_/\x.at_<=1073741824:=fun x P=>by
  rw [R] at P;exact p.num x (vP P).1
 have K: ∀n a,DCalls Tryz.prog 62 [esT st,.agg [.str s.var,.slice 1 ((keyOf l s.key h).map I),I n,I a]] (esT (uK ⟨s.var,keyOf l s.key h,n,a⟩ st)):=fun n a=>by
  have:=KU st (by omega) v ⟨s.var,keyOf l s.key h,n,a⟩ (show (keyOf l s.key h).length<2^60 by omega)
  rwa [GB p.inc] at this
 have H:doE l s st h tick=⟨(doR l s f o h tick).1,(doR l s f o h tick).2.1,cN (doR l s f o h tick).2.2 st⟩:=by unfold doE we;rw [<- R, <-O]
 have Y:uX f o=(!f.isSome&&decide (100<=o.length)):=by unfold uX;rw [xO]
 have ht0:=p.t0;have ht1:=p.t1;have wN:=FF l p.lok s.key p.keys (by have:=p.klen;omega) h p.hok;have L:=JU st (by omega) v s.var (keyOf l s.key h) (by omega);rw [<- R] at L;have yV:=CF st s.var (by omega);have hcn:uC st s.var=o.length:=by rw [O];rfl
 rw [hcn] at yV;obtain ⟨ev,kt,en,ea,A,j,S⟩:=Ix f;rw [A] at L;have X:=fun (n:Int) (h0:0<=n)=>EP l p.lok p.no h p.hok s.field n h0
 have y:=fun (n:Int) (h0:0<=n)=>ten (xA p.lok p.hok (name:=s.field) h0)
 have heb:0<=en/\en<=65535:=by
  cases f with
  |none=>rw [j];exact ⟨Int.le_refl 0,(by show (0:Int)<=65535;omega)⟩
  |some x=>obtain ⟨g1,g2⟩:=S x rfl;have:=U x rfl;omega
 have hkp:=p.k0;have NQ:=p.k1;have Fm:s.kind=1\/s.kind=2\/s.kind=3\/s.kind=4\/s.kind=5\/s.kind=6:=by omega
 have hgo:(f.isSome=true/\uX f o=false)\/(f.isSome=false/\(o.length:Int)>=100/\uX f o=true)\/(f.isSome=false/\ ¬(o.length:Int)>=100/\uX f o=false):=by
  rw [Y];cases f.isSome with
  |true=>exact Or.inl ⟨rfl,rfl⟩
  |false=>
   by_cases c:100<=o.length
   ·exact Or.inr (Or.inl ⟨rfl,by omega,by rw [decide_eq_true c];rfl⟩)
   ·exact Or.inr (Or.inr ⟨rfl,by omega,by rw [decide_eq_false c];rfl⟩)
 have w:s.kind=1->doR l s f o h tick=do1 l s f o h tick (keyOf l s.key h):=fun e=>by unfold doR;rw [if_neg hk0,if_pos e]
 have r:s.kind=2->doR l s f o h tick=do2 s f o h tick (keyOf l s.key h):=fun e=>by unfold doR;rw [if_neg hk0,if_neg (by omega),if_pos e]
 have q:s.kind=3->doR l s f o h tick=do3 s f h tick:=fun e=>by unfold doR;rw [if_neg hk0,if_neg (by omega),if_neg (by omega),if_pos e]
 have u:s.kind=4->doR l s f o h tick=do4 l s f o h tick (keyOf l s.key h):=fun e=>by unfold doR;rw [if_neg hk0,if_neg (by omega),if_neg (by omega),if_neg (by omega),if_pos e]
 have B:s.kind=5->doR l s f o h tick=do5 l s o h:=fun e=>by unfold doR;rw [if_neg hk0,if_neg (by omega),if_neg (by omega),if_neg (by omega),if_neg (by omega),if_pos e]
 have t:s.kind=6->doR l s f o h tick=do6 s f o h tick (keyOf l s.key h):=fun e=>by unfold doR;rw [if_neg hk0,if_neg (by omega),if_neg (by omega),if_neg (by omega),if_neg (by omega),if_neg (by omega)]
 obtain ⟨x0,x1,x2,x3,x4,x5,x6,x7,x8,x9,P⟩:=ten p.hok;have hk3:=p.k3;have hk4:=p.k4;have hk5:=p.k5;have hk6:=p.k6;have JE:=p.lok;have hno:=p.no;have V:=p.hok;have Z:=p.inc;have NL:=p.klen;clear p;rcases Fm with z|z|z|z|z|z
 ·have hN:(if (65535:Int)<IntKind.wrap .i64 (en+1) then 65535 else IntKind.wrap .i64 (en+1))=min (en+1) 65535:=by rw [nW (by omega) (by omega)];split <;> omega
  have Q:=X (min (en+1) 65535) (by omega);obtain ⟨y0,y1,y2,y3,y4,y5,y6,y7,y8,y9,hy⟩:=y (min (en+1) 65535) (by omega);have C:=K (min (en+1) 65535) tick;rw [hy] at Q;have hdd:uX f o=false->doE l s st h tick=⟨[y0,y1,y2,y3,y4,y5,y6,y7,y8,y9],true,uK ⟨s.var,keyOf l s.key h,min (en+1) 65535,tick⟩ st⟩:=fun b=>by rw [H,w z];unfold do1;rw [b, <-j,hy];rfl
  rw [<- hN] at Q C hdd;clear hN hy;rcases hgo with ⟨M,b⟩|⟨M,hc,b⟩|⟨M,hc,b⟩ <;> rw [M] at L
  ·have i:=hdd b;rw [i];clear hdd;clear X y K H j S U Y w r q u B t i A R O v V Z;generalize keyOf l s.key h=ky at *
   obtain ⟨kk,E,key,g,n,m⟩:=s;dsimp only at *
   subst z;subst P;refine dl2 mixed [.cell 10 46] [vt _] Tryz.func12 Go.ST4.l12 ?_
   repeat' ((conv=>whnf);first|exact trivial|refine uc _ (wN) ?_|refine uc _ (L) ?_|refine uc _ (Q) ?_|refine uc _ (C) ?_|refine aE1 ?_|refine aE0 ?_|refine aS ?_|refine nT_ ?_)
  ·have i:doE l s st h tick=⟨h,false,st⟩:=by rw [H,w z];unfold do1;rw [b];rfl
   rw [i];clear hdd;clear X y K H j S U Y w r q u B t i A R O v V Z;generalize keyOf l s.key h=ky at *
   obtain ⟨kk,E,key,g,n,m⟩:=s;dsimp only at *
   subst z;subst P;refine dl2 mixed [.cell 10 46] [vt _] Tryz.func12 Go.ST4.l12 ?_
   repeat' ((conv=>whnf);first|exact trivial|refine uc _ (wN) ?_|refine uc _ (L) ?_|refine uc _ (yV) ?_|refine sC hc ?_|refine aE0 ?_|refine aS ?_|refine nT_ ?_)
  ·have i:=hdd b;rw [i];clear hdd;clear X y K H j S U Y w r q u B t i A R O v V Z;generalize keyOf l s.key h=ky at *
   obtain ⟨kk,E,key,g,n,m⟩:=s;dsimp only at *
   subst z;subst P;refine dl2 mixed [.cell 10 46] [vt _] Tryz.func12 Go.ST4.l12 ?_
   repeat' ((conv=>whnf);first|exact trivial|refine uc _ (wN) ?_|refine uc _ (L) ?_|refine uc _ (yV) ?_|refine su hc ?_|refine uc _ (Q) ?_|refine uc _ (C) ?_|refine aE1 ?_|refine aE0 ?_|refine aS ?_|refine nT_ ?_)
 ·have C:=K en tick;rcases hgo with ⟨M,b⟩|⟨M,hc,b⟩|⟨M,hc,b⟩ <;> rw [M] at L
  ·have i:doE l s st h tick=⟨h,true,uK ⟨s.var,keyOf l s.key h,en,tick⟩ st⟩:=by rw [H,r z];unfold do2;rw [b, <-j];rfl
   rw [i];clear X y K H j S U Y w r q u B t i A R O v V Z;generalize keyOf l s.key h=ky at *
   obtain ⟨kk,E,key,g,n,m⟩:=s;dsimp only at *
   subst z;subst P;refine dl2 mixed [.cell 10 46] [vt _] Tryz.func12 Go.ST4.l12 ?_
   repeat' ((conv=>whnf);first|exact trivial|refine uc _ (wN) ?_|refine uc _ (L) ?_|refine uc _ (C) ?_|refine aE1 ?_|refine aE0 ?_|refine aS ?_|refine nT_ ?_)
  ·have i:doE l s st h tick=⟨h,false,st⟩:=by rw [H,r z];unfold do2;rw [b];rfl
   rw [i];clear X y K H j S U Y w r q u B t i A R O v V Z;generalize keyOf l s.key h=ky at *
   obtain ⟨kk,E,key,g,n,m⟩:=s;dsimp only at *
   subst z;subst P;refine dl2 mixed [.cell 10 46] [vt _] Tryz.func12 Go.ST4.l12 ?_
   repeat' ((conv=>whnf);first|exact trivial|refine uc _ (wN) ?_|refine uc _ (L) ?_|refine uc _ (yV) ?_|refine sC hc ?_|refine aE0 ?_|refine aS ?_|refine nT_ ?_)
  ·have i:doE l s st h tick=⟨h,true,uK ⟨s.var,keyOf l s.key h,en,tick⟩ st⟩:=by rw [H,r z];unfold do2;rw [b, <-j];rfl
   rw [i];clear X y K H j S U Y w r q u B t i A R O v V Z;generalize keyOf l s.key h=ky at *
   obtain ⟨kk,E,key,g,n,m⟩:=s;dsimp only at *
   subst z;subst P;refine dl2 mixed [.cell 10 46] [vt _] Tryz.func12 Go.ST4.l12 ?_
   repeat' ((conv=>whnf);first|exact trivial|refine uc _ (wN) ?_|refine uc _ (L) ?_|refine uc _ (yV) ?_|refine su hc ?_|refine uc _ (C) ?_|refine aE1 ?_|refine aE0 ?_|refine aS ?_|refine nT_ ?_)
 ·obtain ⟨q1,q2⟩:=hk3 z;cases W:f with
  |none=>
   have M:f.isSome=false:=by rw [W];rfl
   rw [M] at L;have i:doE l s st h tick=⟨h,false,st⟩:=by rw [H,q z,W];rfl
   rw [i];clear hgo W;clear X y K H j S U Y w r q u B t i A R O v V Z;generalize keyOf l s.key h=ky at *
   obtain ⟨kk,E,key,g,n,m⟩:=s;dsimp only at *
   subst z;subst P;refine dl2 mixed [.cell 10 46] [vt _] Tryz.func12 Go.ST4.l12 ?_
   repeat' ((conv=>whnf);first|exact trivial|refine uc _ (wN) ?_|refine uc _ (L) ?_|refine aE1 ?_|refine aE0 ?_|refine aS ?_|refine nT_ ?_)
  |some x=>
   have M:f.isSome=true:=by rw [W];rfl
   rw [M] at L;obtain ⟨g1,g2⟩:=S x W;obtain ⟨b1,b2,b3,b4⟩:=U x W;have hw:IntKind.wrap .i64 (tick - s.n)=tick - s.n:=nW (by omega) (by omega)
   by_cases c:ea>=IntKind.wrap .i64 (tick - s.n)
   ·have i:doE l s st h tick=⟨h,true,st⟩:=by
     rw [H,q z,W];show (Dn.mk h (decide (x.at_>=tick - s.n)) st)=_
     rw [<- g2,decide_eq_true (by rw [hw] at c;exact c)]
    rw [i];clear hgo W hw;clear X y K H j S U Y w r q u B t i A R O v V Z;generalize keyOf l s.key h=ky at *
    obtain ⟨kk,E,key,g,n,m⟩:=s;dsimp only at *
    subst z;subst P;refine dl2 mixed [.cell 10 46] [vt _] Tryz.func12 Go.ST4.l12 ?_
    repeat' ((conv=>whnf);first|exact trivial|refine uc _ (wN) ?_|refine uc _ (L) ?_|refine sC c ?_|refine aE1 ?_|refine aE0 ?_|refine aS ?_|refine nT_ ?_)
   ·have i:doE l s st h tick=⟨h,false,st⟩:=by
     rw [H,q z,W];show (Dn.mk h (decide (x.at_>=tick - s.n)) st)=_
     rw [<- g2,decide_eq_false (by rw [hw] at c;exact c)]
    rw [i];clear hgo W hw;clear X y K H j S U Y w r q u B t i A R O v V Z;generalize keyOf l s.key h=ky at *
    obtain ⟨kk,E,key,g,n,m⟩:=s;dsimp only at *
    subst z;subst P;refine dl2 mixed [.cell 10 46] [vt _] Tryz.func12 Go.ST4.l12 ?_
    repeat' ((conv=>whnf);first|exact trivial|refine uc _ (wN) ?_|refine uc _ (L) ?_|refine su c ?_|refine aE1 ?_|refine aE0 ?_|refine aS ?_|refine nT_ ?_)
 ·obtain ⟨b1,b2,b3,b4⟩:=hk4 z;have hFr:=JZ st s.var (by omega) s.n s.m ⟨b1,b2⟩ (by omega);rw [show ofE st s.var=o from O.symm] at hFr;unfold Fh at hFr;have hsp:=xL o o.length s.n;obtain ⟨F,hFF⟩: ∃F,F=vz o o.length s.n:=⟨_,rfl⟩
  rw [<- hFF] at hFr hsp;have hdT: ∀N,wA s f o=N->0<=N->(uX f o||(f.isNone&&decide (N>s.m)))=false-> ∃y0 y1 y2 y3 y4 y5 y6 y7 y8 y9,DCalls Tryz.prog 61 [fds l,hd h,.str s.field,I N] (hd [y0,y1,y2,y3,y4,y5,y6,y7,y8,y9])/\doE l s st h tick=⟨[y0,y1,y2,y3,y4,y5,y6,y7,y8,y9],true,uK ⟨s.var,keyOf l s.key h,N,tick⟩ st⟩:=fun N hN h0 b=>by
   obtain ⟨y0,y1,y2,y3,y4,y5,y6,y7,y8,y9,hy⟩:=y N h0;have Q:=X N h0;rw [hy] at Q;refine ⟨y0,y1,y2,y3,y4,y5,y6,y7,y8,y9,Q,?_⟩;rw [H,u z];unfold do4;rw [hN,b,hy];rfl
  have J: ∀N,wA s f o=N->(uX f o||(f.isNone&&decide (N>s.m)))=true->doE l s st h tick=⟨h,false,st⟩:=fun N hN b=>by
   rw [H,u z];unfold do4;rw [hN,b];rfl
  rcases hgo with ⟨M,b⟩|⟨M,hc,b⟩|⟨M,hc,b⟩ <;> rw [M] at L
  ·have hN:wA s f o=en:=by
    cases f with
    |none=>cases M
    |some x=>exact (S x rfl).1.symm
   obtain ⟨y0,y1,y2,y3,y4,y5,y6,y7,y8,y9,Q,i⟩:=hdT en hN heb.1 (by rw [b,xO,M];rfl);have C:=K en tick;have hn0: ¬en<0:=by omega
   rw [i];clear hdT J hFr hsp hFF hN;clear X y K H j S U Y w r q u B t i A R O v V Z;generalize keyOf l s.key h=ky at *
   obtain ⟨kk,E,key,g,n,m⟩:=s;dsimp only at *
   subst z;subst P;refine dl2 mixed [.cell 10 46] [vt _] Tryz.func12 Go.ST4.l12 ?_
   repeat' ((conv=>whnf);first|exact trivial|refine uc _ (wN) ?_|refine uc _ (L) ?_|refine su hn0 ?_|refine uc _ (Q) ?_|refine uc _ (C) ?_|refine aE1 ?_|refine aE0 ?_|refine aS ?_|refine nT_ ?_)
  ·have i:=J _ rfl (by rw [b];rfl);rw [i];clear hdT J hFr hsp hFF;clear X y K H j S U Y w r q u B t i A R O v V Z;generalize keyOf l s.key h=ky at *
   obtain ⟨kk,E,key,g,n,m⟩:=s;dsimp only at *
   subst z;subst P;refine dl2 mixed [.cell 10 46] [vt _] Tryz.func12 Go.ST4.l12 ?_
   repeat' ((conv=>whnf);first|exact trivial|refine uc _ (wN) ?_|refine uc _ (L) ?_|refine uc _ (yV) ?_|refine sC hc ?_|refine aE0 ?_|refine aS ?_|refine nT_ ?_)
  ·have hN:wA s f o=F:=by
    cases f with
    |none=>exact hFF.symm
    |some x=>cases M
   by_cases c:F<=s.m
   ·rw [if_pos c] at hFr;obtain ⟨y0,y1,y2,y3,y4,y5,y6,y7,y8,y9,Q,i⟩:=hdT F hN (by omega) (by rw [b,decide_eq_false (by omega),Bool.and_false];rfl);have C:=K F tick;have hn0: ¬F<0:=by omega
    rw [i];clear hdT J hsp hFF hN;clear X y K H j S U Y w r q u B t i A R O v V Z;generalize keyOf l s.key h=ky at *
    obtain ⟨kk,E,key,g,n,m⟩:=s;dsimp only at *
    subst z;subst P;refine dl2 mixed [.cell 10 46] [vt _] Tryz.func12 Go.ST4.l12 ?_
    repeat' ((conv=>whnf);first|exact trivial|refine uc _ (wN) ?_|refine uc _ (L) ?_|refine uc _ (yV) ?_|refine su hc ?_|refine uc _ (hFr) ?_|refine su hn0 ?_|refine uc _ (Q) ?_|refine uc _ (C) ?_|refine aE1 ?_|refine aE0 ?_|refine aS ?_|refine nT_ ?_)
   ·rw [if_neg c] at hFr;have i:=J F hN (by rw [xO,M,decide_eq_true (by omega)];simp);rw [i];clear hdT J hsp hFF hN;clear X y K H j S U Y w r q u B t i A R O v V Z;generalize keyOf l s.key h=ky at *
    obtain ⟨kk,E,key,g,n,m⟩:=s;dsimp only at *
    subst z;subst P;refine dl2 mixed [.cell 10 46] [vt _] Tryz.func12 Go.ST4.l12 ?_
    repeat' ((conv=>whnf);first|exact trivial|refine uc _ (wN) ?_|refine uc _ (L) ?_|refine uc _ (yV) ?_|refine su hc ?_|refine uc _ (hFr) ?_|refine aE1 ?_|refine aE0 ?_|refine aN1 ?_|refine aS ?_|refine nT_ ?_)
 ·obtain ⟨b1,b2⟩:=hk5 z;have hB:=JX (s:=s) (st:=st) JE hno (by omega) (by omega) V b1 (fun x P hv=>b2 x P hv);have hDb:doE l s st h tick=zT l s st h:=by
   rw [H,B z,zT, <-O];unfold do5;split <;> rfl
  obtain ⟨y0,y1,y2,y3,y4,y5,y6,y7,y8,y9,hy⟩: ∃y0 y1 y2 y3 y4 y5 y6 y7 y8 y9,(zT l s st h).h=[y0,y1,y2,y3,y4,y5,y6,y7,y8,y9]:=by
   rw [B2];split
   ·rename_i x hx2;have hm:=List.mem_of_find?_eq_some hx2;have hv:=List.find?_some hx2;rw [Bool.and_eq_true] at hv;exact ten (yL JE V (b2 x hm (of_decide_eq_true hv.1)).2)
   ·exact ten V
  rw [hDb];generalize zT l s st h=D at *
  obtain ⟨dh,dp,ds⟩:=D;dsimp only at hy;subst hy;clear X y K hgo H j S U Y w r q u B t hDb A R O v V Z;generalize keyOf l s.key h=ky at *
  obtain ⟨kk,E,key,g,n,m⟩:=s;dsimp only at *
  subst z;subst P;refine dl2 mixed [.cell 10 46] [vt _] Tryz.func12 Go.ST4.l12 ?_
  repeat' ((conv=>whnf);first|exact trivial|refine uc _ (hB) ?_|refine aE1 ?_|refine aE0 ?_|refine aS ?_|refine nT_ ?_)
 ·obtain ⟨b1,b2,b3,b4⟩:=hk6 z;obtain ⟨G,htn⟩: ∃G,G=xI s f (keyOf l s.key h) tick:=⟨_,rfl⟩
  have hTk: ∀n2 a2,(f.isSome=true->n2=en/\a2=ea)->(f.isSome=false->n2=s.n/\a2=tick)->DCalls Tryz.prog 64 [vu s,.agg [.str s.var,.slice 1 ((keyOf l s.key h).map I),I n2,I a2],I tick] (.agg [.str s.var,.slice 1 ((keyOf l s.key h).map I),I G.n,I G.at_])/\0<=G.n/\G.n<=2^40:=fun n2 a2 g1 g2=>by
   have hb:0<=n2/\n2<=65535/\0<=a2/\a2<=1073741824/\xI s f (keyOf l s.key h) tick=wh s ⟨s.var,keyOf l s.key h,n2,a2⟩ tick:=by
    cases f with
    |none=>obtain ⟨e1,e2⟩:=g2 rfl;subst e1;subst e2;exact ⟨by omega,by omega,by omega,by omega,rfl⟩
    |some x=>
     obtain ⟨e1,e2⟩:=g1 rfl;obtain ⟨e3,e4⟩:=S x rfl
     have:=U x rfl
     obtain ⟨q1,q2,q3⟩:=vP R.symm;refine ⟨by omega,by omega,by omega,by omega,?_⟩;show wh s x tick=_
     rw [e1,e2,e3,e4, <-q2, <-q3]
   obtain ⟨c1,c2,c3,c4,c5⟩:=hb;have hT:=I1 s ⟨s.var,keyOf l s.key h,n2,a2⟩ tick ⟨b1,b2⟩ ⟨b3,b4⟩ ⟨ht0,ht1⟩ ⟨c1,c2⟩ ⟨c3,c4⟩;have NP:0<=(if tick>a2 then (tick - a2).tdiv s.m else 0)/\(if tick>a2 then (tick - a2).tdiv s.m else 0)<=1073741824:=by
    split
    ·have:=Int.tdiv_le_self (a:=tick - a2) s.m (by omega)
     exact ⟨Int.tdiv_nonneg (by omega) (by omega),by omega⟩
    ·exact ⟨Int.le_refl 0,by omega⟩
   have hp:(wh s ⟨s.var,keyOf l s.key h,n2,a2⟩ tick).var=s.var/\(wh s ⟨s.var,keyOf l s.key h,n2,a2⟩ tick).key=keyOf l s.key h/\0<=(wh s ⟨s.var,keyOf l s.key h,n2,a2⟩ tick).n/\(wh s ⟨s.var,keyOf l s.key h,n2,a2⟩ tick).n<=2^40:=by
    unfold wh;dsimp only;generalize (if tick>a2 then (tick - a2).tdiv s.m else 0)=k at *
    split
    ·exact ⟨rfl,rfl,by dsimp only;omega,by dsimp only;omega⟩
    ·exact ⟨rfl,rfl,by dsimp only;omega,by dsimp only;omega⟩
   rw [<- c5, <-htn] at hT hp;obtain ⟨p1,p2,p3,p4⟩:=hp;refine ⟨?_,p3,p4⟩
   have:um G= .agg [.str s.var,.slice 1 ((keyOf l s.key h).map I),I G.n,I G.at_]:=by unfold um uk;rw [p1,p2]
   rw [<- this];exact hT
  have J:uX f o=true->doE l s st h tick=⟨h,false,st⟩:=fun b=>by rw [H,t z];unfold do6;rw [b];rfl
  have hdP:uX f o=false->G.n>0->doE l s st h tick=⟨h,true,uK ⟨s.var,keyOf l s.key h,G.n - 1,G.at_⟩ st⟩:=fun b c=>by rw [H,t z];unfold do6;rw [<- htn,b,if_neg (by simp),if_pos c];rfl
  have hdN:uX f o=false-> ¬G.n>0->doE l s st h tick=⟨h,false,uK ⟨s.var,keyOf l s.key h,G.n,G.at_⟩ st⟩:=fun b c=>by rw [H,t z];unfold do6;rw [<- htn,b,if_neg (by simp),if_neg c];rfl
  rcases hgo with ⟨M,b⟩|⟨M,hc,b⟩|⟨M,hc,b⟩ <;> rw [M] at L
  ·obtain ⟨hT,hT0,hT1⟩:=hTk en ea (fun _=>⟨rfl,rfl⟩) (fun hh=>by rw [M] at hh;cases hh);have hwn:W64 (G.n - 1)=G.n - 1:=nW (by omega) (by omega)
   by_cases c:G.n>0
   ·have i:=hdP b c;have C:=K (G.n - 1) G.at_;have hz: ¬G.n=0:=by omega
    rw [i];rw [<- hwn] at C ⊢;clear J hdP hdN hTk htn hwn;clear X y K H j S U Y w r q u B t i A R O v V Z;generalize keyOf l s.key h=ky at *
    obtain ⟨kk,E,key,g,n,m⟩:=s;dsimp only at *
    subst z;subst P;refine dl2 mixed [.cell 10 46] [vt _] Tryz.func12 Go.ST4.l12 ?_
    repeat' ((conv=>whnf);first|exact trivial|refine uc _ (wN) ?_|refine uc _ (L) ?_|refine uc _ (hT) ?_|refine sD hz ?_|refine uc _ (C) ?_|refine aE0 ?_|refine aS ?_|refine nT_ ?_)
   ·have i:=hdN b c;have C:=K G.n G.at_;have hz:G.n=0:=by omega
    rw [i];clear J hdP hdN hTk htn hwn;clear X y K H j S U Y w r q u B t i A R O v V Z;generalize keyOf l s.key h=ky at *
    obtain ⟨kk,E,key,g,n,m⟩:=s;dsimp only at *
    subst z;subst P;refine dl2 mixed [.cell 10 46] [vt _] Tryz.func12 Go.ST4.l12 ?_
    repeat' ((conv=>whnf);first|exact trivial|refine uc _ (wN) ?_|refine uc _ (L) ?_|refine uc _ (hT) ?_|refine sE hz ?_|refine uc _ (C) ?_|refine aE0 ?_|refine aS ?_|refine nT_ ?_)
  ·have i:=J b;rw [i];clear J hdP hdN hTk htn;clear X y K H j S U Y w r q u B t i A R O v V Z;generalize keyOf l s.key h=ky at *
   obtain ⟨kk,E,key,g,n,m⟩:=s;dsimp only at *
   subst z;subst P;refine dl2 mixed [.cell 10 46] [vt _] Tryz.func12 Go.ST4.l12 ?_
   repeat' ((conv=>whnf);first|exact trivial|refine uc _ (wN) ?_|refine uc _ (L) ?_|refine uc _ (yV) ?_|refine sC hc ?_|refine aE0 ?_|refine aS ?_|refine nT_ ?_)
  ·obtain ⟨hT,hT0,hT1⟩:=hTk s.n tick (fun hh=>by rw [M] at hh;cases hh) (fun _=>⟨rfl,rfl⟩);have hwn:W64 (G.n - 1)=G.n - 1:=nW (by omega) (by omega)
   by_cases c:G.n>0
   ·have i:=hdP b c;have C:=K (G.n - 1) G.at_;have hz: ¬G.n=0:=by omega
    rw [i];rw [<- hwn] at C ⊢;clear J hdP hdN hTk htn hwn;clear X y K H j S U Y w r q u B t i A R O v V Z;generalize keyOf l s.key h=ky at *
    obtain ⟨kk,E,key,g,n,m⟩:=s;dsimp only at *
    subst z;subst P;refine dl2 mixed [.cell 10 46] [vt _] Tryz.func12 Go.ST4.l12 ?_
    repeat' ((conv=>whnf);first|exact trivial|refine uc _ (wN) ?_|refine uc _ (L) ?_|refine uc _ (yV) ?_|refine su hc ?_|refine uc _ (hT) ?_|refine sD hz ?_|refine uc _ (C) ?_|refine aE0 ?_|refine aS ?_|refine nT_ ?_)
   ·have i:=hdN b c;have C:=K G.n G.at_;have hz:G.n=0:=by omega
    rw [i];clear J hdP hdN hTk htn hwn;clear X y K H j S U Y w r q u B t i A R O v V Z;generalize keyOf l s.key h=ky at *
    obtain ⟨kk,E,key,g,n,m⟩:=s;dsimp only at *
    subst z;subst P;refine dl2 mixed [.cell 10 46] [vt _] Tryz.func12 Go.ST4.l12 ?_
    repeat' ((conv=>whnf);first|exact trivial|refine uc _ (wN) ?_|refine uc _ (L) ?_|refine uc _ (yV) ?_|refine su hc ?_|refine uc _ (hT) ?_|refine sE hz ?_|refine uc _ (C) ?_|refine aE0 ?_|refine aS ?_|refine nT_ ?_)
end Go.ST
end
noncomputable section
namespace Go.ST6
open Go Go.DL Go.Proofs
def c47:aV:=(sr [oo 4 (.mov kF)] (sr [mv 5 0,mv 6 1,oo 7 (.call 103 [(tm 5),(tm 6),(.const (.clos 104 []))]),mv 4 7] .ret))
theorem l47:(Tryz.f47.body.bind (bt Tryz.prog 8 []))=some c47:=by kernel_rfl
def Lf:aV:=(sr [oo 2 (.box 4 (tm 0)),oo 3 (.box 4 (tm 1)),oo 4 (.mov kF)] (sr [lA 5 4 2,lA 6 4 3,oo 7 (.call 29 [(tm 5),(tm 6)]),oo 8 (.bin .eql (tm 7) (Kc 0)),mv 9 8,oT 10 9 (.offA 2 (tm 2)),oT 11 9 (.load 1 false (tm 10)),oT 12 9 (.offA 2 (tm 3)),oT 13 9 (.load 1 false (tm 12)),oT 14 9 (.bin .eql (tm 11) (tm 13)),oo 15 (.pick (tm 9) (tm 14) kF),mv 16 15,oT 17 16 (.offA 3 (tm 2)),oT 18 16 (.load 1 false (tm 17)),oT 19 16 (.offA 3 (tm 3)),oT 20 16 (.load 1 false (tm 19)),oT 21 16 (.bin .eql (tm 18) (tm 20)),oo 22 (.pick (tm 16) (tm 21) kF),mv 4 22] .ret))
theorem My:(Tryz.f104.body.bind (bt Tryz.prog 23 []))=some Lf:=by kernel_rfl
def Le:aV:=(sr [oo 6 (.mov kF)] (.seq (sr [mv 10 0,ln 11 10,mv 12 1,ln 13 12,oo 14 (.bin .neq (tm 11) (tm 13))] (.cond (tm 14) (sr [oo 6 (.mov kF)] .ret) .skip)) (.seq (sr [mv 15 0,ln 16 15,oo 17 (.mov (Kc 0))] (.block 0 (.loop (sr [oo 18 (.bin .lss (tm 17) (tm 16))] (.seq (.cond (tm 18) .skip (.exit 0)) (.seq (.block 1 (sr [mv 19 17,ix 20 4 15 17,lA 21 4 20,⟨some 8,.alloc [S0,.nil,Z0,Z0],none,[]⟩,mv 7 19,o0 (.store 4 (tm 8) (tm 21))] (sr [mv 22 1,mv 23 7,ix 24 4 22 23,lA 25 4 24,⟨some 9,.alloc [S0,.nil,Z0,Z0],none,[]⟩,o0 (.store 4 (tm 9) (tm 25))] (sr [mv 26 2,lA 27 4 8,lA 28 4 9,oo 29 (.bY (tm 26) [(tm 27),(tm 28)]),oo 30 (.not (tm 29))] (.cond (tm 30) (sr [oo 6 (.mov kF)] .ret) .skip))))) (rg [oo 31 (.bin .add (tm 17) (Kc 1)),mv 17 31]))))))) (sr [oo 6 (.mov kT)] .ret))))
theorem Mx:(Tryz.f103.body.bind (bt Tryz.prog 32 []))=some Le:=by kernel_rfl
def c97:aV:=(sr [⟨some 2,.mov (.const S0),none,[]⟩,oo 3 (.mov (Kc 0)),oo 4 (.mov (Kc 0))] (sr [mv 9 0,oo 10 (.call 135 [(tm 9),(Kc 1)]),mv 8 10,oo 11 (.ext (tm 8) 0),oo 12 (.ext (tm 8) 1),oo 13 (.ext (tm 8) 2),mv 5 11,mv 6 12,mv 7 13] (.seq (sr [mv 14 7,oo 15 (.bin .neq (tm 14) (Kc 0))] (.cond (tm 15) (sr [mv 16 7,⟨some 2,.mov (.const S0),none,[]⟩,oo 3 (.mov (Kc 0)),mv 4 16] .ret) .skip)) (sr [mv 17 0,mv 18 6,mv 19 6,mv 20 5,oo 21 (.bin .add (tm 19) (tm 20)),oo 22 (.slice 1 (tm 17) (some (tm 18)) (some (tm 21))),oo 23 (.prim .strB (tm 22)),mv 24 6,mv 25 5,oo 26 (.bin .add (tm 24) (tm 25)),mv 2 23,mv 3 26,oo 4 (.mov (Kc 0))] .ret))))
theorem l97:(Tryz.f97.body.bind (bt Tryz.prog 27 []))=some c97:=by kernel_rfl
def c46:aV:=(sr [oo 2 (.mov (.const .nil))] (sr [mv 6 0,ln 7 6,oo 8 (.call 99 [tm 7]),mv 3 8] (.seq (sr [mv 9 0,ln 10 9,oo 11 (.mov (Kc 0))] (.block 0 (.loop (sr [oo 12 (.bin .lss (tm 11) (tm 10))] (.seq (.cond (tm 12) .skip (.exit 0)) (.seq (.block 1 (sr [ix 13 4 9 11,lA 14 4 13,⟨some 5,.alloc [S0,.nil,Z0,Z0],none,[]⟩,o0 (.store 4 (tm 5) (tm 14))] (rg [mv 15 3,fa 16 0 5,ld 17 16,oo 18 (.call 101 [tm 17]),fa 19 1 5,ld 20 19,oo 21 (.call 102 [tm 20]),fa 22 2 5,ld 23 22,fa 24 3 5,ld 25 24,oo 26 (.buildT 1 2 [Z0] [(0,(tm 23)),(1,(tm 25))]),oo 27 (.call 102 [tm 26]),oo 28 (.buildT 1 4 [.nil] [(0,(tm 15)),(1,(tm 18)),(2,(tm 21)),(3,(tm 27))]),oo 29 (.call 100 [tm 28]),mv 3 29]))) (rg [oo 30 (.bin .add (tm 11) (Kc 1)),mv 11 30]))))))) (sr [mv 31 3,mv 2 31] .ret))))
theorem l46:(Tryz.f46.body.bind (bt Tryz.prog 32 []))=some c46:=by kernel_rfl
def Lb:aV:=(sr [oo 2 (.mov (.const .nil))] (sr [oo 3 (.mov (Kc 0))] (.seq (sr [mv 9 0,ln 10 9,oo 11 (.mov (Kc 0))] (.block 0 (.loop (sr [oo 12 (.bin .lss (tm 11) (tm 10))] (.seq (.cond (tm 12) .skip (.exit 0)) (.seq (.block 1 (sr [ix 13 1 9 11,ld 14 13,mv 5 14] (sr [mv 15 3,mv 16 5,ln 17 16,oo 18 (.bin .add (tm 15) (tm 17)),mv 3 18] (sr [mv 19 3,oo 20 (.bin .lss (tm 19) (Kc 0))] (.cond (tm 20) (rg [oo 21 (.bad),o0 (.bad)]) .skip))))) (rg [oo 22 (.bin .add (tm 11) (Kc 1)),mv 11 22]))))))) (sr [mv 23 3,oo 24 (.inl 137 [(.const .nil),(tm 23)]),mv 6 24] (.seq (sr [mv 25 0,ln 26 25,oo 27 (.mov (Kc 0))] (.block 2 (.loop (sr [oo 28 (.bin .lss (tm 27) (tm 26))] (.seq (.cond (tm 28) .skip (.exit 2)) (.seq (.block 3 (sr [ix 29 1 25 27,ld 30 29,mv 8 30] (rg [mv 31 6,mv 32 8,oo 33 (.append 98 5 1 1 (tm 31) (tm 32)),mv 6 33]))) (rg [oo 34 (.bin .add (tm 27) (Kc 1)),mv 27 34]))))))) (sr [mv 35 6,mv 2 35] .ret))))))
theorem Mu:(Tryz.f100.body.bind (bt Tryz.prog 36 [137]))=some Lb:=by kernel_rfl
def c13:aV:=(sr [oo 4 (.mov kF)] (.seq (sr [mv 6 0,ln 7 6,mv 8 1,ln 9 8,oo 10 (.bin .neq (tm 7) (tm 9))] (.cond (tm 10) (sr [oo 4 (.mov kF)] .ret) .skip)) (.seq (sr [oo 5 (.mov (Kc 0))] (.block 0 (.loop (.seq (sr [mv 11 5,mv 12 0,ln 13 12,oo 14 (.bin .lss (tm 11) (tm 13))] (.cond (tm 14) .skip (.exit 0))) (.seq (.block 1 (sr [mv 17 0,mv 18 5,ix 19 4 17 18,fa 20 0 19,ld 21 20,mv 22 1,mv 23 5,ix 24 4 22 23,fa 25 0 24,ld 26 25,oo 27 (.bin .neq (tm 21) (tm 26)),mv 28 27,mF 29 0 28,mF 30 5 28,oF 31 28 (.idxL 4 (tm 29) (tm 30)),oF 32 28 (.offA 2 (tm 31)),oF 33 28 (.load 1 false (tm 32)),mF 34 1 28,mF 35 5 28,oF 36 28 (.idxL 4 (tm 34) (tm 35)),oF 37 28 (.offA 2 (tm 36)),oF 38 28 (.load 1 false (tm 37)),oF 39 28 (.bin .neq (tm 33) (tm 38)),oo 40 (.pick (tm 28) kT (tm 39)),mv 41 40,mF 42 0 41,mF 43 5 41,oF 44 41 (.idxL 4 (tm 42) (tm 43)),oF 45 41 (.offA 3 (tm 44)),oF 46 41 (.load 1 false (tm 45)),mF 47 1 41,mF 48 5 41,oF 49 41 (.idxL 4 (tm 47) (tm 48)),oF 50 41 (.offA 3 (tm 49)),oF 51 41 (.load 1 false (tm 50)),oF 52 41 (.bin .neq (tm 46) (tm 51)),oo 53 (.pick (tm 41) kT (tm 52)),mv 54 53,mF 55 0 54,mF 56 5 54,oF 57 54 (.idxL 4 (tm 55) (tm 56)),oF 58 54 (.offA 1 (tm 57)),oF 59 54 (.load 1 false (tm 58)),mF 60 1 54,mF 61 5 54,oF 62 54 (.idxL 4 (tm 60) (tm 61)),oF 63 54 (.offA 1 (tm 62)),oF 64 54 (.load 1 false (tm 63)),oF 65 54 (.call 21 [(tm 59),(tm 64)]),oF 66 54 (.bin .neq (tm 65) (Kc 0)),oo 67 (.pick (tm 54) kT (tm 66))] (.cond (tm 67) (sr [oo 4 (.mov kF)] .ret) .skip))) (rg [mv 15 5,oo 16 (.bin .add (tm 15) (Kc 1)),mv 5 16])))))) (sr [oo 4 (.mov kT)] .ret))))
theorem l13:(Tryz.f13.body.bind (bt Tryz.prog 68 []))=some c13:=by kernel_rfl
def c44:aV:=(sr [oo 2 (.mov kF)] (.seq (sr [oo 3 (.mov (Kc 0))] (.block 0 (.loop (.seq (sr [mv 4 3,mv 5 0,ln 6 5,oo 7 (.bin .lss (tm 4) (tm 6))] (.cond (tm 7) .skip (.exit 0))) (.seq (.block 1 (sr [mv 10 0,mv 11 3,ix 12 1 10 11,ld 13 12,mv 14 3,oo 15 (.bin .add (tm 14) (Kc 1)),oo 16 (.minI (tm 15) (Kc 7)),oo 17 (.bin .neq (tm 13) (tm 16))] (.cond (tm 17) (sr [oo 2 (.mov kF)] .ret) .skip))) (rg [mv 8 3,oo 9 (.bin .add (tm 8) (Kc 1)),mv 3 9])))))) (sr [mv 18 0,ln 19 18,oo 20 (.bin .eql (tm 19) (Kc 10)),mv 2 20] .ret)))
theorem l44:(Tryz.f44.body.bind (bt Tryz.prog 21 []))=some c44:=by kernel_rfl
end Go.ST6
end
section
namespace Go.ST
open Go Go.DL Go.MM Go.Proofs
open Go.TY hiding Fd
theorem KV(a b:RE):a=b↔ux a b=0/\a.n=b.n/\a.at_=b.at_:=by
 rw [vF];obtain ⟨v,k,n,t⟩:=a;obtain ⟨e,g,c,f⟩:=b;simp [and_assoc]
theorem Jg(a b:RE)(j:kOk a)(k:kOk b):DCalls Tryz.prog 104 [.agg (uk a),.agg (uk b)] (.bool (decide (a=b))):=by
 have h:=xK a b j k;have g:=KV a b;refine dl2 mixed [.tmp 4] [.bool _] Tryz.func104 Go.ST6.My ?_
 by_cases c:ux a b=0
 ·by_cases f:a.n=b.n
  ·by_cases i:a.at_=b.at_
   ·rw [decide_eq_true (g.2 ⟨c,f,i⟩)]
    repeat' ((conv=>whnf);first|exact trivial|refine uc _ (h) ?_|refine sE c ?_|refine sE f ?_|refine sE i ?_|refine rb1 ?_|(refine And.intro (by first|exact uo _) ?_)|refine aS ?_|refine nT_ ?_)
   ·rw [decide_eq_false fun e=>i (g.1 e).2.2]
    repeat' ((conv=>whnf);first|exact trivial|refine uc _ (h) ?_|refine sE c ?_|refine sE f ?_|refine sD i ?_|refine rb0 ?_|(refine And.intro (by first|exact uo _) ?_)|refine aS ?_|refine nT_ ?_)
  ·rw [decide_eq_false fun e=>f (g.1 e).2.1]
   repeat' ((conv=>whnf);first|exact trivial|refine uc _ (h) ?_|refine sE c ?_|refine sD f ?_|refine rb0 ?_|(refine And.intro (by first|exact uo _) ?_)|refine aS ?_|refine nT_ ?_)
 ·rw [decide_eq_false fun e=>c (g.1 e).1]
  repeat' ((conv=>whnf);first|refine uc _ (h) ?_|refine sD c ?_|refine rb0 ?_|(refine And.intro (by first|exact uo _) ?_)|refine aS ?_|exact trivial)
theorem DA{a b:List RE}(c:a.length=b.length):decide (a=b)=true↔ ∀j (h:j<a.length) (f:j<b.length),a[j]=b[j]:=by
 rw [decide_eq_true_eq];constructor
 ·intro e;subst e;intros;rfl
 ·intro h;exact List.ext_getElem c h
theorem HF(a b:List RE)(_:a.length<2^40)(D:b.length<2^40)(s: ∀x∈a,kOk x)(o: ∀x∈b,kOk x):DCalls Tryz.prog 103 [esT a,esT b,.clos 104 []] (.bool (decide (a=b))):=by
 have F:((a.map um).length:Int)=a.length:=by rw [List.length_map]
 have G:((b.map um).length:Int)=b.length:=by rw [List.length_map]
 refine dl2 mixed [.tmp 6] [.bool _] Tryz.func103 Go.ST6.Mx ?_
 by_cases f:a.length=b.length
 case neg=>
  rw [decide_eq_false fun e=>f (by rw [e])];have l:((a.map um).length:Int)≠((b.map um).length:Int):=by omega
  repeat' ((conv=>whnf);first|refine sG l ?_|refine rb0 ?_|refine aS ?_|exact trivial)
 have q:((a.map um).length:Int)=((b.map um).length:Int):=by omega
 repeat' ((conv=>whnf);first|refine sF q ?_|refine aS ?_|fail)
 refine tT (α:=Nat) (fun i=>{sl:=[(1,.t (esT b)),(2,.t (.clos 104 [])),(15,.t (esT a)),(16,.t (I a.length)),(17,.t (I i))],bx:=[]})
  (fun i=>i<=a.length/\ ∀j (h:j<a.length) (k:j<b.length),j<i->a[j]=b[j]) (fun i=>a.length - i) 0 ⟨Nat.zero_le _,fun j _ _ h=>by omega⟩ ?_ ?_
 ·repeat' (first|(exact leI F.symm)|exact wJ|refine And.intro ?_ ?_)
 rintro i ⟨H,A⟩;rcases Nat.lt_or_ge i a.length with h|h
 ·have k:i<b.length:=by omega
  have c:(i:Int)<(a.length:Int):=by omega
  have g:=Jg a[i] b[i] (s _ (List.getElem_mem h)) (o _ (List.getElem_mem k));have u:((i+1:Nat):Int)=IntKind.wrap .i64 ((i:Int)+1):=by rw [nW] <;> omega
  have w:(a.map um)[((i:Int)).toNat]?.getD .nil= .agg (uk a[i]):=by rw [Int.toNat_natCast];exact uQ h
  have B:(b.map um)[((i:Int)).toNat]?.getD .nil= .agg (uk b[i]):=by rw [Int.toNat_natCast];exact uQ k
  have z:0<=(i:Int)/\(i:Int)<((a.map um).length:Int):=by omega
  have y:0<=(i:Int)/\(i:Int)<((b.map um).length:Int):=by omega
  by_cases e:a[i]=b[i]
  ·rw [decide_eq_true e] at g;have r: ∀j (h:j<a.length) (k:j<b.length),j<i+1->a[j]=b[j]:=fun j m n J=>by
    rcases Nat.lt_or_ge j i with v|v
    ·exact A j m n v
    ·obtain rfl:j=i:=by omega
     exact e
   have p:a.length - (i+1)<a.length - i:=by omega
   repeat' ((conv=>whnf);first|refine sC c ?_|(refine nv_ (.agg (uk a[i])) (by first|exact w) ?_)|(refine nv_ (.agg (uk b[i])) (by first|exact B) ?_)|refine uc _ (g) ?_|(exact ⟨i+1,⟨h,r⟩,p,by (repeat' (first|(exact leI u)|exact wJ|refine And.intro ?_ ?_));done⟩)|(refine And.intro (by first|exact z|exact y|exact uo _) ?_)|refine aS ?_|refine nT_ ?_)
  ·rw [decide_eq_false e] at g;rw [decide_eq_false fun C=>e (by subst C;rfl)]
   repeat' ((conv=>whnf);first|exact trivial|refine sC c ?_|(refine nv_ (.agg (uk a[i])) (by first|exact w) ?_)|(refine nv_ (.agg (uk b[i])) (by first|exact B) ?_)|refine uc _ (g) ?_|refine rb0 ?_|(refine And.intro (by first|exact z|exact y|exact uo _) ?_)|refine aS ?_|refine nT_ ?_)
 ·have c: ¬(i:Int)<(a.length:Int):=by omega
  rw [(DA f).2 fun j m n=>A j m n (by omega)]
  repeat' ((conv=>whnf);first|refine su c ?_|refine rb1 ?_|refine aS ?_|exact trivial)
theorem J7(a b:List RE)(f:a.length<2^40)(e:b.length<2^40)(g: ∀x∈a,kOk x)(c: ∀x∈b,kOk x):DCalls Tryz.prog 47 [esT a,esT b] (.bool (decide (a=b))):=by
 have h:=HF a b f e g c;refine dl2 mixed [.tmp 4] [.bool _] Tryz.func47 Go.ST6.l47 ?_
 repeat' ((conv=>whnf);first|refine uc _ (h) ?_|refine rbx ?_|exact trivial)
theorem JV(a b:List RE)(_:a.length<2^40)(W:b.length<2^40)(R: ∀x∈a,kOk x)(N: ∀x∈b,kOk x):DCalls Tryz.prog 13 [esT a,esT b] (.bool (decide (a=b))):=by
 have hn:((a.map um).length:Int)=a.length:=by rw [List.length_map]
 have Y:((b.map um).length:Int)=b.length:=by rw [List.length_map]
 refine dl2 mixed [.tmp 4] [.bool _] Tryz.func13 Go.ST6.l13 ?_
 by_cases z:a.length=b.length
 case neg=>
  rw [decide_eq_false fun e=>z (by rw [e])];have G:((a.map um).length:Int)≠((b.map um).length:Int):=by omega
  repeat' ((conv=>whnf);first|refine sG G ?_|refine rb0 ?_|refine aS ?_|exact trivial)
 have P:((a.map um).length:Int)=((b.map um).length:Int):=by omega
 repeat' ((conv=>whnf);first|refine sF P ?_|refine aS ?_|fail)
 refine tT (α:=Nat) (fun i=>{sl:=[(0,.t (esT a)),(1,.t (esT b)),(5,.t (I i))],bx:=[]})
  (fun i=>i<=a.length/\ ∀j (h:j<a.length) (D:j<b.length),j<i->a[j]=b[j]) (fun i=>a.length - i) 0 ⟨Nat.zero_le _,fun j _ _ h=>by omega⟩ ?_ ?_
 ·repeat' (first|exact wJ|refine And.intro ?_ ?_)
 rintro i ⟨Z,M⟩;rcases Nat.lt_or_ge i a.length with h|h
 ·have D:i<b.length:=by omega
  have l:(i:Int)<((a.map um).length:Int):=by omega
  have S:((i+1:Nat):Int)=IntKind.wrap .i64 ((i:Int)+1):=by rw [nW] <;> omega
  have J:=A5 a[i].key b[i].key (R _ (List.getElem_mem h)) (N _ (List.getElem_mem D));have f:=ggZ h;have g:=ggZ D;have F:=wP (a:=a[i].key) (b:=b[i].key);have L:=eqS a[i].var b[i].var;have k: ¬a[i]=b[i]->decide (a=b)=false:=fun e=>decide_eq_false fun V=>e (by subst V;rfl)
  have s:a[i]=b[i]-> ∀j (h:j<a.length) (D:j<b.length),j<i+1->a[j]=b[j]:=fun e j H K h3=>by
   rcases Nat.lt_or_ge j i with U|U
   ·exact M j H K U
   ·obtain rfl:j=i:=by omega
    exact e
  have O:a.length - (i+1)<a.length - i:=by omega
  generalize a[i]=x at *
  generalize b[i]=y at *
  obtain ⟨o,C,r,w⟩:=x;obtain ⟨n,B,p,u⟩:=y;dsimp only at J F L;have m:(!(o.toList==n.toList))= !decide (o=n):=by rw [L]
  clear M L;generalize u9 C B=c at *
  by_cases A:o=n
  ·rw [decide_eq_true A] at m
   by_cases q:r=p
   ·by_cases v:w=u
    ·by_cases E:c=0
     ·have e:(⟨o,C,r,w⟩:RE)=⟨n,B,p,u⟩:=by rw [A,q,v,F.1 E]
      have Q:=s e;clear s k
      repeat' ((conv=>whnf);first|refine sC l ?_|(refine nv_ (.str o) (by first|(simp [f,um,uk,T.cells];done)|fail) ?_)|(refine nv_ (.str n) (by first|(simp [g,um,uk,T.cells];done)|fail) ?_)|refine nb_ _ m ?_|(refine nv_ (I r) (by first|(simp [f,um,uk,T.cells];done)|fail) ?_)|(refine nv_ (I p) (by first|(simp [g,um,uk,T.cells];done)|fail) ?_)|(refine nv_ (I w) (by first|(simp [f,um,uk,T.cells];done)|fail) ?_)|(refine nv_ (I u) (by first|(simp [g,um,uk,T.cells];done)|fail) ?_)|(refine nv_ (.slice 1 (C.map I)) (by first|(simp [f,um,uk,T.cells];done)|fail) ?_)|(refine nv_ (.slice 1 (B.map I)) (by first|(simp [g,um,uk,T.cells];done)|fail) ?_)|refine sF q ?_|refine sF v ?_|refine uc _ (J) ?_|refine sF E ?_|(exact ⟨i+1,⟨h,Q⟩,O,by (repeat' (first|(exact leI S)|exact wJ|refine And.intro ?_ ?_));done⟩)|(refine And.intro (by first|((simp [f,um,uk,T.cells]);done)|((simp [g,um,uk,T.cells]);done)|fail) ?_)|refine aS ?_|refine nT_ ?_)
     ·rw [k fun e=>E (F.2 (RE.mk.inj e).2.1)];clear s k
      repeat' ((conv=>whnf);first|exact trivial|refine sC l ?_|(refine nv_ (.str o) (by first|(simp [f,um,uk,T.cells];done)|fail) ?_)|(refine nv_ (.str n) (by first|(simp [g,um,uk,T.cells];done)|fail) ?_)|refine nb_ _ m ?_|(refine nv_ (I r) (by first|(simp [f,um,uk,T.cells];done)|fail) ?_)|(refine nv_ (I p) (by first|(simp [g,um,uk,T.cells];done)|fail) ?_)|(refine nv_ (I w) (by first|(simp [f,um,uk,T.cells];done)|fail) ?_)|(refine nv_ (I u) (by first|(simp [g,um,uk,T.cells];done)|fail) ?_)|(refine nv_ (.slice 1 (C.map I)) (by first|(simp [f,um,uk,T.cells];done)|fail) ?_)|(refine nv_ (.slice 1 (B.map I)) (by first|(simp [g,um,uk,T.cells];done)|fail) ?_)|refine sF q ?_|refine sF v ?_|refine uc _ (J) ?_|refine sG E ?_|refine rb0 ?_|(refine And.intro (by first|((simp [f,um,uk,T.cells]);done)|((simp [g,um,uk,T.cells]);done)|fail) ?_)|refine aS ?_|refine nT_ ?_)
    ·rw [k fun e=>v (RE.mk.inj e).2.2.2];clear s k
     repeat' ((conv=>whnf);first|exact trivial|refine sC l ?_|(refine nv_ (.str o) (by first|(simp [f,um,uk,T.cells];done)|fail) ?_)|(refine nv_ (.str n) (by first|(simp [g,um,uk,T.cells];done)|fail) ?_)|refine nb_ _ m ?_|(refine nv_ (I r) (by first|(simp [f,um,uk,T.cells];done)|fail) ?_)|(refine nv_ (I p) (by first|(simp [g,um,uk,T.cells];done)|fail) ?_)|(refine nv_ (I w) (by first|(simp [f,um,uk,T.cells];done)|fail) ?_)|(refine nv_ (I u) (by first|(simp [g,um,uk,T.cells];done)|fail) ?_)|refine sF q ?_|refine sG v ?_|refine rb0 ?_|(refine And.intro (by first|((simp [f,um,uk,T.cells]);done)|((simp [g,um,uk,T.cells]);done)|fail) ?_)|refine aS ?_|refine nT_ ?_)
   ·rw [k fun e=>q (RE.mk.inj e).2.2.1];clear s k
    repeat' ((conv=>whnf);first|exact trivial|refine sC l ?_|(refine nv_ (.str o) (by first|(simp [f,um,uk,T.cells];done)|fail) ?_)|(refine nv_ (.str n) (by first|(simp [g,um,uk,T.cells];done)|fail) ?_)|refine nb_ _ m ?_|(refine nv_ (I r) (by first|(simp [f,um,uk,T.cells];done)|fail) ?_)|(refine nv_ (I p) (by first|(simp [g,um,uk,T.cells];done)|fail) ?_)|refine sG q ?_|refine rb0 ?_|(refine And.intro (by first|((simp [f,um,uk,T.cells]);done)|((simp [g,um,uk,T.cells]);done)|fail) ?_)|refine aS ?_|refine nT_ ?_)
  ·rw [decide_eq_false A] at m;rw [k fun e=>A (RE.mk.inj e).1];clear s k
   repeat' ((conv=>whnf);first|exact trivial|refine sC l ?_|(refine nv_ (.str o) (by first|(simp [f,um,uk,T.cells];done)|fail) ?_)|(refine nv_ (.str n) (by first|(simp [g,um,uk,T.cells];done)|fail) ?_)|refine nb_ _ m ?_|refine rb0 ?_|(refine And.intro (by first|((simp [f,um,uk,T.cells]);done)|((simp [g,um,uk,T.cells]);done)|fail) ?_)|refine aS ?_|refine nT_ ?_)
 ·have l: ¬(i:Int)<((a.map um).length:Int):=by omega
  rw [(DA z).2 fun j H K=>M j H K (by omega)]
  repeat' ((conv=>whnf);first|refine su l ?_|refine rb1 ?_|refine aS ?_|exact trivial)
def zH(xs:List Int):Bool:=decide (xs.length=10)&&(List.range xs.length).all fun i=>decide (xs.getD i 0=min ((i:Int)+1) 7)
theorem D5(xs:List Int)(u:xs.length<2^40):DCalls Tryz.prog 44 [.slice 1 (xs.map I)] (.bool (zH xs)):=by
 have w:((xs.map I).length:Int)=xs.length:=by rw [List.length_map]
 refine dl2 mixed [.tmp 2] [.bool _] Tryz.func44 Go.ST6.l44 ?_
 skip
 refine tx 0 (α:=Nat) (β:=Unit) (fun i=>{sl:=[(0,.t (.slice 1 (xs.map I))),(3,.t (I i))],bx:=[]})
  (fun i=>i<=xs.length/\ ∀j,j<i->xs.getD j 0=min ((j:Int)+1) 7) (fun i=>xs.length - i) (fun _=>{sl:=[(0,.t (.slice 1 (xs.map I)))],bx:=[]}) (fun _=> ∀j,j<xs.length->xs.getD j 0=min ((j:Int)+1) 7) 0 ⟨Nat.zero_le _,fun j h=>by omega⟩ ?_ ?_ ?_
 ·repeat' (first|exact wJ|refine And.intro ?_ ?_)
 ·rintro i ⟨v,f⟩;rcases Nat.lt_or_ge i xs.length with h|h
  ·have a:(i:Int)<((xs.map I).length:Int):=by omega
   have n:((i+1:Nat):Int)=IntKind.wrap .i64 ((i:Int)+1):=by rw [nW] <;> omega
   have q:(xs.map I)[((i:Int)).toNat]?.getD .nil=I xs[i]:=by simp [h]
   have e:xs.getD i 0=xs[i]:=by simp [h]
   have b:(if (7:Int)<IntKind.wrap .i64 ((i:Int)+1) then 7 else IntKind.wrap .i64 ((i:Int)+1))=min ((i:Int)+1) 7:=by rw [nW (by omega) (by omega)];split <;> omega
   have l:xs.length - (i+1)<xs.length - i:=by omega
   by_cases c:xs[i]=(if (7:Int)<IntKind.wrap .i64 ((i:Int)+1) then 7 else IntKind.wrap .i64 ((i:Int)+1))
   ·have m: ∀j,j<i+1->xs.getD j 0=min ((j:Int)+1) 7:=fun j g=>by
     rcases Nat.lt_or_ge j i with p|p
     ·exact f j p
     ·obtain rfl:j=i:=by omega
      rw [e,c,b]
    repeat' ((conv=>whnf);first|refine sC a ?_|(refine nv_ (I xs[i]) (by first|exact q) ?_)|refine sF c ?_|(exact ⟨i+1,⟨h,m⟩,l,by (repeat' (first|(exact leI n)|exact wJ|refine And.intro ?_ ?_));done⟩)|refine aS ?_|refine nT_ ?_)
   ·have r:zH xs=false:=by
     unfold zH;rw [Bool.and_eq_false_iff];refine Or.inr ?_;rw [List.all_eq_false];refine ⟨i,List.mem_range.2 h,?_⟩;rw [e, <-b];simpa using c
    rw [r]
    repeat' ((conv=>whnf);first|exact trivial|refine sC a ?_|(refine nv_ (I xs[i]) (by first|exact q) ?_)|refine sG c ?_|refine rb0 ?_|refine aS ?_|refine nT_ ?_)
  ·have a: ¬(i:Int)<((xs.map I).length:Int):=by omega
   have o: ∀j,j<xs.length->xs.getD j 0=min ((j:Int)+1) 7:=fun j g=>f j (by omega)
   repeat' ((conv=>whnf);first|refine su a ?_|(exact ⟨(),o,by (repeat' (first|exact wJ|refine And.intro ?_ ?_));done⟩)|refine aS ?_|fail)
 ·rintro - f;have s:((List.range xs.length).all fun i=>decide (xs.getD i 0=min ((i:Int)+1) 7))=true:=by
   rw [List.all_eq_true];intro j g;exact decide_eq_true (f j (List.mem_range.1 g))
  unfold zH;rw [s,Bool.and_true]
  by_cases c:xs.length=10
  ·have k:((xs.map I).length:Int)=10:=by omega
   rw [decide_eq_true c]
   repeat' ((conv=>whnf);first|refine sE k ?_|refine rb1 ?_|refine aS ?_|exact trivial)
  ·have k: ¬((xs.map I).length:Int)=10:=by omega
   rw [decide_eq_false c]
   repeat' ((conv=>whnf);first|refine sD k ?_|refine rb0 ?_|refine aS ?_|exact trivial)
end Go.ST
end
section
end
section
namespace Go.RC
open Go Go.DL Go.Proofs
theorem mixed:Tryz.prog.follows .mixedOrders=true:=by kernel_rfl
abbrev I(n:Int):T:=.int .i64 n
abbrev Y(n:Int):T:=.int .u8 n
abbrev Q(n:Int):T:=.int .u64 n
theorem w8{n:Int}(a:0<=n)(b:n<256):IntKind.wrap .u8 n=n:=by
 unfold IntKind.wrap;simp [IntKind.bits,IntKind.signed];omega
theorem w64{n:Int}(a:0<=n)(b:n<18446744073709551616):IntKind.wrap .u64 n=n:=by
 unfold IntKind.wrap;simp [IntKind.bits,IntKind.signed];omega
theorem or_comm(k:IntKind)(a b:Int):iV .or k a b=iV .or k b a:=by
 unfold iV;simp only [BitVec.or_comm]
end Go.RC
end
section
end
section
end
section
end
section
end
section
namespace Go.RC
open Go Go.DL Go.Proofs
def vf(a:List Int):Prop:= ∀b∈a,0<=b/\b<256
def sB(x:ByteArray):List Int:=x.data.toList.map fun b=>(b.toNat:Int)
theorem CL(x:ByteArray):bX x=(sB x).map Y:=by
 unfold bX sB;rw [List.map_map];rfl
theorem A9(x:ByteArray):(sB x).length=x.size:=by
 unfold sB;rw [List.length_map,Array.length_toList];rfl
theorem CH(x:ByteArray):vf (sB x):=fun b a=>by
 obtain ⟨u,_,rfl⟩:=List.mem_map.1 a
 have:=u.toNat_lt
 omega
theorem ER(l:List Int)(h:vf l):sB (oG (l.map Y))=l:=by
 unfold sB oG;simp only [List.map_map];refine (List.map_congr_left (g:=id) fun b a=>?_).trans (List.map_id l);obtain ⟨e,c⟩:=h b a;show (((UInt8.ofNat b.toNat).toNat:Nat):Int)=b
 rw [UInt8.toNat_ofNat',Nat.mod_eq_of_lt (by omega)];omega
end Go.RC
end
noncomputable section
namespace Go.RC
open Go Go.DL Go.Proofs
def c99:aV:=(sr [oo 2 (.mov (.const .nil))] (sr [mv 5 0,oo 6 (.conv .u64 (tm 5)),oo 7 (.bin .shl (tm 6) (.const (.int .u64 1))),mv 8 0,oo 9 (.bin .shr (tm 8) (.const (.int .u64 63))),oo 10 (.conv .u64 (tm 9)),oo 11 (.bin .xor (tm 7) (tm 10)),mv 3 11] (sr [oo 4 (.mov (.const .nil))] (.seq (.block 0 (.loop (.seq (sr [mv 12 3,oo 13 (.bin .gtr (tm 12) (.const (.int .u64 127)))] (.cond (tm 13) .skip (.exit 0))) (.seq (.block 1 (rg [mv 16 4,mv 17 3,oo 18 (.conv .u8 (tm 17)),oo 19 (.bin .or (tm 18) (.const (Ui 128))),oo 20 (.buildF 1 1 [(Ui 0)] [(0,(tm 19))]),oo 21 (.append 98 5 1 1 (tm 16) (tm 20)),mv 4 21])) (rg [mv 14 3,oo 15 (.bin .shr (tm 14) (.const (.int .u64 7))),mv 3 15]))))) (sr [mv 22 4,mv 23 3,oo 24 (.conv .u8 (tm 23)),oo 25 (.buildF 1 1 [(Ui 0)] [(0,(tm 24))]),oo 26 (.append 98 5 1 1 (tm 22) (tm 25)),mv 2 26] .ret)))))
theorem l99:(Tryz.f99.body.bind (bt Tryz.prog 27 [8000020,8000025]))=some c99:=by kernel_rfl
def Lc:aV:=(sr [oo 2 (.mov (.const .nil))] (sr [mv 3 0,oo 4 (.lenS (tm 3)),oo 5 (.inl 99 [tm 4]),mv 6 0,oo 7 (.append 98 5 1 1 (tm 5) (tm 6)),mv 2 7] .ret))
theorem Mv:(Tryz.f101.body.bind (bt Tryz.prog 8 [99]))=some Lc:=by kernel_rfl
def LA:aV:=(sr [oo 4 (.mov (.const .nil))] (sr [mv 8 0,ln 9 8,oo 10 (.inl 99 [tm 9]),mv 5 10] (.seq (sr [mv 11 0,ln 12 11,oo 13 (.mov (Kc 0))] (.block 0 (.loop (sr [oo 14 (.bin .lss (tm 13) (tm 12))] (.seq (.cond (tm 14) .skip (.exit 0)) (.seq (.block 1 (sr [ix 15 1 11 13,ld 16 15,mv 7 16] (rg [mv 17 5,mv 18 1,mv 19 7,oo 20 (.bY (tm 18) [tm 19]),oo 21 (.append 98 5 1 1 (tm 17) (tm 20)),mv 5 21]))) (rg [oo 22 (.bin .add (tm 13) (Kc 1)),mv 13 22]))))))) (sr [mv 23 5,mv 4 23] .ret))))
theorem MT:(Tryz.f138.body.bind (bt Tryz.prog 24 [99]))=some LA:=by kernel_rfl
def Ld:aV:=(sr [oo 2 (.mov (.const .nil))] (sr [mv 3 0,oo 4 (.inl 138 [(tm 3),(.const (.clos 99 []))]),mv 2 4] .ret))
theorem Mw:(Tryz.f102.body.bind (bt Tryz.prog 5 [138]))=some Ld:=by kernel_rfl
def c96:aV:=(sr [oo 2 (.mov (Kc 0)),oo 3 (.mov (Kc 0)),oo 4 (.mov (Kc 0))] (sr [oo 5 (.mov (.const (.int .u64 0)))] (sr [oo 6 (.mov (Kc 0))] (.seq .skip (.seq (sr [mv 9 0,ln 10 9,oo 11 (.mov (Kc 0))] (.block 0 (.loop (sr [oo 12 (.bin .lss (tm 11) (tm 10))] (.seq (.cond (tm 12) .skip (.exit 0)) (.seq (.block 1 (sr [mv 13 11,ix 14 1 9 11,ld 15 14,mv 7 13,mv 8 15] (.seq (.block 2 (.seq (sr [mv 25 7,oo 26 (.bin .eql (tm 25) (Kc 9)),mv 27 26,mT 28 8 27,oT 29 27 (.bin .gtr (tm 28) (.const (Ui 1))),oo 30 (.pick (tm 27) (tm 29) kF),mv 24 30] (.cond (tm 24) .skip (rg [mv 31 7,oo 32 (.bin .gtr (tm 31) (Kc 0)),mv 33 32,mT 34 8 33,oT 35 33 (.bin .eql (tm 34) (.const (Ui 0))),oo 36 (.pick (tm 33) (tm 35) kF),mv 24 36]))) (.cond (tm 24) (sr [oo 2 (.mov (Kc 0)),oo 3 (.mov (Kc 0)),oo 4 (.mov (Kc 6))] .ret) (rg [mv 16 5,mv 17 8,oo 18 (.bin .and (tm 17) (.const (Ui 127))),oo 19 (.conv .u64 (tm 18)),mv 20 7,oo 21 (.bin .mul (Kc 7) (tm 20)),oo 22 (.bin .shl (tm 19) (tm 21)),oo 23 (.bin .or (tm 16) (tm 22)),mv 5 23])))) (sr [mv 37 8,oo 38 (.bin .lss (tm 37) (.const (Ui 128)))] (.cond (tm 38) (sr [mv 39 7,oo 40 (.bin .add (tm 39) (Kc 1)),mv 6 40] (.exit 0)) .skip))))) (rg [oo 41 (.bin .add (tm 11) (Kc 1)),mv 11 41]))))))) (.seq (sr [mv 42 6,oo 43 (.bin .eql (tm 42) (Kc 0))] (.cond (tm 43) (sr [oo 2 (.mov (Kc 0)),oo 3 (.mov (Kc 0)),oo 4 (.mov (Kc 5))] .ret) .skip)) (sr [mv 44 5,oo 45 (.bin .shr (tm 44) (.const (.int .u64 1))),oo 46 (.conv .i64 (tm 45)),mv 47 5,oo 48 (.bin .and (tm 47) (.const (.int .u64 1))),oo 49 (.conv .i64 (tm 48)),oo 50 (.neg (tm 49)),oo 51 (.bin .xor (tm 46) (tm 50)),mv 52 6,mv 2 51,mv 3 52,oo 4 (.mov (Kc 0))] .ret)))))))
theorem l96:(Tryz.f96.body.bind (bt Tryz.prog 53 []))=some c96:=by kernel_rfl
def Ly:aV:=(sr [oo 4 (.mov (Kc 0)),oo 5 (.mov (Kc 0)),oo 6 (.mov (Kc 0))] (sr [mv 11 0,oo 12 (.call 96 [tm 11]),mv 10 12,oo 13 (.ext (tm 10) 0),oo 14 (.ext (tm 10) 1),oo 15 (.ext (tm 10) 2),mv 7 13,mv 8 14,mv 9 15] (.seq (.block 0 (sr [mv 17 9,oo 18 (.bin .neq (tm 17) (Kc 0)),mv 16 18] (.cond (tm 16) (sr [mv 19 9,oo 4 (.mov (Kc 0)),oo 5 (.mov (Kc 0)),mv 6 19] .ret) (sr [mv 21 7,oo 22 (.bin .lss (tm 21) (Kc 0)),mv 20 22] (.cond (tm 20) (sr [oo 4 (.mov (Kc 0)),oo 5 (.mov (Kc 0)),oo 6 (.mov (Kc 6))] .ret) (sr [mv 24 7,mv 25 0,ln 26 25,mv 27 8,oo 28 (.bin .sub (tm 26) (tm 27)),mv 29 1,oo 30 (.bin .quo (tm 28) (tm 29)),oo 31 (.bin .gtr (tm 24) (tm 30)),mv 23 31] (.cond (tm 23) (sr [oo 4 (.mov (Kc 0)),oo 5 (.mov (Kc 0)),oo 6 (.mov (Kc 5))] .ret) .skip))))))) (sr [mv 32 7,mv 33 8,mv 4 32,mv 5 33,oo 6 (.mov (Kc 0))] .ret))))
theorem MR:(Tryz.f135.body.bind (bt Tryz.prog 34 []))=some Ly:=by kernel_rfl
def Lz:aV:=(sr [oo 6 (.mov (.const .nil)),oo 7 (.mov (Kc 0)),oo 8 (.mov (Kc 0))] (sr [mv 17 0,mv 18 1,oo 19 (.call 135 [(tm 17),(tm 18)]),mv 16 19,oo 20 (.ext (tm 16) 0),oo 21 (.ext (tm 16) 1),oo 22 (.ext (tm 16) 2),mv 9 20,mv 10 21,mv 11 22] (.seq (sr [mv 23 11,oo 24 (.bin .neq (tm 23) (Kc 0))] (.cond (tm 24) (sr [mv 25 11,oo 6 (.mov (.const .nil)),oo 7 (.mov (Kc 0)),mv 8 25] .ret) .skip)) (sr [oo 12 (.mov (.const .nil))] (.seq (sr [mv 26 9,oo 27 (.mov (Kc 0))] (.block 0 (.loop (sr [oo 28 (.bin .lss (tm 27) (tm 26))] (.seq (.cond (tm 28) .skip (.exit 0)) (.seq (.block 1 (sr [mv 30 2,mv 31 0,mv 32 10,oo 33 (.slice 1 (tm 31) (some (tm 32)) none),oo 34 (.bY (tm 30) [tm 33]),mv 29 34,oo 35 (.ext (tm 29) 0),oo 36 (.ext (tm 29) 1),oo 37 (.ext (tm 29) 2),mv 13 35,mv 14 36,mv 15 37] (.seq (sr [mv 38 15,oo 39 (.bin .neq (tm 38) (Kc 0))] (.cond (tm 39) (sr [mv 40 15,oo 6 (.mov (.const .nil)),oo 7 (.mov (Kc 0)),mv 8 40] .ret) .skip)) (rg [mv 41 12,mv 42 13,oo 43 (.buildF 1 1 [Z0] [(0,(tm 42))]),oo 44 (.append 59 3 1 8 (tm 41) (tm 43)),mv 45 10,mv 46 14,oo 47 (.bin .add (tm 45) (tm 46)),mv 12 44,mv 10 47])))) (rg [oo 48 (.bin .add (tm 27) (Kc 1)),mv 27 48]))))))) (sr [mv 49 12,mv 50 10,mv 6 49,mv 7 50,oo 8 (.mov (Kc 0))] .ret))))))
theorem MS:(Tryz.f136.body.bind (bt Tryz.prog 51 [8000043]))=some Lz:=by kernel_rfl
def c98:aV:=(sr [oo 2 (.mov (.const .nil)),oo 3 (.mov (Kc 0)),oo 4 (.mov (Kc 0))] (sr [mv 5 0,oo 6 (.call 136 [(tm 5),(Kc 1),(.const (.clos 96 []))]),oo 7 (.ext (tm 6) 0),oo 8 (.ext (tm 6) 1),oo 9 (.ext (tm 6) 2),mv 2 7,mv 3 8,mv 4 9] .ret))
theorem l98:(Tryz.f98.body.bind (bt Tryz.prog 10 []))=some c98:=by kernel_rfl
end Go.RC
end
section
namespace Go.RC
open Go Go.DL Go.Proofs
def vb(z:Nat):List Int:=if h:z<128 then [(z:Int)] else ((z % 128+128:Nat):Int)::vb (z / 128)
termination_by z
decreasing_by omega
theorem zp{z:Nat}(h:z<128):vb z=[(z:Int)]:=by rw [vb,dif_pos h]
theorem AF{z:Nat}(h: ¬z<128):vb z=((z % 128+128:Nat):Int)::vb (z / 128):=by rw [vb,dif_neg h]
theorem Jl(z:Nat):vf (vb z):=by
 induction z using Nat.strongRecOn with
 |ind z c=>
  intro b a
  by_cases h:z<128
  ·rw [zp h] at a;rw [List.mem_singleton.1 a];omega
  ·rw [AF h] at a;rcases List.mem_cons.1 a with rfl|a
   ·omega
   ·exact c (z / 128) (by omega) b a
theorem GO: ∀(k z:Nat),z<128^(k+1)->(vb z).length<=k+1
 |0,z,h=>by rw [zp (by simpa using h)];simp
 |k+1,z,h=>by
  by_cases a:z<128
  ·rw [zp a];simp
  ·rw [AF a,List.length_cons]
   have:=GO k (z / 128) (Nat.div_lt_of_lt_mul (by rw [<- Nat.pow_succ'];exact h))
   omega
def zz(n:Int):Nat:=if 0<=n then (2 * n).toNat else (2 * (-1 - n)+1).toNat
def i64(n:Int):Prop:= -9223372036854775808<=n/\n<9223372036854775808
theorem F1{n:Int}(h:i64 n):zz n<18446744073709551616:=by
 unfold zz;obtain ⟨b,a⟩:=h;split <;> omega
def vi(n:Int):List Int:=vb (zz n)
theorem yK(n:Int):vf (vi n):=Jl _
theorem Bd{n:Int}(h:i64 n):(vi n).length<=10:=GO 9 _ (Nat.lt_of_lt_of_le (F1 h) (by decide))
theorem HP{a:Int}(e:0<=a)(g:a<18446744073709551616):iV .xor .u64 a 18446744073709551615=18446744073709551615 - a:=by
 obtain ⟨a,rfl⟩:=Int.eq_ofNat_of_zero_le e;have b:a<2^64:=by omega
 have f:(BitVec.ofInt 64 18446744073709551615)=BitVec.allOnes 64:=by decide
 have c:(BitVec.ofInt 64 ((a:Nat):Int)).toNat=a:=by
  rw [BitVec.ofInt_natCast,BitVec.toNat_ofNat,Nat.mod_eq_of_lt b]
 show IntKind.u64.wrap ((BitVec.ofInt 64 ((a:Nat):Int) ^^^ BitVec.ofInt 64 18446744073709551615).toNat:Int)=_
 rw [f,BitVec.xor_allOnes,BitVec.toNat_not,c,w64 (by omega) (by omega)];omega
theorem xor_zero{a:Int}(e:0<=a)(f:a<18446744073709551616):iV .xor .u64 a 0=a:=by
 obtain ⟨a,rfl⟩:=Int.eq_ofNat_of_zero_le e;have b:a<2^64:=by omega
 have c:(BitVec.ofInt 64 ((a:Nat):Int)).toNat=a:=by
  rw [BitVec.ofInt_natCast,BitVec.toNat_ofNat,Nat.mod_eq_of_lt b]
 show IntKind.u64.wrap ((BitVec.ofInt 64 ((a:Nat):Int) ^^^ BitVec.ofInt 64 0).toNat:Int)=_
 rw [show BitVec.ofInt 64 0=0#64 from rfl,BitVec.xor_zero,c,w64 (by omega) (by omega)]
theorem Bw(n:Int):IntKind.u64.wrap n=n % 18446744073709551616:=by
 unfold IntKind.wrap;simp [IntKind.bits,IntKind.signed]
theorem zig{n:Int}(h:i64 n):iV .xor .u64 (IntKind.u64.wrap (IntKind.u64.wrap n * 2^1)) (IntKind.u64.wrap (n.fdiv (2^63)))=zz n:=by
 obtain ⟨b,c⟩:=h;unfold zz;rw [show (2:Int)^1=2 from rfl,show (2:Int)^63=9223372036854775808 from rfl];rw [Int.fdiv_eq_ediv_of_nonneg _ (by decide)]
 by_cases a:0<=n
 ·rw [if_pos a,show n / 9223372036854775808=0 by omega,w64 (n:=n) a (by omega),w64 (n:=n * 2) (by omega) (by omega),w64 (n:=0) (by omega) (by omega),xor_zero (by omega) (by omega)];omega
 ·rw [if_neg a,show n / 9223372036854775808= -1 by omega];rw [show IntKind.u64.wrap (-1)=18446744073709551615 from rfl,HP (by rw [Bw];omega) (by rw [Bw];omega),Bw,Bw];omega
theorem KL: ∀b:Fin 256,iV .or .u8 (b.val:Int) 128=((b.val % 128+128:Nat):Int):=by decide+kernel
theorem Jr(z:Nat):iV .or .u8 (IntKind.u8.wrap (z:Int)) 128=((z % 128+128:Nat):Int):=by
 have e:IntKind.u8.wrap (z:Int)=((z % 256:Nat):Int):=by
  unfold IntKind.wrap;simp [IntKind.bits,IntKind.signed]
 have:=KL ⟨z % 256,Nat.mod_lt _ (by decide)⟩
 dsimp only at this;rw [e,this];omega
theorem flY(xs:List Int): ∀t∈(xs.map Y).flatMap T.cells,t.flat=true:=fun t a=>by
 obtain ⟨x,b,a⟩:=List.mem_flatMap.1 a;obtain ⟨n,_,rfl⟩:=List.mem_map.1 b;rw [List.mem_singleton.1 a];rfl
theorem B6(n:Int)(h:i64 n):eC Tryz.prog 99 [I n] 5 1 ((vi n).map Y) []:=by
 refine sX (rs:=[.tmp 2]) mixed Tryz.func99 l99 rfl rfl rfl (nlZ rfl) ?_;have i:=F1 h;have k:=Bd h;have j:=zig h;unfold vi at k ⊢;generalize zz n=z0 at i k j
 repeat' ((conv=>whnf);first|refine aS ?_|fail)
 refine tx 0 (α:=Nat×Nat×List Int) (β:=Nat×Nat×List Int) (fun q=>{sl:=[(3,.t (Q q.2.1)),(4,.own q.1 5 1 (q.2.2.map Y))],bx:=[]})
  (fun q=>q.2.1<18446744073709551616/\q.2.2++vb q.2.1=vb z0) (fun q=>q.2.1) (fun q=>{sl:=[(3,.t (Q q.2.1)),(4,.own q.1 5 1 (q.2.2.map Y))],bx:=[]}) (fun q=>q.2.1<128/\q.2.2++vb q.2.1=vb z0) (21,z0,[]) (by dsimp only;exact ⟨i,rfl⟩) ?_ ?_ ?_
 ·repeat' (first|((refine leT (congrArg Q ?_);rw [<- j];rfl))|exact wJ|refine And.intro ?_ ?_)
 ·rintro ⟨q,z,c⟩ ⟨g,a⟩;dsimp only at g a;rcases Nat.lt_or_ge z 128 with h|h
  ·repeat' ((conv=>whnf);first|refine aD0 ?_|refine aS ?_|fail)
   exact ⟨(q,z,c),⟨h,a⟩,by repeat' (first|exact wJ|refine And.intro ?_ ?_)⟩
  ·have e:=AF (z:=z) (by omega);rw [e] at a;have b:=congrArg List.length a;rw [List.length_append,List.length_cons] at b;have f:(z:Int).fdiv (2^7)=(z / 128:Nat):=by
    rw [Int.fdiv_eq_ediv_of_nonneg _ (by decide)];rfl
   repeat' ((conv=>whnf);first|refine aD1 ?_|(refine And.intro (by first|((simp;omega);done)|fail) ?_)|refine aS ?_|fail)
   refine ⟨(21,z / 128,c++[((z % 128+128:Nat):Int)]),⟨by dsimp only;omega,by simpa using a⟩,by dsimp only;omega,?_⟩
   repeat' (first|((refine leT (congrArg Q ?_);exact f.symm))|exact wJ|refine ug ?_|refine And.intro ?_ ?_)
   rw [List.map_append,List.map_singleton, <-Jr];rfl
 rintro ⟨q,z,c⟩ ⟨g,a⟩;dsimp only at g a;rw [zp g] at a;have b:=congrArg List.length a;rw [List.length_append,List.length_singleton] at b;have l:IntKind.u8.wrap (z:Int)=z:=w8 (by omega) (by omega);rw [<- a]
 repeat' ((conv=>whnf);first|(refine And.intro (by first|exact flY _|((simp;omega);done)|fail) ?_)|refine aS ?_|fail)
 refine ⟨_,rfl,.inl ⟨26,congrArg (V.own 26 5 1) ?_⟩⟩;dsimp only;rw [l,List.map_append];rfl
def vs(s:ByteArray):List Int:=vi s.size++sB s
theorem xr{n:Nat}(h:n<2^62):i64 (n:Int):=by unfold i64;omega
theorem EB(s:ByteArray)(h:s.size<2^40):eC Tryz.prog 101 [.str s] 5 1 ((vs s).map Y) []:=by
 refine sX (rs:=[.tmp 2]) mixed Tryz.func101 Mv rfl rfl rfl (nlZ rfl) ?_;have a:=xr (n:=s.size) (by omega);have c:=Bd a;have b:(bX s).length=s.size:=by rw [CL,List.length_map,A9]
 repeat' ((conv=>whnf);first|refine tY rfl (B6 s.size a) ?_|(refine And.intro (by first|exact flY _|((simp [b];omega);done)|fail) ?_)|refine aS ?_|fail)
 refine ⟨_,rfl,.inl ⟨7,congrArg (V.own 7 5 1) ?_⟩⟩;unfold vs;rw [List.map_append,CL]
def vis(l:List Int):List Int:=vi l.length++l.flatMap vi
theorem F9{α:Type}(f:α->List Int){l:List α}{i:Nat}(h:i<l.length):(l.take (i+1)).flatMap f=(l.take i).flatMap f++f l[i]:=by
 rw [List.take_succ_eq_append_getElem h,List.flatMap_append];simp
theorem ED{α:Type}(f:α->List Int)(k:Nat): ∀{l:List α},(∀ x∈l,(f x).length<=k)->(l.flatMap f).length<=k * l.length
 |[],_=>by simp
 |x::l,h=>by
  have b:=ED f k (l:=l) (fun y a=>h y (by simp [a]));have c:=h x (by simp);rw [List.flatMap_cons,List.length_append,List.length_cons,Nat.mul_add];omega
theorem Ju(l:List Int)(h:l.length<2^40)(e: ∀x∈l,i64 x):eC Tryz.prog 138 [.slice 1 (l.map I),.clos 99 []] 5 1 ((vis l).map Y) []:=by
 refine sX (rs:=[.tmp 4]) mixed Tryz.func138 MT rfl rfl rfl (nlZ rfl) ?_;have f:=xr (n:=l.length) (by omega);have k:=Bd f
 repeat' ((conv=>whnf);first|(refine tY (ts:=[I l.length]) (by simp;rfl) (B6 l.length f) ?_)|fail)
 refine tx 0 (α:=Nat×Nat) (β:=Nat) (fun q=>{sl:=[(1,.t (.clos 99 [])),(5,.own q.1 5 1 ((vi l.length++(l.take q.2).flatMap vi).map Y)),(11,.t (.slice 1 (l.map I))),(12,.t (I l.length)),(13,.t (I q.2))],bx:=[]})
  (fun q=>q.2<=l.length) (fun q=>l.length - q.2) (fun q=>{sl:=[(5,.own q 5 1 ((vis l).map Y))],bx:=[]}) (fun _=>True) (10,0) (by simp) ?_ ?_ ?_
 ·repeat' (first|((refine leI ?_;simp;done))|exact wJ|refine ug ?_|refine And.intro ?_ ?_)
  simp
 ·rintro ⟨q,i⟩ g;dsimp only at g;rcases Nat.lt_or_ge i l.length with a|a
  ·have b:=e l[i] (List.getElem_mem a);have j:=Bd b;have c:=ED vi 10 (l:=l.take i) (fun x b=>Bd (e x (List.mem_of_mem_take b)));rw [List.length_take] at c
   repeat' ((conv=>whnf);first|(refine nv_ (I l[i]) (by first|((simp [a]);done)|fail) ?_)|refine uc _ ((B6 l[i] b).ua) ?_|refine aD1 ?_|(refine And.intro (by first|((simp;omega);done)|((simp only [List.length_map,List.length_append];omega);done)|fail) ?_)|refine aS ?_|refine nT_ ?_)
   refine ⟨(21,i+1),by dsimp only;omega,by dsimp only;omega,?_⟩
   repeat' (first|exact wJ|refine ug ?_|refine And.intro ?_ ?_)
   rw [F9 vi a];simp
  ·have:i=l.length:=by omega
   subst this
   repeat' ((conv=>whnf);first|refine aD0 ?_|refine aS ?_|fail)
   exact ⟨q,trivial,by repeat' (first|((refine ug ?_;rw [List.take_length];rfl))|exact wJ|refine And.intro ?_ ?_)⟩
 rintro q -
 repeat' ((conv=>whnf);first|(refine And.intro (by first|exact flY _) ?_)|refine aS ?_|fail)
 exact ⟨_,rfl,.inl ⟨q,rfl⟩⟩
theorem DB(l:List Int)(h:l.length<2^40)(a: ∀x∈l,i64 x):eC Tryz.prog 102 [.slice 1 (l.map I)] 5 1 ((vis l).map Y) []:=by
 refine sX (rs:=[.tmp 2]) mixed Tryz.func102 Mw rfl rfl rfl (nlZ rfl) ?_
 repeat' ((conv=>whnf);first|refine tY rfl (Ju l h a) ?_|(refine And.intro (by first|exact flY _) ?_)|refine aS ?_|fail)
 exact ⟨_,rfl,.inl ⟨_,rfl⟩⟩
theorem EW(s:ByteArray):vf (vs s):=fun b a=>by
 rcases List.mem_append.1 a with h|h
 ·exact yK _ b h
 ·exact CH _ b h
end Go.RC
end
section
end
section
end
section
end
section
end
section
end
section
end
section
end
section
end
section
end
section
end
section
end
section
end
section
end
section
namespace Go.RC
open Go Go.DL Go.Proofs
def un(z:Int):Int:=if z % 2=1 then -1 - z / 2 else z / 2
def gz:Nat->Int->List Int->Int×Int×Int
 |_,_,[]=>(0,0,5)
 |k,z,c::r=>if (k=9/\c>1)\/(k>0/\c=0) then (0,0,6) else if c<128 then (un (z+c % 128 * 128^k),(k:Int)+1,0) else gz (k+1) (z+c % 128 * 128^k) r
def gi(b:List Int):Int×Int×Int:=gz 0 0 b
theorem Iz{b:List Int}{k:Nat}{z:Int}(h:k<b.length):gz k z (b.drop k)=if (k=9/\b[k]>1)\/(k>0/\b[k]=0) then (0,0,6) else if b[k]<128 then (un (z+b[k] % 128 * 128^k),(k:Int)+1,0) else gz (k+1) (z+b[k] % 128 * 128^k) (b.drop (k+1)):=by
 rw [List.drop_eq_getElem_cons h];rfl
theorem Jn: ∀c:Fin 256,iV .and .u8 (c.val:Int) 127=(c.val:Int) % 128:=by decide+kernel
theorem Ie{c:Int}(a:0<=c)(b:c<256):iV .and .u8 c 127=c % 128:=by
 obtain ⟨c,rfl⟩:=Int.eq_ofNat_of_zero_le a;exact Jn ⟨c,by omega⟩
theorem IS{a b:Int}(k:Nat)(r:0<=a)(j:a<18446744073709551616)(hd:a % 2^k=0)(o:0<=b)(i:b<2^k)(s:k<=64):iV .or .u64 a b=a+b:=by
 obtain ⟨a,rfl⟩:=Int.eq_ofNat_of_zero_le r;obtain ⟨b,rfl⟩:=Int.eq_ofNat_of_zero_le o;have p:(2:Nat)^k<=2^64:=Nat.pow_le_pow_right (by decide) s;have g:b<2^k:=by exact_mod_cast i
 have h:a % 2^k=0:=by exact_mod_cast hd
 have f:a<2^64:=by omega
 have c:b<2^64:=by omega
 have e:a ||| b=a+b:=by
  have:=Nat.two_pow_add_eq_or_of_lt g (a / 2^k)
  have l:2^k * (a / 2^k)=a:=Nat.mul_div_cancel' (Nat.dvd_of_mod_eq_zero h);rw [l] at this;exact this.symm
 have q:a ||| b<2^64:=Nat.or_lt_two_pow f c
 have n:(BitVec.ofInt 64 ((a:Nat):Int)).toNat=a:=by
  rw [BitVec.ofInt_natCast,BitVec.toNat_ofNat,Nat.mod_eq_of_lt f]
 have m:(BitVec.ofInt 64 ((b:Nat):Int)).toNat=b:=by
  rw [BitVec.ofInt_natCast,BitVec.toNat_ofNat,Nat.mod_eq_of_lt c]
 show IntKind.u64.wrap ((BitVec.ofInt 64 ((a:Nat):Int) ||| BitVec.ofInt 64 ((b:Nat):Int)).toNat:Int)=_
 rw [BitVec.toNat_or,n,m,e,w64 (by omega) (by omega)];rfl
theorem Ho(k:Nat):(2:Int)^(7 * k)=128^k:=by rw [Int.pow_mul];rfl
theorem digit{z c:Int}{k:Nat}(j:0<=z)(b:z<128^k)(o:k<=9)(p:0<=c)(q:c<256)(n:k=9->c<=1):
  iV .or .u64 z (IntKind.u64.wrap (c % 128 * 2^(7 * k)))=z+c % 128 * 128^k/\0<=z+c % 128 * 128^k/\z+c % 128 * 128^k<128^(k+1)/\z+c % 128 * 128^k<18446744073709551616:=by
 have l:0<=c % 128:=Int.emod_nonneg _ (by decide);have g:c % 128<=127:=by omega
 have f:(0:Int)<128^k:=Int.pow_pos (by decide);have a:c % 128 * 128^k<18446744073709551616/\z+c % 128 * 128^k<18446744073709551616:=by
  by_cases h:k=9
  ·subst h
   have:c<=1:=n rfl
   have e:(128:Int)^9=9223372036854775808:=by decide
   rw [e] at b ⊢;omega
  ·have m:(128:Int)^k<=128^8:=by have:=Nat.pow_le_pow_right (show 0<128 by decide) (show k<=8 by omega);exact_mod_cast this
   have e:(128:Int)^8=72057594037927936:=by decide
   have:c % 128 * 128^k<=127 * 128^k:=Int.mul_le_mul_of_nonneg_right g (Int.le_of_lt f)
   rw [e] at m;omega
 have i:0<=c % 128 * 128^k:=Int.mul_nonneg l (Int.le_of_lt f);refine ⟨?_,by omega,?_,a.2⟩
 ·rw [Ho,w64 i a.1,or_comm,IS (7 * k) i a.1 (by rw [Ho];exact Int.mul_emod_left _ _) j (by rw [Ho];exact b) (by omega),Int.add_comm]
 ·rw [Int.pow_succ]
  have:c % 128 * 128^k<=127 * 128^k:=Int.mul_le_mul_of_nonneg_right g (Int.le_of_lt f)
  omega
theorem GP{a:Int}(e:0<=a)(g:a<9223372036854775808):iV .xor .i64 a (-1)= -1 - a:=by
 obtain ⟨a,rfl⟩:=Int.eq_ofNat_of_zero_le e;have b:a<2^64:=by omega
 have f:(BitVec.ofInt 64 (-1))=BitVec.allOnes 64:=by decide
 have c:(BitVec.ofInt 64 ((a:Nat):Int)).toNat=a:=by
  rw [BitVec.ofInt_natCast,BitVec.toNat_ofNat,Nat.mod_eq_of_lt b]
 show IntKind.i64.wrap ((BitVec.ofInt 64 ((a:Nat):Int) ^^^ BitVec.ofInt 64 (-1)).toNat:Int)=_
 rw [f,BitVec.xor_allOnes,BitVec.toNat_not,c];unfold IntKind.wrap;simp [IntKind.bits,IntKind.signed];omega
theorem GQ{a:Int}(e:0<=a)(g:a<9223372036854775808):iV .xor .i64 a 0=a:=by
 obtain ⟨a,rfl⟩:=Int.eq_ofNat_of_zero_le e;have b:a<2^64:=by omega
 have c:(BitVec.ofInt 64 ((a:Nat):Int)).toNat=a:=by
  rw [BitVec.ofInt_natCast,BitVec.toNat_ofNat,Nat.mod_eq_of_lt b]
 show IntKind.i64.wrap ((BitVec.ofInt 64 ((a:Nat):Int) ^^^ BitVec.ofInt 64 0).toNat:Int)=_
 have f:(BitVec.ofInt 64 0)=0#64:=by decide
 rw [f,BitVec.xor_zero,c];exact nW (by omega) (by omega)
theorem La{z:Int}(e:0<=z)(g:z<18446744073709551616):iV .and .u64 z 1=z % 2:=by
 obtain ⟨a,rfl⟩:=Int.eq_ofNat_of_zero_le e;have b:a<2^64:=by omega
 have c:(BitVec.ofInt 64 ((a:Nat):Int)).toNat=a:=by
  rw [BitVec.ofInt_natCast,BitVec.toNat_ofNat,Nat.mod_eq_of_lt b]
 show IntKind.u64.wrap ((BitVec.ofInt 64 ((a:Nat):Int) &&& BitVec.ofInt 64 1).toNat:Int)=_
 have f:(BitVec.ofInt 64 1).toNat=1:=by decide
 rw [BitVec.toNat_and,c,f,Nat.and_one_is_mod,w64 (by omega) (by omega)];rfl
theorem K4{z:Int}(b:0<=z)(a:z<18446744073709551616):iV .xor .i64 (IntKind.i64.wrap (z.fdiv (2^1))) (IntKind.i64.wrap (-(IntKind.i64.wrap (iV .and .u64 z 1))))=un z:=by
 rw [La b a];have e:z.fdiv (2^1)=z / 2:=by rw [Int.fdiv_eq_ediv_of_nonneg _ (by decide)];rfl
 rw [e,nW (by omega) (by omega),nW (n:=z % 2) (by omega) (by omega)];unfold un;rcases Int.emod_two_eq z with h|h
 ·rw [h,if_neg (by decide),show IntKind.i64.wrap (-0)=0 by decide,GQ (by omega) (by omega)]
 ·rw [h,if_pos rfl,show IntKind.i64.wrap (-1)= -1 by decide,GP (by omega) (by omega)]
theorem Kg{z:Int}(a:0<=z)(b:z<18446744073709551616):iV .xor .i64 (IntKind.i64.wrap (z.fdiv (2^min (Int.toNat 1) IntKind.u64.bits))) (IntKind.i64.wrap (0 - IntKind.i64.wrap (iV .and .u64 z 1)))=un z:=by
 rw [show min (Int.toNat 1) IntKind.u64.bits=1 from by decide,Int.zero_sub];exact K4 a b
abbrev gT(x:Int×Int×Int):T:=.tup [I x.1,I x.2.1,I x.2.2]
theorem ze(b:List Int)(B:vf b)(G:b.length<2^60):DCalls Tryz.prog 96 [.slice 1 (b.map Y)] (gT (gi b)):=by
 refine dl2 mixed [.tmp 2,.tmp 3,.tmp 4] [I _,I _,I _] Tryz.func96 l96 ?_
 skip
 refine tx 0 (α:=Nat×Int) (β:=Int×Int) (fun q=>{sl:=[(5,.t (Q q.2)),(6,.t (I 0)),(9,.t (.slice 1 (b.map Y))),(10,.t (I b.length)),(11,.t (I q.1))],bx:=[]})
  (fun q=>q.1<=b.length/\q.1<=9/\0<=q.2/\q.2<128^q.1/\gz q.1 q.2 (b.drop q.1)=gi b) (fun q=>b.length - q.1)
  (fun z=>{sl:=[(5,.t (Q z.1)),(6,.t (I z.2))],bx:=[]}) (fun z=>(z.2=0/\gi b=(0,0,5))\/(0<z.2/\0<=z.1/\z.1<18446744073709551616/\gi b=(un z.1,z.2,0))) (0,0) ⟨by simp,by simp,by simp,by simp,rfl⟩ ?_ ?_ ?_
 ·repeat' (first|((refine leI ?_;simp;done))|exact wJ|refine And.intro ?_ ?_)
 ·rintro ⟨k,z⟩ ⟨F,w,s,m,a⟩;dsimp only at F w s m a;rcases Nat.lt_or_ge k b.length with f|f
  ·rw [Iz f] at a;obtain ⟨p,o⟩:=B b[k] (List.getElem_mem f);have j:b[k]? =some b[k]:=ggZ f;generalize b[k]=c at a p o j;have g:((b.map Y)[k]?.getD .nil)=Y c:=by rw [List.getElem?_map,j];rfl
   by_cases x:(k=9/\c>1)\/(k>0/\c=0)
   ·rw [if_pos x] at a
    by_cases r:k=9
    ·by_cases E:c>1
     ·repeat' ((conv=>whnf);first|(refine nv_ (Y c) (by first|((simp only [Int.toNat_natCast];exact g);done)|fail) ?_)|refine aE1 ?_|refine aD1 ?_|(refine And.intro (by first|((simp;omega);done)|fail) ?_)|refine aS ?_|(exact ri (by rw [<- a]) (ri (by rw [<- a]) (ri (by rw [<- a]) trivial)))|refine nT_ ?_)
     ·have i:c=0:=by omega
      repeat' ((conv=>whnf);first|(refine nv_ (Y c) (by first|((simp only [Int.toNat_natCast];exact g);done)|fail) ?_)|refine aE1 ?_|refine aD1 ?_|refine aD0 ?_|(refine And.intro (by first|((simp;omega);done)|fail) ?_)|refine aS ?_|(exact ri (by rw [<- a]) (ri (by rw [<- a]) (ri (by rw [<- a]) trivial)))|refine nT_ ?_)
    ·have i:c=0:=by omega
     have y:k>0:=by omega
     repeat' ((conv=>whnf);first|(refine nv_ (Y c) (by first|((simp only [Int.toNat_natCast];exact g);done)|fail) ?_)|refine aE1 ?_|refine aE0 ?_|refine aD1 ?_|(refine And.intro (by first|((simp;omega);done)|fail) ?_)|refine aS ?_|(exact ri (by rw [<- a]) (ri (by rw [<- a]) (ri (by rw [<- a]) trivial)))|refine nT_ ?_)
   rw [if_neg x] at a;have hd:=digit s m w p o (fun h=>by omega);have C:IntKind.i64.wrap (7 * (k:Int))=((7 * k:Nat):Int):=by rw [nW (by omega) (by omega)];simp
   have l:z+c % 128 * 128^k=iV .or .u64 z (IntKind.u64.wrap (IntKind.u64.wrap (iV .and .u8 c 127) * 2^min (IntKind.i64.wrap (7 * (k:Int))).toNat IntKind.u64.bits)):=by
    rw [Ie p o,w64 (n:=c % 128) (by omega) (by omega),C,Int.toNat_natCast,show min (7 * k) IntKind.u64.bits=7 * k from Nat.min_eq_left (Nat.le_trans (by omega) (nlZ (n:=63) rfl)),hd.1]
   have e:(k:Int)+1=IntKind.i64.wrap ((k:Int)+1):=(nW (by omega) (by omega)).symm
   by_cases c8:c<128
   ·rw [if_pos c8] at a
    by_cases r:k=9
    ·repeat' ((conv=>whnf);first|(refine nv_ (Y c) (by first|((simp only [Int.toNat_natCast];exact g);done)|fail) ?_)|refine aE1 ?_|refine aE0 ?_|refine aD1 ?_|refine aD0 ?_|(refine And.intro (by first|((simp;omega);done)|fail) ?_)|refine aS ?_|refine nT_ ?_)
     refine ⟨(z+c % 128 * 128^k,(k:Int)+1),.inr ⟨by dsimp only;omega,hd.2.1,hd.2.2.2,a.symm⟩,?_⟩
     repeat' (first|((refine leT ?_;exact congrArg Q l))|((refine leI ?_;exact e))|exact wJ|refine And.intro ?_ ?_)
    by_cases y:k=0
    ·repeat' ((conv=>whnf);first|(refine nv_ (Y c) (by first|((simp only [Int.toNat_natCast];exact g);done)|fail) ?_)|refine aE0 ?_|refine aD1 ?_|refine aD0 ?_|(refine And.intro (by first|((simp;omega);done)|fail) ?_)|refine aS ?_|refine nT_ ?_)
     refine ⟨(z+c % 128 * 128^k,(k:Int)+1),.inr ⟨by dsimp only;omega,hd.2.1,hd.2.2.2,a.symm⟩,?_⟩
     repeat' (first|((refine leT ?_;exact congrArg Q l))|((refine leI ?_;exact e))|exact wJ|refine And.intro ?_ ?_)
    ·have i:c≠0:=by omega
     repeat' ((conv=>whnf);first|(refine nv_ (Y c) (by first|((simp only [Int.toNat_natCast];exact g);done)|fail) ?_)|refine aE0 ?_|refine aD1 ?_|(refine And.intro (by first|((simp;omega);done)|fail) ?_)|refine aS ?_|refine nT_ ?_)
     refine ⟨(z+c % 128 * 128^k,(k:Int)+1),.inr ⟨by dsimp only;omega,hd.2.1,hd.2.2.2,a.symm⟩,?_⟩
     repeat' (first|((refine leT ?_;exact congrArg Q l))|((refine leI ?_;exact e))|exact wJ|refine And.intro ?_ ?_)
   ·rw [if_neg c8] at a;have r:k≠9:=by omega
    by_cases y:k=0
    ·repeat' ((conv=>whnf);first|(refine nv_ (Y c) (by first|((simp only [Int.toNat_natCast];exact g);done)|fail) ?_)|refine aE0 ?_|refine aD1 ?_|refine aD0 ?_|(refine And.intro (by first|((simp;omega);done)|fail) ?_)|refine aS ?_|refine nT_ ?_)
     refine ⟨(k+1,z+c % 128 * 128^k),⟨by dsimp only;omega,by dsimp only;omega,hd.2.1,hd.2.2.1,a⟩,by dsimp only;omega,?_⟩
     repeat' (first|((refine leT ?_;exact congrArg Q l))|((refine leI ?_;exact e))|exact wJ|refine And.intro ?_ ?_)
    ·have i:c≠0:=by omega
     repeat' ((conv=>whnf);first|(refine nv_ (Y c) (by first|((simp only [Int.toNat_natCast];exact g);done)|fail) ?_)|refine aE0 ?_|refine aD1 ?_|refine aD0 ?_|(refine And.intro (by first|((simp;omega);done)|fail) ?_)|refine aS ?_|refine nT_ ?_)
     refine ⟨(k+1,z+c % 128 * 128^k),⟨by dsimp only;omega,by dsimp only;omega,hd.2.1,hd.2.2.1,a⟩,by dsimp only;omega,?_⟩
     repeat' (first|((refine leT ?_;exact congrArg Q l))|((refine leI ?_;exact e))|exact wJ|refine And.intro ?_ ?_)
  ·have:k=b.length:=by omega
   subst this;rw [List.drop_length] at a
   repeat' ((conv=>whnf);first|refine aD0 ?_|refine aS ?_|fail)
   exact ⟨(z,0),.inl ⟨rfl,a.symm⟩,by repeat' (first|exact wJ|refine And.intro ?_ ?_)⟩
 rintro ⟨z,u⟩ h;dsimp only at h;rcases h with ⟨v,f⟩|⟨v,f,D,A⟩
 ·subst v;rw [f]
  repeat' ((conv=>whnf);first|refine aE1 ?_|refine rix ?_|refine aS ?_|exact trivial)
 ·rw [A];have H:=Kg f D
  repeat' ((conv=>whnf);first|refine sD (by omega) ?_|refine rix ?_|refine aS ?_|exact trivial)
end Go.RC
end
section
end
section
namespace Go.RC
open Go Go.DL Go.Proofs
theorem Ke{z:Int}(a:0<=z)(b:z<18446744073709551616):i64 (un z):=by
 unfold un i64;split <;> omega
theorem HS: ∀{l:List Int} {k:Nat} {z:Int},vf l->k<=9->0<=z->z<128^k->i64 (gz k z l).1/\0<=(gz k z l).2.1/\(gz k z l).2.1<=k+l.length/\0<=(gz k z l).2.2/\(gz k z l).2.2<=6/\((gz k z l).2.2=0->(k:Int)+1<=(gz k z l).2.1)
 |[],k,z,_,_,_,_=>by
  rw [gz];refine ⟨by unfold i64;omega,by simp,by simp,by simp,by simp,by simp⟩
 |c::l,k,z,hb,h9,hz,hz2=>by
  obtain ⟨m,f⟩:=hb c (by simp);rw [gz]
  by_cases a:(k=9/\c>1)\/(k>0/\c=0)
  ·rw [if_pos a];refine ⟨by unfold i64;omega,by simp,by simp;omega,by simp,by simp,by simp⟩
  rw [if_neg a];obtain ⟨-,b,n,q⟩:=digit hz hz2 h9 m f (fun h=>by omega)
  by_cases c8:c<128
  ·rw [if_pos c8];exact ⟨Ke b q,by dsimp only;omega,by dsimp only;simp only [List.length_cons];omega,by simp,by simp,by simp⟩
  ·rw [if_neg c8];obtain ⟨e,g,r,j,i,p⟩:=HS (l:=l) (k:=k+1) (z:=z+c % 128 * 128^k) (fun x o=>hb x (by simp [o])) (by omega) b n;refine ⟨e,g,?_,j,i,fun h=>by have:=p h;omega⟩;simp only [List.length_cons];omega
theorem yF{b:List Int}(a:vf b):i64 (gi b).1/\0<=(gi b).2.1/\(gi b).2.1<=b.length/\0<=(gi b).2.2/\(gi b).2.2<=6/\((gi b).2.2=0->1<=(gi b).2.1):=by
 obtain ⟨f,i,l,c,j,g⟩:=HS (k:=0) (z:=0) a (by omega) (by omega) (by decide);have e:gi b=gz 0 0 b:=rfl;rw [e];exact ⟨f,i,by omega,c,j,fun h=>by have:=g h;omega⟩
def gl(b:List Int)(least:Int):Int×Int×Int:=if (gi b).2.2≠0 then (0,0,(gi b).2.2) else if (gi b).1<0 then (0,0,6) else if (gi b).1>(b.length - (gi b).2.1) / least then (0,0,5) else ((gi b).1,(gi b).2.1,0)
theorem Az(b:List Int)(least:Int)(h:vf b)(j:b.length<2^60)(p:0<least)(r:least<100):DCalls Tryz.prog 135 [.slice 1 (b.map Y),I least] (gT (gl b least)):=by
 refine dl2 mixed [.tmp 4,.tmp 5,.tmp 6] [I _,I _,I _] Tryz.func135 MR ?_;have f:=ze b h j;obtain ⟨k,m,s,q,o,t⟩:=yF h;unfold gl;generalize gi b=g at *
 obtain ⟨n,u,e⟩:=g;dsimp only at *
 by_cases e0:e=0
 case neg=>
  rw [if_pos e0]
  repeat' ((conv=>whnf);first|refine uc _ (f) ?_|refine sG e0 ?_|refine rix ?_|refine aS ?_|exact trivial)
 rw [if_neg (by simpa using e0)]
 by_cases a:n<0
 ·rw [if_pos a]
  repeat' ((conv=>whnf);first|refine uc _ (f) ?_|refine sF e0 ?_|refine sC a ?_|refine rix ?_|refine aS ?_|exact trivial)
 rw [if_neg a];have i:IntKind.i64.wrap ((IntKind.i64.wrap (((b.map Y).length:Int) - u)).tdiv least)=(b.length - u) / least:=by
  rw [List.length_map,nW (n:=(b.length:Int) - u) (by omega) (by omega),Int.tdiv_eq_ediv_of_nonneg (by omega)];have v:0<=((b.length:Int) - u) / least:=Int.ediv_nonneg (by omega) (by omega);have l:((b.length:Int) - u) / least<=(b.length:Int) - u:=Int.ediv_le_self _ (by omega);exact nW (by omega) (by omega)
 by_cases c:n>(b.length - u) / least
 ·rw [if_pos c]
  repeat' ((conv=>whnf);first|refine uc _ (f) ?_|refine sF e0 ?_|refine su a ?_|(refine sC (by rw [i];exact c) ?_)|refine rix ?_|(refine And.intro (by first|(omega;done)|fail) ?_)|refine aS ?_|exact trivial)
 ·rw [if_neg c]
  repeat' ((conv=>whnf);first|refine uc _ (f) ?_|refine sF e0 ?_|refine su a ?_|(refine su (by rw [i];exact c) ?_)|refine rix ?_|(refine And.intro (by first|(omega;done)|fail) ?_)|refine aS ?_|exact trivial)
def gis:Nat->List Int->Int->List Int->List Int×Int×Int
 |0,_,at',acc=>(acc,at',0)
 |n+1,b,at',acc=>if (gi (b.drop at'.toNat)).2.2≠0 then ([],0,(gi (b.drop at'.toNat)).2.2) else gis n b (at'+(gi (b.drop at'.toNat)).2.1) (acc++[(gi (b.drop at'.toNat)).1])
def uU(b:List Int):List Int×Int×Int:=if (gl b 1).2.2≠0 then ([],0,(gl b 1).2.2) else gis (gl b 1).1.toNat b (gl b 1).2.1 []
abbrev gsT(x:List Int×Int×Int):T:=.tup [if x.2.2≠0 then .nil else .slice 1 (x.1.map I),I x.2.1,I x.2.2]
theorem vE{b:List Int}(h:vf b)(k:Nat):vf (b.drop k):=fun x a=>h x (List.mem_of_mem_drop a)
theorem Bj{b:List Int}{least:Int}(f:vf b)(j:0<least):0<=(gl b least).1/\0<=(gl b least).2.1/\(gl b least).2.1<=b.length/\(gl b least).1 * least<=b.length - (gl b least).2.1:=by
 obtain ⟨k,p,m,h,q,o⟩:=yF f;unfold gl;generalize gi b=g at *
 obtain ⟨n,u,e⟩:=g;dsimp only at *
 by_cases e0:e≠0
 ·rw [if_pos e0];refine ⟨by simp,by simp,by simp,by simp⟩
 rw [if_neg e0]
 by_cases a:n<0
 ·rw [if_pos a];refine ⟨by simp,by simp,by simp,by simp⟩
 rw [if_neg a]
 by_cases c:n>(b.length - u) / least
 ·rw [if_pos c];refine ⟨by simp,by simp,by simp,by simp⟩
 rw [if_neg c];refine ⟨by dsimp only;omega,by dsimp only;omega,by dsimp only;omega,?_⟩;dsimp only;have i:n * least<=(b.length - u) / least * least:=Int.mul_le_mul_of_nonneg_right (by omega) (by omega);have l:((b.length:Int) - u) / least * least<=(b.length:Int) - u:=Int.ediv_mul_le _ (by omega);omega
theorem G7{n:Nat}{b:List Int}{a:Int}{acc:List Int}(k:Nat)(e:k<n):gis (n - k) b a acc=if (gi (b.drop a.toNat)).2.2≠0 then ([],0,(gi (b.drop a.toNat)).2.2) else gis (n - (k+1)) b (a+(gi (b.drop a.toNat)).2.1) (acc++[(gi (b.drop a.toNat)).1]):=by
 obtain ⟨m,c⟩: ∃m,n - k=m+1:=⟨n - k - 1,by omega⟩
 rw [c,show n - (k+1)=m by omega];rfl
end Go.RC
end
