/- Joined by program: parts of a data level over the model, of the program's functions over it, and of the statement's proof. -/
import Derived.Test.YtnfonfjleonbdaaGreatGd
import Derived.Test.YtnfonfjleonbdaaGreatGe
import Derived.Test.YtnfonfjleonbdaaGreatGc
import Derived.Test.YtnfonfjleonbdaaGreatProg
import Derived.KernelRfl
import Derived.Shelf.Sort.Plain
import Derived.Shelf.Slices.In.SortNone
set_option maxRecDepth 100000
set_option maxHeartbeats 8000000
section
namespace Go.MM
open Go Go.DL Go.Proofs
theorem zB:Tryz.prog.cellsOf 9=1:=by kernel_rfl
theorem H7:Tryz.prog.cellsOf 34=1:=by kernel_rfl
theorem Ct:Tryz.prog.cellsOf 36=5:=by kernel_rfl
theorem H8:Tryz.prog.cellsOf 37=1:=by kernel_rfl
theorem Cu:Tryz.prog.cellsOf 39=9:=by kernel_rfl
theorem Eo:Tryz.prog.cellsOf 54=3:=by kernel_rfl
theorem Nj(us:List T):mkT Tryz.prog 36 us= .agg us:=by unfold mkT;rw [Tryz.underlying36]
theorem Nk(us:List T):mkT Tryz.prog 39 us= .agg us:=by unfold mkT;rw [Tryz.underlying39]
theorem Nl(us:List T):mkT Tryz.prog 54 us= .agg us:=by unfold mkT;rw [Tryz.underlying54]
theorem J2:Tryz.prog.underlying 9=some .string:=by kernel_rfl
theorem yR{us:List T}(h:cB Tryz.prog 9 us): ∃s,us=[.str s]:=by
 cases h with
 |str h s hs=>exact ⟨s,rfl⟩
 |bool h|int h|nil h|slice h|struct h|array h=>rw [J2] at h;cases h
def RdP(us:List T):Prop:= ∃r:RP,dn us (uX r)/\r.nodes<=aQ us/\(aQ us<2^62->AU r)
def KV(us:List T):Prop:= ∃rs:List RP,dn us [.slice 5 (rs.map zq)]/\uW rs+1<=aQ us/\(aQ us<2^62->zJ rs)
theorem IS{xs:List (List T)}(h: ∀x∈xs,RdP x): ∃rs:List RP,rs.length=xs.length/\(∀ (i:Nat) (x:List T) (r:RP),xs[i]? =some x->rs[i]? =some r->dn x (uX r))/\uW rs<=aQ (xs.map .agg)/\(aQ (xs.map .agg)<2^62->zJ rs):=by
 induction xs with
 |nil=>exact ⟨[],rfl,by simp,by simp [uW],fun _=>trivial⟩
 |cons x xs ih=>
  obtain ⟨r,h1,h2,h3⟩:=h x (by simp);obtain ⟨rs,k1,k2,k3,k4⟩:=ih fun y hy=>h y (by simp [hy])
  refine ⟨r::rs,by simp [k1],fun i a b ha hb=>?_,?_,fun hb=>?_⟩
  ·cases i with
   |zero=>simp at ha hb;subst ha;subst hb;exact h1
   |succ i=>exact k2 i a b (by simpa using ha) (by simpa using hb)
  ·simp only [uW,List.map_cons,aQ,T.bulk];omega
  ·simp only [List.map_cons,aQ,T.bulk] at hb;exact ⟨h3 (by omega),k4 (by omega)⟩
theorem Kl{us:List T}(h:us.length=5): ∃a b c d e,us=[a,b,c,d,e]:=by
 match us,h with
 |[a,b,c,d,e],_=>exact ⟨a,b,c,d,e,rfl⟩
theorem IU{t:TypeId}{us:List T}(h:cB Tryz.prog t us):(t=36->RdP us)/\(t=34->KV us):=by
 induction h with
 |bool h b=>exact ⟨fun e=>(by subst e;rw [Tryz.underlying36] at h;cases h),fun e=>(by subst e;rw [Bo] at h;cases h)⟩
 |int h n hw=>exact ⟨fun e=>(by subst e;rw [Tryz.underlying36] at h;cases h),fun e=>(by subst e;rw [Bo] at h;cases h)⟩
 |str h s hs=>exact ⟨fun e=>(by subst e;rw [Tryz.underlying36] at h;cases h),fun e=>(by subst e;rw [Bo] at h;cases h)⟩
 |array h us hl hf ih=>exact ⟨fun e=>(by subst e;rw [Tryz.underlying36] at h;cases h),fun e=>(by subst e;rw [Bo] at h;cases h)⟩
 |nil h=>
  refine ⟨fun e=>(by subst e;rw [Tryz.underlying36] at h;cases h),fun e=>?_⟩;exact ⟨[],.cons (Les.nil 5) rfl .nil,by simp [uW,aQ,T.bulk],fun _=>trivial⟩
 |slice h xs hx hl ih=>
  refine ⟨fun e=>(by subst e;rw [Tryz.underlying36] at h;cases h),fun e=>?_⟩;subst e;rw [Bo] at h;cases h;obtain ⟨rs,k1,k2,k3,k4⟩:=IS (xs:=xs) fun x hm=>(ih x hm).1 rfl
  have em:xs.map (mkT Tryz.prog 36)=xs.map .agg:=List.map_congr_left fun x _=>Nj x
  rw [em,Ct];refine ⟨rs,.cons (Les.slice (by simp [k1]) fun i x y hx hy=>?_) rfl .nil,by simp only [aQ,T.bulk];omega,fun hb=>k4 (by simp only [aQ,T.bulk] at hb;omega)⟩;rw [List.getElem?_map] at hx hy;obtain ⟨x',hx',rfl⟩:=Option.map_eq_some_iff.1 hx;obtain ⟨r',hr',rfl⟩:=Option.map_eq_some_iff.1 hy;rw [wv];exact ⟨k2 i x' r' hx' hr',vT r'⟩
 |struct h us hl hf ih=>
  refine ⟨fun e=>?_,fun e=>(by subst e;rw [Bo] at h;cases h)⟩;subst e;rw [Tryz.underlying36] at h;cases h;rw [Ct] at hl;obtain ⟨a,b,c,d,e,rfl⟩:=Kl hl;have f0:=hf ⟨ "Kind",3,0,false, "", "",0⟩ (by simp);have f1:=hf ⟨ "Field",9,1,false, "", "",8⟩ (by simp);have f2:=hf ⟨ "N",3,2,false, "", "",24⟩ (by simp);have f3:=hf ⟨ "M",3,3,false, "", "",32⟩ (by simp);have f4:=(ih ⟨ "Args",34,4,false, "", "",40⟩ (by simp)).2 rfl;simp only [yH,zB,H7,List.drop,List.take] at f0 f1 f2 f3 f4;obtain ⟨k,e0,_⟩:=wc f0;obtain ⟨s,e1⟩:=yR f1;obtain ⟨n,e2,_⟩:=wc f2;obtain ⟨m,e3,_⟩:=wc f3;obtain ⟨rs,g1,g2,g3⟩:=f4;simp only [List.cons.injEq,and_true] at e0 e1 e2 e3;subst e0;subst e1;subst e2;subst e3;refine ⟨.mk k s n m rs,.cons (Les.refl _) rfl (.cons (Les.refl _) rfl (.cons (Les.refl _) rfl (.cons (Les.refl _) rfl g1))),?_,fun hb=>?_⟩
  ·simp only [RP.nodes,aQ,T.bulk] at g2 ⊢;omega
  ·simp only [aQ,T.bulk] at g3 hb;exact ⟨by omega,g3 (by omega)⟩
def RdO(us:List T):Prop:= ∃r:RO,dn us (ux r)/\r.wt<=aQ us/\(aQ us<2^62->yW r)
def KU(us:List T):Prop:= ∃rs:List RO,dn us [.slice 9 (rs.map yM)]/\vA rs+1<=aQ us/\(aQ us<2^62->zI rs)
theorem IQ{xs:List (List T)}(h: ∀x∈xs,RdO x): ∃rs:List RO,rs.length=xs.length/\(∀ (i:Nat) (x:List T) (r:RO),xs[i]? =some x->rs[i]? =some r->dn x (ux r))/\vA rs<=aQ (xs.map .agg)/\(aQ (xs.map .agg)<2^62->zI rs):=by
 induction xs with
 |nil=>exact ⟨[],rfl,by simp,by simp [vA],fun _=>trivial⟩
 |cons x xs ih=>
  obtain ⟨r,h1,h2,h3⟩:=h x (by simp);obtain ⟨rs,k1,k2,k3,k4⟩:=ih fun y hy=>h y (by simp [hy])
  refine ⟨r::rs,by simp [k1],fun i a b ha hb=>?_,?_,fun hb=>?_⟩
  ·cases i with
   |zero=>simp at ha hb;subst ha;subst hb;exact h1
   |succ i=>exact k2 i a b (by simpa using ha) (by simpa using hb)
  ·simp only [vA,List.map_cons,aQ,T.bulk];omega
  ·simp only [List.map_cons,aQ,T.bulk] at hb;exact ⟨h3 (by omega),k4 (by omega)⟩
theorem Kn{us:List T}(h:us.length=9): ∃a b c d e f g i j,us=[a,b,c,d,e,f,g,i,j]:=by
 match us,h with
 |[a,b,c,d,e,f,g,i,j],_=>exact ⟨a,b,c,d,e,f,g,i,j,rfl⟩
theorem dn.KP{a b c d e:T}{r:RP}(h:dn [a,b,c,d,e] (uX r)){x y:T}{xs ys:List T}(k:dn (x::xs) (y::ys)):dn (a::b::c::d::e::x::xs) (uX r++y::ys):=dn.append h k
theorem Gr{t:TypeId}{us:List T}(h:cB Tryz.prog t us):(t=39->RdO us)/\(t=37->KU us):=by
 induction h with
 |bool h b=>exact ⟨fun e=>(by subst e;rw [Tryz.underlying39] at h;cases h),fun e=>(by subst e;rw [Bp] at h;cases h)⟩
 |int h n hw=>exact ⟨fun e=>(by subst e;rw [Tryz.underlying39] at h;cases h),fun e=>(by subst e;rw [Bp] at h;cases h)⟩
 |str h s hs=>exact ⟨fun e=>(by subst e;rw [Tryz.underlying39] at h;cases h),fun e=>(by subst e;rw [Bp] at h;cases h)⟩
 |array h us hl hf ih=>exact ⟨fun e=>(by subst e;rw [Tryz.underlying39] at h;cases h),fun e=>(by subst e;rw [Bp] at h;cases h)⟩
 |nil h=>
  refine ⟨fun e=>(by subst e;rw [Tryz.underlying39] at h;cases h),fun e=>?_⟩;exact ⟨[],.cons (Les.nil 9) rfl .nil,by simp [vA,aQ,T.bulk],fun _=>trivial⟩
 |slice h xs hx hl ih=>
  refine ⟨fun e=>(by subst e;rw [Tryz.underlying39] at h;cases h),fun e=>?_⟩;subst e;rw [Bp] at h;cases h;obtain ⟨rs,k1,k2,k3,k4⟩:=IQ (xs:=xs) fun x hm=>(ih x hm).1 rfl
  have em:xs.map (mkT Tryz.prog 39)=xs.map .agg:=List.map_congr_left fun x _=>Nk x
  rw [em,Cu];refine ⟨rs,.cons (Les.slice (by simp [k1]) fun i x y hx hy=>?_) rfl .nil,by simp only [aQ,T.bulk];omega,fun hb=>k4 (by simp only [aQ,T.bulk] at hb;omega)⟩;rw [List.getElem?_map] at hx hy;obtain ⟨x',hx',rfl⟩:=Option.map_eq_some_iff.1 hx;obtain ⟨r',hr',rfl⟩:=Option.map_eq_some_iff.1 hy;rw [vL];exact ⟨k2 i x' r' hx' hr',uG r'⟩
 |struct h us hl hf ih=>
  refine ⟨fun e=>?_,fun e=>(by subst e;rw [Bp] at h;cases h)⟩;subst e;rw [Tryz.underlying39] at h;cases h;rw [Cu] at hl;obtain ⟨a,b,c,d,e,f,g,i,j,rfl⟩:=Kn hl;have f0:=hf ⟨ "Kind",3,0,false, "", "",0⟩ (by simp);have f1:=(IU (hf ⟨ "Pred",36,1,false, "", "",8⟩ (by simp))).1 rfl;have f2:=hf ⟨ "Field",9,6,false, "", "",72⟩ (by simp);have f3:=hf ⟨ "N",3,7,false, "", "",88⟩ (by simp);have f4:=(ih ⟨ "Args",37,8,false, "", "",96⟩ (by simp)).2 rfl;simp only [yH,zB,Ct,H8,List.drop,List.take] at f0 f1 f2 f3 f4;obtain ⟨k,e0,_⟩:=wc f0;obtain ⟨p,p1,p2,p3⟩:=f1;obtain ⟨s,e1⟩:=yR f2;obtain ⟨n,e2,_⟩:=wc f3;obtain ⟨rs,g1,g2,g3⟩:=f4;simp only [List.cons.injEq,and_true] at e0 e1 e2;subst e0;subst e1;subst e2;refine ⟨.mk k p s n rs,.cons (Les.refl _) rfl (dn.KP p1 (.cons (Les.refl _) rfl (.cons (Les.refl _) rfl g1))),?_,fun hb=>?_⟩
  ·simp only [RO.wt,aQ,T.bulk] at p2 g2 ⊢;omega
  ·simp only [aQ,T.bulk] at p3 g3 hb;exact ⟨p3 (by omega),by omega,g3 (by omega)⟩
theorem Hk{us:List T}(h:cB Tryz.prog 54 us): ∃f:RF,us=vS f/\f.name.size<aQ us:=by
 cases h with
 |struct h us hl hf=>
  rw [Tryz.underlying54] at h;cases h;rw [Eo] at hl
  match us,hl with
  |[a,b,c],_=>
   have f0:=hf ⟨ "Name",9,0,false, "", "",0⟩ (by simp);have f1:=hf ⟨ "At",3,1,false, "", "",16⟩ (by simp);have f2:=hf ⟨ "Width",3,2,false, "", "",24⟩ (by simp);simp only [yH,zB,List.drop,List.take] at f0 f1 f2;obtain ⟨s,e0⟩:=yR f0;obtain ⟨n,e1,_⟩:=wc f1;obtain ⟨m,e2,_⟩:=wc f2;simp only [List.cons.injEq,and_true] at e0 e1 e2;subst e0;subst e1;subst e2;exact ⟨⟨s,n,m⟩,rfl,by simp [aQ,T.bulk];omega⟩
 |int h|bool h|str h|nil h|slice h|array h=>rw [Tryz.underlying54] at h;cases h
theorem Gq{us:List T}(h:cB Tryz.prog 22 us): ∃l:List RF,Les (mkT Tryz.prog 22 us) (xZ l)/\l.length<=aQ us/\ ∀f∈l,f.name.size<aQ us:=by
 have e: ∀t,mkT Tryz.prog 22 [t]=t:=fun t=>by unfold mkT;rw [Tryz.underlying22];rfl
 cases h with
 |nil h=>exact ⟨[],by rw [e];exact Les.nil 3,by simp,by simp⟩
 |slice h xs hx hl=>
  rw [Tryz.underlying22] at h;cases h;rw [e,Eo];have em:xs.map (mkT Tryz.prog 54)=xs.map .agg:=List.map_congr_left fun x _=>Nl x
  rw [em];have key: ∃l:List RF,l.length=xs.length/\xs.map .agg=l.map wO/\l.length<=aQ (xs.map .agg)/\ ∀f∈l,f.name.size<aQ (xs.map .agg):=by
   clear hl em
   induction xs with
   |nil=>exact ⟨[],rfl,rfl,by simp,by simp⟩
   |cons x xs ih=>
    obtain ⟨f,h1,h2⟩:=Hk (hx x (by simp));obtain ⟨l,k1,k2,k3,k4⟩:=ih fun y hy=>hx y (by simp [hy])
    refine ⟨f::l,by simp [k1],by simp only [List.map_cons,k2,h1];rfl,by simp only [List.map_cons,aQ,T.bulk,List.length_cons];omega,fun g hg=>?_⟩;simp only [List.map_cons,aQ,T.bulk];rcases List.mem_cons.1 hg with rfl|hg
    ·omega
    ·have:=k4 g hg;omega
  obtain ⟨l,k1,k2,k3,k4⟩:=key;refine ⟨l,by rw [k2];exact Les.refl _,by simp only [aQ,T.bulk];omega,fun f hf=>by simp only [aQ,T.bulk];have:=k4 f hf;omega⟩
 |int h|bool h|str h|array h|struct h=>rw [Tryz.underlying22] at h;cases h
end Go.MM
end
section
namespace Go.TY
open Go Go.DL Go.MM Go.Proofs
structure RG where
 pol:RO
 st:RS
def uu(g:RG):List T:=ux g.pol++uw g.st
def uE(g:RG):T:=.agg (uu g)
theorem wN(g:RG):(uu g).length=15:=by simp [uu,uG,uw]
structure SmS (B:Nat) (s:RS):Prop where
 var:s.var.size<B
 field:s.field.size<B
 keys: ∀k∈s.key,k.size<B
 len:s.key.length<B
theorem SmS.mono{B B':Nat}{s:RS}(h:SmS B s)(hb:B<=B'):SmS B' s:=⟨by have:=h.var;omega,by have:=h.field;omega,fun k hk=>by have:=h.keys k hk;omega,by have:=h.len;omega⟩
structure SmG (B:Nat) (g:RG):Prop where
 st:SmS B g.st
 wt:g.pol.wt<=B
 names:B<=2^61->yW g.pol
theorem ES:Tryz.prog.underlying 40=some (.slice 9):=by kernel_rfl
theorem CI:Tryz.prog.underlying 24=some (.slice 44):=by kernel_rfl
theorem ER:Tryz.prog.underlying 59=some (.slice 3):=by kernel_rfl
theorem FX:Tryz.prog.cellsOf 40=1:=by kernel_rfl
theorem FW:Tryz.prog.cellsOf 59=1:=by kernel_rfl
theorem CK:Tryz.prog.cellsOf 42=6:=by kernel_rfl
theorem B0:Tryz.prog.cellsOf 44=15:=by kernel_rfl
theorem IC(us:List T):mkT Tryz.prog 44 us= .agg us:=by unfold mkT;rw [Tryz.underlying44]
theorem mkStr(t:T):mkT Tryz.prog 9 [t]=t:=by unfold mkT;rw [J2];rfl
theorem mkInt(t:T):mkT Tryz.prog 3 [t]=t:=by unfold mkT;rw [Tryz.underlying3];rfl
theorem IX{us:List T}(h:cB Tryz.prog 40 us): ∃l:List ByteArray,dn us [.slice 1 (l.map .str)]/\l.length+1<=aQ us/\ ∀s∈l,s.size<aQ us:=by
 cases h with
 |nil h=>exact ⟨[],.cons (Les.nil 1) rfl .nil,by simp [aQ,T.bulk],by simp⟩
 |slice h xs hx hl=>
  rw [ES] at h;cases h;rw [zB];have key: ∃l:List ByteArray,xs.map (mkT Tryz.prog 9)=l.map .str/\l.length<=aQ (xs.map (mkT Tryz.prog 9))/\ ∀s∈l,s.size<aQ (xs.map (mkT Tryz.prog 9)):=by
   clear hl
   induction xs with
   |nil=>exact ⟨[],rfl,by simp,by simp⟩
   |cons x xs ih=>
    obtain ⟨s,rfl⟩:=yR (hx x (by simp));obtain ⟨l,k1,k2,k3⟩:=ih fun y hy=>hx y (by simp [hy])
    refine ⟨s::l,by simp only [List.map_cons,k1,mkStr],?_,fun z hz=>?_⟩
    ·simp only [List.map_cons,aQ,mkStr,T.bulk,List.length_cons];omega
    ·simp only [List.map_cons,aQ,mkStr,T.bulk];rcases List.mem_cons.1 hz with rfl|hz
     ·omega
     ·have:=k3 z hz;omega
  obtain ⟨l,k1,k2,k3⟩:=key;refine ⟨l,by rw [<- k1];exact .cons (Les.refl _) rfl .nil,by simp only [aQ,T.bulk];omega,fun s hs=>by simp only [aQ,T.bulk];have:=k3 s hs;omega⟩
 |int h|bool h|str h|array h|struct h=>rw [ES] at h;cases h
theorem IT{us:List T}(h:cB Tryz.prog 59 us): ∃l:List Int,dn us [.slice 1 (l.map I)]/\l.length+1<=aQ us:=by
 cases h with
 |nil h=>exact ⟨[],.cons (Les.nil 1) rfl .nil,by simp [aQ,T.bulk]⟩
 |slice h xs hx hl=>
  rw [ER] at h;cases h;rw [yH];have key: ∃l:List Int,xs.map (mkT Tryz.prog 3)=l.map I/\l.length<=aQ (xs.map (mkT Tryz.prog 3)):=by
   clear hl
   induction xs with
   |nil=>exact ⟨[],rfl,by simp⟩
   |cons x xs ih=>
    obtain ⟨s,rfl,_⟩:=wc (hx x (by simp));obtain ⟨l,k1,k2⟩:=ih fun y hy=>hx y (by simp [hy])
    refine ⟨s::l,by simp only [List.map_cons,k1,mkInt],?_⟩;simp only [List.map_cons,aQ,mkInt,T.bulk,List.length_cons];omega
  obtain ⟨l,k1,k2⟩:=key;refine ⟨l,by rw [<- k1];exact .cons (Les.refl _) rfl .nil,by simp only [aQ,T.bulk];omega⟩
 |int h|bool h|str h|array h|struct h=>rw [ER] at h;cases h
theorem Km{us:List T}(h:us.length=6): ∃a b c d e f,us=[a,b,c,d,e,f]:=by
 match us,h with
 |[a,b,c,d,e,f],_=>exact ⟨a,b,c,d,e,f,rfl⟩
theorem IW{us:List T}(h:cB Tryz.prog 42 us): ∃s:RS,dn us (uw s)/\SmS (aQ us) s:=by
 cases h with
 |struct h us hl hf=>
  rw [Tryz.underlying42] at h;cases h;rw [CK] at hl;obtain ⟨a,b,c,d,e,f,rfl⟩:=Km hl;have f0:=hf ⟨ "Kind",3,0,false, "", "",0⟩ (by simp);have f1:=hf ⟨ "Var",9,1,false, "", "",8⟩ (by simp);have f2:=hf ⟨ "Key",40,2,false, "", "",24⟩ (by simp);have f3:=hf ⟨ "Field",9,3,false, "", "",48⟩ (by simp);have f4:=hf ⟨ "N",3,4,false, "", "",64⟩ (by simp);have f5:=hf ⟨ "M",3,5,false, "", "",72⟩ (by simp);simp only [yH,zB,FX,List.drop,List.take] at f0 f1 f2 f3 f4 f5;obtain ⟨k,e0,_⟩:=wc f0;obtain ⟨v,e1⟩:=yR f1;obtain ⟨l,g1,g2,g3⟩:=IX f2;obtain ⟨s,e3⟩:=yR f3;obtain ⟨n,e4,_⟩:=wc f4;obtain ⟨m,e5,_⟩:=wc f5;simp only [List.cons.injEq,and_true] at e0 e1 e3 e4 e5;subst e0;subst e1;subst e3;subst e4;subst e5;refine ⟨⟨k,v,l,s,n,m⟩,.cons (Les.refl _) rfl (.cons (Les.refl _) rfl (dn.append (us:=[T.slice 1 (l.map .str)]) g1 (.cons (Les.refl _) rfl (.cons (Les.refl _) rfl (.cons (Les.refl _) rfl .nil))))),?_⟩;simp only [aQ,T.bulk] at g2 g3 ⊢;exact ⟨by show v.size<_;omega,by show s.size<_;omega,fun z hz=>by have:=g3 z hz;omega,by show l.length<_;omega⟩
 |int h|bool h|str h|nil h|slice h|array h=>rw [Tryz.underlying42] at h;cases h
theorem Hl{us:List T}(h:cB Tryz.prog 44 us): ∃g:RG,dn us (uu g)/\SmG (aQ us) g:=by
 cases h with
 |struct h us hl hf=>
  rw [Tryz.underlying44] at h;cases h;rw [B0] at hl;have f0:=(Gr (hf ⟨ "Policy",39,0,false, "", "",0⟩ (by simp))).1 rfl;have f1:=IW (hf ⟨ "Step",42,9,false, "", "",120⟩ (by simp));rw [Cu] at f0;rw [CK] at f1;obtain ⟨r,r1,r2,r3⟩:=f0;obtain ⟨s,s1,s2⟩:=f1;dsimp only at r1 r2 r3 s1 s2;have hap:us=(us.drop 0).take 9++(us.drop 9).take 6:=by
   rw [List.drop_zero,List.take_of_length_le (l:=us.drop 9) (by simp;omega),List.take_append_drop]
  have hbk: ∀a b:List T,aQ (a++b)=aQ a+aQ b:=fun a b=>by
   induction a with
   |nil=>simp [aQ]
   |cons x xs ih=>simp only [List.cons_append,aQ,ih];omega
  have hb:=hbk ((us.drop 0).take 9) ((us.drop 9).take 6);rw [<- hap] at hb;refine ⟨⟨r,s⟩,?_,⟨s2.mono (by omega),by show r.wt<=_;omega,fun h=>r3 (by omega)⟩⟩;rw [hap];exact dn.append r1 s1
 |int h|bool h|str h|nil h|slice h|array h=>rw [Tryz.underlying44] at h;cases h
theorem IV{us:List T}(h:cB Tryz.prog 24 us): ∃gs:List RG,Les (mkT Tryz.prog 24 us) (.slice 15 (gs.map uE))/\gs.length<=aQ us/\ ∀g∈gs,SmG (aQ us) g:=by
 have e: ∀t,mkT Tryz.prog 24 [t]=t:=fun t=>by unfold mkT;rw [CI];rfl
 cases h with
 |nil h=>exact ⟨[],by rw [e];exact Les.nil 15,by simp,by simp⟩
 |slice h xs hx hl=>
  rw [CI] at h;cases h;rw [e,B0];have em:xs.map (mkT Tryz.prog 44)=xs.map .agg:=List.map_congr_left fun x _=>IC x
  rw [em];have key: ∃gs:List RG,gs.length=xs.length/\(∀ (i:Nat) (x:List T) (r:RG),xs[i]? =some x->gs[i]? =some r->dn x (uu r))/\gs.length<=aQ (xs.map .agg)/\ ∀g∈gs,SmG (aQ (xs.map .agg)) g:=by
   clear hl em
   induction xs with
   |nil=>exact ⟨[],rfl,by simp,by simp,by simp⟩
   |cons x xs ih=>
    obtain ⟨g,h1,h2⟩:=Hl (hx x (by simp));obtain ⟨gs,k1,k2,k3,k4⟩:=ih fun y hy=>hx y (by simp [hy])
    have hv:=h2.st.var;refine ⟨g::gs,by simp [k1],fun i a b ha hb=>?_,by simp only [List.map_cons,aQ,T.bulk,List.length_cons];omega,fun z hz=>?_⟩
    ·cases i with
     |zero=>simp at ha hb;subst ha;subst hb;exact h1
     |succ i=>exact k2 i a b (by simpa using ha) (by simpa using hb)
    ·have up: ∀{B:Nat} {z:RG},SmG B z->B<=aQ ((x::xs).map .agg)->SmG (aQ ((x::xs).map .agg)) z:=fun h hb=>⟨h.st.mono hb,by have:=h.wt;omega,fun hh=>h.names (by omega)⟩
     rcases List.mem_cons.1 hz with rfl|hz
     ·exact up h2 (by simp only [List.map_cons,aQ,T.bulk];omega)
     ·exact up (k4 z hz) (by simp only [List.map_cons,aQ,T.bulk];omega)
  obtain ⟨gs,k1,k2,k3,k4⟩:=key;refine ⟨gs,Les.slice (by simp [k1]) fun i x y hx hy=>?_,by simp only [aQ,T.bulk];omega,fun g hg=>?_⟩
  ·rw [List.getElem?_map] at hx hy;obtain ⟨x',hx',rfl⟩:=Option.map_eq_some_iff.1 hx;obtain ⟨r',hr',rfl⟩:=Option.map_eq_some_iff.1 hy;exact ⟨k2 i x' r' hx' hr',wN r'⟩
  ·have h:=k4 g hg;have hb:aQ (xs.map .agg)<=aQ [T.slice 15 (xs.map .agg)]:=by simp only [aQ,T.bulk];omega
   exact ⟨h.st.mono hb,by have:=h.wt;omega,fun hh=>h.names (by omega)⟩
 |int h|bool h|str h|array h|struct h=>rw [CI] at h;cases h
end Go.TY
end
section
end
section
end
section
end
section
namespace Go.TY
open Go Go.DL Go.MM Go.Proofs
def yE(s:RS):Bool:=(s.kind==0)&&uq s.var e0&&uq s.field e0&&(s.n==0)&&(s.m==0)&&(s.key.length==0)
def xp(k:Int)(br e nd:Bool)(n m:Int):Bool:=
 if k=1 then br&&(e||nd)
 else if k=2 then br&&e
 else if k=3 then Bm n&&(m==0)&&e
 else if k=4 then nd&&xV n&&xV m&&decide (n<=m)
 else if k=5 then br&&nd
 else if k=6 then e&&decide (n>=1)&&xV n&&decide (m>=1)&&Bm m
 else false
def okS(s:RS):Bool:=yE s||(yX s.var&&decide (1<=s.key.length)&&decide (s.key.length<=4)&&s.key.all vh&&xp s.kind ((s.n==0)&&(s.m==0)) (uq s.field e0) (vh s.field) s.n s.m)
def vO(s:RS):Int:=if okS s then 0 else 1
def fz2{α:Type}(f g:α->Int)(xs:List α):Int:=uU (xs.flatMap fun x=>[f x,g x])
theorem Fc{α:Type}{f g:α->Int}: ∀{xs:List α} {i:Nat} (h:i<xs.length),(∀ j (h:j<xs.length),j<i->f xs[j]=0/\g xs[j]=0)->f xs[i]≠0->fz2 f g xs=f xs[i]
 |x::xs,0,h,_,h0=>by simp at h0;simp [fz2,uU,h0]
 |x::xs,i+1,h,hz,h0=>by
  have h1:=hz 0 (by simp) (by omega);simp only [List.getElem_cons_zero] at h1
  have:=Fc (f:=f) (g:=g) (xs:=xs) (i:=i) (by simpa using h) (fun j hj hlt=>hz (j+1) (by simpa using hj) (by omega)) h0
  unfold fz2 at this ⊢;simp only [List.flatMap_cons,List.cons_append,List.nil_append,uU,h1.1,h1.2,ne_eq,not_true_eq_false,if_false,List.getElem_cons_succ];exact this
theorem Fe{α:Type}{f g:α->Int}: ∀{xs:List α} {i:Nat} (h:i<xs.length),(∀ j (h:j<xs.length),j<i->f xs[j]=0/\g xs[j]=0)->f xs[i]=0->g xs[i]≠0->fz2 f g xs=g xs[i]
 |x::xs,0,h,_,hf,h0=>by simp at h0 hf;simp [fz2,uU,h0,hf]
 |x::xs,i+1,h,hz,hf,h0=>by
  have h1:=hz 0 (by simp) (by omega);simp only [List.getElem_cons_zero] at h1
  have:=Fe (f:=f) (g:=g) (xs:=xs) (i:=i) (by simpa using h) (fun j hj hlt=>hz (j+1) (by simpa using hj) (by omega)) hf h0
  unfold fz2 at this ⊢;simp only [List.flatMap_cons,List.cons_append,List.nil_append,uU,h1.1,h1.2,ne_eq,not_true_eq_false,if_false,List.getElem_cons_succ];exact this
theorem Fb{α:Type}{f g:α->Int}: ∀{xs:List α},(∀ j (h:j<xs.length),f xs[j]=0/\g xs[j]=0)->fz2 f g xs=0
 |[],_=>rfl
 |x::xs,hz=>by
  have h1:=hz 0 (by simp);simp only [List.getElem_cons_zero] at h1
  have:=Fb (f:=f) (g:=g) (xs:=xs) fun j hj=>hz (j+1) (by simpa using hj)
  unfold fz2 at this ⊢;simp only [List.flatMap_cons,List.cons_append,List.nil_append,uU,h1.1,h1.2,ne_eq,not_true_eq_false,if_false];exact this
def yJ(gs:List RG):Int:=if gs.length>8 then 2 else fz2 (fun g=>vM g.pol) (fun g=>vO g.st) gs
abbrev z15:List T:=[I 0,I 0,.str ⟨#[]⟩,I 0,I 0,.nil,.str ⟨#[]⟩,I 0,.nil,I 0,.str ⟨#[]⟩,.nil,.str ⟨#[]⟩,I 0,I 0]
theorem Gx(g:RG):((aN z15 0 15 (uu g)).drop 0).take 9=ux g.pol:=by
 rw [tq (n:=15) rfl,List.drop_zero];unfold uu;rw [<- uG g.pol,List.take_left]
theorem Hp(g:RG):((aN z15 0 15 (uu g)).drop 9).take 6=uw g.st:=by
 rw [tq (n:=15) rfl];unfold uu;have e:(ux g.pol++uw g.st).drop 9=uw g.st:=by
  rw [<- uG g.pol,List.drop_left]
 rw [e];rfl
def vz(l:List Fd)(s:ByteArray):Bool:=(findF l s).isSome
def zT(ks:List ByteArray)(i:Nat):Bool:=(ks.take i).any fun x=>uq (ks.getD i e0) x
def zU(ks:List ByteArray):Bool:=(List.range ks.length).any (zT ks)
def Ft(l:List Fd)(k:Int)(f:ByteArray)(m:Int):Int:=match findF l f with
 |none=>0
 |some F=>if k=4/\m>((2^F.w - 1:Nat):Int) then 1 else 0
def wC(l:List Fd)(s:RS):Int:=
 if vO s≠0 then vO s
 else if s.kind=0 then 0
 else if (!uq s.field e0&& !vz l s.field)|| !s.key.all (vz l) then 4
 else if zU s.key then 1
 else Ft l s.kind s.field s.m
theorem GL{s:RS}(h:vO s=0)(hk:s.kind=4):uq s.field e0=false:=by
 unfold vO at h;have h1:okS s=true:=by
  cases e:okS s with
  |true=>rfl
  |false=>rw [e] at h;simp at h
 unfold okS at h1;have h2:yE s=false:=by unfold yE;rw [hk];rfl
 rw [h2,Bool.false_or] at h1;simp only [Bool.and_eq_true] at h1;have h3:=h1.2;unfold xp at h3;rw [hk] at h3;simp only [show ¬((4:Int)=1) by omega,show ¬((4:Int)=2) by omega,show ¬((4:Int)=3) by omega,if_false,if_true,Bool.and_eq_true] at h3;exact yV h3.1.1.1
end Go.TY
end
section
end
section
end
section
namespace Go.TY
open Go Go.DL Go.Proofs
section
variable {α:Type}{enc:α->T}{d:α}
end
def FN(ks:List ByteArray):List ByteArray:=xf ltS ks
end Go.TY
end
section
namespace Go.TY
open Go Go.DL Go.MM
section
variable {α:Type}[DecidableEq α]
theorem DS: ∀{l acc:List α},(once acc l).length<=acc.length+l.length
 |[],acc=>Nat.le_refl _
 |x::l,acc=>by
  unfold once
  have:=DS (l:=l) (acc:=if x∈acc then acc else acc++[x])
  rw [List.length_cons];split at this
  ·rw [if_pos (by assumption)];omega
  ·rw [List.length_append,List.length_singleton] at this;rw [if_neg (by assumption)];omega
end
end Go.TY
end
section
end
section
namespace Go.TY
open Go Go.DL Go.MM Go.Proofs
def zk(l:List Fd)(gs:List RG):Option VS:=Bq l ⟨[],[]⟩ (ur (gs.map (·.st)))
theorem AS{ks:List Nat}{bx:Nat->Option BX}{n e w:Nat}{us xs:List T}(h:us=xs):LeV ks bx (.t (.slice w us)) (.own n e w xs):=by rw [h];exact LeV.data _ _ _ _
theorem Cy{α:Type}{f g:α->Int}: ∀{xs:List α},fz2 f g xs=0-> ∀x∈xs,f x=0/\g x=0
 |[],_,_,hx=>by cases hx
 |x::xs,h,y,hy=>by
  have h:uU (f x::g x::xs.flatMap fun x=>[f x,g x])=0:=h;simp only [uU] at h
  by_cases h1:f x=0
  ·by_cases h2:g x=0
   ·simp only [h1,h2] at h;rcases List.mem_cons.1 hy with rfl|hy
    ·exact ⟨h1,h2⟩
    ·exact Cy (by simpa [fz2] using h) y hy
   ·simp [h1,h2] at h
  ·simp [h1] at h
def zf(l:List Fd)(gs:List RG):Int:=
 if yJ gs≠0 then yJ gs
 else if fz2 (fun g=>xD l g.pol) (fun g=>wC l g.st) gs≠0 then fz2 (fun g=>xD l g.pol) (fun g=>wC l g.st) gs
 else if (zk l gs).isNone then 11 else 0
end Go.TY
end
section
end
section
end
section
end
section
namespace Go.TY
open Go Go.DL Go.MM Go.Proofs
theorem A7{l:List Fd}{gs:List RG}:(zk l gs).isNone=true↔ ¬PW l (ur (gs.map (·.st))):=by
 unfold zk;have hs:=Cq (ts:=ur (gs.map (·.st))) (AG.start (l:=l))
 rw [List.nil_append] at hs
 by_cases hp:PW l (ur (gs.map (·.st)))
 ·obtain ⟨st',h1,h2⟩:=hs.1 hp;rw [h1];simp [hp]
 ·rw [hs.2 hp];simp [hp]
def wz(gs:List RG):List ByteArray:=FN (once [] ((ur (gs.map (·.st))).map (·.var)))
def v0:RV:=⟨e0,0,[],0,0⟩
def wD(l:List Fd)(gs:List RG):List RV:=(wz gs).map fun s=>(uZ l (ur (gs.map (·.st))) s).getD v0
theorem DR{ks:List ByteArray}(_:ks.Nodup){x:ByteArray}:x∈FN ks↔x∈ks:=by
 unfold FN;exact Ad
theorem CD{α:Type}[DecidableEq α]{lt:α->α->Bool}{x:α}: ∀{l:List α},(put lt l x).length<=l.length+1
 |[]=>by simp [put]
 |y::l=>by
  have ih:=CD (lt:=lt) (x:=x) (l:=l);have hf:=List.length_filter_le (fun y'=> !decide (y'=x)) (y::l);unfold put;split
  ·simp only [List.length_cons] at *;omega
  ·simp only [List.length_cons] at *;omega
theorem BB{α:Type}[DecidableEq α]{lt:α->α->Bool}: ∀{l acc:List α},(l.foldl (put lt) acc).length<=acc.length+l.length
 |[],_=>by simp
 |x::l,acc=>by
  have h1:=CD (lt:=lt) (x:=x) (l:=acc);have h2:=BB (lt:=lt) (l:=l) (acc:=put lt acc x);rw [List.foldl_cons,List.length_cons];omega
theorem Ch{α:Type}[DecidableEq α]{lt:α->α->Bool}{l:List α}:(xf lt l).length<=l.length:=by
 have:=BB (lt:=lt) (l:=l) (acc:=[])
 rw [List.length_nil,Nat.zero_add] at this;exact this
end Go.TY
end
noncomputable section
namespace Go.TY
open Go Go.DL Go.Proofs
def LA:aV:=(sr [oo 4 (.mov kF)] (.seq (sr [mv 6 0,ln 7 6,mv 8 1,ln 9 8,oo 10 (.bin .neq (tm 7) (tm 9))] (.cond (tm 10) (sr [oo 4 (.mov kF)] .ret) .skip)) (.seq (sr [oo 5 (.mov (Kc 0))] (.block 0 (.loop (.seq (sr [mv 11 5,mv 12 0,ln 13 12,oo 14 (.bin .lss (tm 11) (tm 13))] (.cond (tm 14) .skip (.exit 0))) (.seq (.block 1 (sr [mv 17 0,mv 18 5,ix 19 1 17 18,ld 20 19,mv 21 1,mv 22 5,ix 23 1 21 22,ld 24 23,oo 25 (.bin .neq (tm 20) (tm 24))] (.cond (tm 25) (sr [oo 4 (.mov kF)] .ret) .skip))) (rg [mv 15 5,oo 16 (.bin .add (tm 15) (Kc 1)),mv 5 16])))))) (sr [oo 4 (.mov kT)] .ret))))
theorem MT:(Tryz.f175.body.bind (bt Tryz.prog 26 []))=some LA:=by kernel_rfl
def LL:aV:=(sr [oo 2 (.box 6 (tm 0)),oo 3 (.box 6 (tm 1)),oo 4 (.mov kF)] (.seq (sr [fa 6 0 2,ld 7 6,fa 8 0 3,ld 9 8,oo 10 (.bin .neq (tm 7) (tm 9)),mv 11 10,oF 12 11 (.offA 1 (tm 2)),oF 13 11 (.load 1 false (tm 12)),oF 14 11 (.offA 1 (tm 3)),oF 15 11 (.load 1 false (tm 14)),oF 16 11 (.bin .neq (tm 13) (tm 15)),oo 17 (.pick (tm 11) kT (tm 16)),mv 18 17,oF 19 18 (.offA 3 (tm 2)),oF 20 18 (.load 1 false (tm 19)),oF 21 18 (.offA 3 (tm 3)),oF 22 18 (.load 1 false (tm 21)),oF 23 18 (.bin .neq (tm 20) (tm 22)),oo 24 (.pick (tm 18) kT (tm 23)),mv 25 24,oF 26 25 (.offA 4 (tm 2)),oF 27 25 (.load 1 false (tm 26)),oF 28 25 (.offA 4 (tm 3)),oF 29 25 (.load 1 false (tm 28)),oF 30 25 (.bin .neq (tm 27) (tm 29)),oo 31 (.pick (tm 25) kT (tm 30)),mv 32 31,oF 33 32 (.offA 5 (tm 2)),oF 34 32 (.load 1 false (tm 33)),oF 35 32 (.offA 5 (tm 3)),oF 36 32 (.load 1 false (tm 35)),oF 37 32 (.bin .neq (tm 34) (tm 36)),oo 38 (.pick (tm 32) kT (tm 37)),mv 39 38,oF 40 39 (.offA 2 (tm 2)),oF 41 39 (.load 1 false (tm 40)),oF 42 39 (.len (tm 41)),oF 43 39 (.offA 2 (tm 3)),oF 44 39 (.load 1 false (tm 43)),oF 45 39 (.len (tm 44)),oF 46 39 (.bin .neq (tm 42) (tm 45)),oo 47 (.pick (tm 39) kT (tm 46))] (.cond (tm 47) (sr [oo 4 (.mov kF)] .ret) .skip)) (.seq (sr [oo 5 (.mov (Kc 0))] (.block 0 (.loop (.seq (sr [mv 48 5,fa 49 2 2,ld 50 49,ln 51 50,oo 52 (.bin .lss (tm 48) (tm 51))] (.cond (tm 52) .skip (.exit 0))) (.seq (.block 1 (sr [fa 55 2 2,ld 56 55,mv 57 5,ix 58 1 56 57,ld 59 58,fa 60 2 3,ld 61 60,mv 62 5,ix 63 1 61 62,ld 64 63,oo 65 (.bin .neq (tm 59) (tm 64))] (.cond (tm 65) (sr [oo 4 (.mov kF)] .ret) .skip))) (rg [mv 53 5,oo 54 (.bin .add (tm 53) (Kc 1)),mv 5 54])))))) (sr [oo 4 (.mov kT)] .ret))))
theorem M7:(Tryz.f203.body.bind (bt Tryz.prog 66 []))=some LL:=by kernel_rfl
def c49:aV:=(sr [oo 2 (.mov (Kc 0))] (.seq (sr [mv 3 0] (.block 0 (sr [oo 5 (.bin .eql (tm 3) (Kc 1)),mv 4 5] (.cond (tm 4) (sr [oo 2 (.mov (Kc 1))] .ret) (.seq (sr [oo 7 (.bin .eql (tm 3) (Kc 2)),mv 6 7] (.cond (tm 6) .skip (rg [oo 8 (.bin .eql (tm 3) (Kc 3)),mv 6 8]))) (.cond (tm 6) (sr [oo 2 (.mov (Kc 2))] .ret) (.seq (sr [oo 10 (.bin .eql (tm 3) (Kc 4)),mv 9 10] (.cond (tm 9) .skip (rg [oo 11 (.bin .eql (tm 3) (Kc 5)),mv 9 11]))) (.cond (tm 9) (sr [oo 2 (.mov (Kc 3))] .ret) .skip)))))))) (sr [oo 2 (.mov (Kc 4))] .ret)))
theorem l49:(Tryz.f49.body.bind (bt Tryz.prog 12 []))=some c49:=by kernel_rfl
def c50:aV:=(sr [oo 4 (.mov (.const .nil))] (sr [oo 5 (.mov (.const .nil))] (.seq (sr [oo 6 (.mov (Kc 0))] (.block 0 (.loop (.seq (sr [mv 9 6,mv 10 1,ln 11 10,oo 12 (.bin .lss (tm 9) (tm 11))] (.cond (tm 12) .skip (.exit 0))) (.seq (.block 1 (sr [mv 16 0,mv 17 1,mv 18 6,ix 19 1 17 18,ld 20 19,oo 21 (.call 17 [(tm 16),(tm 20)]),mv 15 21,oo 22 (.ext (tm 15) 0),oo 23 (.ext (tm 15) 1),⟨some 7,.alloc [S0,Z0,Z0],none,[]⟩,o0 (.store 3 (tm 7) (tm 22)),mv 8 23] (rg [mv 24 5,fa 25 2 7,ld 26 25,oo 27 (.buildF 1 1 [Z0] [(0,(tm 26))]),oo 28 (.append 59 3 1 8 (tm 24) (tm 27)),mv 5 28]))) (rg [mv 13 6,oo 14 (.bin .add (tm 13) (Kc 1)),mv 6 14])))))) (sr [mv 29 5,mv 4 29] .ret))))
theorem l50:(Tryz.f50.body.bind (bt Tryz.prog 30 [8000027]))=some c50:=by kernel_rfl
def c51:aV:=(sr [oo 1 (.box 6 (tm 0)),oo 2 (.mov kF)] (sr [fa 3 0 1,ld 4 3,oo 5 (.bin .eql (tm 4) (Kc 4)),mv 6 5,oF 7 6 (.offA 0 (tm 1)),oF 8 6 (.load 1 false (tm 7)),oF 9 6 (.bin .eql (tm 8) (Kc 6)),oo 10 (.pick (tm 6) kT (tm 9)),mv 2 10] .ret))
theorem l51:(Tryz.f51.body.bind (bt Tryz.prog 11 []))=some c51:=by kernel_rfl
def Ll:aV:=(sr [oo 4 (.box 6 (tm 1)),oo 5 (.box 6 (tm 2)),oo 6 (.mov kF)] (.seq (sr [lA 8 6 4,oo 9 (.call 51 [tm 8]),mv 10 9,oT 11 10 (.load 6 true (tm 5)),oT 12 10 (.call 51 [tm 11]),oo 13 (.pick (tm 10) (tm 12) kF),mv 14 13,oT 15 14 (.offA 4 (tm 4)),oT 16 14 (.load 1 false (tm 15)),oT 17 14 (.offA 4 (tm 5)),oT 18 14 (.load 1 false (tm 17)),oT 19 14 (.bin .neq (tm 16) (tm 18)),mT 20 19 14,oF 21 20 (.offA 5 (tm 4)),oF 22 20 (.load 1 false (tm 21)),oF 23 20 (.offA 5 (tm 5)),oF 24 20 (.load 1 false (tm 23)),oF 25 20 (.bin .neq (tm 22) (tm 24)),oT 26 14 (.pick (tm 20) kT (tm 25)),oo 27 (.pick (tm 14) (tm 26) kF)] (.cond (tm 27) (sr [oo 6 (.mov kF)] .ret) .skip)) (sr [mv 28 0,fa 29 2 4,ld 30 29,oo 31 (.call 50 [(tm 28),(tm 30)]),mv 32 0,fa 33 2 5,ld 34 33,oo 35 (.call 50 [(tm 32),(tm 34)]),oo 36 (.call 175 [(tm 31),(tm 35)]),mv 7 36] (sr [mv 37 7,mv 38 37,oT 39 38 (.offA 0 (tm 4)),oT 40 38 (.load 1 false (tm 39)),oT 41 38 (.call 49 [tm 40]),oT 42 38 (.offA 0 (tm 5)),oT 43 38 (.load 1 false (tm 42)),oT 44 38 (.call 49 [tm 43]),oT 45 38 (.bin .eql (tm 41) (tm 44)),oo 46 (.pick (tm 38) (tm 45) kF),mv 6 46] .ret))))
theorem MD:(Tryz.f134.body.bind (bt Tryz.prog 47 []))=some Ll:=by kernel_rfl
def c48:aV:=(sr [oo 4 (.mov (.const .nil))] (sr [oo 5 (.mov (.const .nil))] (sr [oo 6 (.mov kF)] (.seq (sr [oo 7 (.mov (Kc 0))] (.block 0 (.loop (.seq (.cut (sr [mv 8 7,mv 9 0,ln 10 9,oo 11 (.bin .lss (tm 8) (tm 10))] (.cond (tm 11) .skip (.exit 0)))) (.seq (.block 1 (.seq (.cut (sr [mv 14 0,mv 15 7,ix 16 1 14 15,ld 17 16,mv 18 1,oo 19 (.bin .geq (tm 17) (tm 18)),mv 20 19,mT 21 6 20,oT 22 20 (.not (tm 21)),oo 23 (.pick (tm 20) (tm 22) kF)] (.cond (tm 23) (sr [mv 24 5,mv 25 1,⟨some 26,.buildF 1 1 [S0] [(0,(tm 25))],none,[]⟩,oo 27 (.append 40 9 1 16 (tm 24) (tm 26)),mv 5 27] (rg [oo 6 (.mov kT)])) .skip))) (sr [mv 28 0,mv 29 7,ix 30 1 28 29,ld 31 30,mv 32 1,oo 33 (.bin .neq (tm 31) (tm 32))] (.cond (tm 33) (rg [mv 34 5,mv 35 0,mv 36 7,ix 37 1 35 36,ld 38 37,⟨some 39,.buildF 1 1 [S0] [(0,(tm 38))],none,[]⟩,oo 40 (.append 40 9 1 16 (tm 34) (tm 39)),mv 5 40]) .skip)))) (rg [mv 12 7,oo 13 (.bin .add (tm 12) (Kc 1)),mv 7 13])))))) (.seq (sr [mv 41 6,oo 42 (.not (tm 41))] (.cond (tm 42) (rg [mv 43 5,mv 44 1,⟨some 45,.buildF 1 1 [S0] [(0,(tm 44))],none,[]⟩,oo 46 (.append 40 9 1 16 (tm 43) (tm 45)),mv 5 46]) .skip)) (sr [mv 47 5,mv 4 47] .ret))))))
theorem l48:(Tryz.f48.body.bind (bt Tryz.prog 48 [5000004,5000006,8000026,8000039,8000045]))=some c48:=by kernel_rfl
def c10:aV:=(sr [oo 4 (.mov (.const .nil))] (sr [oo 5 (.mov (.const .nil))] (.seq (sr [oo 6 (.mov (Kc 0))] (.block 0 (.loop (.seq (sr [mv 13 6,mv 14 1,ln 15 14,oo 16 (.bin .lss (tm 13) (tm 15))] (.cond (tm 16) .skip (.exit 0))) (.seq (.block 1 (sr [mv 19 1,mv 20 6,ix 21 15 19 20,fa 22 9 21,fa 23 0 22,ld 24 23,oo 25 (.bin .neq (tm 24) (Kc 0))] (.cond (tm 25) (rg [mv 26 5,mv 27 1,mv 28 6,ix 29 15 27 28,fa 30 9 29,fa 31 1 30,ld 32 31,oo 33 (.call 48 [(tm 26),(tm 32)]),mv 5 33]) .skip))) (rg [mv 17 6,oo 18 (.bin .add (tm 17) (Kc 1)),mv 6 18])))))) (sr [oo 7 (.mov (.const .nil))] (.seq (sr [oo 8 (.mov (Kc 0))] (.block 2 (.loop (.seq (sr [mv 34 8,mv 35 5,ln 36 35,oo 37 (.bin .lss (tm 34) (tm 36))] (.cond (tm 37) .skip (.exit 2))) (.seq (.block 3 (sr [mv 40 5,mv 41 8,ix 42 1 40 41,ld 43 42,⟨some 44,.build [S0,Z0,.nil,Z0,Z0] [(0,1,(tm 43))],none,[]⟩,⟨some 9,.alloc [S0,Z0,.nil,Z0,Z0],none,[]⟩,o0 (.store 5 (tm 9) (tm 44))] (sr [oo 10 (.mov kF)] (.seq (sr [oo 11 (.mov (Kc 0))] (.block 4 (.loop (.seq (sr [mv 45 11,mv 46 1,ln 47 46,oo 48 (.bin .lss (tm 45) (tm 47))] (.cond (tm 48) .skip (.exit 4))) (.seq (.block 5 (sr [mv 51 1,mv 52 11,ix 53 15 51 52,fa 54 9 53,lA 55 6 54,⟨some 12,.alloc [Z0,S0,.nil,S0,Z0,Z0],none,[]⟩,o0 (.store 6 (tm 12) (tm 55))] (.seq (sr [fa 56 0 12,ld 57 56,oo 58 (.bin .eql (tm 57) (Kc 0)),mv 59 58,oF 60 59 (.offA 1 (tm 12)),oF 61 59 (.load 1 false (tm 60)),mF 62 5 59,mF 63 8 59,oF 64 59 (.idxL 1 (tm 62) (tm 63)),oF 65 59 (.load 1 false (tm 64)),oF 66 59 (.bin .neq (tm 61) (tm 65)),oo 67 (.pick (tm 59) kT (tm 66))] (.cond (tm 67) (.exit 5) .skip)) (sr [fa 68 0 12,ld 69 68,oo 70 (.call 49 [tm 69]),fa 71 1 9,o0 (.store 1 (tm 71) (tm 70))] (sr [mv 72 0,fa 73 2 12,ld 74 73,oo 75 (.call 50 [(tm 72),(tm 74)]),fa 76 2 9,o0 (.store 1 (tm 76) (tm 75))] (sr [lA 77 6 12,oo 78 (.call 51 [tm 77]),mv 79 78,mT 80 10 79,oT 81 79 (.not (tm 80)),oo 82 (.pick (tm 79) (tm 81) kF)] (.cond (tm 82) (sr [fa 83 4 12,ld 84 83,fa 85 3 9,o0 (.store 1 (tm 85) (tm 84))] (sr [fa 86 5 12,ld 87 86,fa 88 4 9,o0 (.store 1 (tm 88) (tm 87))] (rg [oo 10 (.mov kT)]))) .skip))))))) (rg [mv 49 11,oo 50 (.bin .add (tm 49) (Kc 1)),mv 11 50])))))) (rg [mv 89 7,lA 90 5 9,⟨some 91,.buildF 5 1 [S0,Z0,.nil,Z0,Z0] [(0,(tm 90))],none,[]⟩,oo 92 (.append 30 67 5 64 (tm 89) (tm 91)),mv 7 92]))))) (rg [mv 38 8,oo 39 (.bin .add (tm 38) (Kc 1)),mv 8 39])))))) (sr [mv 93 7,mv 4 93] .ret))))))
theorem l10:(Tryz.f10.body.bind (bt Tryz.prog 94 [8000091]))=some c10:=by kernel_rfl
def Lk:aV:=(sr [oo 3 (.box 6 (tm 1)),oo 4 (.mov (Kc 0))] (sr [lA 14 6 3,oo 15 (.call 172 [tm 14]),mv 5 15] (.seq (sr [mv 16 5,oo 17 (.bin .neq (tm 16) (Kc 0)),mv 18 17,oF 19 18 (.offA 0 (tm 3)),oF 20 18 (.load 1 false (tm 19)),oF 21 18 (.bin .eql (tm 20) (Kc 0)),oo 22 (.pick (tm 18) kT (tm 21))] (.cond (tm 22) (sr [mv 23 5,mv 4 23] .ret) .skip)) (sr [⟨some 24,.buildS 9 1 0 [S0] [],none,[]⟩,fa 25 2 3,ld 26 25,oo 27 (.append 40 9 1 16 (tm 24) (tm 26)),mv 6 27] (.seq (.cut (sr [fa 28 3 3,ld 29 28,⟨some 30,.bin .neq (tm 29) (.const S0),none,[]⟩] (.cond (tm 30) (rg [mv 31 6,fa 32 3 3,ld 33 32,⟨some 34,.buildF 1 1 [S0] [(0,(tm 33))],none,[]⟩,oo 35 (.append 40 9 1 16 (tm 31) (tm 34)),mv 6 35]) .skip))) (.seq (sr [oo 7 (.mov (Kc 0))] (.block 0 (.loop (.seq (sr [mv 36 7,mv 37 6,ln 38 37,oo 39 (.bin .lss (tm 36) (tm 38))] (.cond (tm 39) .skip (.exit 0))) (.seq (.block 1 (sr [mv 43 0,mv 44 6,mv 45 7,ix 46 1 44 45,ld 47 46,oo 48 (.call 17 [(tm 43),(tm 47)]),mv 42 48,oo 49 (.ext (tm 42) 0),oo 50 (.ext (tm 42) 1),⟨some 8,.alloc [S0,Z0,Z0],none,[]⟩,o0 (.store 3 (tm 8) (tm 49)),mv 9 50] (sr [mv 51 9,oo 52 (.not (tm 51))] (.cond (tm 52) (sr [oo 4 (.mov (Kc 4))] .ret) .skip)))) (rg [mv 40 7,oo 41 (.bin .add (tm 40) (Kc 1)),mv 7 41])))))) (.seq (sr [oo 10 (.mov (Kc 0))] (.block 2 (.loop (.seq (sr [mv 53 10,fa 54 2 3,ld 55 54,ln 56 55,oo 57 (.bin .lss (tm 53) (tm 56))] (.cond (tm 57) .skip (.exit 2))) (.seq (.block 3 (sr [oo 11 (.mov (Kc 0))] (.block 4 (.loop (.seq (sr [mv 60 11,mv 61 10,oo 62 (.bin .lss (tm 60) (tm 61))] (.cond (tm 62) .skip (.exit 4))) (.seq (.block 5 (sr [fa 65 2 3,ld 66 65,mv 67 11,ix 68 1 66 67,ld 69 68,fa 70 2 3,ld 71 70,mv 72 10,ix 73 1 71 72,ld 74 73,oo 75 (.bin .eql (tm 69) (tm 74))] (.cond (tm 75) (sr [oo 4 (.mov (Kc 1))] .ret) .skip))) (rg [mv 63 11,oo 64 (.bin .add (tm 63) (Kc 1)),mv 11 64]))))))) (rg [mv 58 10,oo 59 (.bin .add (tm 58) (Kc 1)),mv 10 59])))))) (.seq (.cut (rg [mv 77 0,fa 78 3 3,ld 79 78,oo 80 (.call 17 [(tm 77),(tm 79)]),mv 76 80,oo 81 (.ext (tm 76) 0),oo 82 (.ext (tm 76) 1),⟨some 12,.alloc [S0,Z0,Z0],none,[]⟩,o0 (.store 3 (tm 12) (tm 81)),mv 13 82])) (.seq (sr [fa 83 0 3,ld 84 83,oo 85 (.bin .eql (tm 84) (Kc 4)),mv 86 85,oT 87 86 (.offA 5 (tm 3)),oT 88 86 (.load 1 false (tm 87)),oT 89 86 (.load 3 true (tm 12)),oT 90 86 (.call 111 [tm 89]),oT 91 86 (.bin .gtr (tm 88) (tm 90)),oo 92 (.pick (tm 86) (tm 91) kF)] (.cond (tm 92) (sr [oo 4 (.mov (Kc 1))] .ret) .skip)) (sr [oo 4 (.mov (Kc 0))] .ret))))))))))
theorem MB:(Tryz.f133.body.bind (bt Tryz.prog 93 [5000005,6000021,8000034]))=some Lk:=by kernel_rfl
def c94:aV:=(sr [oo 4 (.mov (Kc 0))] (sr [mv 13 1,oo 14 (.call 131 [tm 13]),mv 5 14] (.seq (sr [mv 15 5,oo 16 (.bin .neq (tm 15) (Kc 0))] (.cond (tm 16) (sr [mv 17 5,mv 4 17] .ret) .skip)) (.seq (sr [oo 6 (.mov (Kc 0))] (.block 0 (.loop (.seq (sr [mv 18 6,mv 19 1,ln 20 19,oo 21 (.bin .lss (tm 18) (tm 20))] (.cond (tm 21) .skip (.exit 0))) (.seq (.block 1 (sr [mv 24 0,mv 25 1,mv 26 6,ix 27 15 25 26,oo 28 (.nar 9 (tm 27)),lA 29 9 28,oo 30 (.call 132 [(tm 24),(tm 29)]),mv 7 30] (.seq (sr [mv 31 7,oo 32 (.bin .neq (tm 31) (Kc 0))] (.cond (tm 32) (sr [mv 33 7,mv 4 33] .ret) .skip)) (sr [mv 34 0,mv 35 1,mv 36 6,ix 37 15 35 36,fa 38 9 37,lA 39 6 38,oo 40 (.call 133 [(tm 34),(tm 39)]),mv 8 40] (sr [mv 41 8,oo 42 (.bin .neq (tm 41) (Kc 0))] (.cond (tm 42) (sr [mv 43 8,mv 4 43] .ret) .skip)))))) (rg [mv 22 6,oo 23 (.bin .add (tm 22) (Kc 1)),mv 6 23])))))) (.seq (sr [oo 9 (.mov (Kc 0))] (.block 2 (.loop (.seq (sr [mv 44 9,mv 45 1,ln 46 45,oo 47 (.bin .lss (tm 44) (tm 46))] (.cond (tm 47) .skip (.exit 2))) (.seq (.block 3 (sr [oo 10 (.mov (Kc 0))] (.block 4 (.loop (.seq (sr [mv 50 10,mv 51 9,oo 52 (.bin .lss (tm 50) (tm 51))] (.cond (tm 52) .skip (.exit 4))) (.seq (.block 5 (.seq (.cut (rg [mv 55 1,mv 56 10,ix 57 15 55 56,fa 58 9 57,lA 59 6 58,⟨some 11,.alloc [Z0,S0,.nil,S0,Z0,Z0],none,[]⟩,o0 (.store 6 (tm 11) (tm 59))])) (.seq (.cut (rg [mv 60 1,mv 61 9,ix 62 15 60 61,fa 63 9 62,lA 64 6 63,⟨some 12,.alloc [Z0,S0,.nil,S0,Z0,Z0],none,[]⟩,o0 (.store 6 (tm 12) (tm 64))])) (sr [fa 65 0 11,ld 66 65,oo 67 (.bin .neq (tm 66) (Kc 0)),mv 68 67,oT 69 68 (.offA 0 (tm 12)),oT 70 68 (.load 1 false (tm 69)),oT 71 68 (.bin .neq (tm 70) (Kc 0)),oo 72 (.pick (tm 68) (tm 71) kF),mv 73 72,oT 74 73 (.offA 1 (tm 11)),oT 75 73 (.load 1 false (tm 74)),oT 76 73 (.offA 1 (tm 12)),oT 77 73 (.load 1 false (tm 76)),oT 78 73 (.bin .eql (tm 75) (tm 77)),oo 79 (.pick (tm 73) (tm 78) kF),mv 80 79,mT 81 0 80,oT 82 80 (.load 6 true (tm 11)),oT 83 80 (.load 6 true (tm 12)),oT 84 80 (.call 134 [(tm 81),(tm 82),(tm 83)]),oT 85 80 (.not (tm 84)),oo 86 (.pick (tm 80) (tm 85) kF)] (.cond (tm 86) (sr [oo 4 (.mov (Kc 11))] .ret) .skip))))) (rg [mv 53 10,oo 54 (.bin .add (tm 53) (Kc 1)),mv 10 54]))))))) (rg [mv 48 9,oo 49 (.bin .add (tm 48) (Kc 1)),mv 9 49])))))) (sr [oo 4 (.mov (Kc 0))] .ret))))))
theorem l94:(Tryz.f94.body.bind (bt Tryz.prog 87 [6000019,6000020,2000028000009]))=some c94:=by kernel_rfl
def LD:aV:=(sr [oo 1 (.box 6 (tm 0)),oo 2 (.mov kF)] (sr [lA 9 6 1,⟨some 10,.build [Z0,S0,.nil,S0,Z0,Z0] [],none,[]⟩,oo 11 (.call 203 [(tm 9),(tm 10)]),mv 3 11] (.seq (sr [mv 12 3] (.cond (tm 12) (sr [oo 2 (.mov kT)] .ret) .skip)) (sr [fa 13 1 1,ld 14 13,oo 15 (.call 204 [tm 14]),mv 4 15] (.seq (.seq (.cut (rg [mv 16 4,oo 17 (.not (tm 16)),mv 18 17,oF 19 18 (.offA 2 (tm 1)),oF 20 18 (.load 1 false (tm 19)),oF 21 18 (.len (tm 20)),oF 22 18 (.bin .lss (tm 21) (Kc 1)),oo 23 (.pick (tm 18) kT (tm 22)),mv 24 23,oF 25 24 (.offA 2 (tm 1)),oF 26 24 (.load 1 false (tm 25)),oF 27 24 (.len (tm 26)),oF 28 24 (.bin .gtr (tm 27) (Kc 4)),oo 29 (.pick (tm 24) kT (tm 28))])) (.cond (tm 29) (sr [oo 2 (.mov kF)] .ret) .skip)) (.seq (sr [oo 5 (.mov (Kc 0))] (.block 0 (.loop (.seq (sr [mv 30 5,fa 31 2 1,ld 32 31,ln 33 32,oo 34 (.bin .lss (tm 30) (tm 33))] (.cond (tm 34) .skip (.exit 0))) (.seq (.block 1 (sr [fa 37 2 1,ld 38 37,mv 39 5,ix 40 1 38 39,ld 41 40,oo 42 (.call 200 [tm 41]),mv 6 42] (sr [mv 43 6,oo 44 (.not (tm 43))] (.cond (tm 44) (sr [oo 2 (.mov kF)] .ret) .skip)))) (rg [mv 35 5,oo 36 (.bin .add (tm 35) (Kc 1)),mv 5 36])))))) (sr [fa 45 3 1,ld 46 45,oo 47 (.call 200 [tm 46]),mv 7 47] (.seq (.cut (rg [fa 48 4 1,ld 49 48,oo 50 (.bin .eql (tm 49) (Kc 0)),mv 51 50,oT 52 51 (.offA 5 (tm 1)),oT 53 51 (.load 1 false (tm 52)),oT 54 51 (.bin .eql (tm 53) (Kc 0)),oo 55 (.pick (tm 51) (tm 54) kF),mv 8 55])) (.seq (sr [fa 56 0 1,ld 57 56] (.block 2 (sr [oo 59 (.bin .eql (tm 57) (Kc 1)),mv 58 59] (.cond (tm 58) (sr [mv 60 7,mv 61 60,oF 62 61 (.offA 3 (tm 1)),oF 63 61 (.load 1 false (tm 62)),⟨some 64,.bin .eql (tm 63) (.const S0),some (61,false),[]⟩,oo 65 (.pick (tm 61) kT (tm 64)),mv 66 65,mT 67 8 66,oo 68 (.pick (tm 66) (tm 67) kF),mv 2 68] .ret) (sr [oo 70 (.bin .eql (tm 57) (Kc 2)),mv 69 70] (.cond (tm 69) (sr [fa 71 3 1,ld 72 71,⟨some 73,.bin .eql (tm 72) (.const S0),none,[]⟩,mv 74 73,mT 75 8 74,oo 76 (.pick (tm 74) (tm 75) kF),mv 2 76] .ret) (sr [oo 78 (.bin .eql (tm 57) (Kc 3)),mv 77 78] (.cond (tm 77) (sr [fa 79 3 1,ld 80 79,⟨some 81,.bin .eql (tm 80) (.const S0),none,[]⟩,mv 82 81,oT 83 82 (.offA 4 (tm 1)),oT 84 82 (.load 1 false (tm 83)),oT 85 82 (.bin .geq (tm 84) (Kc 0)),oo 86 (.pick (tm 82) (tm 85) kF),mv 87 86,oT 88 87 (.offA 4 (tm 1)),oT 89 87 (.load 1 false (tm 88)),oT 90 87 (.bin .leq (tm 89) (Kc 1073741824)),oo 91 (.pick (tm 87) (tm 90) kF),mv 92 91,oT 93 92 (.offA 5 (tm 1)),oT 94 92 (.load 1 false (tm 93)),oT 95 92 (.bin .eql (tm 94) (Kc 0)),oo 96 (.pick (tm 92) (tm 95) kF),mv 2 96] .ret) (sr [oo 98 (.bin .eql (tm 57) (Kc 4)),mv 97 98] (.cond (tm 97) (sr [mv 99 7,mv 100 99,oT 101 100 (.offA 4 (tm 1)),oT 102 100 (.load 1 false (tm 101)),oT 103 100 (.bin .geq (tm 102) (Kc 0)),oo 104 (.pick (tm 100) (tm 103) kF),mv 105 104,oT 106 105 (.offA 4 (tm 1)),oT 107 105 (.load 1 false (tm 106)),oT 108 105 (.offA 5 (tm 1)),oT 109 105 (.load 1 false (tm 108)),oT 110 105 (.bin .leq (tm 107) (tm 109)),oo 111 (.pick (tm 105) (tm 110) kF),mv 112 111,oT 113 112 (.offA 5 (tm 1)),oT 114 112 (.load 1 false (tm 113)),oT 115 112 (.bin .leq (tm 114) (Kc 65535)),oo 116 (.pick (tm 112) (tm 115) kF),mv 2 116] .ret) (sr [oo 118 (.bin .eql (tm 57) (Kc 5)),mv 117 118] (.cond (tm 117) (sr [mv 119 7,mv 120 119,mT 121 8 120,oo 122 (.pick (tm 120) (tm 121) kF),mv 2 122] .ret) (sr [oo 124 (.bin .eql (tm 57) (Kc 6)),mv 123 124] (.cond (tm 123) (sr [fa 125 3 1,ld 126 125,⟨some 127,.bin .eql (tm 126) (.const S0),none,[]⟩,mv 128 127,oT 129 128 (.offA 4 (tm 1)),oT 130 128 (.load 1 false (tm 129)),oT 131 128 (.bin .geq (tm 130) (Kc 1)),oo 132 (.pick (tm 128) (tm 131) kF),mv 133 132,oT 134 133 (.offA 4 (tm 1)),oT 135 133 (.load 1 false (tm 134)),oT 136 133 (.bin .leq (tm 135) (Kc 65535)),oo 137 (.pick (tm 133) (tm 136) kF),mv 138 137,oT 139 138 (.offA 5 (tm 1)),oT 140 138 (.load 1 false (tm 139)),oT 141 138 (.bin .geq (tm 140) (Kc 1)),oo 142 (.pick (tm 138) (tm 141) kF),mv 143 142,oT 144 143 (.offA 5 (tm 1)),oT 145 143 (.load 1 false (tm 144)),oT 146 143 (.bin .leq (tm 145) (Kc 1073741824)),oo 147 (.pick (tm 143) (tm 146) kF),mv 2 147] .ret) .skip)))))))))))))) (sr [oo 2 (.mov kF)] .ret))))))))))
theorem MW:(Tryz.f189.body.bind (bt Tryz.prog 148 [6000005,6000014]))=some LD:=by kernel_rfl
def Lx:aV:=(sr [oo 1 (.box 6 (tm 0)),oo 2 (.mov (Kc 0))] (sr [lA 4 6 1,oo 5 (.call 189 [tm 4]),mv 3 5] (.seq (sr [mv 6 3,oo 7 (.not (tm 6))] (.cond (tm 7) (sr [oo 2 (.mov (Kc 1))] .ret) .skip)) (sr [oo 2 (.mov (Kc 0))] .ret))))
theorem MQ:(Tryz.f172.body.bind (bt Tryz.prog 8 []))=some Lx:=by kernel_rfl
def Li:aV:=(sr [oo 2 (.mov (Kc 0))] (.seq (sr [mv 6 0,ln 7 6,oo 8 (.bin .gtr (tm 7) (Kc 8))] (.cond (tm 8) (sr [oo 2 (.mov (Kc 2))] .ret) .skip)) (.seq (sr [oo 3 (.mov (Kc 0))] (.block 0 (.loop (.seq (sr [mv 9 3,mv 10 0,ln 11 10,oo 12 (.bin .lss (tm 9) (tm 11))] (.cond (tm 12) .skip (.exit 0))) (.seq (.block 1 (sr [mv 15 0,mv 16 3,ix 17 15 15 16,oo 18 (.nar 9 (tm 17)),lA 19 9 18,oo 20 (.call 171 [tm 19]),mv 4 20] (.seq (sr [mv 21 4,oo 22 (.bin .neq (tm 21) (Kc 0))] (.cond (tm 22) (sr [mv 23 4,mv 2 23] .ret) .skip)) (sr [mv 24 0,mv 25 3,ix 26 15 24 25,fa 27 9 26,lA 28 6 27,oo 29 (.call 172 [tm 28]),mv 5 29] (sr [mv 30 5,oo 31 (.bin .neq (tm 30) (Kc 0))] (.cond (tm 31) (sr [mv 32 5,mv 2 32] .ret) .skip)))))) (rg [mv 13 3,oo 14 (.bin .add (tm 13) (Kc 1)),mv 3 14])))))) (sr [oo 2 (.mov (Kc 0))] .ret))))
theorem Mz:(Tryz.f131.body.bind (bt Tryz.prog 33 [2000018000009]))=some Li:=by kernel_rfl
def c90:aV:=(sr [oo 1 (.box 9 (tm 0)),oo 2 (.mov kF)] (sr [lA 5 9 1,oo 6 (.call 38 [tm 5]),oo 3 (.alloc [Z0,Z0]),o0 (.store 2 (tm 3) (tm 6))] (sr [fa 7 1 1,lA 8 5 7,oo 9 (.call 92 [tm 8]),oo 4 (.alloc [Z0,Z0]),o0 (.store 2 (tm 4) (tm 9))] (sr [fa 10 0 3,ld 11 10,oo 12 (.bin .leq (tm 11) (Kc 400)),mv 13 12,oT 14 13 (.offA 1 (tm 3)),oT 15 13 (.load 1 false (tm 14)),oT 16 13 (.bin .leq (tm 15) (Kc 60)),oo 17 (.pick (tm 13) (tm 16) kF),mv 18 17,oT 19 18 (.offA 0 (tm 4)),oT 20 18 (.load 1 false (tm 19)),oT 21 18 (.bin .leq (tm 20) (Kc 400)),oo 22 (.pick (tm 18) (tm 21) kF),mv 2 22] .ret))))
theorem l90:(Tryz.f90.body.bind (bt Tryz.prog 23 []))=some c90:=by kernel_rfl
def c37:aV:=(sr [oo 2 (.mov kF)] (.seq (sr [oo 3 (.mov (Kc 0))] (.block 0 (.loop (.seq (sr [mv 5 3,mv 6 0,ln 7 6,oo 8 (.bin .lss (tm 5) (tm 7)),mv 9 8,mT 10 3 9,oT 11 9 (.bin .lss (tm 10) (Kc 12)),oo 12 (.pick (tm 9) (tm 11) kF)] (.cond (tm 12) .skip (.exit 0))) (.seq (.block 1 (sr [mv 15 0,mv 16 3,ix 17 15 15 16,oo 18 (.nar 9 (tm 17)),lA 19 9 18,oo 20 (.call 90 [tm 19]),mv 4 20] (sr [mv 21 4,oo 22 (.not (tm 21)),mv 23 22,mF 24 0 23,mF 25 3 23,oF 26 23 (.idxL 15 (tm 24) (tm 25)),oF 27 23 (.offA 9 (tm 26)),oF 28 23 (.offA 2 (tm 27)),oF 29 23 (.load 1 false (tm 28)),oF 30 23 (.len (tm 29)),oF 31 23 (.bin .gtr (tm 30) (Kc 20)),oo 32 (.pick (tm 23) kT (tm 31))] (.cond (tm 32) (sr [oo 2 (.mov kF)] .ret) .skip)))) (rg [mv 13 3,oo 14 (.bin .add (tm 13) (Kc 1)),mv 3 14])))))) (sr [mv 33 0,ln 34 33,oo 35 (.bin .leq (tm 34) (Kc 12)),mv 2 35] .ret)))
theorem l37:(Tryz.f37.body.bind (bt Tryz.prog 36 [2000018000009]))=some c37:=by kernel_rfl
end Go.TY
end
section
namespace Go.TY
open Go Go.DL Go.MM Go.Proofs
theorem Fz(a b:List Int)(hl:a.length<2^60\/b.length<2^60):DCalls Tryz.prog 175 [.slice 1 (a.map I),.slice 1 (b.map I)] (.bool (a==b)):=by
 refine dl2 mixed [.tmp 4] [.bool _] Tryz.func175 MT ?_;have ha:((a.map I).length:Int)=a.length:=by rw [List.length_map]
 have hb:((b.map I).length:Int)=b.length:=by rw [List.length_map]
 by_cases hab:a.length=b.length
 case neg=>
  have e:(a==b)=false:=beq_false_of_ne fun e=>hab (by rw [e])
  rw [e];have hn:((a.map I).length:Int)≠((b.map I).length:Int):=by omega
  repeat' ((conv=>whnf);first|refine sG hn ?_|refine rb0 ?_|refine aS ?_|exact trivial)
 have hl:a.length<2^60:=by omega
 have hn:((a.map I).length:Int)=((b.map I).length:Int):=by omega
 repeat' ((conv=>whnf);first|refine sF hn ?_|refine aS ?_|fail)
 refine tT (α:=Nat) (fun i=>{sl:=[(0,.t (.slice 1 (a.map I))),(1,.t (.slice 1 (b.map I))),(5,.t (I i))],bx:=[]})
  (fun i=>i<=a.length/\ ∀j (h:j<a.length) (h':j<b.length),j<i->a[j]=b[j]) (fun i=>a.length - i) 0 (by simp) ?_ ?_
 ·repeat' (first|exact wJ|refine And.intro ?_ ?_)
 rintro i ⟨hi,hp⟩;rcases Nat.lt_or_ge i a.length with h|h
 ·have h':i<b.length:=by omega
  have hlt:(i:Int)<((a.map I).length:Int):=by omega
  by_cases he:a[i]=b[i]
  ·repeat' ((conv=>whnf);first|refine sC hlt ?_|(refine nv_ (I a[i]) (by first|(simp [h];done)|fail) ?_)|(refine nv_ (I b[i]) (by first|(simp [h'];done)|fail) ?_)|refine sF he ?_|refine aS ?_|refine nT_ ?_)
   refine ⟨i+1,⟨h,fun j hj hj' hlt=>?_⟩,by omega,?_⟩
   ·rcases Nat.lt_or_ge j i with h4|h4
    ·exact hp j hj hj' h4
    ·obtain rfl:j=i:=by omega
     exact he
   ·repeat' (first|exact wJ|refine And.intro ?_ ?_)
  ·have e:(a==b)=false:=beq_false_of_ne fun e=>he (by subst e;rfl)
   rw [e]
   repeat' ((conv=>whnf);first|exact trivial|refine sC hlt ?_|(refine nv_ (I a[i]) (by first|(simp [h];done)|fail) ?_)|(refine nv_ (I b[i]) (by first|(simp [h'];done)|fail) ?_)|refine sG he ?_|refine rb0 ?_|refine aS ?_|refine nT_ ?_)
 ·have e:(a==b)=true:=by
   have:a=b:=List.ext_getElem hab fun j h1 h2=>hp j h1 h2 (by omega)
   simp [this]
  rw [e];have hlt: ¬(i:Int)<((a.map I).length:Int):=by omega
  repeat' ((conv=>whnf);first|refine su hlt ?_|refine rb1 ?_|refine aS ?_|exact trivial)
def zg:List ByteArray->List ByteArray->Bool
 |[],[]=>true
 |x::xs,y::ys=>uq x y&&zg xs ys
 |_,_=>false
theorem C5: ∀{a b:List ByteArray},zg a b=true↔a=b
 |[],[]=>by simp [zg]
 |[],_::_=>by simp [zg]
 |_::_,[]=>by simp [zg]
 |x::xs,y::ys=>by
  unfold zg;rw [Bool.and_eq_true,C5 (a:=xs),uQ,List.cons.injEq]
theorem BP(k:Int):DCalls Tryz.prog 49 [I k] (I (vD k)):=by
 refine dl2 mixed [.tmp 2] [.int _ _] Tryz.func49 l49 ?_;unfold vD
 by_cases k1:k=1
 ·rw [if_pos k1]
  repeat' ((conv=>whnf);first|refine sE k1 ?_|refine rix ?_|refine aS ?_|exact trivial)
 rw [if_neg k1]
 by_cases k2:k=2
 ·rw [if_pos (Or.inl k2)]
  repeat' ((conv=>whnf);first|refine sD k1 ?_|refine sE k2 ?_|refine rix ?_|refine aS ?_|exact trivial)
 by_cases k3:k=3
 ·rw [if_pos (Or.inr k3)]
  repeat' ((conv=>whnf);first|refine sD k1 ?_|refine sD k2 ?_|refine sE k3 ?_|refine rix ?_|refine aS ?_|exact trivial)
 rw [if_neg (by omega)]
 by_cases k4:k=4
 ·rw [if_pos (Or.inl k4)]
  repeat' ((conv=>whnf);first|refine sD k1 ?_|refine sD k2 ?_|refine sD k3 ?_|refine sE k4 ?_|refine rix ?_|refine aS ?_|exact trivial)
 by_cases k5:k=5
 ·rw [if_pos (Or.inr k5)]
  repeat' ((conv=>whnf);first|refine sD k1 ?_|refine sD k2 ?_|refine sD k3 ?_|refine sD k4 ?_|refine sE k5 ?_|refine rix ?_|refine aS ?_|exact trivial)
 rw [if_neg (by omega)]
 repeat' ((conv=>whnf);first|refine sD k1 ?_|refine sD k2 ?_|refine sD k3 ?_|refine sD k4 ?_|refine sD k5 ?_|refine rix ?_|refine aS ?_|exact trivial)
theorem Aq(s:RS):DCalls Tryz.prog 51 [.agg (uw s)] (.bool s.own):=by
 refine dl2 mixed [.tmp 2] [.bool _] Tryz.func51 l51 ?_;obtain ⟨k,v,ks,f,n,m⟩:=s;unfold RS.own;dsimp only
 by_cases k4:k=4
 ·rw [k4]
  repeat' ((conv=>whnf);first|exact trivial|refine aE1 ?_|refine rb1 ?_|refine aS ?_|refine nT_ ?_)
 by_cases k6:k=6
 ·rw [k6]
  repeat' ((conv=>whnf);first|exact trivial|refine aE1 ?_|refine aE0 ?_|refine rb1 ?_|refine aS ?_|refine nT_ ?_)
 have e:((k==4)||(k==6))=false:=by simp [k4,k6]
 rw [e]
 repeat' ((conv=>whnf);first|exact trivial|refine sD k4 ?_|refine sD k6 ?_|refine rb0 ?_|refine aS ?_|refine nT_ ?_)
theorem DZ(l:List Fd)(hl:LOk l)(k:ByteArray):DCalls Tryz.prog 17 [fds l,.str k] (.tup [.agg [.str (fld l k).name,I (fld l k).a,I (fld l k).w],.bool (vz l k)]):=by
 have h:=t51 l k hl.len;unfold yw at h;unfold fld vz;cases hF:findF l k with
 |none=>rw [hF] at h;exact h
 |some F=>rw [hF] at h;exact h
theorem BQ(l:List Fd)(hl:LOk l)(ks:List ByteArray)(hk:ks.length<2^40):DCalls Tryz.prog 50 [fds l,.slice 1 (ks.map .str)] (.slice 1 ((ks.map fun k=>((fld l k).w:Int)).map I)):=by
 refine dl2 mixed [.tmp 4] [.slice 1 _] Tryz.func50 l50 ?_;have hkl:((ks.map T.str).length:Int)=ks.length:=by rw [List.length_map]
 skip
 refine tx 0 (α:=Nat) (β:=Unit) (fun i=>{sl:=[(0,.t (fds l)),(1,.t (.slice 1 (ks.map .str))),(5,.own 28 3 1 ((ks.take i).map fun k=>I ((fld l k).w:Int))),(6,.t (I i))],bx:=[]})
  (fun i=>i<=ks.length) (fun i=>ks.length - i) (fun _=>{sl:=[(5,.t (.slice 1 ((ks.map fun k=>((fld l k).w:Int)).map I)))],bx:=[]}) (fun _=>True) 0 (by simp) ?_ ?_ ?_
 ·repeat' (first|exact wJ|refine And.intro ?_ ?_)
 ·rintro i hi;rcases Nat.lt_or_ge i ks.length with h|h
  ·have hlt:(i:Int)<((ks.map T.str).length:Int):=by omega
   have hf:=DZ l hl ks[i];have ht:ks.take (i+1)=ks.take i++[ks[i]]:=by rw [List.take_succ_eq_append_getElem h]
   repeat' ((conv=>whnf);first|refine sC hlt ?_|(refine nv_ (.str ks[i]) (by first|(simp [h];done)|fail) ?_)|refine uc _ (hf) ?_|(refine And.intro (by first|((simp only [List.length_map,List.length_take,List.length_cons,List.length_nil];omega);done)|fail) ?_)|refine aS ?_|refine nT_ ?_)
   refine ⟨i+1,h,by omega,?_⟩
   repeat' (first|(exact ug (by rw [ht,List.map_append];rfl))|exact wJ|refine And.intro ?_ ?_)
  ·have:i=ks.length:=by omega
   subst this;rw [List.take_length];have hlt: ¬(ks.length:Int)<((ks.map T.str).length:Int):=by omega
   repeat' ((conv=>whnf);first|refine su hlt ?_|(exact ⟨(),trivial,by (repeat' (first|(exact AS (by rw [List.map_map];rfl))|exact wJ|refine And.intro ?_ ?_));done⟩)|refine aS ?_|fail)
 ·rintro _ _
  repeat' ((conv=>whnf);first|refine aS ?_|exact trivial)
theorem IM(l:List Fd)(hl:LOk l)(s t:RS)(hs:s.key.length<2^40)(ht:t.key.length<2^40):DCalls Tryz.prog 134 [fds l,.agg (uw s),.agg (uw t)] (.bool (wb l s t)):=by
 have h1:=Aq s;have h2:=Aq t;have h3:=BQ l hl s.key hs;have h4:=BQ l hl t.key ht;have h5:=Fz (s.key.map fun k=>((fld l k).w:Int)) (t.key.map fun k=>((fld l k).w:Int)) (by rw [List.length_map];omega);have h6:=BP s.kind;have h7:=BP t.kind;unfold wb uM;generalize (s.key.map fun k=>((fld l k).w:Int))=w1 at *
 generalize (t.key.map fun k=>((fld l k).w:Int))=w2 at *
 generalize (w1==w2)=z at *
 generalize vD s.kind=f1 at *
 generalize vD t.kind=f2 at *
 generalize s.own=os at *
 generalize t.own=ot at *
 obtain ⟨k,v,ks,f,n,m⟩:=s;obtain ⟨k',v',ks',f',n',m'⟩:=t;dsimp only at *
 refine dl2 mixed [.tmp 6] [.bool _] Tryz.func134 MD ?_;generalize hn:(n !=n')=bn;generalize hm:(m !=m')=bm;generalize hf:(f1==f2)=bf;cases os with
 |false=>cases z <;> repeat' ((conv=>whnf);first|exact trivial|refine uc _ (h1) ?_|refine uc _ (h3) ?_|refine uc _ (h4) ?_|refine uc _ (h5) ?_|refine uc _ (h6) ?_|refine uc _ (h7) ?_|refine nb_ _ hf ?_|refine rb0 ?_|refine rbx ?_|refine aS ?_|refine nT_ ?_)
 |true=>
 cases ot with
 |false=>cases z <;> repeat' ((conv=>whnf);first|exact trivial|refine uc _ (h1) ?_|refine uc _ (h2) ?_|refine uc _ (h3) ?_|refine uc _ (h4) ?_|refine uc _ (h5) ?_|refine uc _ (h6) ?_|refine uc _ (h7) ?_|refine nb_ _ hf ?_|refine rb0 ?_|refine rbx ?_|refine aS ?_|refine nT_ ?_)
 |true=>
 cases bn with
 |true=>repeat' ((conv=>whnf);first|exact trivial|refine uc _ (h1) ?_|refine uc _ (h2) ?_|refine nb_ _ hn ?_|refine rb0 ?_|refine aS ?_|refine nT_ ?_)
 |false=>
 cases bm with
 |true=>repeat' ((conv=>whnf);first|exact trivial|refine uc _ (h1) ?_|refine uc _ (h2) ?_|refine nb_ _ hn ?_|refine nb_ _ hm ?_|refine rb0 ?_|refine aS ?_|refine nT_ ?_)
 |false=>cases z <;> repeat' ((conv=>whnf);first|exact trivial|refine uc _ (h1) ?_|refine uc _ (h2) ?_|refine nb_ _ hn ?_|refine nb_ _ hm ?_|refine uc _ (h3) ?_|refine uc _ (h4) ?_|refine uc _ (h5) ?_|refine uc _ (h6) ?_|refine uc _ (h7) ?_|refine nb_ _ hf ?_|refine rb0 ?_|refine rbx ?_|refine aS ?_|refine nT_ ?_)
theorem wu{b:Bool}{p:Prop}(hi:b=true↔p)(h: ¬p):b=false:=by
 cases b with
 |false=>rfl
 |true=>exact (h (hi.1 rfl)).elim
def A5(a b:RS):Bool:=(a.kind==b.kind)&&uq a.var b.var&&uq a.field b.field&&(a.n==b.n)&&(a.m==b.m)&&zg a.key b.key
theorem wB{a b:RS}:A5 a b=true↔a=b:=by
 obtain ⟨a1,a2,a3,a4,a5,a6⟩:=a;obtain ⟨b1,b2,b3,b4,b5,b6⟩:=b;unfold A5;simp only [Bool.and_eq_true,uQ,beq_iff_eq,C5,RS.mk.injEq];exact ⟨fun h=>⟨h.1.1.1.1.1,h.1.1.1.1.2,h.2,h.1.1.1.2,h.1.1.2,h.1.2⟩,fun h=>⟨⟨⟨⟨⟨h.1,h.2.1⟩,h.2.2.2.1⟩,h.2.2.2.2.1⟩,h.2.2.2.2.2⟩,h.2.2.1⟩⟩
theorem FA(a b:RS)(hl:a.key.length<2^60):DCalls Tryz.prog 203 [.agg (uw a),.agg (uw b)] (.bool (A5 a b)):=by
 obtain ⟨k,v,l,f,n,m⟩:=a;obtain ⟨k',v',l',f',n',m'⟩:=b;dsimp only at hl;refine dl2 mixed [.tmp 4] [.bool _] Tryz.func203 M7 ?_;have hV:(!(v.toList==v'.toList))= !uq v v':=by rw [uI]
 have hS:(!(f.toList==f'.toList))= !uq f f':=by rw [uI]
 by_cases c1:k=k'
 case neg=>rw [wu wB fun e=>c1 (by cases e;rfl)];repeat' ((conv=>whnf);first|exact trivial|refine sG c1 ?_|refine rb0 ?_|refine aS ?_|refine nT_ ?_)
 by_cases c5:v=v'
 case neg=>
  rw [wu wB fun e=>c5 (by cases e;rfl)];rw [wu uQ c5] at hV
  repeat' ((conv=>whnf);first|exact trivial|refine sF c1 ?_|refine nb_ _ hV ?_|refine rb0 ?_|refine aS ?_|refine nT_ ?_)
 rw [uQ.2 c5] at hV
 by_cases c2:f=f'
 case neg=>
  rw [wu wB fun e=>c2 (by cases e;rfl)];rw [wu uQ c2] at hS
  repeat' ((conv=>whnf);first|exact trivial|refine sF c1 ?_|refine nb_ _ hV ?_|refine nb_ _ hS ?_|refine rb0 ?_|refine aS ?_|refine nT_ ?_)
 rw [uQ.2 c2] at hS
 by_cases c3:n=n'
 case neg=>rw [wu wB fun e=>c3 (by cases e;rfl)];repeat' ((conv=>whnf);first|exact trivial|refine sF c1 ?_|refine nb_ _ hV ?_|refine nb_ _ hS ?_|refine sG c3 ?_|refine rb0 ?_|refine aS ?_|refine nT_ ?_)
 by_cases c4:m=m'
 case neg=>rw [wu wB fun e=>c4 (by cases e;rfl)];repeat' ((conv=>whnf);first|exact trivial|refine sF c1 ?_|refine nb_ _ hV ?_|refine nb_ _ hS ?_|refine sF c3 ?_|refine sG c4 ?_|refine rb0 ?_|refine aS ?_|refine nT_ ?_)
 have ha:((l.map T.str).length:Int)=l.length:=by rw [List.length_map]
 have hb:((l'.map T.str).length:Int)=l'.length:=by rw [List.length_map]
 by_cases hab:l.length=l'.length
 case neg=>
  rw [wu wB fun e=>hab (by cases e;rfl)];have hn:((l.map T.str).length:Int)≠((l'.map T.str).length:Int):=by omega
  repeat' ((conv=>whnf);first|exact trivial|refine sF c1 ?_|refine nb_ _ hV ?_|refine nb_ _ hS ?_|refine sF c3 ?_|refine sF c4 ?_|refine sG hn ?_|refine rb0 ?_|refine aS ?_|refine nT_ ?_)
 have hn:((l.map T.str).length:Int)=((l'.map T.str).length:Int):=by omega
 repeat' ((conv=>whnf);first|refine sF c1 ?_|refine nb_ _ hV ?_|refine nb_ _ hS ?_|refine sF c3 ?_|refine sF c4 ?_|refine sF hn ?_|refine aS ?_|refine nT_ ?_)
 refine tT (α:=Nat) (fun i=>{sl:=[(2,.ptr 2 0),(3,.ptr 3 0),(5,.t (I i))],bx:=[(2,.d 6 (uw ⟨k,v,l,f,n,m⟩)),(3,.d 6 (uw ⟨k',v',l',f',n',m'⟩))]})
  (fun i=>i<=l.length/\ ∀j (h:j<l.length) (h':j<l'.length),j<i->l[j]=l'[j]) (fun i=>l.length - i) 0 (by simp) ?_ ?_
 ·repeat' (first|exact wJ|refine And.intro ?_ ?_)
 rintro i ⟨hi,hp⟩;rcases Nat.lt_or_ge i l.length with h|h
 ·have h':i<l'.length:=by omega
  have hlt:(i:Int)<((l.map T.str).length:Int):=by omega
  have hN:(!(l[i].toList==l'[i].toList))= !uq l[i] l'[i]:=by rw [uI]
  by_cases he:l[i]=l'[i]
  ·rw [uQ.2 he] at hN
   repeat' ((conv=>whnf);first|refine sC hlt ?_|(refine nv_ (.str l[i]) (by first|(simp [h];done)|fail) ?_)|(refine nv_ (.str l'[i]) (by first|(simp [h'];done)|fail) ?_)|refine nb_ _ hN ?_|refine aS ?_|refine nT_ ?_)
   refine ⟨i+1,⟨h,fun j hj hj' hlt=>?_⟩,by omega,?_⟩
   ·rcases Nat.lt_or_ge j i with h4|h4
    ·exact hp j hj hj' h4
    ·obtain rfl:j=i:=by omega
     exact he
   ·repeat' (first|exact wJ|refine And.intro ?_ ?_)
  ·rw [wu uQ he] at hN;rw [wu wB fun e=>he (by cases e;rfl)]
   repeat' ((conv=>whnf);first|exact trivial|refine sC hlt ?_|(refine nv_ (.str l[i]) (by first|(simp [h];done)|fail) ?_)|(refine nv_ (.str l'[i]) (by first|(simp [h'];done)|fail) ?_)|refine nb_ _ hN ?_|refine rb0 ?_|refine aS ?_|refine nT_ ?_)
 ·have e:l=l':=List.ext_getElem hab fun j h1 h2=>hp j h1 h2 (by omega)
  rw [wB.2 (by rw [c1,c2,c3,c4,c5,e])];have hlt: ¬(i:Int)<((l.map T.str).length:Int):=by omega
  repeat' ((conv=>whnf);first|exact trivial|refine su hlt ?_|refine rb1 ?_|refine aS ?_|refine nT_ ?_)
end Go.TY
end
section
end
section
namespace Go.TY
open Go Go.DL Go.MM Go.Proofs
theorem FY(g:RG):((uu g).drop 0).take 9=ux g.pol:=by
 have:=Gx g
 rwa [tq (n:=15) rfl] at this
theorem xQ(g:RG):((uu g).drop 9).take 6=uw g.st:=by
 have:=Hp g
 rwa [tq (n:=15) rfl] at this
def E7(r:RO):Bool:=decide (r.size<=400)&&decide (r.deep<=60)&&decide (r.pred.nodes<=400)
theorem Cv{a b:Nat}:decide ((a:Int)<=(b:Int))=decide (a<=b):=by
 by_cases h:a<=b
 ·rw [decide_eq_true h,decide_eq_true (by omega)]
 ·rw [decide_eq_false h,decide_eq_false (by omega)]
theorem Ei(r:RO)(hr:r.wt<2^60):DCalls Tryz.prog 90 [.agg (ux r)] (.bool (E7 r)):=by
 refine dl2 mixed [.tmp 2] [.bool _] Tryz.func90 l90 ?_;have h1:=t89 _ r (Nat.le_refl _) hr;have hpn:r.pred.nodes<2^60:=by
  obtain ⟨k,p,f,n,l⟩:=r;simp only [RO.wt] at hr;show p.nodes<_;omega
 have h2:=t103 _ r.pred (Nat.le_refl _) hpn;have d1:decide ((r.size:Int)<=400)=decide (r.size<=400):=Cv;have d2:decide ((r.deep:Int)<=60)=decide (r.deep<=60):=Cv;have d3:decide ((r.pred.nodes:Int)<=400)=decide (r.pred.nodes<=400):=Cv;unfold E7;obtain ⟨k,⟨pk,pf,pn,pm,pa⟩,f,n,l⟩:=r;have e:(RO.mk k (.mk pk pf pn pm pa) f n l).pred= .mk pk pf pn pm pa:=rfl;rw [e] at h2 d3 ⊢;clear hr hpn e;generalize (RO.mk k (.mk pk pf pn pm pa) f n l).size=a at *
 generalize (RO.mk k (.mk pk pf pn pm pa) f n l).deep=d at *
 generalize (RP.mk pk pf pn pm pa).nodes=c at *
 generalize (RP.mk pk pf pn pm pa).depth=c' at *
 generalize decide (a<=400)=b1 at *
 generalize decide (d<=60)=b2 at *
 generalize decide (c<=400)=b3 at *
 cases b1 <;> cases b2 <;> repeat' ((conv=>whnf);first|exact trivial|refine uc _ (h1) ?_|refine uc _ (h2) ?_|refine nb_ _ d1 ?_|refine nb_ _ d2 ?_|refine nb_ _ d3 ?_|refine rb0 ?_|refine rbx ?_|refine aS ?_|refine nT_ ?_)
end Go.TY
end
section
end
section
namespace Go.TY
open Go Go.DL Go.MM Go.Proofs
theorem zL(g:RG):(uu g).take 9=ux g.pol:=by
 have:=FY g
 rwa [List.drop_zero] at this
theorem xU(g:RG):9<=(uu g).length:=by rw [wN];exact nlZ rfl
theorem wh(g:RG):15<=(uu g).length:=by rw [wN];exact Nat.le_refl _
theorem HN(g:RG):11<(uu g).length:=by rw [wN];exact nlZ rfl
theorem xq(g:RG):((uu g).take 9).length=9:=by rw [zL,uG]
theorem Gv(s:RS):A5 s ⟨0,e0,[],e0,0,0⟩=yE s:=by
 obtain ⟨k,v,l,f,n,m⟩:=s;unfold A5 yE
 have:zg l []=(l.length==0):=by cases l <;> rfl
 rw [this]
theorem Hi(s:RS)(hl:s.key.length<2^60):DCalls Tryz.prog 203 [.agg (uw s),.agg [I 0,.str e0,.nil,.str e0,I 0,I 0]] (.bool (yE s)):=by
 rw [<- Gv];exact (FA s ⟨0,e0,[],e0,0,0⟩ hl).lesAll ⟨Les.refl _,Les.agg (.cons (Les.refl _) rfl (.cons (Les.refl _) rfl (.cons (Les.nil 1) rfl (.cons (Les.refl _) rfl (.cons (Les.refl _) rfl (.cons (Les.refl _) rfl .nil)))))),trivial⟩
theorem Iv(br e nd:Bool)(n m:Int):xp 3 br e nd n m=(e&&(decide (n>=0)&&(decide (n<=1073741824)&&(m==0)))):=by
 unfold xp Bm;rw [if_neg (by omega),if_neg (by omega),if_pos rfl];cases e <;> cases h1:decide (0<=n) <;> cases h2:decide (n<=1073741824) <;> cases h3:(m==0) <;> simp_all
theorem Iw(br e nd:Bool)(n m:Int):xp 4 br e nd n m=(nd&&(decide (n>=0)&&(decide (n<=m)&&decide (m<=65535)))):=by
 unfold xp xV;rw [if_neg (by omega),if_neg (by omega),if_neg (by omega),if_pos rfl];cases nd
 ·rfl
 ·rw [Bool.eq_iff_iff];simp only [Bool.true_and,Bool.and_eq_true,decide_eq_true_eq];omega
theorem Ix(br e nd:Bool)(n m:Int):xp 6 br e nd n m=(e&&(decide (n>=1)&&(decide (n<=65535)&&(decide (m>=1)&&decide (m<=1073741824))))):=by
 unfold xp xV Bm;rw [if_neg (by omega),if_neg (by omega),if_neg (by omega),if_neg (by omega),if_neg (by omega),if_pos rfl];cases e
 ·rfl
 ·rw [Bool.eq_iff_iff];simp only [Bool.true_and,Bool.and_eq_true,decide_eq_true_eq];omega
theorem DX(s:RS)(hv:s.var.size<2^62)(hf:s.field.size<2^62)(hk: ∀k∈s.key,k.size<2^62)(hl:s.key.length<2^60):DCalls Tryz.prog 189 [.agg (uw s)] (.bool (okS s)):=by
 refine dl2 mixed [.tmp 2] [.bool _] Tryz.func189 MW ?_;have h0:=Hi s hl;unfold okS;generalize yE s=z0 at *
 obtain ⟨k,v,l,f,n,m⟩:=s;dsimp only at hv hf hk hl ⊢;cases z0 with
 |true=>repeat' ((conv=>whnf);first|refine uc _ (h0) ?_|refine rb1 ?_|refine aS ?_|exact trivial)
 |false=>
 rw [Bool.false_or];have h1:=t108 v hv;have h3:=t104 f hf;have hE:=uI f e0;have hlen:((l.map T.str).length:Int)=(l.length:Int):=by rw [List.length_map]
 generalize yX v=pv at *
 generalize vh f=nd at *
 generalize uq f e0=e at *
 repeat' ((conv=>whnf);first|refine uc _ (h0) ?_|refine uc _ (h1) ?_|refine aS ?_|refine nT_ ?_)
 refine tV (β:=Unit) (fun _=>{sl:=[(1,.ptr 1 0),(29,.t (.bool (!(pv&&decide (1<=l.length)&&decide (l.length<=4)))))],bx:=[(1,.d 6 (uw ⟨k,v,l,f,n,m⟩))]}) (fun _=>True) ?_ ?_
 ·by_cases c0:1<=l.length
  ·have e0': ¬((l.map T.str).length:Int)<1:=by omega
   rw [decide_eq_true c0,Bool.and_true]
   by_cases c4:l.length<=4
   ·have e4: ¬((l.map T.str).length:Int)>4:=by omega
    rw [decide_eq_true c4,Bool.and_true];cases pv <;> repeat' ((conv=>whnf);first|refine su e0' ?_|refine su e4 ?_|(exact ⟨(),trivial,by (repeat' (first|exact wJ|refine And.intro ?_ ?_));done⟩)|refine aS ?_|refine nT_ ?_)
   ·have e4:((l.map T.str).length:Int)>4:=by omega
    rw [decide_eq_false c4,Bool.and_false];cases pv <;> repeat' ((conv=>whnf);first|refine su e0' ?_|refine sC e4 ?_|(exact ⟨(),trivial,by (repeat' (first|exact wJ|refine And.intro ?_ ?_));done⟩)|refine aS ?_|refine nT_ ?_)
  ·have e0':((l.map T.str).length:Int)<1:=by omega
   rw [decide_eq_false c0,Bool.and_false,Bool.false_and];cases pv <;> repeat' ((conv=>whnf);first|refine sC e0' ?_|(exact ⟨(),trivial,by (repeat' (first|exact wJ|refine And.intro ?_ ?_));done⟩)|refine aS ?_|refine nT_ ?_)
 rintro _ _;generalize (pv&&decide (1<=l.length)&&decide (l.length<=4))=g at *
 cases g with
 |false=>repeat' ((conv=>whnf);first|refine rb0 ?_|exact trivial)
 |true=>
 rw [Bool.true_and]
 skip
 refine tx 0 (α:=Nat) (β:=Unit) (fun i=>{sl:=[(1,.ptr 1 0),(5,.t (I i))],bx:=[(1,.d 6 (uw ⟨k,v,l,f,n,m⟩))]})
  (fun i=>i<=l.length/\ ∀j (h:j<l.length),j<i->vh l[j]=true) (fun i=>l.length - i)
  (fun _=>{sl:=[(1,.ptr 1 0)],bx:=[(1,.d 6 (uw ⟨k,v,l,f,n,m⟩))]}) (fun _=>l.all vh=true) 0 (by simp) ?_ ?_ ?_
 ·repeat' (first|exact wJ|refine And.intro ?_ ?_)
 ·rintro i ⟨hi,hp⟩;rcases Nat.lt_or_ge i l.length with h|h
  ·have hlt:(i:Int)<((l.map T.str).length:Int):=by omega
   have hn:=t104 l[i] (hk _ (List.getElem_mem h));have hx:(l.map T.str)[i]?.getD .nil= .str l[i]:=by simp [h]
   cases hb:vh l[i] with
   |true=>
    rw [hb] at hn
    repeat' ((conv=>whnf);first|refine sC hlt ?_|(refine nv_ (.str l[i]) (by first|exact hx) ?_)|refine uc _ (hn) ?_|refine aS ?_|refine nT_ ?_)
    refine ⟨i+1,⟨h,fun j hj hlt=>?_⟩,by omega,?_⟩
    ·rcases Nat.lt_or_ge j i with h4|h4
     ·exact hp j hj h4
     ·obtain rfl:j=i:=by omega
      exact hb
    ·repeat' (first|exact wJ|refine And.intro ?_ ?_)
   |false=>
    rw [hb] at hn;have e:l.all vh=false:=by
     rw [List.all_eq_false];exact ⟨l[i],List.getElem_mem h,by rw [hb];simp⟩
    rw [e];clear e
    repeat' ((conv=>whnf);first|exact trivial|refine sC hlt ?_|(refine nv_ (.str l[i]) (by first|exact hx) ?_)|refine uc _ (hn) ?_|refine rb0 ?_|refine aS ?_|refine nT_ ?_)
  ·have hlt: ¬(i:Int)<((l.map T.str).length:Int):=by omega
   have fQ:l.all vh=true:=by
    rw [List.all_eq_true];intro x hx;obtain ⟨j,hj,rfl⟩:=List.getElem_of_mem hx;exact hp j hj (by omega)
   repeat' ((conv=>whnf);first|refine su hlt ?_|(exact ⟨(),fQ,by (repeat' (first|exact wJ|refine And.intro ?_ ?_));done⟩)|refine aS ?_|refine nT_ ?_)
 rintro _ fQ;rw [fQ,Bool.true_and];clear fQ
 repeat' ((conv=>whnf);first|refine uc _ (h3) ?_|refine aS ?_|refine nT_ ?_)
 refine tV (β:=Unit) (fun _=>{sl:=[(1,.ptr 1 0),(7,.t (.bool nd)),(8,.t (.bool ((n==0)&&(m==0))))],bx:=[(1,.d 6 (uw ⟨k,v,l,f,n,m⟩))]}) (fun _=>True) ?_ ?_
 ·by_cases hn:n=0
  ·by_cases hm:m=0
   ·rw [show ((n==0)&&(m==0))=true by simp [hn,hm]]
    repeat' ((conv=>whnf);first|refine sE hn ?_|refine sE hm ?_|(exact ⟨(),trivial,by (repeat' (first|exact wJ|refine And.intro ?_ ?_));done⟩)|refine aS ?_|refine nT_ ?_)
   ·rw [show ((n==0)&&(m==0))=false by simp [hm]]
    repeat' ((conv=>whnf);first|refine sE hn ?_|refine sD hm ?_|(exact ⟨(),trivial,by (repeat' (first|exact wJ|refine And.intro ?_ ?_));done⟩)|refine aS ?_|refine nT_ ?_)
  ·rw [show ((n==0)&&(m==0))=false by simp [hn]]
   repeat' ((conv=>whnf);first|refine sD hn ?_|(exact ⟨(),trivial,by (repeat' (first|exact wJ|refine And.intro ?_ ?_));done⟩)|refine aS ?_|refine nT_ ?_)
 rintro _ _;clear h0 h1 h3;generalize ((n==0)&&(m==0))=br at *
 by_cases k1:k=1
 ·subst k1;unfold xp;rw [if_pos rfl];cases br <;> cases e <;> cases nd <;> repeat' ((conv=>whnf);first|exact trivial|refine nb_ _ hE ?_|refine aE1 ?_|refine rb1 ?_|refine rb0 ?_|refine aS ?_|refine nT_ ?_)
 by_cases k2:k=2
 ·subst k2;unfold xp;rw [if_neg (by omega),if_pos rfl];cases br <;> cases e <;> repeat' ((conv=>whnf);first|exact trivial|refine nb_ _ hE ?_|refine aE1 ?_|refine aE0 ?_|refine rb1 ?_|refine rb0 ?_|refine aS ?_|refine nT_ ?_)
 by_cases k3:k=3
 ·subst k3;rw [Iv]
  by_cases q1:n>=0
  ·by_cases q2:n<=1073741824
   ·rw [decide_eq_true q1,decide_eq_true q2,Bool.true_and,Bool.true_and]
    by_cases q3:m=0
    ·rw [show (m==0)=true by simp [q3]];cases e <;> repeat' ((conv=>whnf);first|exact trivial|refine nb_ _ hE ?_|refine sC q1 ?_|refine sC q2 ?_|refine sE q3 ?_|refine aE1 ?_|refine aE0 ?_|refine rb1 ?_|refine rb0 ?_|refine aS ?_|refine nT_ ?_)
    ·rw [show (m==0)=false by simp [q3]];cases e <;> repeat' ((conv=>whnf);first|exact trivial|refine nb_ _ hE ?_|refine sC q1 ?_|refine sC q2 ?_|refine sD q3 ?_|refine aE1 ?_|refine aE0 ?_|refine rb0 ?_|refine aS ?_|refine nT_ ?_)
   ·rw [decide_eq_true q1,decide_eq_false q2,Bool.true_and,Bool.false_and];cases e <;> repeat' ((conv=>whnf);first|exact trivial|refine nb_ _ hE ?_|refine sC q1 ?_|refine su q2 ?_|refine aE1 ?_|refine aE0 ?_|refine rb0 ?_|refine aS ?_|refine nT_ ?_)
  ·rw [decide_eq_false q1,Bool.false_and];cases e <;> repeat' ((conv=>whnf);first|exact trivial|refine nb_ _ hE ?_|refine su q1 ?_|refine aE1 ?_|refine aE0 ?_|refine rb0 ?_|refine aS ?_|refine nT_ ?_)
 by_cases k4:k=4
 ·subst k4;rw [Iw]
  by_cases q1:n>=0
  ·by_cases q2:n<=m
   ·rw [decide_eq_true q1,decide_eq_true q2,Bool.true_and,Bool.true_and]
    by_cases q3:m<=65535
    ·rw [decide_eq_true q3];cases nd <;> repeat' ((conv=>whnf);first|exact trivial|refine sC q1 ?_|refine sC q2 ?_|refine sC q3 ?_|refine aE1 ?_|refine aE0 ?_|refine rb1 ?_|refine rb0 ?_|refine aS ?_|refine nT_ ?_)
    ·rw [decide_eq_false q3];cases nd <;> repeat' ((conv=>whnf);first|exact trivial|refine sC q1 ?_|refine sC q2 ?_|refine su q3 ?_|refine aE1 ?_|refine aE0 ?_|refine rb0 ?_|refine aS ?_|refine nT_ ?_)
   ·rw [decide_eq_true q1,decide_eq_false q2,Bool.true_and,Bool.false_and];cases nd <;> repeat' ((conv=>whnf);first|exact trivial|refine sC q1 ?_|refine su q2 ?_|refine aE1 ?_|refine aE0 ?_|refine rb0 ?_|refine aS ?_|refine nT_ ?_)
  ·rw [decide_eq_false q1,Bool.false_and];cases nd <;> repeat' ((conv=>whnf);first|exact trivial|refine su q1 ?_|refine aE1 ?_|refine aE0 ?_|refine rb0 ?_|refine aS ?_|refine nT_ ?_)
 by_cases k5:k=5
 ·subst k5;unfold xp;rw [if_neg (by omega),if_neg (by omega),if_neg (by omega),if_neg (by omega),if_pos rfl];cases br <;> cases nd <;> repeat' ((conv=>whnf);first|exact trivial|refine aE1 ?_|refine aE0 ?_|refine rb1 ?_|refine rb0 ?_|refine aS ?_|refine nT_ ?_)
 by_cases k6:k=6
 ·subst k6;rw [Ix]
  by_cases q1:n>=1
  ·by_cases q2:n<=65535
   ·rw [decide_eq_true q1,decide_eq_true q2,Bool.true_and,Bool.true_and]
    by_cases q3:m>=1
    ·rw [decide_eq_true q3,Bool.true_and]
     by_cases q4:m<=1073741824
     ·rw [decide_eq_true q4];cases e <;> repeat' ((conv=>whnf);first|exact trivial|refine nb_ _ hE ?_|refine sC q1 ?_|refine sC q2 ?_|refine sC q3 ?_|refine sC q4 ?_|refine aE1 ?_|refine aE0 ?_|refine rb1 ?_|refine rb0 ?_|refine aS ?_|refine nT_ ?_)
     ·rw [decide_eq_false q4];cases e <;> repeat' ((conv=>whnf);first|exact trivial|refine nb_ _ hE ?_|refine sC q1 ?_|refine sC q2 ?_|refine sC q3 ?_|refine su q4 ?_|refine aE1 ?_|refine aE0 ?_|refine rb0 ?_|refine aS ?_|refine nT_ ?_)
    ·rw [decide_eq_false q3,Bool.false_and];cases e <;> repeat' ((conv=>whnf);first|exact trivial|refine nb_ _ hE ?_|refine sC q1 ?_|refine sC q2 ?_|refine su q3 ?_|refine aE1 ?_|refine aE0 ?_|refine rb0 ?_|refine aS ?_|refine nT_ ?_)
   ·rw [decide_eq_true q1,decide_eq_false q2,Bool.true_and,Bool.false_and];cases e <;> repeat' ((conv=>whnf);first|exact trivial|refine nb_ _ hE ?_|refine sC q1 ?_|refine su q2 ?_|refine aE1 ?_|refine aE0 ?_|refine rb0 ?_|refine aS ?_|refine nT_ ?_)
  ·rw [decide_eq_false q1,Bool.false_and];cases e <;> repeat' ((conv=>whnf);first|exact trivial|refine nb_ _ hE ?_|refine su q1 ?_|refine aE1 ?_|refine aE0 ?_|refine rb0 ?_|refine aS ?_|refine nT_ ?_)
 unfold xp;rw [if_neg k1,if_neg k2,if_neg k3,if_neg k4,if_neg k5,if_neg k6]
 repeat' ((conv=>whnf);first|exact trivial|refine aE0 ?_|refine rb0 ?_|refine aS ?_|refine nT_ ?_)
theorem BC(s:RS)(h:SmS (2^60) s):DCalls Tryz.prog 172 [.agg (uw s)] (I (vO s)):=by
 refine dl2 mixed [.tmp 2] [.int _ _] Tryz.func172 MQ ?_;have h1:=DX s (by have:=h.var;omega) (by have:=h.field;omega) (fun k hk=>by have:=h.keys k hk;omega) h.len;unfold vO;generalize okS s=b at *
 cases b <;> repeat' ((conv=>whnf);first|refine uc _ (h1) ?_|refine rix ?_|(refine And.intro (by first|(rfl;done)|fail) ?_)|exact trivial)
theorem CE(gs:List RG)(hl:gs.length<2^60)(hg: ∀g∈gs,SmG (2^59) g):DCalls Tryz.prog 131 [.slice 15 (gs.map uE)] (I (yJ gs)):=by
 refine dl2 mixed [.tmp 2] [.int _ _] Tryz.func131 Mz ?_;have hlen:((gs.map uE).length:Int)=(gs.length:Int):=by rw [List.length_map]
 unfold yJ
 by_cases h8:gs.length>8
 ·rw [if_pos h8];have e8:((gs.map uE).length:Int)>8:=by omega
  repeat' ((conv=>whnf);first|refine sC e8 ?_|refine rix ?_|refine aS ?_|exact trivial)
 rw [if_neg h8];have e8: ¬((gs.map uE).length:Int)>8:=by omega
 repeat' ((conv=>whnf);first|refine su e8 ?_|refine aS ?_|fail)
 refine tT (α:=Nat) (fun i=>{sl:=[(0,.t (.slice 15 (gs.map uE))),(3,.t (I i))],bx:=[]})
  (fun i=>i<=gs.length/\ ∀j (h:j<gs.length),j<i->vM gs[j].pol=0/\vO gs[j].st=0) (fun i=>gs.length - i) 0 (by simp) ?_ ?_
 ·repeat' (first|exact wJ|refine And.intro ?_ ?_)
 rintro i ⟨hi,hp⟩;rcases Nat.lt_or_ge i gs.length with h|h
 ·have hlt:(i:Int)<((gs.map uE).length:Int):=by omega
  have hm:=hg gs[i] (List.getElem_mem h);have h1:=t63 gs[i].pol (by have:=hm.wt;omega) (hm.names (by omega));have h2:=BC gs[i].st (hm.st.mono (by omega));have hx:(gs.map uE)[i]?.getD .nil= .agg (uu gs[i]):=by simp [h];rfl
  have hc1:=zL gs[i];have hc2:=xQ gs[i]
  by_cases c1:vM gs[i].pol=0
  ·rw [c1] at h1
   by_cases c2:vO gs[i].st=0
   ·rw [c2] at h2
    repeat' ((conv=>whnf);first|refine sC hlt ?_|(refine nv_ (.agg (uu gs[i])) (by first|exact hx) ?_)|(refine nv_ (.agg (ux gs[i].pol)) (by first|exact congrArg T.agg hc1) ?_)|(refine nv_ (.agg (uw gs[i].st)) (by first|exact congrArg T.agg hc2) ?_)|refine uc _ (h1) ?_|refine uc _ (h2) ?_|refine aN0 ?_|(refine And.intro (by first|exact xq _|exact xU _|exact wh _) ?_)|refine aS ?_|fail)
    refine ⟨i+1,⟨h,fun j hj hlt=>?_⟩,by omega,?_⟩
    ·rcases Nat.lt_or_ge j i with h4|h4
     ·exact hp j hj h4
     ·obtain rfl:j=i:=by omega
      exact ⟨c1,c2⟩
    ·repeat' (first|exact wJ|refine And.intro ?_ ?_)
   ·have e:=Fe (f:=fun g:RG=>vM g.pol) (g:=fun g=>vO g.st) h hp c1 c2;rw [e];clear e;dsimp only;generalize vO gs[i].st=x at *
    repeat' ((conv=>whnf);first|refine sC hlt ?_|(refine nv_ (.agg (uu gs[i])) (by first|exact hx) ?_)|(refine nv_ (.agg (ux gs[i].pol)) (by first|exact congrArg T.agg hc1) ?_)|(refine nv_ (.agg (uw gs[i].st)) (by first|exact congrArg T.agg hc2) ?_)|refine uc _ (h1) ?_|refine uc _ (h2) ?_|refine sG c2 ?_|refine aN0 ?_|refine rix ?_|(refine And.intro (by first|exact xq _|exact xU _|exact wh _) ?_)|refine aS ?_|exact trivial)
  ·have e:=Fc (f:=fun g:RG=>vM g.pol) (g:=fun g=>vO g.st) h hp c1;rw [e];clear e;dsimp only;generalize vM gs[i].pol=x at *
   repeat' ((conv=>whnf);first|refine sC hlt ?_|(refine nv_ (.agg (uu gs[i])) (by first|exact hx) ?_)|(refine nv_ (.agg (ux gs[i].pol)) (by first|exact congrArg T.agg hc1) ?_)|refine uc _ (h1) ?_|refine sG c1 ?_|refine rix ?_|(refine And.intro (by first|exact xq _|exact xU _|exact wh _) ?_)|refine aS ?_|exact trivial)
 ·have hlt: ¬(i:Int)<((gs.map uE).length:Int):=by omega
  have e:=Fb (f:=fun g:RG=>vM g.pol) (g:=fun g=>vO g.st) (xs:=gs) fun j hj=>hp j hj (by omega)
  rw [e]
  repeat' ((conv=>whnf);first|refine su hlt ?_|refine rix ?_|refine aS ?_|exact trivial)
def yb(g:RG):Bool:=E7 g.pol&&decide (g.st.key.length<=20)
def zW(gs:List RG):Bool:=gs.all yb&&decide (gs.length<=12)
theorem JC(g:RG):(uu g)[11]?.getD .nil= .slice 1 (g.st.key.map .str):=by
 unfold uu;rw [List.getElem?_append_right (by rw [uG];omega),uG];rfl
theorem DW(gs:List RG)(hl:gs.length<2^60)(hg: ∀g∈gs,g.pol.wt<2^60):DCalls Tryz.prog 37 [.slice 15 (gs.map uE)] (.bool (zW gs)):=by
 refine dl2 mixed [.tmp 2] [.bool _] Tryz.func37 l37 ?_;have hlen:((gs.map uE).length:Int)=(gs.length:Int):=by rw [List.length_map]
 skip
 refine tx 0 (α:=Nat) (β:=Unit) (fun i=>{sl:=[(0,.t (.slice 15 (gs.map uE))),(3,.t (I i))],bx:=[]})
  (fun i=>i<=gs.length/\i<=12/\ ∀j (h:j<gs.length),j<i->yb gs[j]=true) (fun i=>gs.length - i)
  (fun _=>{sl:=[(0,.t (.slice 15 (gs.map uE)))],bx:=[]}) (fun _=>gs.length<=12->gs.all yb=true) 0 (by simp) ?_ ?_ ?_
 ·repeat' (first|exact wJ|refine And.intro ?_ ?_)
 ·rintro i ⟨hi,hi2,hp⟩;have out:(¬ i<gs.length\/ ¬i<12)->gs.length<=12->gs.all yb=true:=fun hc h12=>by
   rw [List.all_eq_true];intro x hx;obtain ⟨j,hj,rfl⟩:=List.getElem_of_mem hx;exact hp j hj (by omega)
  rcases Nat.lt_or_ge i gs.length with h|h
  ·have hlt:(i:Int)<((gs.map uE).length:Int):=by omega
   rcases Nat.lt_or_ge i 12 with h12|h12
   ·have vV:(i:Int)<12:=by omega
    have h1:=Ei gs[i].pol (hg gs[i] (List.getElem_mem h));have hx:(gs.map uE)[i]?.getD .nil= .agg (uu gs[i]):=by simp [h];rfl
    have hc1:=zL gs[i];have hc2:=JC gs[i];have hkl:((gs[i].st.key.map T.str).length:Int)=gs[i].st.key.length:=by rw [List.length_map]
    have bad:yb gs[i]=false->zW gs=false:=fun hb=>by
     unfold zW;rw [show gs.all yb=false from List.all_eq_false.2 ⟨gs[i],List.getElem_mem h,by rw [hb];simp⟩,Bool.false_and]
    clear out;cases hb:E7 gs[i].pol with
    |false=>
     rw [hb] at h1;rw [bad (by unfold yb;rw [hb];rfl)];clear bad
     repeat' ((conv=>whnf);first|refine sC hlt ?_|refine sC vV ?_|(refine nv_ (.agg (uu gs[i])) (by first|exact hx) ?_)|(refine nv_ (.agg (ux gs[i].pol)) (by first|exact congrArg T.agg hc1) ?_)|refine uc _ (h1) ?_|refine rb0 ?_|(refine And.intro (by first|exact xq _|exact xU _|exact wh _) ?_)|refine aS ?_|exact trivial)
    |true=>
     rw [hb] at h1
     by_cases c2:gs[i].st.key.length<=20
     ·have q: ¬((gs[i].st.key.map T.str).length:Int)>20:=by omega
      have good:yb gs[i]=true:=by unfold yb;rw [hb,decide_eq_true c2];rfl
      clear bad
      repeat' ((conv=>whnf);first|refine sC hlt ?_|refine sC vV ?_|refine su q ?_|(refine nv_ (.agg (uu gs[i])) (by first|exact hx) ?_)|(refine nv_ (.agg (ux gs[i].pol)) (by first|exact congrArg T.agg hc1) ?_)|(refine nv_ (.slice 1 (gs[i].st.key.map .str)) (by first|exact hc2) ?_)|refine uc _ (h1) ?_|(refine And.intro (by first|exact xq _|exact xU _|exact HN _) ?_)|refine aS ?_|fail)
      refine ⟨i+1,⟨h,by omega,fun j hj hlt=>?_⟩,by omega,?_⟩
      ·rcases Nat.lt_or_ge j i with h4|h4
       ·exact hp j hj h4
       ·obtain rfl:j=i:=by omega
        exact good
      ·repeat' (first|exact wJ|refine And.intro ?_ ?_)
     ·have q:((gs[i].st.key.map T.str).length:Int)>20:=by omega
      rw [bad (by unfold yb;rw [decide_eq_false c2,Bool.and_false])];clear bad
      repeat' ((conv=>whnf);first|refine sC hlt ?_|refine sC vV ?_|refine sC q ?_|(refine nv_ (.agg (uu gs[i])) (by first|exact hx) ?_)|(refine nv_ (.agg (ux gs[i].pol)) (by first|exact congrArg T.agg hc1) ?_)|(refine nv_ (.slice 1 (gs[i].st.key.map .str)) (by first|exact hc2) ?_)|refine uc _ (h1) ?_|refine rb0 ?_|(refine And.intro (by first|exact xq _|exact xU _|exact HN _) ?_)|refine aS ?_|exact trivial)
   ·have vV: ¬(i:Int)<12:=by omega
    have o:=out (Or.inr (by omega))
    repeat' ((conv=>whnf);first|refine sC hlt ?_|refine su vV ?_|(exact ⟨(),o,by (repeat' (first|exact wJ|refine And.intro ?_ ?_));done⟩)|refine aS ?_|fail)
  ·have hlt: ¬(i:Int)<((gs.map uE).length:Int):=by omega
   have o:=out (Or.inl (by omega))
   repeat' ((conv=>whnf);first|refine su hlt ?_|(exact ⟨(),o,by (repeat' (first|exact wJ|refine And.intro ?_ ?_));done⟩)|refine aS ?_|fail)
 ·rintro _ o;unfold zW
  by_cases c:gs.length<=12
  ·have q:((gs.map uE).length:Int)<=12:=by omega
   rw [o c,decide_eq_true c]
   repeat' ((conv=>whnf);first|refine sC q ?_|refine rb1 ?_|refine aS ?_|exact trivial)
  ·have q: ¬((gs.map uE).length:Int)<=12:=by omega
   rw [decide_eq_false c,Bool.and_false]
   repeat' ((conv=>whnf);first|refine su q ?_|refine rb0 ?_|refine aS ?_|exact trivial)
section
variable {α:Type}[DecidableEq α]{lt:α->α->Bool}
def vF(lt:α->α->Bool)(s:α):Bool->List α->List α
 |false,r=>put lt r s
 |true,r=>r.filter fun y=> !decide (y=s)
theorem Hm{s x:α}{r:List α}(h:lt x s=true):vF lt s false (x::r)=x::vF lt s false r:=by
 show put lt (x::r) s=_
 unfold put;rw [if_pos h];cases r <;> rfl
theorem D3{s x:α}{r:List α}(h:lt x s=false):vF lt s false (x::r)=s::vF lt s true (x::r):=by
 show put lt (x::r) s=_
 rw [put,if_neg (by rw [h];simp)];rfl
theorem D0{s x:α}{r:List α}(h:x=s):vF lt s true (x::r)=vF lt s true r:=by
 simp only [vF];rw [List.filter_cons,if_neg (by simp [h])]
theorem D4{s x:α}{r:List α}(h:x≠s):vF lt s true (x::r)=x::vF lt s true r:=by
 simp only [vF];rw [List.filter_cons,if_pos (by simp [h])]
end
theorem Gp(l:List ByteArray)(s:ByteArray)(hl:l.length<2^40):DCalls Tryz.prog 48 [.slice 1 (l.map T.str),T.str s] (.slice 1 ((put ltS l s).map T.str)):=by
 refine dl2 mixed [.tmp 4] [.slice 1 _] Tryz.func48 l48 ?_;have hll:((l.map T.str).length:Int)=l.length:=by rw [List.length_map]
 have hpl:=CD (lt:=ltS) (x:=s) (l:=l)
 skip
 refine tx 0 (α:=Nat×Bool×Nat×List ByteArray) (β:=Bool×Nat×List ByteArray) (fun p=>{sl:=[(0,.t (.slice 1 (l.map T.str))),(1,.t (T.str s)),(5,.own p.2.2.1 9 1 (p.2.2.2.map T.str)),(6,.t (.bool p.2.1)),(7,.t (I p.1))],bx:=[]})
  (fun p=>p.1<=l.length/\(p.2.2.1=27\/p.2.2.1=40)/\p.2.2.2++vF ltS s p.2.1 (l.drop p.1)=put ltS l s) (fun p=>l.length - p.1)
  (fun q=>{sl:=[(1,.t (T.str s)),(5,.own q.2.1 9 1 (q.2.2.map T.str)),(6,.t (.bool q.1))],bx:=[]}) (fun q=>(q.2.1=27\/q.2.1=40)/\q.2.2++vF ltS s q.1 []=put ltS l s) (0,false,27,[]) ⟨by simp,Or.inl rfl,rfl⟩ ?_ ?_ ?_
 ·repeat' (first|exact wJ|refine And.intro ?_ ?_)
 ·rintro ⟨i,d,r,out⟩ ⟨hi,hr,uJ⟩;dsimp only at hi hr uJ;have hol:out.length<=l.length+1:=by
   have:=congrArg List.length uJ
   rw [List.length_append] at this;omega
  rcases Nat.lt_or_ge i l.length with h|h
  ·have hlt:(i:Int)<((l.map T.str).length:Int):=by omega
   rw [List.drop_eq_getElem_cons h] at uJ;obtain ⟨x,hx⟩: ∃x,l[i]=x:=⟨_,rfl⟩
   rw [hx] at uJ;have hx':(l.map T.str)[i]?.getD .nil=T.str x:=by simp [h,hx]
   clear hpl
   skip
   refine tV (β:=Unit) (fun _=>{sl:=[(0,.t (.slice 1 (l.map T.str))),(1,.t (T.str s)),(5,.own r 9 1 (out.map T.str)),(6,.t (.bool d)),(7,.t (I i))],bx:=[]}) (fun _=>True) ?_ ?_
   ·repeat' ((conv=>whnf);first|refine sC hlt ?_|(exact ⟨(),trivial,by (repeat' (first|exact wJ|refine And.intro ?_ ?_));done⟩)|refine aS ?_|fail)
   rintro _ _;have e1: ∀(o:List ByteArray) y,(o++[y]).map T.str=o.map T.str++[T.str y]:=fun o y=>by rw [List.map_append];rfl
   skip
   refine tV (β:=Bool×Nat×List ByteArray) (fun p=>{sl:=[(0,.t (.slice 1 (l.map T.str))),(1,.t (T.str s)),(5,.own p.2.1 9 1 (p.2.2.map T.str)),(6,.t (.bool p.1)),(7,.t (I i))],bx:=[]})
    (fun p=>(p.2.1=27\/p.2.1=40)/\p.2.2.length<=l.length+2/\(x=s->p.2.2++vF ltS s p.1 (l.drop (i+1))=put ltS l s)/\(x≠s->(p.2.2++[x])++vF ltS s p.1 (l.drop (i+1))=put ltS l s)) ?_ ?_
   ·cases d with
    |false=>
     cases hc:ltS x s with
     |true=>
      have q1:(!(Op.bytesLess x.toList s.toList))=false:=by unfold ltS at hc;rw [hc];rfl
      have inv:(r=27\/r=40)/\out.length<=l.length+2/\(x=s->out++vF ltS s false (l.drop (i+1))=put ltS l s)/\(x≠s->(out++[x])++vF ltS s false (l.drop (i+1))=put ltS l s):=
       ⟨hr,by omega,fun he=>absurd he (zt.ne hc),fun _=>by rw [Hm hc,List.append_cons] at uJ;exact uJ⟩
      clear uJ;rcases hr with rfl|rfl
      ·repeat' ((conv=>whnf);first|(refine nv_ (T.str x) (by first|exact hx') ?_)|refine nb_ _ q1 ?_|(exact ⟨(false,27,out),inv,by (repeat' (first|exact wJ|refine And.intro ?_ ?_));done⟩)|refine aS ?_|refine nT_ ?_)
      ·repeat' ((conv=>whnf);first|(refine nv_ (T.str x) (by first|exact hx') ?_)|refine nb_ _ q1 ?_|(exact ⟨(false,40,out),inv,by (repeat' (first|exact wJ|refine And.intro ?_ ?_));done⟩)|refine aS ?_|refine nT_ ?_)
     |false=>
      have q1:(!(Op.bytesLess x.toList s.toList))=true:=by unfold ltS at hc;rw [hc];rfl
      have inv:(27=27\/27=40)/\(out++[s]).length<=l.length+2/\(x=s->(out++[s])++vF ltS s true (l.drop (i+1))=put ltS l s)/\(x≠s->((out++[s])++[x])++vF ltS s true (l.drop (i+1))=put ltS l s):=
       ⟨Or.inl rfl,by rw [List.length_append,List.length_cons,List.length_nil];omega,fun he=>by rw [D3 hc,List.append_cons,D0 he] at uJ;exact uJ,fun hne=>by rw [D3 hc,List.append_cons,D4 hne,List.append_cons] at uJ;exact uJ⟩
      clear uJ;rcases hr with rfl|rfl <;> repeat' ((conv=>whnf);first|(refine nv_ (T.str x) (by first|exact hx') ?_)|refine nb_ _ q1 ?_|(exact ⟨(true,27,out++[s]),inv,by (repeat' (first|(exact ug (e1 out s))|exact wJ|refine And.intro ?_ ?_));done⟩)|(refine And.intro (by first|((simp only [List.length_map];omega);done)|fail) ?_)|refine aS ?_|refine nT_ ?_)
    |true=>
     have inv:(r=27\/r=40)/\out.length<=l.length+2/\(x=s->out++vF ltS s true (l.drop (i+1))=put ltS l s)/\(x≠s->(out++[x])++vF ltS s true (l.drop (i+1))=put ltS l s):=
       ⟨hr,by omega,fun he=>by rw [D0 he] at uJ;exact uJ,fun hne=>by rw [D4 hne,List.append_cons] at uJ;exact uJ⟩
     clear uJ;cases hc:ltS x s with
     |true=>
      have q1:(!(Op.bytesLess x.toList s.toList))=false:=by unfold ltS at hc;rw [hc];rfl
      rcases hr with rfl|rfl
      ·repeat' ((conv=>whnf);first|(refine nv_ (T.str x) (by first|exact hx') ?_)|refine nb_ _ q1 ?_|(exact ⟨(true,27,out),inv,by (repeat' (first|exact wJ|refine And.intro ?_ ?_));done⟩)|refine aS ?_|refine nT_ ?_)
      ·repeat' ((conv=>whnf);first|(refine nv_ (T.str x) (by first|exact hx') ?_)|refine nb_ _ q1 ?_|(exact ⟨(true,40,out),inv,by (repeat' (first|exact wJ|refine And.intro ?_ ?_));done⟩)|refine aS ?_|refine nT_ ?_)
     |false=>
      have q1:(!(Op.bytesLess x.toList s.toList))=true:=by unfold ltS at hc;rw [hc];rfl
      rcases hr with rfl|rfl
      ·repeat' ((conv=>whnf);first|(refine nv_ (T.str x) (by first|exact hx') ?_)|refine nb_ _ q1 ?_|(exact ⟨(true,27,out),inv,by (repeat' (first|exact wJ|refine And.intro ?_ ?_));done⟩)|refine aS ?_|refine nT_ ?_)
      ·repeat' ((conv=>whnf);first|(refine nv_ (T.str x) (by first|exact hx') ?_)|refine nb_ _ q1 ?_|(exact ⟨(true,40,out),inv,by (repeat' (first|exact wJ|refine And.intro ?_ ?_));done⟩)|refine aS ?_|refine nT_ ?_)
   clear hr uJ hol;rintro ⟨d,r,out⟩ ⟨hr,hol,i1,i2⟩;dsimp only at hr hol i1 i2;have hmu:l.length - (i+1)<l.length - i:=by omega
   by_cases he:x=s
   ·have q2:(!(x.toList==s.toList))=false:=by rw [uI,uQ.2 he];rfl
    have inv:i+1<=l.length/\(r=27\/r=40)/\out++vF ltS s d (l.drop (i+1))=put ltS l s:=⟨h,hr,i1 he⟩
    clear i1 i2;rcases hr with rfl|rfl
    ·repeat' ((conv=>whnf);first|(refine nv_ (T.str x) (by first|exact hx') ?_)|refine nb_ _ q2 ?_|(exact ⟨(i+1,d,27,out),inv,hmu,by (repeat' (first|exact wJ|refine And.intro ?_ ?_));done⟩)|refine aS ?_|refine nT_ ?_)
    ·repeat' ((conv=>whnf);first|(refine nv_ (T.str x) (by first|exact hx') ?_)|refine nb_ _ q2 ?_|(exact ⟨(i+1,d,40,out),inv,hmu,by (repeat' (first|exact wJ|refine And.intro ?_ ?_));done⟩)|refine aS ?_|refine nT_ ?_)
   ·have q2:(!(x.toList==s.toList))=true:=by rw [uI,wu uQ he];rfl
    have inv:i+1<=l.length/\(40=27\/40=40)/\(out++[x])++vF ltS s d (l.drop (i+1))=put ltS l s:=⟨h,Or.inr rfl,i2 he⟩
    clear i1 i2;rcases hr with rfl|rfl <;> repeat' ((conv=>whnf);first|(refine nv_ (T.str x) (by first|exact hx') ?_)|refine nb_ _ q2 ?_|(exact ⟨(i+1,d,40,out++[x]),inv,hmu,by (repeat' (first|(exact ug (e1 out x))|exact wJ|refine And.intro ?_ ?_));done⟩)|(refine And.intro (by first|((simp only [List.length_map];omega);done)|fail) ?_)|refine aS ?_|refine nT_ ?_)
  ·have hlt: ¬(i:Int)<((l.map T.str).length:Int):=by omega
   rw [List.drop_eq_nil_of_le h] at uJ
   skip
   refine tV (β:=Empty) (fun x=>x.elim) (fun _=>True) ?_ ?_
   ·repeat' ((conv=>whnf);first|refine su hlt ?_|(exact ⟨(d,r,out),⟨hr,uJ⟩,by (repeat' (first|exact wJ|refine And.intro ?_ ?_));done⟩)|refine aS ?_|fail)
   ·exact fun x=>x.elim
 ·rintro ⟨d,r,out⟩ ⟨hr,uJ⟩;dsimp only at hr uJ;have hol:out.length<=l.length+1:=by
   have:=congrArg List.length uJ
   rw [List.length_append] at this;omega
  cases d with
  |true=>
   have uJ:out++[]=put ltS l s:=uJ;rw [List.append_nil] at uJ;rw [<- uJ];rcases hr with rfl|rfl <;> repeat' ((conv=>whnf);first|refine aS ?_|exact trivial)
  |false=>
   have uJ:out++[s]=put ltS l s:=uJ;rw [<- uJ,List.map_append];rcases hr with rfl|rfl <;> repeat' ((conv=>whnf);first|refine aS ?_|exact trivial)
end Go.TY
end
section
end
section
end
section
end
section
end
section
end
section
end
section
end
section
end
section
namespace Go.TY
open Go Go.DL Go.MM
theorem vt{gs:List RG}{s:RS}:s∈ur (gs.map (·.st))↔ ∃g∈gs,g.st=s/\s.kind≠0:=by
 unfold ur;rw [List.mem_filter,List.mem_map];simp only [bne_iff_ne,ne_eq];exact ⟨fun ⟨⟨g,h1,h2⟩,h3⟩=>⟨g,h1,h2,h3⟩,fun ⟨g,h1,h2,h3⟩=>⟨⟨g,h1,h2⟩,h3⟩⟩
theorem Fu{gs:List RG}{x:ByteArray}:x∈wz gs↔ ∃s∈ur (gs.map (·.st)),s.var=x:=by
 unfold wz;rw [DR (Ag (l:=(ur (gs.map (·.st))).map (·.var)) (acc:=[]) List.nodup_nil),yU,List.mem_map]
 simp
theorem Gy{l:List Fd}{ss:List RS}{x:ByteArray}(h: ∃s∈ss,s.var=x): ∃s0∈ss,s0.var=x/\uZ l ss x=some ⟨x,vD s0.kind,uM l s0,((uC ss x).map (·.n)).getD 0,((uC ss x).map (·.m)).getD 0⟩:=by
 obtain ⟨s,hs,hv⟩:=h;unfold uZ;cases hf:ss.find? fun s=>decide (s.var=x) with
 |none=>
  have:=List.find?_eq_none.1 hf s hs
  simp [hv] at this
 |some s0=>exact ⟨s0,List.mem_of_find?_eq_some hf,by simpa using List.find?_some hf,rfl⟩
theorem BO{ss:List RS}{t:RS}{x:ByteArray}:uC (ss++[t]) x=match uC ss x with
  |some s=>some s
  |none=>if (decide (t.var=x)&&t.own)=true then some t else none:=by
 unfold uC;rw [vZ];cases ss.find? fun s=>decide (s.var=x)&&s.own <;> rfl
theorem Hr{l:List Fd}{ss:List RS}{t:RS}{x:ByteArray}(h:t.var≠x):uZ l (ss++[t]) x=uZ l ss x/\uC (ss++[t]) x=uC ss x:=by
 have e:uC (ss++[t]) x=uC ss x:=by
  rw [BO];cases uC ss x <;> simp [h]
 refine ⟨?_,e⟩;unfold uZ;rw [vZ,e];cases ss.find? fun s=>decide (s.var=x) <;> simp [h]
theorem Hc{ss:List RS}{x:ByteArray}(h:ss.find? (fun s=>decide (s.var=x))=none):uC ss x=none:=by
 unfold uC;rw [List.find?_eq_none] at h ⊢;intro s hs hc;rw [Bool.and_eq_true] at hc;exact h s hs hc.1
def nOf(o:Option RV):Int:=(o.map (·.n)).getD 0
def mOf(o:Option RV):Int:=(o.map (·.m)).getD 0
theorem Hs{l:List Fd}{ss:List RS}{t:RS}(hp:PW l (ss++[t])):
  uZ l (ss++[t]) t.var=some ⟨t.var,vD t.kind,uM l t,if t.own&& !(uC ss t.var).isSome then t.n else nOf (uZ l ss t.var),if t.own&& !(uC ss t.var).isSome then t.m else mOf (uZ l ss t.var)⟩/\
  (uC (ss++[t]) t.var).isSome=((uC ss t.var).isSome||t.own):=by
 constructor
 ·unfold uZ nOf mOf;rw [vZ,BO];cases hf:ss.find? fun s=>decide (s.var=t.var) with
  |none=>
   rw [Hc hf];cases t.own <;> simp
  |some s0=>
   have h0:=List.mem_of_find?_eq_some hf;have h1:s0.var=t.var:=by simpa using List.find?_some hf
   have ha:=vu.1 ((Cs.1 hp).2 s0 h0 h1);simp only [Option.map_some,Option.getD_some];rw [ha.2.1,ha.2.2];cases uC ss t.var with
   |some s1=>simp
   |none=>cases t.own <;> simp
 ·rw [BO];cases uC ss t.var with
  |some s1=>rfl
  |none=>cases t.own <;> simp
theorem FO{gs:List RG}{g:RG}:ur ((gs++[g]).map (·.st))=if g.st.kind=0 then ur (gs.map (·.st)) else ur (gs.map (·.st))++[g.st]:=by
 unfold ur;rw [List.map_append,List.filter_append]
 by_cases h:g.st.kind=0
 ·rw [if_pos h];simp [h]
 ·rw [if_neg h];simp [h]
theorem Cp{gs:List RG}{i:Nat}(h:i<gs.length):ur ((gs.take (i+1)).map (·.st))=if gs[i].st.kind=0 then ur ((gs.take i).map (·.st)) else ur ((gs.take i).map (·.st))++[gs[i].st]:=by
 rw [List.take_succ_eq_append_getElem h,FO]
theorem H3{l:List Fd}{gs:List RG}(h:PW l (ur (gs.map (·.st))))(i:Nat):PW l (ur ((gs.take i).map (·.st))):=by
 rw [FU] at h ⊢;intro s hs t ht e;refine h s ?_ t ?_ e
 ·obtain ⟨g,h1,h2,h3⟩:=vt.1 hs;exact vt.2 ⟨g,List.mem_of_mem_take h1,h2,h3⟩
 ·obtain ⟨g,h1,h2,h3⟩:=vt.1 ht;exact vt.2 ⟨g,List.mem_of_mem_take h1,h2,h3⟩
def H9(x:ByteArray):Option RV->List T
 |none=>[.str x,I 0,.nil,I 0,I 0]
 |some v=>uK v
end Go.TY
end
section
namespace Go.TY
open Go Go.DL Go.MM Go.Proofs
theorem Cn(a b:ByteArray):uq a b=uq b a:=by
 cases h:uq b a with
 |true=>rw [uQ.1 h];exact uQ.2 rfl
 |false=>exact wu uQ fun e=>by rw [e,uQ.2 rfl] at h;cases h
def zK(s:RS):List ByteArray:=s.key++(if uq s.field e0 then [] else [s.field])
theorem Gd(l:List Fd)(s:RS):((!uq s.field e0&& !vz l s.field)|| !s.key.all (vz l))= !(zK s).all (vz l):=by
 unfold zK;rw [List.all_append];cases uq s.field e0 <;> cases s.key.all (vz l) <;> simp
theorem CT{ks:List ByteArray}{i:Nat}(h:i<ks.length):zT ks i=false↔ ∀j (_:j<i),uq (ks.getD j e0) ks[i]=false:=by
 unfold zT;rw [List.any_eq_false,show ks.getD i e0=ks[i] from by rw [List.getD_eq_getElem?_getD,ggZ h];rfl];constructor
 ·intro hh j hj;have hjl:j<ks.length:=by omega
  have hm:ks[j]∈ks.take i:=by
   rw [List.mem_iff_getElem];exact ⟨j,by rw [List.length_take];omega,by rw [List.getElem_take]⟩
  have:=hh ks[j] hm
  rw [show ks.getD j e0=ks[j] from by rw [List.getD_eq_getElem?_getD,ggZ hjl];rfl,Cn];simpa using this
 ·intro hh x hx;obtain ⟨j,hj,rfl⟩:=List.getElem_of_mem hx;rw [List.length_take] at hj;rw [List.getElem_take]
  have:=hh j (by omega)
  rw [show ks.getD j e0=ks[j] from by rw [List.getD_eq_getElem?_getD,ggZ (show j<ks.length by omega)];rfl,Cn] at this;rw [this];simp
theorem JL(l:List Fd)(hl:LOk l)(s:RS)(h:SmS (2^39) s):DCalls Tryz.prog 133 [fds l,.agg (uw s)] (I (wC l s)):=by
 refine dl2 mixed [.tmp 4] [.int _ _] Tryz.func133 MB ?_;have h1:=BC s (h.mono (by omega));have h4f:=fun h hk=>@GL s h hk
 have hkl:=h.len;unfold wC
 by_cases c0:vO s=0
 case neg=>
  rw [if_pos c0];generalize vO s=e at *
  obtain ⟨k,v,ks,f,n,m⟩:=s
  repeat' ((conv=>whnf);first|refine uc _ (h1) ?_|refine sG c0 ?_|refine rix ?_|refine aS ?_|exact trivial)
 rw [c0] at h1;have h4f:=h4f c0;rw [if_neg (by simpa using c0)];clear c0;have Jo:=Gd l s;rw [Jo];have yj:zK s=s.key++(if uq s.field e0 then [] else [s.field]):=rfl;have hnl:(zK s).length<=s.key.length+1:=by
  rw [yj,List.length_append];split <;> simp
 have Ac:uq s.field e0=false->s.field∈zK s:=fun hf=>by
  rw [yj,hf];simp
 generalize zK s=ns at *
 obtain ⟨k,v,ks,f,n,m⟩:=s;dsimp only at hkl h4f yj hnl Ac ⊢;have hkk:((ks.map T.str).length:Int)=(ks.length:Int):=by rw [List.length_map]
 have hnn:((ns.map T.str).length:Int)=(ns.length:Int):=by rw [List.length_map]
 by_cases k0:k=0
 ·rw [if_pos k0]
  repeat' ((conv=>whnf);first|exact trivial|refine uc _ (h1) ?_|refine sE k0 ?_|refine aN0 ?_|refine rix ?_|refine aS ?_|refine nT_ ?_)
 rw [if_neg k0];have hE:(!(f.toList==e0.toList))= !uq f e0:=by rw [uI]
 repeat' ((conv=>whnf);first|refine uc _ (h1) ?_|refine sD k0 ?_|refine aN0 ?_|refine aS ?_|refine nT_ ?_)
 refine tV (β:=Unit) (fun _=>{sl:=[(0,.t (fds l)),(3,.ptr 3 0),(6,.t (.slice 1 (ns.map .str)))],bx:=[(3,.d 6 (uw ⟨k,v,ks,f,n,m⟩))]}) (fun _=>True) ?_ ?_
 ·clear Ac h4f;cases hs:uq f e0 with
  |true=>
   rw [hs] at hE yj;have hn2:ks.map T.str=ns.map T.str:=by rw [yj];simp
   repeat' ((conv=>whnf);first|refine nb_ _ hE ?_|(exact ⟨(),trivial,by (repeat' (first|(exact AS hn2.symm)|exact wJ|refine And.intro ?_ ?_));done⟩)|refine aS ?_|refine nT_ ?_)
  |false=>
   rw [hs] at hE yj;have hn2:ks.map T.str++[T.str f]=ns.map T.str:=by rw [yj];simp
   repeat' ((conv=>whnf);first|refine nb_ _ hE ?_|(exact ⟨(),trivial,by (repeat' (first|(exact AS hn2.symm)|exact wJ|refine And.intro ?_ ?_));done⟩)|refine aS ?_|refine nT_ ?_)
 rintro _ _
 skip
 refine tx 0 (α:=Nat) (β:=Unit) (fun i=>{sl:=[(0,.t (fds l)),(3,.ptr 3 0),(6,.t (.slice 1 (ns.map .str))),(7,.t (I i))],bx:=[(3,.d 6 (uw ⟨k,v,ks,f,n,m⟩))]})
  (fun i=>i<=ns.length/\ ∀j (h:j<ns.length),j<i->vz l ns[j]=true) (fun i=>ns.length - i)
  (fun _=>{sl:=[(0,.t (fds l)),(3,.ptr 3 0)],bx:=[(3,.d 6 (uw ⟨k,v,ks,f,n,m⟩))]}) (fun _=>ns.all (vz l)=true) 0 (by simp) ?_ ?_ ?_
 ·repeat' (first|exact wJ|refine And.intro ?_ ?_)
 ·rintro i ⟨hi,hp⟩;rcases Nat.lt_or_ge i ns.length with h|h
  ·have hlt:(i:Int)<((ns.map T.str).length:Int):=by omega
   have hn:=DZ l hl ns[i];have hx:(ns.map T.str)[i]?.getD .nil= .str ns[i]:=by simp [h]
   cases hb:vz l ns[i] with
   |true=>
    rw [hb] at hn
    repeat' ((conv=>whnf);first|refine sC hlt ?_|(refine nv_ (.str ns[i]) (by first|exact hx) ?_)|refine uc _ (hn) ?_|refine aS ?_|refine nT_ ?_)
    refine ⟨i+1,⟨h,fun j hj hlt=>?_⟩,by omega,?_⟩
    ·rcases Nat.lt_or_ge j i with h4|h4
     ·exact hp j hj h4
     ·obtain rfl:j=i:=by omega
      exact hb
    ·repeat' (first|exact wJ|refine And.intro ?_ ?_)
   |false=>
    rw [hb] at hn;have e:ns.all (vz l)=false:=by
     rw [List.all_eq_false];exact ⟨ns[i],List.getElem_mem h,by rw [hb];simp⟩
    rw [e];clear e Ac
    repeat' ((conv=>whnf);first|exact trivial|refine sC hlt ?_|(refine nv_ (.str ns[i]) (by first|exact hx) ?_)|refine uc _ (hn) ?_|refine rix ?_|refine aS ?_|refine nT_ ?_)
  ·have hlt: ¬(i:Int)<((ns.map T.str).length:Int):=by omega
   have fQ:ns.all (vz l)=true:=by
    rw [List.all_eq_true];intro x hx;obtain ⟨j,hj,rfl⟩:=List.getElem_of_mem hx;exact hp j hj (by omega)
   repeat' ((conv=>whnf);first|refine su hlt ?_|(exact ⟨(),fQ,by (repeat' (first|exact wJ|refine And.intro ?_ ?_));done⟩)|refine aS ?_|fail)
 rintro _ fQ;rw [fQ];simp only [Bool.not_true,Bool.false_eq_true,if_false];have hfd:k=4->vz l f=true:=fun k4=>List.all_eq_true.1 fQ f (Ac (h4f k4))
 clear fQ Ac h4f yj hE Jo
 skip
 refine tx 2 (α:=Nat) (β:=Unit) (fun i=>{sl:=[(0,.t (fds l)),(3,.ptr 3 0),(10,.t (I i))],bx:=[(3,.d 6 (uw ⟨k,v,ks,f,n,m⟩))]})
  (fun i=>i<=ks.length/\ ∀j (h:j<ks.length),j<i->zT ks j=false) (fun i=>ks.length - i)
  (fun _=>{sl:=[(0,.t (fds l)),(3,.ptr 3 0)],bx:=[(3,.d 6 (uw ⟨k,v,ks,f,n,m⟩))]}) (fun _=>zU ks=false) 0 (by simp) ?_ ?_ ?_
 ·repeat' (first|exact wJ|refine And.intro ?_ ?_)
 ·rintro i ⟨hi,hp⟩;rcases Nat.lt_or_ge i ks.length with h|h
  ·have hlt:(i:Int)<((ks.map T.str).length:Int):=by omega
   have hx:(ks.map T.str)[i]?.getD .nil= .str ks[i]:=by simp [h]
   repeat' ((conv=>whnf);first|refine sC hlt ?_|refine aS ?_|refine nT_ ?_)
   refine tx 4 (α:=Nat) (β:=Unit) (fun q=>{sl:=[(0,.t (fds l)),(3,.ptr 3 0),(10,.t (I i)),(11,.t (I q))],bx:=[(3,.d 6 (uw ⟨k,v,ks,f,n,m⟩))]})
    (fun q=>q<=i/\ ∀j (_:j<i),j<q->uq (ks.getD j e0) ks[i]=false) (fun q=>i - q)
    (fun _=>{sl:=[(0,.t (fds l)),(3,.ptr 3 0),(10,.t (I i))],bx:=[(3,.d 6 (uw ⟨k,v,ks,f,n,m⟩))]}) (fun _=>zT ks i=false) 0 (by simp) ?_ ?_ ?_
   ·repeat' (first|exact wJ|refine And.intro ?_ ?_)
   ·rintro q ⟨hq,hp2⟩;rcases Nat.lt_or_ge q i with h2|h2
    ·have vV:(q:Int)<(i:Int):=by omega
     have hql:q<ks.length:=by omega
     have hy:(ks.map T.str)[q]?.getD .nil= .str ks[q]:=by simp [hql]
     have hg:ks.getD q e0=ks[q]:=by rw [List.getD_eq_getElem?_getD,ggZ hql];rfl
     have hE2:=uI ks[q] ks[i];have Jw:(q:Int)<((ks.map T.str).length:Int):=by omega
     cases hb:uq ks[q] ks[i] with
     |true=>
      rw [hb] at hE2;have e:zU ks=true:=by
       unfold zU;refine List.any_eq_true.2 ⟨i,List.mem_range.2 h,?_⟩;cases hd:zT ks i with
       |true=>rfl
       |false=>
        have:=(CT h).1 hd q h2
        rw [hg,hb] at this;cases this
      rw [e];clear e hp hp2 hfd
      repeat' ((conv=>whnf);first|exact trivial|refine sC vV ?_|(refine nv_ (.str ks[q]) (by first|exact hy) ?_)|(refine nv_ (.str ks[i]) (by first|exact hx) ?_)|refine nb_ _ hE2 ?_|refine rix ?_|refine aS ?_|refine nT_ ?_)
     |false=>
      rw [hb] at hE2
      repeat' ((conv=>whnf);first|refine sC vV ?_|(refine nv_ (.str ks[q]) (by first|exact hy) ?_)|(refine nv_ (.str ks[i]) (by first|exact hx) ?_)|refine nb_ _ hE2 ?_|refine aS ?_|refine nT_ ?_)
      refine ⟨q+1,⟨h2,fun j hj hlt=>?_⟩,by omega,?_⟩
      ·rcases Nat.lt_or_ge j q with h4|h4
       ·exact hp2 j hj h4
       ·obtain rfl:j=q:=by omega
        rw [hg];exact hb
      ·repeat' (first|exact wJ|refine And.intro ?_ ?_)
    ·have vV: ¬(q:Int)<(i:Int):=by omega
     have hd:=(CT h).2 fun j hj=>hp2 j hj (by omega)
     repeat' ((conv=>whnf);first|refine su vV ?_|(exact ⟨(),hd,by (repeat' (first|exact wJ|refine And.intro ?_ ?_));done⟩)|refine aS ?_|fail)
   ·rintro _ hd
    skip
    refine ⟨i+1,⟨h,fun j hj hlt=>?_⟩,by omega,?_⟩
    ·rcases Nat.lt_or_ge j i with h4|h4
     ·exact hp j hj h4
     ·obtain rfl:j=i:=by omega
      exact hd
    ·repeat' (first|exact wJ|refine And.intro ?_ ?_)
  ·have hlt: ¬(i:Int)<((ks.map T.str).length:Int):=by omega
   have hd:zU ks=false:=by
    unfold zU;rw [List.any_eq_false];intro j hj;rw [hp j (List.mem_range.1 hj) (by have:=List.mem_range.1 hj;omega)];simp
   repeat' ((conv=>whnf);first|refine su hlt ?_|(exact ⟨(),hd,by (repeat' (first|exact wJ|refine And.intro ?_ ?_));done⟩)|refine aS ?_|refine nT_ ?_)
 ·rintro _ hd;rw [hd];simp only [Bool.false_eq_true,if_false];have hn:=DZ l hl f;have hy:Ft l k f m=match findF l f with
   |none=>0
   |some F=>if k=4/\m>((2^F.w - 1:Nat):Int) then 1 else 0:=rfl
  generalize Ft l k f m=y at *
  by_cases k4:k=4
  ·have hf:=hfd k4;unfold vz at hf;obtain ⟨F,hF⟩:=Option.isSome_iff_exists.1 hf;rw [hF] at hy;dsimp only at hy;have h97:=t66 F (hl.find hF);have hfe:=B6 hF;rw [hfe] at hn;generalize (2^F.w - 1:Nat)=M at *
   have h97:DCalls Tryz.prog 111 [.agg [.str F.name,I F.a,I F.w]] (I (M:Int)):=h97
   skip
   refine tV (β:=Unit) (fun _=>{sl:=[(3,.ptr 3 0),(12,.ptr 12 0)],bx:=[(3,.d 6 (uw ⟨k,v,ks,f,n,m⟩)),(12,.d 3 [.str F.name,I F.a,I F.w])]}) (fun _=>True) ?_ ?_
   ·repeat' ((conv=>whnf);first|refine uc _ (hn) ?_|(exact ⟨(),trivial,by (repeat' (first|exact wJ|refine And.intro ?_ ?_));done⟩)|refine aS ?_|refine nT_ ?_)
   rintro _ _
   by_cases hm:m>(M:Int)
   ·rw [if_pos ⟨k4,hm⟩] at hy;subst hy
    repeat' ((conv=>whnf);first|exact trivial|refine sE k4 ?_|refine uc _ (h97) ?_|refine sC hm ?_|refine rix ?_|refine aS ?_|refine nT_ ?_)
   ·rw [if_neg (fun h=>hm h.2)] at hy;subst hy
    repeat' ((conv=>whnf);first|exact trivial|refine sE k4 ?_|refine uc _ (h97) ?_|refine su hm ?_|refine rix ?_|refine aS ?_|refine nT_ ?_)
  ·have hy:y=0:=by
    rw [hy];cases findF l f with
    |none=>rfl
    |some F=>exact if_neg (fun h=>k4 h.1)
   subst hy;generalize fld l f=F at *
   skip
   refine tV (β:=Unit) (fun _=>{sl:=[(3,.ptr 3 0),(12,.ptr 12 0)],bx:=[(3,.d 6 (uw ⟨k,v,ks,f,n,m⟩)),(12,.d 3 [.str F.name,I F.a,I F.w])]}) (fun _=>True) ?_ ?_
   ·repeat' ((conv=>whnf);first|refine uc _ (hn) ?_|(exact ⟨(),trivial,by (repeat' (first|exact wJ|refine And.intro ?_ ?_));done⟩)|refine aS ?_|refine nT_ ?_)
   rintro _ _
   repeat' ((conv=>whnf);first|exact trivial|refine sD k4 ?_|refine rix ?_|refine aS ?_|refine nT_ ?_)
def xJ(l:List Fd)(s t:RS):Bool:= !((s.kind !=0)&&((t.kind !=0)&&(uq s.var t.var&& !wb l s t)))
theorem AQ{l:List Fd}{s t:RS}:xJ l s t=true↔(s.kind≠0->t.kind≠0->s.var=t.var->wb l s t=true):=by
 unfold xJ;rw [Bool.not_eq_true',Bool.and_eq_false_iff,Bool.and_eq_false_iff,Bool.and_eq_false_iff];constructor
 ·intro h h1 h2 h3;rcases h with h|h|h|h
  ·simp [h1] at h
  ·simp [h2] at h
  ·rw [uQ.2 h3] at h;cases h
  ·simpa using h
 ·intro h
  by_cases h1:s.kind=0
  ·left;simp [h1]
  by_cases h2:t.kind=0
  ·right;left;simp [h2]
  cases h3:uq s.var t.var with
  |false=>right;right;left;rfl
  |true=>right;right;right;rw [h h1 h2 (uQ.1 h3)];rfl
theorem Em{l:List Fd}{gs:List RG}:PW l (ur (gs.map (·.st)))↔ ∀i (hi:i<gs.length) j (_:j<i),xJ l (gs[j]'(by omega)).st gs[i].st=true:=by
 constructor
 ·intro h i hi j hj;rw [AQ];intro h1 h2 h3;exact FU.1 h _ (vt.2 ⟨gs[j]'(by omega),List.getElem_mem _,rfl,h1⟩) _ (vt.2 ⟨gs[i],List.getElem_mem hi,rfl,h2⟩) h3
 ·intro h;refine PW.of fun s hs t ht e=>?_
  obtain ⟨g,g1,g2,g3⟩:=vt.1 hs;obtain ⟨g',k1,k2,k3⟩:=vt.1 ht;obtain ⟨a,ha,rfl⟩:=List.getElem_of_mem g1;obtain ⟨b,hb,rfl⟩:=List.getElem_of_mem k1;subst g2;subst k2;rcases Nat.lt_trichotomy a b with h1|h1|h1
  ·exact AQ.1 (h b hb a h1) g3 k3 e
  ·subst h1;exact Bs _
  ·exact Bt (AQ.1 (h a ha b h1) k3 g3 e.symm)
theorem Gl(l:List Fd)(hl:LOk l)(gs:List RG)(hgl:gs.length<2^40)(hg: ∀g∈gs,SmG (2^39) g):DCalls Tryz.prog 94 [fds l,.slice 15 (gs.map uE)] (I (zf l gs)):=by
 refine dl2 mixed [.tmp 4] [.int _ _] Tryz.func94 l94 ?_;have hlen:((gs.map uE).length:Int)=(gs.length:Int):=by rw [List.length_map]
 have hc:=CE gs (by omega) fun g hgm=>⟨(hg g hgm).st.mono (by omega),by have:=(hg g hgm).wt;omega,fun _=>(hg g hgm).names (by omega)⟩
 unfold zf
 by_cases c0:yJ gs=0
 case neg=>
  rw [if_pos c0];generalize yJ gs=x at *
  repeat' ((conv=>whnf);first|refine uc _ (hc) ?_|refine sG c0 ?_|refine rix ?_|refine aS ?_|exact trivial)
 rw [if_neg (by simpa using c0)];rw [c0] at hc
 repeat' ((conv=>whnf);first|refine uc _ (hc) ?_|refine aN0 ?_|refine aS ?_|fail)
 refine tx 0 (α:=Nat) (β:=Unit) (fun i=>{sl:=[(0,.t (fds l)),(1,.t (.slice 15 (gs.map uE))),(6,.t (I i))],bx:=[]})
  (fun i=>i<=gs.length/\ ∀j (h:j<gs.length),j<i->xD l gs[j].pol=0/\wC l gs[j].st=0) (fun i=>gs.length - i)
  (fun _=>{sl:=[(0,.t (fds l)),(1,.t (.slice 15 (gs.map uE)))],bx:=[]}) (fun _=>fz2 (fun g=>xD l g.pol) (fun g=>wC l g.st) gs=0) 0 (by simp) ?_ ?_ ?_
 ·repeat' (first|exact wJ|refine And.intro ?_ ?_)
 ·rintro i ⟨hi,hp⟩;rcases Nat.lt_or_ge i gs.length with h|h
  ·have hlt:(i:Int)<((gs.map uE).length:Int):=by omega
   have hm:=hg gs[i] (List.getElem_mem h);have h1:=t40 l hl gs[i].pol (by have:=hm.wt;omega) (hm.names (by omega));rw [<- IF] at h1;have h2:=JL l hl gs[i].st (hm.st.mono (by omega));have hx:(gs.map uE)[i]?.getD .nil= .agg (uu gs[i]):=by simp [h];rfl
   have hc1:=zL gs[i];have hc2:=xQ gs[i]
   by_cases c1:xD l gs[i].pol=0
   ·rw [c1] at h1
    by_cases c2:wC l gs[i].st=0
    ·rw [c2] at h2
     repeat' ((conv=>whnf);first|refine sC hlt ?_|(refine nv_ (.agg (uu gs[i])) (by first|exact hx) ?_)|(refine nv_ (.agg (ux gs[i].pol)) (by first|exact congrArg T.agg hc1) ?_)|(refine nv_ (.agg (uw gs[i].st)) (by first|exact congrArg T.agg hc2) ?_)|refine uc _ (h1) ?_|refine uc _ (h2) ?_|refine aN0 ?_|(refine And.intro (by first|exact xq _|exact xU _|exact wh _) ?_)|refine aS ?_|fail)
     refine ⟨i+1,⟨h,fun j hj hlt=>?_⟩,by omega,?_⟩
     ·rcases Nat.lt_or_ge j i with h4|h4
      ·exact hp j hj h4
      ·obtain rfl:j=i:=by omega
       exact ⟨c1,c2⟩
     ·repeat' (first|exact wJ|refine And.intro ?_ ?_)
    ·have e:=Fe (f:=fun g:RG=>xD l g.pol) (g:=fun g=>wC l g.st) h hp c1 c2;have e2:fz2 (fun g:RG=>xD l g.pol) (fun g=>wC l g.st) gs≠0:=by rw [e];exact c2
     rw [if_pos e2,e];clear e e2;dsimp only;generalize wC l gs[i].st=x at *
     repeat' ((conv=>whnf);first|refine sC hlt ?_|(refine nv_ (.agg (uu gs[i])) (by first|exact hx) ?_)|(refine nv_ (.agg (ux gs[i].pol)) (by first|exact congrArg T.agg hc1) ?_)|(refine nv_ (.agg (uw gs[i].st)) (by first|exact congrArg T.agg hc2) ?_)|refine uc _ (h1) ?_|refine uc _ (h2) ?_|refine sG c2 ?_|refine aN0 ?_|refine rix ?_|(refine And.intro (by first|exact xq _|exact xU _|exact wh _) ?_)|refine aS ?_|exact trivial)
   ·have e:=Fc (f:=fun g:RG=>xD l g.pol) (g:=fun g=>wC l g.st) h hp c1;have e2:fz2 (fun g:RG=>xD l g.pol) (fun g=>wC l g.st) gs≠0:=by rw [e];exact c1
    rw [if_pos e2,e];clear e e2;dsimp only;generalize xD l gs[i].pol=x at *
    repeat' ((conv=>whnf);first|refine sC hlt ?_|(refine nv_ (.agg (uu gs[i])) (by first|exact hx) ?_)|(refine nv_ (.agg (ux gs[i].pol)) (by first|exact congrArg T.agg hc1) ?_)|refine uc _ (h1) ?_|refine sG c1 ?_|refine rix ?_|(refine And.intro (by first|exact xq _|exact xU _|exact wh _) ?_)|refine aS ?_|exact trivial)
  ·have hlt: ¬(i:Int)<((gs.map uE).length:Int):=by omega
   have e:=Fb (f:=fun g:RG=>xD l g.pol) (g:=fun g=>wC l g.st) (xs:=gs) fun j hj=>hp j hj (by omega)
   repeat' ((conv=>whnf);first|refine su hlt ?_|(exact ⟨(),e,by (repeat' (first|exact wJ|refine And.intro ?_ ?_));done⟩)|refine aS ?_|fail)
 ·rintro _ hz;rw [if_neg (by simpa using hz)];clear hz hc c0;have bad: ¬PW l (ur (gs.map (·.st)))->(if (zk l gs).isNone=true then (11:Int) else 0)=11:=fun h=>if_pos (A7.2 h)
  have fine:PW l (ur (gs.map (·.st)))->(if (zk l gs).isNone=true then (11:Int) else 0)=0:=fun h=>if_neg fun e=>A7.1 e h
  generalize (if (zk l gs).isNone=true then (11:Int) else 0)=res at *
  skip
  refine tT (α:=Nat) (fun i=>{sl:=[(0,.t (fds l)),(1,.t (.slice 15 (gs.map uE))),(9,.t (I i))],bx:=[]})
   (fun i=>i<=gs.length/\ ∀a (ha:a<gs.length) b (_:b<a),a<i->xJ l (gs[b]'(by omega)).st gs[a].st=true) (fun i=>gs.length - i) 0 (by simp) ?_ ?_
  ·repeat' (first|exact wJ|refine And.intro ?_ ?_)
  rintro i ⟨hi,hp⟩;rcases Nat.lt_or_ge i gs.length with h|h
  ·have hlt:(i:Int)<((gs.map uE).length:Int):=by omega
   have hx:(gs.map uE)[i]?.getD .nil= .agg (uu gs[i]):=by simp [h];rfl
   have hc2:=xQ gs[i];have hm:=hg gs[i] (List.getElem_mem h)
   repeat' ((conv=>whnf);first|refine sC hlt ?_|refine aS ?_|fail)
   refine tx 4 (α:=Nat) (β:=Unit) (fun q=>{sl:=[(0,.t (fds l)),(1,.t (.slice 15 (gs.map uE))),(9,.t (I i)),(10,.t (I q))],bx:=[]})
    (fun q=>q<=i/\ ∀b (_:b<i),b<q->xJ l (gs[b]'(by omega)).st gs[i].st=true) (fun q=>i - q)
    (fun _=>{sl:=[(0,.t (fds l)),(1,.t (.slice 15 (gs.map uE))),(9,.t (I i))],bx:=[]}) (fun _=> ∀b (_:b<i),xJ l (gs[b]'(by omega)).st gs[i].st=true) 0 (by simp) ?_ ?_ ?_
   ·repeat' (first|exact wJ|refine And.intro ?_ ?_)
   ·rintro q ⟨hq,hp2⟩;rcases Nat.lt_or_ge q i with h2|h2
    ·have vV:(q:Int)<(i:Int):=by omega
     have hql:q<gs.length:=by omega
     have Jw:(q:Int)<((gs.map uE).length:Int):=by omega
     have hy:(gs.map uE)[q]?.getD .nil= .agg (uu gs[q]):=by simp [hql];rfl
     have hd2:=xQ gs[q];have hm2:=hg gs[q] (List.getElem_mem hql);have ha:=IM l hl gs[q].st gs[i].st (by have:=hm2.st.len;omega) (by have:=hm.st.len;omega);have nextI:xJ l gs[q].st gs[i].st=true->q+1<=i/\ ∀b (_:b<i),b<q+1->xJ l (gs[b]'(by omega)).st gs[i].st=true:=fun hgd=>⟨h2,fun b hb hlt=>by
      rcases Nat.lt_or_ge b q with h4|h4
      ·exact hp2 b hb h4
      ·obtain rfl:b=q:=by omega
       exact hgd⟩
     have badI:xJ l gs[q].st gs[i].st=false->res=11:=fun hgd=>bad fun hpw=>by
      have:=Em.1 hpw i h q h2
      rw [hgd] at this;cases this
     have hmu:i - (q+1)<i - q:=by omega
     clear bad fine hp hp2;unfold xJ at nextI badI;generalize wb l gs[q].st gs[i].st=ag at *
     generalize gs[q]=gq at *
     generalize gs[i]=gi at *
     obtain ⟨qp,qs⟩:=gq;obtain ⟨ip,is⟩:=gi;obtain ⟨k,v,ks,f,n,m⟩:=qs;obtain ⟨k',v',ks',f',n',m'⟩:=is;dsimp only at hd2 hc2 ha nextI badI;have hE:=uI v v'
     repeat' ((conv=>whnf);first|refine sC vV ?_|refine aS ?_|fail)
     refine tV (β:=Unit) (fun _=>{sl:=[(0,.t (fds l)),(1,.t (.slice 15 (gs.map uE))),(9,.t (I i)),(10,.t (I q)),(11,.ptr 11 0)],bx:=[(11,.d 6 (uw ⟨k,v,ks,f,n,m⟩))]}) (fun _=>True) ?_ ?_
     ·repeat' ((conv=>whnf);first|(refine nv_ (.agg (uu ⟨qp,⟨k,v,ks,f,n,m⟩⟩)) (by first|exact hy) ?_)|(refine nv_ (.agg (uw ⟨k,v,ks,f,n,m⟩)) (by first|exact congrArg T.agg hd2) ?_)|(exact ⟨(),trivial,by (repeat' (first|exact wJ|refine And.intro ?_ ?_));done⟩)|(refine And.intro (by first|exact wh _) ?_)|refine aS ?_|fail)
     rintro _ _
     skip
     refine tV (β:=Unit) (fun _=>{sl:=[(0,.t (fds l)),(1,.t (.slice 15 (gs.map uE))),(9,.t (I i)),(10,.t (I q)),(11,.ptr 11 0),(12,.ptr 12 0)],bx:=[(11,.d 6 (uw ⟨k,v,ks,f,n,m⟩)),(12,.d 6 (uw ⟨k',v',ks',f',n',m'⟩))]}) (fun _=>True) ?_ ?_
     ·repeat' ((conv=>whnf);first|(refine nv_ (.agg (uu ⟨ip,⟨k',v',ks',f',n',m'⟩⟩)) (by first|exact hx) ?_)|(refine nv_ (.agg (uw ⟨k',v',ks',f',n',m'⟩)) (by first|exact congrArg T.agg hc2) ?_)|(exact ⟨(),trivial,by (repeat' (first|exact wJ|refine And.intro ?_ ?_));done⟩)|(refine And.intro (by first|exact wh _) ?_)|refine aS ?_|fail)
     rintro _ _;clear hx hy hc2 hd2 hm hm2 hlt vV Jw
     by_cases c1:k=0
     ·have inv:=nextI (by simp [c1])
      repeat' ((conv=>whnf);first|refine sF c1 ?_|(exact ⟨q+1,inv,hmu,by (repeat' (first|exact wJ|refine And.intro ?_ ?_));done⟩)|refine aS ?_|refine nT_ ?_)
     by_cases c2:k'=0
     ·have inv:=nextI (by simp [c2])
      repeat' ((conv=>whnf);first|refine sG c1 ?_|refine sF c2 ?_|(exact ⟨q+1,inv,hmu,by (repeat' (first|exact wJ|refine And.intro ?_ ?_));done⟩)|refine aS ?_|refine nT_ ?_)
     cases c3:uq v v' with
     |false=>
      rw [c3] at hE;have inv:=nextI (by simp [c3])
      repeat' ((conv=>whnf);first|refine sG c1 ?_|refine sG c2 ?_|refine nb_ _ hE ?_|(exact ⟨q+1,inv,hmu,by (repeat' (first|exact wJ|refine And.intro ?_ ?_));done⟩)|refine aS ?_|refine nT_ ?_)
     |true=>
      rw [c3] at hE;cases ag with
      |true=>
       have inv:=nextI (by simp)
       repeat' ((conv=>whnf);first|refine sG c1 ?_|refine sG c2 ?_|refine nb_ _ hE ?_|refine uc _ (ha) ?_|(exact ⟨q+1,inv,hmu,by (repeat' (first|exact wJ|refine And.intro ?_ ?_));done⟩)|refine aS ?_|refine nT_ ?_)
      |false=>
       have qm:=badI (by simp [c1,c2,c3]);clear nextI badI;rw [qm]
       repeat' ((conv=>whnf);first|exact trivial|refine sG c1 ?_|refine sG c2 ?_|refine nb_ _ hE ?_|refine uc _ (ha) ?_|refine rix ?_|refine aS ?_|refine nT_ ?_)
    ·have vV: ¬(q:Int)<(i:Int):=by omega
     have hgd: ∀b (_:b<i),xJ l (gs[b]'(by omega)).st gs[i].st=true:=fun b hb=>hp2 b hb (by omega)
     repeat' ((conv=>whnf);first|refine su vV ?_|(exact ⟨(),hgd,by (repeat' (first|exact wJ|refine And.intro ?_ ?_));done⟩)|refine aS ?_|fail)
   ·rintro _ hgd
    skip
    refine ⟨i+1,⟨h,fun a ha b hb hlt=>?_⟩,by omega,?_⟩
    ·rcases Nat.lt_or_ge a i with h4|h4
     ·exact hp a ha b hb h4
     ·obtain rfl:a=i:=by omega
      exact hgd b hb
    ·repeat' (first|exact wJ|refine And.intro ?_ ?_)
  ·have hlt: ¬(i:Int)<((gs.map uE).length:Int):=by omega
   rw [fine (Em.2 fun a ha b hb=>hp a ha b hb (by omega))];clear hp bad fine
   repeat' ((conv=>whnf);first|refine su hlt ?_|refine rix ?_|refine aS ?_|exact trivial)
def nmQ(gs:List RG):List ByteArray:=xf ltS ((ur (gs.map (·.st))).map (·.var))
theorem CX(gs:List RG):nmQ gs=wz gs:=by
 unfold nmQ wz FN;exact Gi zt fun x=>by rw [yU];simp
theorem G9{gs:List RG}{i:Nat}(h:i<gs.length):nmQ (gs.take (i+1))=if gs[i].st.kind=0 then nmQ (gs.take i) else put ltS (nmQ (gs.take i)) gs[i].st.var:=by
 unfold nmQ;rw [Cp h];split
 ·rfl
 ·rw [List.map_append,C8];rfl
theorem EF(gs:List RG):(nmQ gs).length<=gs.length:=by
 unfold nmQ;refine Nat.le_trans Ch ?_;rw [List.length_map];unfold ur;exact Nat.le_trans (List.length_filter_le _ _) (by rw [List.length_map];omega)
theorem Iy(g:RG):(uu g)[9]?.getD .nil=I g.st.kind:=by
 unfold uu;rw [List.getElem?_append_right (by rw [uG];omega),uG];rfl
theorem GF(g:RG):(uu g)[10]?.getD .nil= .str g.st.var:=by
 unfold uu;rw [List.getElem?_append_right (by rw [uG];omega),uG];rfl
theorem JH(g:RG):9<(uu g).length:=by rw [wN];exact nlZ rfl
theorem Ko(g:RG):10<(uu g).length:=by rw [wN];exact nlZ rfl
def vc(x:ByteArray)(c1 c2:T)(n m:Int):List T:=[.str x,c1,c2,I n,I m]
structure xi (l:List Fd) (x:ByteArray) (ss:List RS) (c1 c2:T) (n m:Int) (fd:Bool):Prop where
 cells:vc x c1 c2 n m=H9 x (uZ l ss x)
 n:n=nOf (uZ l ss x)
 m:m=mOf (uZ l ss x)
 fd:fd=(uC ss x).isSome
theorem xi.start(l:List Fd)(x:ByteArray):xi l x [] (I 0) .nil 0 0 false:=⟨rfl,rfl,rfl,rfl⟩
theorem xi.skip{l:List Fd}{x:ByteArray}{ss:List RS}{c1 c2:T}{n m:Int}{fd:Bool}(h:xi l x ss c1 c2 n m fd){t:RS}(ht:t.var≠x):xi l x (ss++[t]) c1 c2 n m fd:=by
 have:=Hr (l:=l) (ss:=ss) ht
 exact ⟨by rw [this.1];exact h.cells,by rw [this.1];exact h.n,by rw [this.1];exact h.m,by rw [this.2];exact h.fd⟩
theorem xi.take{l:List Fd}{ss:List RS}{t:RS}{c1 c2:T}{n m:Int}{fd:Bool}(h:xi l t.var ss c1 c2 n m fd)(hp:PW l (ss++[t])):
  xi l t.var (ss++[t]) (I (vD t.kind)) (.slice 1 ((uM l t).map I)) (if (t.own&& !fd)=true then t.n else n) (if (t.own&& !fd)=true then t.m else m) (fd||t.own):=by
 obtain ⟨h1,h2⟩:=Hs hp;rw [<- h.fd, <-h.n, <-h.m] at h1;rw [<- h.fd] at h2;exact ⟨by rw [h1];rfl,by rw [h1];rfl,by rw [h1];rfl,h2.symm⟩
theorem BD(l:List Fd)(hl:LOk l)(gs:List RG)(hgl:gs.length<2^39)(hg: ∀g∈gs,g.st.key.length<2^40)(hp:PW l (ur (gs.map (·.st)))):
  DCalls Tryz.prog 10 [fds l,.slice 15 (gs.map uE)] (.slice 5 ((wD l gs).map wX)):=by
 refine dl2 mixed [.tmp 4] [.slice 5 ((wD l gs).map wX)] Tryz.func10 l10 ?_;have hlen:((gs.map uE).length:Int)=(gs.length:Int):=by rw [List.length_map]
 skip
 refine tx 0 (α:=Nat) (β:=Unit) (fun i=>{sl:=[(0,.t (fds l)),(1,.t (.slice 15 (gs.map uE))),(5,.t (.slice 1 ((nmQ (gs.take i)).map T.str))),(6,.t (I i))],bx:=[]})
  (fun i=>i<=gs.length) (fun i=>gs.length - i)
  (fun _=>{sl:=[(0,.t (fds l)),(1,.t (.slice 15 (gs.map uE))),(5,.t (.slice 1 ((wz gs).map T.str)))],bx:=[]}) (fun _=>True) 0 (by simp) ?_ ?_ ?_
 ·repeat' (first|(exact LeV.empty _)|exact wJ|refine And.intro ?_ ?_)
 ·rintro i hi;rcases Nat.lt_or_ge i gs.length with h|h
  ·have hlt:(i:Int)<((gs.map uE).length:Int):=by omega
   have hx:(gs.map uE)[i]?.getD .nil= .agg (uu gs[i]):=by simp [h];rfl
   have hk:=Iy gs[i];have hv:=GF gs[i];have ht:=G9 h;have hol:=EF (gs.take i);rw [List.length_take] at hol;generalize nmQ (gs.take i)=out at *
   generalize gs[i]=g at *
   have h2:=Gp out g.st.var (by omega)
   by_cases c:g.st.kind=0
   ·rw [if_pos c] at ht
    repeat' ((conv=>whnf);first|refine sC hlt ?_|(refine nv_ (.agg (uu g)) (by first|exact hx) ?_)|(refine nv_ (I g.st.kind) (by first|exact hk) ?_)|refine sF c ?_|(refine And.intro (by first|exact JH _) ?_)|refine aS ?_|fail)
    refine ⟨i+1,h,by omega,?_⟩
    repeat' (first|(exact leT (by rw [ht]))|exact wJ|refine And.intro ?_ ?_)
   ·rw [if_neg c] at ht
    repeat' ((conv=>whnf);first|refine sC hlt ?_|(refine nv_ (.agg (uu g)) (by first|exact hx) ?_)|(refine nv_ (I g.st.kind) (by first|exact hk) ?_)|(refine nv_ (.str g.st.var) (by first|exact hv) ?_)|refine sG c ?_|refine uc _ (h2) ?_|(refine And.intro (by first|exact JH _|exact Ko _) ?_)|refine aS ?_|fail)
    refine ⟨i+1,h,by omega,?_⟩
    repeat' (first|(exact leT (by rw [ht]))|exact wJ|refine And.intro ?_ ?_)
  ·have hlt: ¬(i:Int)<((gs.map uE).length:Int):=by omega
   have e:nmQ (gs.take i)=wz gs:=by rw [List.take_of_length_le h,CX]
   repeat' ((conv=>whnf);first|refine su hlt ?_|(exact ⟨(),trivial,by (repeat' (first|(exact leT (by rw [e]))|exact wJ|refine And.intro ?_ ?_));done⟩)|refine aS ?_|fail)
 rintro _ _;have hnl:(wz gs).length<2^39:=by rw [<- CX];have:=EF gs;omega
 have Ac: ∀x∈wz gs, ∃s∈ur (gs.map (·.st)),s.var=x:=fun x hx=>Fu.1 hx
 unfold wD;generalize wz gs=ns at *
 have hnn:((ns.map T.str).length:Int)=(ns.length:Int):=by rw [List.length_map]
 skip
 refine tT (α:=Nat) (fun k=>{sl:=[(0,.t (fds l)),(1,.t (.slice 15 (gs.map uE))),(5,.t (.slice 1 (ns.map T.str))),(7,.own 92 67 5 ((ns.take k).map fun s=>wX ((uZ l (ur (gs.map (·.st))) s).getD v0))),(8,.t (I k))],bx:=[]})
  (fun k=>k<=ns.length) (fun k=>ns.length - k) 0 (by simp) ?_ ?_
 ·repeat' (first|exact wJ|refine And.intro ?_ ?_)
 rintro k hk;rcases Nat.lt_or_ge k ns.length with h|h
 ·have hlt:(k:Int)<((ns.map T.str).length:Int):=by omega
  have hx:(ns.map T.str)[k]?.getD .nil= .str ns[k]:=by simp [h]
  have ht:ns.take (k+1)=ns.take k++[ns[k]]:=by rw [List.take_succ_eq_append_getElem h]
  have hin:=Ac ns[k] (List.getElem_mem h);have hkl:((ns.take k).map fun s=>wX ((uZ l (ur (gs.map (·.st))) s).getD v0)).length=k:=by rw [List.length_map,List.length_take];omega
  have hmp:((ns.take (k+1)).map fun s=>wX ((uZ l (ur (gs.map (·.st))) s).getD v0))=((ns.take k).map fun s=>wX ((uZ l (ur (gs.map (·.st))) s).getD v0))++[wX ((uZ l (ur (gs.map (·.st))) ns[k]).getD v0)]:=by rw [ht,List.map_append];rfl
  generalize ns[k]=x at *
  generalize ((ns.take k).map fun s=>wX ((uZ l (ur (gs.map (·.st))) s).getD v0))=out at *
  repeat' ((conv=>whnf);first|refine sC hlt ?_|(refine nv_ (.str x) (by first|exact hx) ?_)|refine aS ?_|refine nT_ ?_)
  refine tx 4 (α:=Nat×T×T×Int×Int×Bool) (β:=Unit) (fun p=>{sl:=[(0,.t (fds l)),(1,.t (.slice 15 (gs.map uE))),(5,.t (.slice 1 (ns.map T.str))),(7,.own 92 67 5 out),(8,.t (I k)),(9,.ptr 9 0),(10,.t (.bool p.2.2.2.2.2)),(11,.t (I p.1))],bx:=[(9,.d 5 (vc x p.2.1 p.2.2.1 p.2.2.2.1 p.2.2.2.2.1))]})
   (fun p=>p.1<=gs.length/\xi l x (ur ((gs.take p.1).map (·.st))) p.2.1 p.2.2.1 p.2.2.2.1 p.2.2.2.2.1 p.2.2.2.2.2) (fun p=>gs.length - p.1)
   (fun _=>{sl:=[(0,.t (fds l)),(1,.t (.slice 15 (gs.map uE))),(5,.t (.slice 1 (ns.map T.str))),(7,.own 92 67 5 out),(8,.t (I k)),(9,.ptr 9 0)],bx:=[(9,.d 5 (uK ((uZ l (ur (gs.map (·.st))) x).getD v0)))]}) (fun _=>True) (0,I 0,.nil,0,0,false) ⟨by simp,xi.start l x⟩ ?_ ?_ ?_
  ·repeat' (first|exact wJ|refine And.intro ?_ ?_)
  ·rintro ⟨i,c1,c2,n,m,fd⟩ ⟨hi,hinv⟩;dsimp only at hi hinv;rcases Nat.lt_or_ge i gs.length with h3|h3
   ·have DM:(i:Int)<((gs.map uE).length:Int):=by omega
    have hy:(gs.map uE)[i]?.getD .nil= .agg (uu gs[i]):=by simp [h3];rfl
    have hc2:=xQ gs[i];have hst:=Cp h3;have Mb:=hg gs[i] (List.getElem_mem h3);have hpt:=H3 hp (i+1);rw [hst] at hpt;have hmu:gs.length - (i+1)<gs.length - i:=by omega
    have skip0:gs[i].st.kind=0->i+1<=gs.length/\xi l x (ur ((gs.take (i+1)).map (·.st))) c1 c2 n m fd:=fun e=>⟨h3,by rw [hst,if_pos e];exact hinv⟩
    have skip1:gs[i].st.kind≠0->gs[i].st.var≠x->i+1<=gs.length/\xi l x (ur ((gs.take (i+1)).map (·.st))) c1 c2 n m fd:=fun e e2=>⟨h3,by rw [hst,if_neg e];exact hinv.skip e2⟩
    have take1:gs[i].st.kind≠0->gs[i].st.var=x->i+1<=gs.length/\xi l x (ur ((gs.take (i+1)).map (·.st))) (I (vD gs[i].st.kind)) (.slice 1 ((uM l gs[i].st).map I)) (if (gs[i].st.own&& !fd)=true then gs[i].st.n else n) (if (gs[i].st.own&& !fd)=true then gs[i].st.m else m) (fd||gs[i].st.own):=fun e e2=>⟨h3,by
     rw [if_neg e] at hpt;rw [hst,if_neg e];subst e2;exact hinv.take hpt⟩
    clear hpt hst hinv;generalize gs[i]=g at *
    obtain ⟨gp,gst⟩:=g;have hW:=BQ l hl gst.key Mb;have hF:=BP gst.kind;have hN:=Aq gst;change DCalls _ _ _ (.slice 1 ((uM l gst).map I)) at hW;dsimp only at hc2 skip0 skip1 take1;generalize uM l gst=ws at *
    generalize vD gst.kind=fam at *
    generalize gst.own=ow at *
    obtain ⟨sk,sv,sks,sf,sn,sm⟩:=gst;dsimp only at hc2 skip0 skip1 take1 hW hF hN;have hE:(!(sv.toList==x.toList))= !uq sv x:=by rw [uI]
    by_cases c:sk=0
    ·have inv:=skip0 c
     repeat' ((conv=>whnf);first|refine sC DM ?_|(refine nv_ (.agg (uu ⟨gp,⟨sk,sv,sks,sf,sn,sm⟩⟩)) (by first|exact hy) ?_)|(refine nv_ (.agg (uw ⟨sk,sv,sks,sf,sn,sm⟩)) (by first|exact congrArg T.agg hc2) ?_)|refine sE c ?_|(exact ⟨(i+1,c1,c2,n,m,fd),inv,hmu,by (repeat' (first|exact wJ|refine And.intro ?_ ?_));done⟩)|(refine And.intro (by first|exact wh _) ?_)|refine aS ?_|refine nT_ ?_)
    cases e:uq sv x with
    |false=>
     rw [e] at hE;have inv:=skip1 c fun e2=>by rw [uQ.2 e2] at e;cases e
     repeat' ((conv=>whnf);first|refine sC DM ?_|(refine nv_ (.agg (uu ⟨gp,⟨sk,sv,sks,sf,sn,sm⟩⟩)) (by first|exact hy) ?_)|(refine nv_ (.agg (uw ⟨sk,sv,sks,sf,sn,sm⟩)) (by first|exact congrArg T.agg hc2) ?_)|refine sD c ?_|(refine nv_ (.str x) (by first|exact hx) ?_)|refine nb_ _ hE ?_|(exact ⟨(i+1,c1,c2,n,m,fd),inv,hmu,by (repeat' (first|exact wJ|refine And.intro ?_ ?_));done⟩)|(refine And.intro (by first|exact wh _) ?_)|refine aS ?_|refine nT_ ?_)
    |true=>
     rw [e] at hE;have inv:=take1 c (uQ.1 e);clear skip0 skip1 take1;cases ow <;> cases fd <;> repeat' ((conv=>whnf);first|refine sC DM ?_|(refine nv_ (.agg (uu ⟨gp,⟨sk,sv,sks,sf,sn,sm⟩⟩)) (by first|exact hy) ?_)|(refine nv_ (.agg (uw ⟨sk,sv,sks,sf,sn,sm⟩)) (by first|exact congrArg T.agg hc2) ?_)|refine sD c ?_|(refine nv_ (.str x) (by first|exact hx) ?_)|refine nb_ _ hE ?_|refine uc _ (hF) ?_|refine uc _ (hW) ?_|refine uc _ (hN) ?_|(exact ⟨(i+1,I fam,.slice 1 (ws.map I),n,m,false),inv,hmu,by (repeat' (first|exact wJ|refine And.intro ?_ ?_));done⟩)|(exact ⟨(i+1,I fam,.slice 1 (ws.map I),n,m,true),inv,hmu,by (repeat' (first|exact wJ|refine And.intro ?_ ?_));done⟩)|(exact ⟨(i+1,I fam,.slice 1 (ws.map I),sn,sm,true),inv,hmu,by (repeat' (first|exact wJ|refine And.intro ?_ ?_));done⟩)|(refine And.intro (by first|exact wh _) ?_)|refine aS ?_|refine nT_ ?_)
   ·have DM: ¬(i:Int)<((gs.map uE).length:Int):=by omega
    have e:vc x c1 c2 n m=uK ((uZ l (ur (gs.map (·.st))) x).getD v0):=by
     have:=hinv.cells
     rw [List.take_of_length_le h3] at this;obtain ⟨s0,_,_,hs⟩:=Gy (l:=l) hin;rw [hs] at this ⊢;exact this
    clear hinv;generalize uK ((uZ l (ur (gs.map (·.st))) x).getD v0)=cv at *
    repeat' ((conv=>whnf);first|refine su DM ?_|(exact ⟨(),trivial,by (repeat' (first|(exact ui e.symm)|exact wJ|refine And.intro ?_ ?_));done⟩)|refine aS ?_|fail)
  ·rintro _ _;have hcv:(uK ((uZ l (ur (gs.map (·.st))) x).getD v0)).length=5:=rfl
   have qg:wX ((uZ l (ur (gs.map (·.st))) x).getD v0)= .agg (uK ((uZ l (ur (gs.map (·.st))) x).getD v0)):=rfl
   rw [qg] at hmp;generalize uK ((uZ l (ur (gs.map (·.st))) x).getD v0)=cv at *
   clear qg
   repeat' ((conv=>whnf);first|(refine And.intro (by first|exact hcv|exact ⟨trivial,hcv⟩|((simp only [];omega);done)|fail) ?_)|refine aS ?_|fail)
   refine ⟨k+1,h,by omega,?_⟩
   repeat' (first|(exact ug hmp)|exact wJ|refine And.intro ?_ ?_)
 ·have hlt: ¬(k:Int)<((ns.map T.str).length:Int):=by omega
  have:k=ns.length:=by omega
  subst this;rw [List.take_length];have e:(ns.map fun s=>wX ((uZ l (ur (gs.map (·.st))) s).getD v0))=(ns.map fun s=>(uZ l (ur (gs.map (·.st))) s).getD v0).map wX:=by rw [List.map_map];rfl
  rw [<- e]
  repeat' ((conv=>whnf);first|refine su hlt ?_|refine aS ?_|exact trivial)
end Go.TY
end
section
namespace Go.ST
open Go Go.DL Go.MM
open Go.TY hiding Fd
theorem GD{names:List ByteArray}{f:ByteArray->RV}(hf: ∀n∈names,(f n).name=n){n:ByteArray}(h:n∈names):varOf (names.map f) n=some (f n):=by
 induction names with
 |nil=>cases h
 |cons a r ih=>
  unfold varOf at ih ⊢;rw [List.map_cons,List.find?_cons]
  by_cases e:a=n
  ·subst e;simp [hf a (by simp)]
  ·have h1:decide ((f a).name=n)=false:=by rw [hf a (by simp)];simpa using e
   rw [h1];have h2:n∈r:=by
    rcases List.mem_cons.1 h with h|h
    ·exact absurd h.symm e
    ·exact h
   exact ih (fun x hx=>hf x (by simp [hx])) h2
theorem BS{l:List Fd}{ss:List RS}{s:RS}(h:s∈ss): ∃s0,s0∈ss/\s0.var=s.var/\uZ l ss s.var=some ⟨s.var,vD s0.kind,uM l s0,((uC ss s.var).map (·.n)).getD 0,((uC ss s.var).map (·.m)).getD 0⟩:=by
 unfold uZ;cases hf:ss.find? fun t=>decide (t.var=s.var) with
 |none=>have:=List.find?_eq_none.1 hf s h;simp at this
 |some s0=>
  have h1:=List.find?_some hf;exact ⟨s0,List.mem_of_find?_eq_some hf,by simpa using h1,rfl⟩
theorem Gg{ss:List RS}{s:RS}(h:s∈ss)(ho:s.own=true): ∃s1,s1∈ss/\s1.var=s.var/\s1.own=true/\uC ss s.var=some s1:=by
 unfold uC;cases hf:ss.find? fun t=>decide (t.var=s.var)&&t.own with
 |none=>have:=List.find?_eq_none.1 hf s h;simp [ho] at this
 |some s1=>
  have h1:=List.find?_some hf;simp only [Bool.and_eq_true,decide_eq_true_eq] at h1;exact ⟨s1,List.mem_of_find?_eq_some hf,h1.1,h1.2,rfl⟩
theorem Af{gs:List RG}{n:ByteArray}:n∈wz gs↔ ∃s∈ur (gs.map (·.st)),s.var=n:=by
 unfold wz;rw [DR (Ag List.nodup_nil),yU];simp
theorem FQ{l:List Fd}{gs:List RG}: ∀n∈wz gs,((uZ l (ur (gs.map (·.st))) n).getD v0).name=n:=by
 intro n hn;obtain ⟨s,hs,rfl⟩:=Af.1 hn;obtain ⟨s0, -, -,h⟩:=BS (l:=l) hs;rw [h];rfl
structure Fits (l:List Fd) (gs:List RG):Prop where
 pol: ∀g∈gs,xD l g.pol=0
 st: ∀g∈gs,wC l g.st=0
 pw:PW l (ur (gs.map (·.st)))
 vs: ∃v,zk l gs=some v
theorem Ew{l:List Fd}{gs:List RG}(h:zf l gs=0):Fits l gs:=by
 unfold zf at h
 by_cases c1:yJ gs=0
 case neg=>rw [if_pos c1] at h;exact absurd h c1
 rw [if_neg (by simpa using c1)] at h
 by_cases c2:fz2 (fun g=>xD l g.pol) (fun g=>wC l g.st) gs=0
 case neg=>rw [if_pos c2] at h;exact absurd h c2
 rw [if_neg (by simpa using c2)] at h;cases c3:zk l gs with
 |none=>rw [c3] at h;simp at h
 |some v=>
  refine ⟨fun g hg=>(Cy c2 g hg).1,fun g hg=>(Cy c2 g hg).2,?_,v,c3⟩
  have:=A7 (l:=l) (gs:=gs)
  rw [c3] at this
  by_cases hp:PW l (ur (gs.map (·.st)))
  ·exact hp
  ·have:=this.2 hp;simp at this
structure J6 (l:List Fd) (s:RS):Prop where
 k0:1<=s.kind
 k1:s.kind<=6
 keys: ∀k∈s.key,uA l k=true
 klen:s.key.length<=4
 nd:s.key.Nodup
 fo:uq s.field e0=true\/uA l s.field=true
 k3:s.kind=3->0<=s.n/\s.n<=1073741824
 k4:s.kind=4->0<=s.n/\s.n<=65535/\s.n<=s.m/\s.m<=65535/\uA l s.field=true/\s.m<=((2^(fld l s.field).w - 1:Nat):Int)
 k5:s.kind=5->uA l s.field=true
 k6:s.kind=6->1<=s.n/\s.n<=65535/\1<=s.m/\s.m<=1073741824
theorem EX{ks:List ByteArray}(h:zU ks=false):ks.Nodup:=by
 unfold zU at h;rw [List.any_eq_false] at h;rw [List.nodup_iff_pairwise_ne,List.pairwise_iff_getElem];intro i j hi hj hij e
 have:=h j (List.mem_range.2 hj)
 unfold zT at this;refine this (List.any_eq_true.2 ⟨ks[i],?_,?_⟩)
 ·rw [List.mem_take_iff_getElem];exact ⟨i,by omega,rfl⟩
 ·rw [List.getD_eq_getElem?_getD,ggZ hj, <-e];exact uQ.2 rfl
theorem D9{l:List Fd}{s:RS}(h:wC l s=0)(hk:s.kind≠0):J6 l s:=by
 unfold wC at h
 by_cases c0:vO s=0
 case neg=>rw [if_pos c0] at h;exact absurd h c0
 rw [if_neg (by simpa using c0),if_neg hk] at h;cases c1:(!uq s.field e0&& !vz l s.field)|| !s.key.all (vz l) with
 |true=>rw [c1] at h;simp at h
 |false=>
 rw [c1] at h;cases c2:zU s.key with
 |true=>rw [c2] at h;simp at h
 |false=>
 rw [c2] at h;simp only [Bool.false_eq_true,if_false] at h;have ok:okS s=true:=by
  unfold vO at c0;cases e:okS s with
  |true=>rfl
  |false=>rw [e] at c0;simp at c0
 unfold okS at ok;have hz:yE s=false:=by unfold yE;simp [hk]
 rw [hz,Bool.false_or] at ok;simp only [Bool.and_eq_true,decide_eq_true_eq] at ok;obtain ⟨⟨⟨⟨o1,o2⟩,o3⟩,o4⟩,o5⟩:=ok;rw [Bool.or_eq_false_iff] at c1;obtain ⟨c3,c4⟩:=c1;have keys: ∀k∈s.key,uA l k=true:=by
  simp only [Bool.not_eq_false',List.all_eq_true] at c4;exact c4
 have fo:uq s.field e0=true\/uA l s.field=true:=by
  show uq s.field e0=true\/vz l s.field=true
  cases a:uq s.field e0 <;> cases b:vz l s.field <;> simp [a,b] at c3 ⊢
 have hnd:vh s.field=true->uA l s.field=true:=fun hn=>by
  rcases fo with f|f
  ·have:=yV hn;rw [this] at f;cases f
  ·exact f
 unfold xp at o5;refine ⟨?_,?_,keys,o3,EX c2,fo,fun h3=>?_,fun h4=>?_,fun h5=>?_,fun h6=>?_⟩
 ·by_cases k1:s.kind=1
  ·omega
  by_cases k2:s.kind=2
  ·omega
  by_cases k3:s.kind=3
  ·omega
  by_cases k4:s.kind=4
  ·omega
  by_cases k5:s.kind=5
  ·omega
  by_cases k6:s.kind=6
  ·omega
  simp only [k1,k2,k3,k4,k5,k6,if_false] at o5;cases o5
 ·by_cases k1:s.kind=1
  ·omega
  by_cases k2:s.kind=2
  ·omega
  by_cases k3:s.kind=3
  ·omega
  by_cases k4:s.kind=4
  ·omega
  by_cases k5:s.kind=5
  ·omega
  by_cases k6:s.kind=6
  ·omega
  simp only [k1,k2,k3,k4,k5,k6,if_false] at o5;cases o5
 ·rw [h3] at o5;simp [Bm] at o5;omega
 ·rw [h4] at o5 h;simp [xV] at o5;have hf:=hnd o5.1.1.1;refine ⟨by omega,by omega,by omega,by omega,hf,?_⟩;unfold Ft at h;unfold uA at hf;obtain ⟨F,hF⟩:=Option.isSome_iff_exists.1 hf;rw [B6 hF];rw [hF] at h;dsimp only at h
  by_cases hc:(4:Int)=4/\s.m>((2^F.w - 1:Nat):Int)
  ·rw [if_pos hc] at h;cases h
  ·have: ¬s.m>((2^F.w - 1:Nat):Int):=fun hg=>hc ⟨rfl,hg⟩
   omega
 ·rw [h5] at o5;simp at o5;exact hnd o5.2
 ·rw [h6] at o5;simp [xV,Bm] at o5;omega
theorem vt{gs:List RG}{g:RG}(hg:g∈gs)(hk:g.st.kind≠0):g.st∈ur (gs.map (·.st)):=by
 unfold ur;rw [List.mem_filter];exact ⟨List.mem_map.2 ⟨g,hg,rfl⟩,by simpa using hk⟩
theorem Hq{l:List Fd}{gs:List RG}(hf:Fits l gs){g:RG}(hg:g∈gs)(hk:g.st.kind≠0):Da l (wD l gs) g.st:=by
 have p:=D9 (hf.st g hg) hk;have hs:=vt hg hk;obtain ⟨s0,m0,e0',h0⟩:=BS (l:=l) hs;have ha:=vu.1 (hf.pw.all s0 m0 g.st hs e0');have iK:g.st.own=true-> ∃s1,uC (ur (gs.map (·.st))) g.st.var=some s1/\s1.n=g.st.n/\s1.m=g.st.m:=fun ho=>by
  obtain ⟨s1,m1,e1,o1,h1⟩:=Gg hs ho
  have:=(vu.1 (hf.pw.all s1 m1 g.st hs e1)).1 o1 ho
  exact ⟨s1,h1,this⟩
 refine ⟨p.k0,p.k1,p.keys,by have:=p.klen;omega,⟨_,GD FQ (Af.2 ⟨g.st,hs,rfl⟩),?_,?_,fun h4=>?_,fun h6=>?_⟩,p.k3,p.k4,p.k5,p.k6⟩
 ·rw [h0];exact ha.2.2
 ·rw [h0];exact ha.2.1
 ·obtain ⟨s1,h1,h2,h3⟩:=iK (by unfold RS.own;rw [h4];rfl);rw [h0,h1];exact ⟨h2,h3⟩
 ·obtain ⟨s1,h1,h2,h3⟩:=iK (by unfold RS.own;rw [h6];rfl);rw [h0,h1];exact h2
theorem BV{l:List Fd}(hl:LOk l){gs:List RG}(hf:Fits l gs): ∀v∈wD l gs,VOk v:=by
 intro v hv;unfold wD at hv;obtain ⟨n,hn,rfl⟩:=List.mem_map.1 hv;obtain ⟨s,hs,rfl⟩:=Af.1 hn;obtain ⟨s0,m0,e0',h0⟩:=BS (l:=l) hs;rw [h0];unfold ur at m0;rw [List.mem_filter] at m0;obtain ⟨m1,m2⟩:=m0;obtain ⟨g,hg,rfl⟩:=List.mem_map.1 m1;have p:=D9 (hf.st g hg) (by simpa using m2);refine ⟨?_,fun w hw=>?_⟩
 ·show (uM l g.st).length<2^40
  unfold uM;rw [List.length_map]
  have:=p.klen;omega
 ·have hw:w∈uM l g.st:=hw;unfold uM at hw;obtain ⟨k,hk,rfl⟩:=List.mem_map.1 hw
  have:=G8 hl (p.keys k hk)
  have h1:=this.w1;have h2:=this.w2;omega
theorem A6{l:List Fd}{gs:List RG}:(wD l gs).length<=gs.length:=by
 unfold wD wz;rw [List.length_map];refine Nat.le_trans Ch ?_;have h1:=DS (l:=(ur (gs.map (·.st))).map (·.var)) (acc:=[])
 have h2:(ur (gs.map (·.st))).length<=gs.length:=by
  unfold ur;exact Nat.le_trans (List.length_filter_le _ _) (by rw [List.length_map];omega)
 rw [List.length_map,List.length_nil] at h1;omega
theorem Kw{l:List RF}(h:MM.Checked l):uA (l.map RF.fd) ⟨#[]⟩=false:=by
 unfold uA;cases e:findF (l.map RF.fd) ⟨#[]⟩ with
 |none=>rfl
 |some F=>
  exfalso;unfold findF at e;have hp:uq (⟨#[]⟩:ByteArray) wA=false:=by decide+kernel
  rw [hp] at e;simp only [Bool.false_eq_true,if_false] at e;have h1:=List.mem_of_find?_eq_some e;have h2:=List.find?_some e;obtain ⟨f,hf,rfl⟩:=List.mem_map.1 h1;have h3:=h.name f hf;have h4:f.name=⟨#[]⟩:=uQ.1 (show uq f.name _=true from h2);rw [h4] at h3
  revert h3
  decide+kernel
def preB(l:List Fd)(s:RS)(st:List RE)(h:List Int)(tick:Int):Bool:=
 !uA l ⟨#[]⟩&&(h.length==10)&&wg h&&xc st&&decide (st.length<=1000000)&&st.all Ai&&decide (0<=tick)&&decide (tick<=1073741824)&&decide (0<=s.kind)&&decide (s.kind<=6)
  &&s.key.all (uA l)&&decide (s.key.length<=1000)&&(!decide (s.kind=3)||(decide (0<=s.n)&&decide (s.n<=1073741824)))
  &&(!decide (s.kind=4)||(decide (0<=s.n)&&decide (s.n<=65535)&&decide (s.n<=s.m)&&decide (s.m<=65535)))
  &&(!decide (s.kind=5)||(uA l s.field&&st.all fun e=> !decide (e.var=s.var)||(decide (e.key.length=s.key.length)&&e.key.all fun x=>decide (0<=x))))
  &&(!decide (s.kind=6)||(decide (1<=s.n)&&decide (s.n<=65535)&&decide (1<=s.m)&&decide (s.m<=1073741824)))
  &&st.all fun e=>decide (e.key.length<2^60)
theorem IG{l:List Fd}(hl:LOk l){s:RS}{st:List RE}{h:List Int}{tick:Int}(hp:preB l s st h tick=true):BY l s st h tick/\ ∀e∈st,e.key.length<2^60:=by
 unfold preB at hp;simp only [Bool.and_eq_true,decide_eq_true_eq,List.all_eq_true,Bool.not_eq_true',beq_iff_eq,Bool.or_eq_true,decide_eq_false_iff_not] at hp;obtain ⟨⟨⟨⟨⟨⟨⟨⟨⟨⟨⟨⟨⟨⟨⟨⟨a1,a2⟩,a3⟩,a4⟩,a5⟩,a6⟩,a7⟩,a8⟩,a9⟩,b1⟩,b2⟩,b3⟩,b4⟩,b5⟩,b6⟩,b7⟩,b8⟩:=hp;refine ⟨⟨hl,a1,⟨a2,a3⟩,xW.1 a4,a5,fun e he=>?_,a7,a8,a9,b1,b2,b3,fun h3=>?_,fun h4=>?_,fun h5=>?_,fun h6=>?_⟩,b8⟩
 ·have:=a6 e he
  unfold Ai at this;simp only [Bool.and_eq_true,decide_eq_true_eq] at this;omega
 ·rcases b4 with h|h
  ·exact absurd h3 h
  ·exact h
 ·rcases b5 with h|h
  ·exact absurd h4 h
  ·omega
 ·rcases b6 with h|h
  ·exact absurd h5 h
  ·refine ⟨h.1,fun e he hv=>?_⟩;rcases h.2 e he with h'|h'
   ·exact absurd hv h'
   ·exact h'
 ·rcases b7 with h|h
  ·exact absurd h6 h
  ·omega
abbrev xB(t:Int×Int×Int):List Int:=[0,t.2.1 * 256+t.1,0,0,0,0,0,0,0,0]
def FM(l:List Fd)(s:RS)(name:ByteArray)(t:Int×Int×Int)(st:List RE):Int:=if (doE l s st (xB t) t.2.2).pass then (vj (fld l name) (doE l s st (xB t) t.2.2).h:Int) else -1
def vW(l:List Fd)(s:RS)(name:ByteArray):List (Int×Int×Int)->List Int×List RE->List Int×List RE
 |[],r=>r
 |t::ts,r=>vW l s name ts (r.1++[FM l s name t r.2],(doE l s r.2 (xB t) t.2.2).st)
def CG(l:List Fd)(s:RS)(name:ByteArray):List (Int×Int×Int)->List RE->Bool
 |[],_=>true
 |t::ts,st=>decide (0<=t.1)&&decide (t.1<256)&&decide (0<=t.2.1)&&decide (t.2.1<256)&&preB l s st (xB t) t.2.2&&wg (doE l s st (xB t) t.2.2).h&&((doE l s st (xB t) t.2.2).h.length==10)&&CG l s name ts (doE l s st (xB t) t.2.2).st
end Go.ST
end
noncomputable section
namespace Go.ST7
open Go Go.DL Go.Proofs
def c41:aV:=(sr [oo 6 (.mov kF)] (sr [mv 9 0,mv 10 1,oo 11 (.call 94 [(tm 9),(tm 10)]),mv 7 11] (.seq (sr [mv 12 7,oo 13 (.bin .neq (tm 12) (Kc 0)),mv 14 13,mF 15 2 14,oF 16 14 (.len (tm 15)),oF 17 14 (.bin .gtr (tm 16) (Kc 250)),oo 18 (.pick (tm 14) kT (tm 17))] (.cond (tm 18) (sr [oo 6 (.mov kF)] .ret) .skip)) (sr [mv 19 0,mv 20 1,oo 21 (.call 10 [(tm 19),(tm 20)]),mv 22 2,oo 23 (.call 14 [(tm 21),(tm 22)]),mv 8 23] (sr [mv 24 8,oo 25 (.bin .eql (tm 24) (Kc 0)),mv 6 25] .ret)))))
theorem l41:(Tryz.f41.body.bind (bt Tryz.prog 26 []))=some c41:=by kernel_rfl
def c8:aV:=(sr [oo 8 (.box 10 (tm 3)),oo 10 (.mov kF)] (sr [mv 16 0,oo 17 (.call 36 [tm 16]),mv 11 17] (sr [mv 18 1,oo 19 (.call 37 [tm 18]),mv 12 19] (sr [lA 20 10 8,oo 21 (.call 15 [tm 20]),mv 13 21] (.seq (sr [mv 22 11,oo 23 (.bin .neq (tm 22) (Kc 0)),mv 24 23,mF 25 12 24,oF 26 24 (.not (tm 25)),oo 27 (.pick (tm 24) kT (tm 26)),mv 28 27,mF 29 13 28,oF 30 28 (.not (tm 29)),oo 31 (.pick (tm 28) kT (tm 30)),mv 32 31,mF 33 4 32,oF 34 32 (.bin .lss (tm 33) (Kc 0)),oo 35 (.pick (tm 32) kT (tm 34)),mv 36 35,mF 37 4 36,oF 38 36 (.bin .gtr (tm 37) (Kc 1073741824)),oo 39 (.pick (tm 36) kT (tm 38))] (.cond (tm 39) (sr [oo 10 (.mov kF)] .ret) .skip)) (.seq (sr [oo 14 (.mov (Kc 0))] (.block 0 (.loop (.seq (sr [mv 40 14,mv 41 1,ln 42 41,oo 43 (.bin .lss (tm 40) (tm 42))] (.cond (tm 43) .skip (.exit 0))) (.seq (.block 1 (sr [mv 46 1,mv 47 14,ix 48 15 46 47,oo 49 (.nar 9 (tm 48)),lA 50 9 49,oo 51 (.call 38 [tm 50]),oo 15 (.alloc [Z0,Z0]),o0 (.store 2 (tm 15) (tm 51))] (sr [fa 52 0 15,ld 53 52,oo 54 (.bin .gtr (tm 53) (Kc 20)),mv 55 54,mF 56 1 55,mF 57 14 55,oF 58 55 (.idxL 15 (tm 56) (tm 57)),oF 59 55 (.nar 9 (tm 58)),oF 60 55 (.load 9 true (tm 59)),oF 61 55 (.call 39 [tm 60]),oF 62 55 (.bin .gtr (tm 61) (Kc 2)),oo 63 (.pick (tm 55) kT (tm 62)),mv 64 63,mF 65 1 64,mF 66 14 64,oF 67 64 (.idxL 15 (tm 65) (tm 66)),oF 68 64 (.nar 9 (tm 67)),oF 69 64 (.load 9 true (tm 68)),oF 70 64 (.call 40 [tm 69]),oF 71 64 (.not (tm 70)),oo 72 (.pick (tm 64) kT (tm 71))] (.cond (tm 72) (sr [oo 10 (.mov kF)] .ret) .skip)))) (rg [mv 44 14,oo 45 (.bin .add (tm 44) (Kc 1)),mv 14 45])))))) (sr [mv 73 0,mv 74 1,mv 75 2,oo 76 (.call 41 [(tm 73),(tm 74),(tm 75)]),mv 10 76] .ret)))))))
theorem l8:(Tryz.f8.body.bind (bt Tryz.prog 77 [2000049000009,2000059000009,2000068000009]))=some c8:=by kernel_rfl
def c43:aV:=(sr [⟨some 8,.alloc [Z0,S0,.nil,S0,Z0,Z0],none,[]⟩] (sr [mv 9 0,⟨some 10,.buildS 9 1 1 [S0] [(0,(.const (.str ⟨#[115,114,99]⟩)))],none,[]⟩,mv 11 1,mv 12 2,mv 13 3,⟨some 14,.build [Z0,S0,.nil,S0,Z0,Z0] [(0,1,(tm 9)),(1,1,(.const (.str ⟨#[118]⟩))),(2,1,(tm 10)),(3,1,(tm 11)),(4,1,(tm 12)),(5,1,(tm 13))],none,[]⟩,o0 (.store 6 (tm 8) (tm 14))] .ret))
theorem l43:(Tryz.f43.body.bind (bt Tryz.prog 15 []))=some c43:=by kernel_rfl
def c95:aV:=(sr [oo 0 (.mov (.const .nil))] (sr [⟨some 1,.build [S0,Z0,Z0] [(0,1,(.const (.str ⟨#[100,115,116]⟩))),(1,1,(Kc 16)),(2,1,(Kc 8))],none,[]⟩,⟨some 2,.build [S0,Z0,Z0] [(0,1,(.const (.str ⟨#[115,114,99]⟩))),(1,1,(Kc 24)),(2,1,(Kc 8))],none,[]⟩,⟨some 3,.build [S0,Z0,Z0] [(0,1,(.const (.str ⟨#[107,105,110,100]⟩))),(1,1,(Kc 33)),(2,1,(Kc 3))],none,[]⟩,⟨some 4,.buildS 54 3 3 [S0,Z0,Z0] [(0,(tm 1)),(1,(tm 2)),(2,(tm 3))],none,[]⟩,mv 0 4] .ret))
theorem l95:(Tryz.f95.body.bind (bt Tryz.prog 5 []))=some c95:=by kernel_rfl
end Go.ST7
end
section
namespace Go.STA
open Go Go.DL Go.Proofs
noncomputable def c42:aV:=(sr [oo 4 (.box 6 (tm 0)),oo 8 (.mov (.const .nil)),oo 9 (.mov (.const .nil))] (sr [oo 10 (.mov (.const .nil))] (.seq (sr [oo 11 (.mov (Kc 0))] (.block 0 (.loop (.seq (sr [mv 18 11,mv 19 3,ln 20 19,oo 21 (.bin .lss (tm 18) (tm 20))] (.cond (tm 21) .skip (.exit 0))) (.seq (.block 1 (sr [mv 24 3,mv 25 11,ix 26 3 24 25,oo 27 (.idxA 3 1 (tm 26) (Kc 1)),ld 28 27,oo 29 (.bin .mul (tm 28) (Kc 256)),mv 30 3,mv 31 11,ix 32 3 30 31,oo 33 (.idxA 3 1 (tm 32) (Kc 0)),ld 34 33,oo 35 (.bin .add (tm 29) (tm 34)),oo 36 (.build [Z0,Z0,Z0,Z0,Z0,Z0,Z0,Z0,Z0,Z0] [(0,1,(Kc 0)),(1,1,(tm 35))]),oo 12 (.alloc [Z0,Z0,Z0,Z0,Z0,Z0,Z0,Z0,Z0,Z0]),o0 (.store 10 (tm 12) (tm 36))] (.seq (.cut (rg [oo 38 (.call 95 []),lA 39 6 4,mv 40 1,lA 41 10 12,mv 42 3,mv 43 11,ix 44 3 42 43,oo 45 (.idxA 3 1 (tm 44) (Kc 2)),ld 46 45,oo 47 (.call 11 [(tm 38),(tm 39),(tm 40),(tm 41),(tm 46)]),mv 37 47,oo 48 (.ext (tm 37) 0),oo 49 (.ext (tm 37) 1),oo 50 (.ext (tm 37) 2),oo 13 (.alloc [Z0,Z0,Z0,Z0,Z0,Z0,Z0,Z0,Z0,Z0]),o0 (.store 10 (tm 13) (tm 48)),mv 14 49,mv 15 50])) (sr [mv 51 15,mv 1 51] (.seq (.cut (rg [oo 53 (.call 95 []),mv 54 2,oo 55 (.call 17 [(tm 53),(tm 54)]),mv 52 55,oo 56 (.ext (tm 52) 0),oo 57 (.ext (tm 52) 1),⟨some 16,.alloc [S0,Z0,Z0],none,[]⟩,o0 (.store 3 (tm 16) (tm 56)),mv 17 57])) (sr [mv 58 14] (.cond (tm 58) (rg [mv 59 10,lA 60 3 16,lA 61 10 13,oo 62 (.call 18 [(tm 60),(tm 61)]),oo 63 (.buildF 1 1 [Z0] [(0,(tm 62))]),oo 64 (.append 59 3 1 8 (tm 59) (tm 63)),mv 10 64]) (rg [mv 65 10,oo 66 (.buildF 1 1 [Z0] [(0,(.const (.int .i64 (-1))))]),oo 67 (.append 59 3 1 8 (tm 65) (tm 66)),mv 10 67])))))))) (rg [mv 22 11,oo 23 (.bin .add (tm 22) (Kc 1)),mv 11 23])))))) (sr [mv 68 10,mv 69 1,mv 8 68,mv 9 69] .ret))))
theorem l42:(Tryz.f42.body.bind (bt Tryz.prog 70 [6000006,6000008,8000063,8000066]))=some c42:=by kernel_rfl
end Go.STA
end
section
namespace Go.ST
open Go Go.DL Go.MM Go.Proofs
open Go.TY hiding Fd
def vN:ByteArray:=⟨#[118]⟩
abbrev stp(k:Int)(f:ByteArray)(n m:Int):RS:=⟨k,vN,[BR],f,n,m⟩
theorem yT(k:Int)(f:ByteArray)(n m:Int):DCalls Tryz.prog 43 [I k,.str f,I n,I m] (wG (stp k f n m)):=by
 refine dl2 mixed [.cell 8 42] [.agg (uw (stp k f n m))] Tryz.func43 Go.ST7.l43 ?_
 repeat' ((conv=>whnf);first|refine aS ?_|exact trivial)
def L17:List Fd:=[⟨Cx,16,8⟩,⟨BR,24,8⟩,⟨Df,33,3⟩]
theorem Hb:LOk L17:=⟨by decide,fun f hf=>by
 simp only [L17,List.mem_cons,List.not_mem_nil,or_false] at hf;rcases hf with rfl|rfl|rfl <;> exact ⟨by decide,by decide,by decide⟩⟩
theorem F7:DCalls Tryz.prog 95 [] (fds L17):=by
 refine dl2 mixed [.tmp 0] [fds L17] Tryz.func95 Go.ST7.l95 ?_
 repeat' ((conv=>whnf);first|refine aS ?_|exact trivial)
abbrev tri(t:Int×Int×Int):T:=.agg [I t.1,I t.2.1,I t.2.2]
abbrev BU(ts:List (Int×Int×Int)):T:=.slice 3 (ts.map tri)
theorem D6(l:List Fd)(s:RS)(name:ByteArray): ∀(a b:List (Int×Int×Int)) (r:List Int×List RE),vW l s name (a++b) r=vW l s name b (vW l s name a r)
 |[],_,_=>rfl
 |_::a,b,_=>D6 l s name a b _
theorem C6(l:List Fd)(s:RS)(name:ByteArray){ts:List (Int×Int×Int)}{i:Nat}(h:i<ts.length)(r:List Int×List RE):
  vW l s name (ts.take (i+1)) r=((vW l s name (ts.take i) r).1++[FM l s name ts[i] (vW l s name (ts.take i) r).2],(doE l s (vW l s name (ts.take i) r).2 (xB ts[i]) ts[i].2.2).st):=by
 rw [List.take_succ_eq_append_getElem h,D6];rfl
structure KW (l:List Fd) (s:RS) (t:Int×Int×Int) (st:List RE):Prop where
 a0:0<=t.1
 a1:t.1<256
 b0:0<=t.2.1
 b1:t.2.1<256
 pre:BY l s st (xB t) t.2.2
 k: ∀e∈st,kOk e
 ok:HOk (doE l s st (xB t) t.2.2).h
theorem EM{l:List Fd}(hl:LOk l){s:RS}{name:ByteArray}: ∀{ts:List (Int×Int×Int)} {r:List Int×List RE},CG l s name ts r.2=true-> ∀i (h:i<ts.length),KW l s ts[i] (vW l s name (ts.take i) r).2
 |[],_,_,i,h=>by simp at h
 |t::ts,r,hb,i,h=>by
  unfold CG at hb;simp only [Bool.and_eq_true,decide_eq_true_eq,beq_iff_eq] at hb;obtain ⟨⟨⟨⟨⟨⟨⟨h1,h2⟩,h3⟩,h4⟩,h5⟩,h6⟩,h7⟩,h8⟩:=hb;cases i with
  |zero=>
   obtain ⟨p,q⟩:=IG hl h5;exact ⟨h1,h2,h3,h4,p,q,⟨h7,h6⟩⟩
  |succ i=>exact EM hl (ts:=ts) (r:=(r.1++[FM l s name t r.2],(doE l s r.2 (xB t) t.2.2).st)) h8 i (by simpa using h)
theorem Nz{ts:List (Int×Int×Int)}{i:Nat}(h:i<ts.length):(ts.map tri)[i]?.getD .nil=tri ts[i]:=by simp [h]
theorem HB(s:RS)(st:List RE)(name:ByteArray)(ts:List (Int×Int×Int))(hl:ts.length<2^20)(hb:CG L17 s name ts st=true)(hf:uA L17 name=true):
  DCalls Tryz.prog 42 [wG s,esT st,.str name,BU ts] (.tup [.slice 1 ((vW L17 s name ts ([],st)).1.map I),esT (vW L17 s name ts ([],st)).2]):=by
 refine dl2 mixed [.tmp 8,.tmp 9] [.slice 1 _,esT _] Tryz.func42 Go.STA.l42 ?_;have hn:((ts.map tri).length:Int)=ts.length:=by rw [List.length_map]
 have hA:=EM (name:=name) (r:=([],st)) Hb hb;have hEx:=F7;have hlen: ∀i,i<=ts.length->(vW L17 s name (ts.take i) ([],st)).1.length=i:=by
  intro i
  induction i with
  |zero=>intro _;simp [vW]
  |succ i ih=>intro h;rw [C6 L17 s name h,List.length_append,ih (by omega)];rfl
 have hFd:=Bl L17 Hb name;rw [hf] at hFd;have hFo:FOk (MM.fld L17 name):=G8 Hb hf
 repeat' ((conv=>whnf);first|refine aS ?_|fail)
 refine tx 0 (α:=Nat×Nat) (β:=Unit) (fun p=>{sl:=[(1,.t (esT (vW L17 s name (ts.take p.1) ([],st)).2)),(2,.t (.str name)),(3,.t (BU ts)),(4,.ptr 4 0),(10,.own p.2 3 1 ((vW L17 s name (ts.take p.1) ([],st)).1.map I)),(11,.t (I p.1))],bx:=[(4,.d 6 (uw s))]})
  (fun p=>p.1<=ts.length/\(p.2=64\/p.2=67)) (fun p=>ts.length - p.1)
  (fun _=>{sl:=[(1,.t (esT (vW L17 s name ts ([],st)).2)),(10,.t (.slice 1 ((vW L17 s name ts ([],st)).1.map I)))],bx:=[]}) (fun _=>True) (0,64) ⟨by simp,Or.inl rfl⟩ ?_ ?_ ?_
 ·repeat' (first|exact wJ|refine And.intro ?_ ?_)
 ·rintro ⟨i,r⟩ ⟨hi,hr⟩;dsimp only at hi hr;rcases Nat.lt_or_ge i ts.length with h|h
  ·have hlt:(i:Int)<((ts.map tri).length:Int):=by omega
   have hg:=Nz h;have a:=hA i h;have e1:=C6 L17 s name h ([],st);have hol:=hlen i (by omega);have hdo:=JS a.pre a.k;have gU:=t57 (MM.fld L17 name) hFo _ a.ok;obtain ⟨t,ht⟩: ∃t,ts[i]=t:=⟨_,rfl⟩
   rw [ht] at hg e1 hdo gU;have b0:=ht▸a.a0;have b1:=ht▸a.a1;have b2:=ht▸a.b0;have b3:=ht▸a.b1;have hx:=ten (ht▸a.ok);generalize vW L17 s name (ts.take i) ([],st)=q at *
   have e2:FM L17 s name t q.2=if (doE L17 s q.2 (xB t) t.2.2).pass then (vj (fld L17 name) (doE L17 s q.2 (xB t) t.2.2).h:Int) else -1:=rfl
   rw [e2] at e1;obtain ⟨t0,t1,t2⟩:=t;dsimp only at *
   have hmul:IntKind.wrap .i64 (IntKind.wrap .i64 (t1 * 256)+t0)=t1 * 256+t0:=by rw [nW (n:=t1 * 256) (by omega) (by omega),nW (by omega) (by omega)]
   have hnx:((i+1:Nat):Int)=IntKind.wrap .i64 ((i:Int)+1):=by rw [nW] <;> omega
   have hH:hd (xB (t0,t1,t2))= .agg [I 0,I (t1 * 256+t0),I 0,I 0,I 0,I 0,I 0,I 0,I 0,I 0]:=rfl;rw [hH] at hdo;generalize doE L17 s q.2 (xB (t0,t1,t2)) t2=d at *
   obtain ⟨dh,dp,ds⟩:=d;dsimp only at *
   obtain ⟨y0,y1,y2,y3,y4,y5,y6,y7,y8,y9,rfl⟩:=hx;have hdo:DCalls Tryz.prog 11 [fds L17,wG s,esT q.2,.agg [I 0,I (t1 * 256+t0),I 0,I 0,I 0,I 0,I 0,I 0,I 0,I 0],I t2] (.tup [hd [y0,y1,y2,y3,y4,y5,y6,y7,y8,y9],.bool dp,esT ds]):=hdo;rw [<- hmul] at hdo;have hmu:ts.length - (i+1)<ts.length - i:=by omega
   have ha:=a;clear hb hA hlen a
   repeat' ((conv=>whnf);first|refine sC hlt ?_|(refine nv_ (.agg [I t0,I t1,I t2]) (by first|exact hg) ?_)|refine aS ?_|refine nT_ ?_)
   refine tV (β:=Unit) (fun _=>{sl:=[(2,.t (.str name)),(3,.t (BU ts)),(4,.ptr 4 0),(10,.own r 3 1 (q.1.map I)),(11,.t (I i)),(13,.ptr 13 0),(14,.t (.bool dp)),(15,.t (esT ds))],bx:=[(4,.d 6 (uw s)),(13,.d 10 [I y0,I y1,I y2,I y3,I y4,I y5,I y6,I y7,I y8,I y9])]}) (fun _=>True) ?_ ?_
   ·repeat' ((conv=>whnf);first|(refine nv_ (.agg [I t0,I t1,I t2]) (by first|exact hg) ?_)|refine uc _ (hEx) ?_|refine uc _ (hdo) ?_|(exact ⟨(),trivial,by (repeat' (first|exact wJ|refine And.intro ?_ ?_));done⟩)|refine aS ?_|refine nT_ ?_)
   rintro _ _;clear hdo
   skip
   refine tV (β:=Unit) (fun _=>{sl:=[(1,.t (esT ds)),(2,.t (.str name)),(3,.t (BU ts)),(4,.ptr 4 0),(10,.own r 3 1 (q.1.map I)),(11,.t (I i)),(13,.ptr 13 0),(14,.t (.bool dp)),(16,.ptr 16 0)],bx:=[(4,.d 6 (uw s)),(13,.d 10 [I y0,I y1,I y2,I y3,I y4,I y5,I y6,I y7,I y8,I y9]),(16,.d 3 [.str (MM.fld L17 name).name,I (MM.fld L17 name).a,I (MM.fld L17 name).w])]}) (fun _=>True) ?_ ?_
   ·repeat' ((conv=>whnf);first|refine uc _ (hEx) ?_|refine uc _ (hFd) ?_|(exact ⟨(),trivial,by (repeat' (first|exact wJ|refine And.intro ?_ ?_));done⟩)|refine aS ?_|fail)
   rintro _ _;have hsn: ∀z:Int,(q.1++[z]).map I=q.1.map I++[I z]:=fun z=>by rw [List.map_append];rfl
   have hrm:((q.1.map I).length+1) * 8<=140737488355328:=by rw [List.length_map];omega
   clear hEx hFd;cases dp with
   |true=>
    rw [if_pos rfl] at e1;generalize (vj (MM.fld L17 name) [y0,y1,y2,y3,y4,y5,y6,y7,y8,y9]:Int)=z at *
    have hw1:(vW L17 s name (ts.take (i+1)) ([],st)).1.map I=q.1.map I++[I z]:=by rw [e1];exact hsn z
    have hw2:(vW L17 s name (ts.take (i+1)) ([],st)).2=ds:=by rw [e1]
    rcases hr with rfl|rfl
    all_goals
     repeat' ((conv=>whnf);first|refine uc _ (gU) ?_|(exact ⟨(i+1,64),⟨h,Or.inl rfl⟩,hmu,by (repeat' (first|(exact leI hnx)|(exact ug hw1)|((refine leT ?_;rw [hw2]))|exact wJ|refine And.intro ?_ ?_));done⟩)|(refine And.intro (by first|exact hrm) ?_)|refine aS ?_|fail)
   |false=>
    rw [if_neg (by simp)] at e1;have hw1:(vW L17 s name (ts.take (i+1)) ([],st)).1.map I=q.1.map I++[I (-1)]:=by rw [e1];exact hsn _
    have hw2:(vW L17 s name (ts.take (i+1)) ([],st)).2=ds:=by rw [e1]
    rcases hr with rfl|rfl
    all_goals
     repeat' ((conv=>whnf);first|(exact ⟨(i+1,67),⟨h,Or.inr rfl⟩,hmu,by (repeat' (first|(exact leI hnx)|(exact ug hw1)|((refine leT ?_;rw [hw2]))|exact wJ|refine And.intro ?_ ?_));done⟩)|(refine And.intro (by first|exact hrm) ?_)|refine aS ?_|fail)
  ·have hlt: ¬(i:Int)<((ts.map tri).length:Int):=by omega
   obtain rfl:i=ts.length:=by omega
   rw [List.take_length];rcases hr with rfl|rfl <;> repeat' ((conv=>whnf);first|refine su hlt ?_|(exact ⟨(),trivial,by (repeat' (first|(exact AS rfl)|exact wJ|refine And.intro ?_ ?_));done⟩)|refine aS ?_|fail)
 ·rintro _ _
  repeat' ((conv=>whnf);first|refine aS ?_|exact trivial)
theorem EK(l:List Fd)(hl:LOk l)(hno:uA l ⟨#[]⟩=false)(h:List Int)(hh:HOk h)(name:ByteArray)(n:Int)(h0:0<=n):DCalls Tryz.prog 61 [fds l,hd h,.str name,I n] (hd (wrF l h name n)):=by
 have hF:=Bl l hl name;have hHy:=xw hl hh (name:=name) h0;have he:=eqS name ⟨#[]⟩;refine dl2 mixed [.cell 8 27] [hd _] Tryz.func61 Go.ST4.l61 ?_;cases hf:uA l name with
 |false=>
  have hw:wrF l h name n=h:=by unfold wrF;rw [hf];rfl
  rw [hf] at hF;rw [hw];obtain ⟨x0,x1,x2,x3,x4,x5,x6,x7,x8,x9,rfl⟩:=ten hh
  repeat' ((conv=>whnf);first|refine uc _ (hF) ?_|refine aS ?_|exact trivial)
 |true=>
  have hne:name≠⟨#[]⟩:=fun e=>by rw [e,hno] at hf;cases hf
  rw [decide_eq_false hne] at he;rw [hf] at hF;have hM:=t66 _ (yi hl hf);have hp:=Nat.two_pow_pos (fld l name).w;have hS:=t52 _ (yi hl hf) h hh (min n ((2^(fld l name).w - 1:Nat):Int)).toNat (by omega);have hw:wrF l h name n=yu (fld l name) h (min n ((2^(fld l name).w - 1:Nat):Int)).toNat:=by unfold wrF;rw [if_pos hf]
  rw [<- hw,Int.toNat_of_nonneg (by omega), <-Dm] at hS;obtain ⟨x0,x1,x2,x3,x4,x5,x6,x7,x8,x9,rfl⟩:=ten hh;obtain ⟨y0,y1,y2,y3,y4,y5,y6,y7,y8,y9,hy⟩:=ten hHy;rw [hy] at hS ⊢
  repeat' ((conv=>whnf);first|refine uc _ (hF) ?_|refine nb_ _ he ?_|refine uc _ (hM) ?_|refine uc _ (hS) ?_|refine aS ?_|exact trivial)
theorem IP(s:RS)(e:RE)(tick:Int)(hn:1<=s.n/\s.n<=65535)(hm:1<=s.m/\s.m<=1073741824)(ht:0<=tick/\tick<=1073741824)(he:0<=e.n/\e.n<=65535)(ha:0<=e.at_/\e.at_<=1073741824):
  DCalls Tryz.prog 64 [wG s,um e,I tick] (um (vY s e tick)):=by
 obtain ⟨kk,var,key,field,n,m⟩:=s;obtain ⟨v,ky,en,ea⟩:=e;dsimp only at hn hm he ha;refine dl2 mixed [.cell 6 64] [um _] Tryz.func64 Go.ST4.l64 ?_;have hm0:m≠0:=by omega
 unfold vY;dsimp only
 by_cases c:tick>ea
 ·rw [if_pos c];have b1:0<=(tick - ea).tdiv m:=Int.tdiv_nonneg (by omega) (by omega);have b2:(tick - ea).tdiv m<=tick - ea:=Int.tdiv_le_self _ (by omega);have b3:(tick - ea).tdiv m * m<=tick - ea:=by
   rw [Int.tdiv_eq_ediv_of_nonneg (by omega)];exact Int.ediv_mul_le _ (by omega)
  have b4:0<=(tick - ea).tdiv m * m:=Int.mul_nonneg b1 (by omega);have w1:W64 (tick - ea)=tick - ea:=nW (by omega) (by omega);have w2:W64 ((W64 (tick - ea)).tdiv m)=(tick - ea).tdiv m:=by rw [w1];exact nW (by omega) (by omega)
  have w3:W64 (en+W64 ((W64 (tick - ea)).tdiv m))=en+(tick - ea).tdiv m:=by rw [w2];exact nW (by omega) (by omega)
  have w4:W64 (ea+W64 (W64 ((W64 (tick - ea)).tdiv m) * m))=ea+(tick - ea).tdiv m * m:=by
   rw [w2,show W64 ((tick - ea).tdiv m * m)=(tick - ea).tdiv m * m from nW (by omega) (by omega)];exact nW (by omega) (by omega)
  rw [<- w3, <-w4]
  by_cases c2:W64 (en+W64 ((W64 (tick - ea)).tdiv m))>=n
  ·rw [if_pos c2]
   repeat' ((conv=>whnf);first|exact trivial|refine sC c ?_|refine sC c2 ?_|(refine And.intro (by first|exact hm0) ?_)|refine aS ?_|refine nT_ ?_)
  ·rw [if_neg c2]
   repeat' ((conv=>whnf);first|exact trivial|refine sC c ?_|refine su c2 ?_|(refine And.intro (by first|exact hm0) ?_)|refine aS ?_|refine nT_ ?_)
 ·rw [if_neg c];have w3:W64 (en+0)=en+0:=nW (by omega) (by omega);have w4:W64 (ea+W64 (0 * m))=ea+0 * m:=by
   rw [Int.zero_mul,show W64 0=0 from nW (by omega) (by omega)];exact nW (by omega) (by omega)
  rw [<- w3, <-w4]
  by_cases c2:W64 (en+0)>=n
  ·rw [if_pos c2]
   repeat' ((conv=>whnf);first|exact trivial|refine su c ?_|refine sC c2 ?_|refine aS ?_|refine nT_ ?_)
  ·rw [if_neg c2]
   repeat' ((conv=>whnf);first|exact trivial|refine su c ?_|refine su c2 ?_|refine aS ?_|refine nT_ ?_)
def Fa(o:List RE)(lo hi:Int):Int:=if vr o o.length lo<=hi then vr o o.length lo else -1
theorem JO(st:List RE)(v:ByteArray)(hl:st.length<2^40)(lo hi:Int)(h0:0<=lo/\lo<=65535)(h1:hi<=2^40):
  DCalls Tryz.prog 63 [esT st,.str v,I lo,I hi] (I (Fa (ofE st v) lo hi)):=by
 refine dl2 mixed [.tmp 8] [I _] Tryz.func63 Go.ST4.l63 ?_;have hO:=Nq st v hl;have hol:(ofE st v).length<=st.length:=List.length_filter_le _ _;generalize ofE st v=o at *
 have hoL:((o.map um).length:Int)=o.length:=by rw [List.length_map]
 have hsp:=xI o o.length lo;have hfr:=Aa o lo;unfold Fa;obtain ⟨F,hF⟩: ∃F,F=vr o o.length lo:=⟨_,rfl⟩
 rw [<- hF] at hsp hfr ⊢;obtain ⟨s1,s2,s3⟩:=hsp
 repeat' ((conv=>whnf);first|refine uc _ (hO) ?_)
 refine tx 0 (α:=Nat) (β:=Unit) (fun j=>{sl:=[(2,.t (I lo)),(3,.t (I hi)),(9,.t (esT o)),(10,.t (I (lo+(j:Int))))],bx:=[]})
  (fun j=>j<=o.length/\lo+(j:Int)<=F) (fun j=>o.length - j) (fun _=>{sl:=[],bx:=[]}) (fun _=> ¬F<=hi) 0 ⟨Nat.zero_le _,by omega⟩ ?_ ?_ ?_
 ·have e0:lo+((0:Nat):Int)=lo:=by omega
  repeat' (first|(exact leI e0)|exact wJ|refine And.intro ?_ ?_)
 ·rintro j ⟨hj,hjF⟩;have hwl:IntKind.wrap .i64 (lo+((o.map um).length:Int))=lo+o.length:=by rw [hoL];exact nW (by omega) (by omega)
  have hle:lo+(j:Int)<=IntKind.wrap .i64 (lo+((o.map um).length:Int)):=by rw [hwl];omega
  by_cases c:lo+(j:Int)<=hi
  ·repeat' ((conv=>whnf);first|refine sC c ?_|refine sC hle ?_|refine aS ?_|fail)
   refine tx 2 (α:=Nat) (β:=Unit) (fun i=>{sl:=[(2,.t (I lo)),(3,.t (I hi)),(9,.t (esT o)),(10,.t (I (lo+(j:Int)))),(11,.t (.bool (uT (o.take i) (lo+(j:Int))))),(12,.t (I i))],bx:=[]})
    (fun i=>i<=o.length) (fun i=>o.length - i) (fun _=>{sl:=[(2,.t (I lo)),(3,.t (I hi)),(9,.t (esT o)),(10,.t (I (lo+(j:Int)))),(11,.t (.bool (uT o (lo+(j:Int)))))],bx:=[]}) (fun _=>True) 0 (Nat.zero_le _) ?_ ?_ ?_
   ·repeat' (first|exact wJ|refine And.intro ?_ ?_)
   ·rintro i hi2;rcases Nat.lt_or_ge i o.length with h|h
    ·have hlt:(i:Int)<((o.map um).length:Int):=by omega
     have hnx:((i+1:Nat):Int)=IntKind.wrap .i64 ((i:Int)+1):=by rw [nW] <;> omega
     have hsn:uT (o.take (i+1)) (lo+(j:Int))=(uT (o.take i) (lo+(j:Int))||decide (o[i].n=lo+(j:Int))):=by
      unfold uT;rw [List.take_succ_eq_append_getElem h,List.any_append];simp
     have gU:=ggZ h;generalize o[i]=x at *
     obtain ⟨xv,xk,xn,xa⟩:=x;cases hu:uT (o.take i) (lo+(j:Int)) with
     |true=>
      rw [hu,Bool.true_or] at hsn;have DN:=congrArg T.bool hsn
      repeat' ((conv=>whnf);first|refine sC hlt ?_|(exact ⟨i+1,h,(by omega),by (repeat' (first|(exact leI hnx)|(exact leT DN)|exact wJ|refine And.intro ?_ ?_));done⟩)|refine aS ?_|fail)
     |false=>
      rw [hu,Bool.false_or] at hsn
      by_cases c2:xn=lo+(j:Int)
      ·rw [decide_eq_true c2] at hsn;have DN:=congrArg T.bool hsn
       repeat' ((conv=>whnf);first|refine sC hlt ?_|(refine nv_ (I xn) (by first|(simp [gU,um,uk,T.cells];done)|fail) ?_)|refine sE c2 ?_|(exact ⟨i+1,h,(by omega),by (repeat' (first|(exact leI hnx)|(exact leT DN)|exact wJ|refine And.intro ?_ ?_));done⟩)|(refine And.intro (by first|((simp [gU,um,uk,T.cells]);done)|fail) ?_)|refine aS ?_|refine nT_ ?_)
      ·rw [decide_eq_false c2] at hsn;have DN:=congrArg T.bool hsn
       repeat' ((conv=>whnf);first|refine sC hlt ?_|(refine nv_ (I xn) (by first|(simp [gU,um,uk,T.cells];done)|fail) ?_)|refine sD c2 ?_|(exact ⟨i+1,h,(by omega),by (repeat' (first|(exact leI hnx)|(exact leT DN)|exact wJ|refine And.intro ?_ ?_));done⟩)|(refine And.intro (by first|((simp [gU,um,uk,T.cells]);done)|fail) ?_)|refine aS ?_|refine nT_ ?_)
    ·have hlt: ¬(i:Int)<((o.map um).length:Int):=by omega
     have e0:T.bool (uT o (lo+(j:Int)))= .bool (uT (o.take i) (lo+(j:Int))):=by rw [List.take_of_length_le h]
     repeat' ((conv=>whnf);first|refine su hlt ?_|(exact ⟨(),trivial,by (repeat' (first|(exact leT e0)|exact wJ|refine And.intro ?_ ?_));done⟩)|refine aS ?_|fail)
   ·rintro - -;have hnx:lo+((j+1:Nat):Int)=IntKind.wrap .i64 (lo+(j:Int)+1):=by rw [nW (by omega) (by omega)];omega
    have qf:(uT o (lo+(j:Int))=true/\j+1<=o.length/\lo+((j+1:Nat):Int)<=F)\/(uT o (lo+(j:Int))=false/\F=lo+(j:Int)):=by
     cases hu:uT o (lo+(j:Int)) with
     |true=>
      have hne:F≠lo+(j:Int):=fun e=>by rw [e,hu] at hfr;cases hfr
      exact Or.inl ⟨rfl,by omega,by omega⟩
     |false=>
      rcases Int.lt_or_eq_of_le hjF with h3|h3
      ·have:=s3 (lo+(j:Int)) (by omega) h3
       rw [hu] at this;cases this
      ·exact Or.inr ⟨rfl,h3.symm⟩
    rcases qf with ⟨hu,g1,g2⟩|⟨hu,g1⟩
    ·generalize uT o (lo+(j:Int))=b at *
     subst hu;have hmu:o.length - (j+1)<o.length - j:=by omega
     repeat' ((conv=>whnf);first|(exact ⟨j+1,⟨g1,g2⟩,hmu,by (repeat' (first|(exact leI hnx)|exact wJ|refine And.intro ?_ ?_));done⟩)|fail)
    ·generalize uT o (lo+(j:Int))=b at *
     subst hu;rw [g1,if_pos c]
     repeat' ((conv=>whnf);first|refine rix ?_|exact trivial)
  ·have hFh: ¬F<=hi:=by omega
   repeat' ((conv=>whnf);first|refine su c ?_|(exact ⟨(),hFh,by (repeat' (first|exact wJ|refine And.intro ?_ ?_));done⟩)|refine aS ?_|fail)
 ·rintro - hFh;rw [if_neg hFh]
  repeat' ((conv=>whnf);first|refine rix ?_|exact trivial)
abbrev vq(d:Dn):T:=.agg (d.h.map I++[.bool d.pass,esT d.st])
def zO(l:List Fd)(s:RS)(st:List RE)(h:List Int):Dn:=⟨(do5 l s (ofE st s.var) h).1,(do5 l s (ofE st s.var) h).2.1,st⟩
theorem BZ(l:List Fd)(s:RS)(st:List RE)(h:List Int):zO l s st h=match st.find? fun x=>decide (x.var=s.var)&&decide (x.n=(vj (fld l s.field) h:Int)) with
  |some e=>⟨wQ l s.key e.key h,true,st⟩
  |none=>⟨h,false,st⟩:=by
 have hfd:((ofE st s.var).find? fun x=>decide (x.n=(vj (fld l s.field) h:Int)))=st.find? fun x=>decide (x.var=s.var)&&decide (x.n=(vj (fld l s.field) h:Int)):=by
  unfold ofE;rw [List.find?_filter]
  congr 1
  funext a
  simp
 unfold zO do5;rw [<- hfd];split <;> rename_i h1 <;> rw [h1]
theorem JM{l:List Fd}{s:RS}{st:List RE}{h:List Int}(hl:LOk l)(hno:uA l ⟨#[]⟩=false)(hlen:st.length<2^40)(hkl:s.key.length<2^40)(hh:HOk h)(hfo:uA l s.field=true)(hvs: ∀x∈st,x.var=s.var->x.key.length=s.key.length/\ ∀v∈x.key,0<=v):
  DCalls Tryz.prog 59 [fds l,wG s,esT st,hd h] (vq (zO l s st h)):=by
 have hF:=Bl l hl s.field;rw [hfo] at hF;have hG:=t57 _ (yi hl hfo) _ hh;rw [BZ];obtain ⟨kk,var,key,field,n,m⟩:=s;dsimp only at hF hG hvs hkl hfo ⊢;obtain ⟨g,hg⟩: ∃g:Nat,g=vj (fld l field) h:=⟨_,rfl⟩
 rw [<- hg] at hG ⊢;obtain ⟨x0,x1,x2,x3,x4,x5,x6,x7,x8,x9,hx⟩:=ten hh;have hn:((st.map um).length:Int)=st.length:=by rw [List.length_map]
 have hm:((key.map T.str).length:Int)=key.length:=by rw [List.length_map]
 have main: ∀r:List T,(∀ (e:RE) (q:H10),st.find? (fun x=>decide (x.var=var)&&decide (x.n=(g:Int)))=some e->q.ls=wQ l key e.key h->r=q.ls.map I++[.bool true,esT st])->(st.find? (fun x=>decide (x.var=var)&&decide (x.n=(g:Int)))=none->r=h.map I++[.bool false,esT st])->
   DCalls Tryz.prog 59 [fds l,wG ⟨kk,var,key,field,n,m⟩,esT st,hd h] (.agg r):=fun r rs rn=>by
  refine dl2 mixed [.cell 8 46] [.agg r] Tryz.func59 Go.ST4.l59 ?_;subst hx;clear hg
  repeat' ((conv=>whnf);first|refine uc _ (hF) ?_|refine uc _ (hG) ?_|refine aS ?_|refine nT_ ?_)
  refine tx 0 (α:=Nat) (β:=Unit) (fun i=>{sl:=[(0,.t (fds l)),(2,.t (esT st)),(5,.ptr 5 0),(7,.ptr 7 0),(8,.ptr 8 0),(11,.t (I (g:Int))),(12,.t (I i))],bx:=[(5,.d 6 (uw ⟨kk,var,key,field,n,m⟩)),(7,.d 10 [I x0,I x1,I x2,I x3,I x4,I x5,I x6,I x7,I x8,I x9]),(8,.d 12 [I 0,I 0,I 0,I 0,I 0,I 0,I 0,I 0,I 0,I 0,.bool false,.nil])]})
   (fun i=>i<=st.length/\st.find? (fun x=>decide (x.var=var)&&decide (x.n=(g:Int)))=(st.drop i).find? (fun x=>decide (x.var=var)&&decide (x.n=(g:Int)))) (fun i=>st.length - i)
   (fun _=>{sl:=[(2,.t (esT st)),(7,.ptr 7 0),(8,.ptr 8 0)],bx:=[(7,.d 10 [I x0,I x1,I x2,I x3,I x4,I x5,I x6,I x7,I x8,I x9]),(8,.d 12 [I 0,I 0,I 0,I 0,I 0,I 0,I 0,I 0,I 0,I 0,.bool false,.nil])]}) (fun _=>st.find? (fun x=>decide (x.var=var)&&decide (x.n=(g:Int)))=none) 0 ⟨Nat.zero_le _,rfl⟩ ?_ ?_ ?_
  ·repeat' (first|exact wJ|refine And.intro ?_ ?_)
  ·rintro i ⟨hi,hfi⟩;rcases Nat.lt_or_ge i st.length with h|h
   ·have hlt:(i:Int)<((st.map um).length:Int):=by omega
    have hnx:((i+1:Nat):Int)=IntKind.wrap .i64 ((i:Int)+1):=by rw [nW] <;> omega
    have gU:=ggZ h;have Ac:=List.getElem_mem h;rw [List.drop_eq_getElem_cons h,List.find?_cons] at hfi;generalize st[i]=x at *
    obtain ⟨xv,xk,xn,xa⟩:=x;dsimp only at hfi;have he:=eqS xv var
    by_cases c1:xv=var
    ·rw [decide_eq_true c1] at he hfi
     by_cases c2:xn=(g:Int)
     ·rw [decide_eq_true c2] at hfi;have hfi:st.find? (fun x=>decide (x.var=var)&&decide (x.n=(g:Int)))=some ⟨xv,xk,xn,xa⟩:=hfi;obtain ⟨hlk,aH⟩:=hvs _ Ac c1;dsimp only at hlk aH;have hxl:((xk.map I).length:Int)=key.length:=by rw [List.length_map];omega
      repeat' ((conv=>whnf);first|refine sC hlt ?_|(refine nv_ (.str xv) (by first|(simp [gU,um,uk,T.cells];done)|fail) ?_)|(refine nv_ (I xn) (by first|(simp [gU,um,uk,T.cells];done)|fail) ?_)|refine nb_ _ he ?_|refine sE c2 ?_|(refine And.intro (by first|((simp [gU,um,uk,T.cells]);done)|fail) ?_)|refine aS ?_|refine nT_ ?_)
      refine tx 2 (α:=Nat×H10) (β:=H10) (fun q=>{sl:=[(0,.t (fds l)),(2,.t (esT st)),(5,.ptr 5 0),(7,.ptr 7 0),(8,.ptr 8 0),(11,.t (I (g:Int))),(12,.t (I i)),(13,.ptr 13 0),(14,.t (I q.1))],bx:=[(5,.d 6 (uw ⟨kk,var,key,field,n,m⟩)),(7,.d 10 [I x0,I x1,I x2,I x3,I x4,I x5,I x6,I x7,I x8,I x9]),(8,.d 12 [I 0,I 0,I 0,I 0,I 0,I 0,I 0,I 0,I 0,I 0,.bool false,.nil]),(13,.d 10 (q.2.ls.map I))]})
       (fun q=>q.1<=key.length/\q.2.ls=wQ l (key.take q.1) (xk.take q.1) [x0,x1,x2,x3,x4,x5,x6,x7,x8,x9]) (fun q=>key.length - q.1)
       (fun q=>{sl:=[(2,.t (esT st)),(8,.ptr 8 0),(13,.ptr 13 0)],bx:=[(8,.d 12 [I 0,I 0,I 0,I 0,I 0,I 0,I 0,I 0,I 0,I 0,.bool false,.nil]),(13,.d 10 (q.ls.map I))]}) (fun q=>q.ls=wQ l key xk [x0,x1,x2,x3,x4,x5,x6,x7,x8,x9]) (0,⟨x0,x1,x2,x3,x4,x5,x6,x7,x8,x9⟩) ⟨Nat.zero_le _,rfl⟩ ?_ ?_ ?_
      ·repeat' (first|exact wJ|refine And.intro ?_ ?_)
      ·rintro ⟨j,q⟩ ⟨hj,hq⟩;dsimp only at hj hq;rcases Nat.lt_or_ge j key.length with h2|h2
       ·have vV:(j:Int)<((key.map T.str).length:Int):=by omega
        have Mf:((j+1:Nat):Int)=IntKind.wrap .i64 ((j:Int)+1):=by rw [nW] <;> omega
        have hi2:j<xk.length:=by omega
        have hHq:HOk q.ls:=by rw [hq];exact yG hl hh fun v hv=>aH v (List.mem_of_mem_take hv)
        have hp0:0<=xk[j]:=aH _ (List.getElem_mem hi2);have hW:=EK l hl hno q.ls hHq key[j] xk[j] hp0;have hsn:wQ l (key.take (j+1)) (xk.take (j+1)) [x0,x1,x2,x3,x4,x5,x6,x7,x8,x9]=wrF l q.ls key[j] xk[j]:=by
         rw [List.take_succ_eq_append_getElem h2,List.take_succ_eq_append_getElem hi2,Ba _ _ _ _ _ _ (by rw [List.length_take,List.length_take];omega),hq]
        have hst:(key.map T.str)[((j:Int)).toNat]?.getD .nil= .str key[j]:=by simp [h2]
        have hsv:(xk.map I)[((j:Int)).toNat]?.getD .nil=I xk[j]:=by simp [hi2]
        obtain ⟨y0,y1,y2,y3,y4,y5,y6,y7,y8,y9,hy⟩:=ten (xw hl hHq (name:=key[j]) hp0);rw [hy] at hW hsn;have hjr:0<=(j:Int)/\(j:Int)<((xk.map I).length:Int):=by omega
        have hir:0<=(i:Int)/\(i:Int)<((st.map um).length:Int):=by omega
        generalize key[j]=nm at *
        generalize xk[j]=vl at *
        obtain ⟨z0,z1,z2,z3,z4,z5,z6,z7,z8,z9⟩:=q;have hmu:key.length - (j+1)<key.length - j:=by omega
        repeat' ((conv=>whnf);first|refine sC vV ?_|(refine nv_ (.str nm) (by first|exact hst) ?_)|(refine nv_ (.slice 1 (xk.map I)) (by first|(simp [gU,um,uk,T.cells];done)|fail) ?_)|(refine nv_ (I vl) (by first|exact hsv) ?_)|refine uc _ (hW) ?_|(exact ⟨(j+1,⟨y0,y1,y2,y3,y4,y5,y6,y7,y8,y9⟩),⟨h2,hsn.symm⟩,hmu,by (repeat' (first|(exact leI Mf)|exact wJ|refine And.intro ?_ ?_));done⟩)|(refine And.intro (by first|exact hjr|exact hir|((simp [gU,um,uk,T.cells]);done)|fail) ?_)|refine aS ?_|refine nT_ ?_)
       ·have vV: ¬(j:Int)<((key.map T.str).length:Int):=by omega
        have hq2:q.ls=wQ l key xk [x0,x1,x2,x3,x4,x5,x6,x7,x8,x9]:=by rw [hq,List.take_of_length_le h2,List.take_of_length_le (by omega)]
        repeat' ((conv=>whnf);first|refine su vV ?_|(exact ⟨q,hq2,by (repeat' (first|exact wJ|refine And.intro ?_ ?_));done⟩)|refine aS ?_|refine nT_ ?_)
      ·rintro q hq;have hr:=rs _ q hfi hq;subst hr;obtain ⟨z0,z1,z2,z3,z4,z5,z6,z7,z8,z9⟩:=q
       repeat' ((conv=>whnf);first|refine aS ?_|exact trivial)
     ·rw [decide_eq_false c2] at hfi
      repeat' ((conv=>whnf);first|refine sC hlt ?_|(refine nv_ (.str xv) (by first|(simp [gU,um,uk,T.cells];done)|fail) ?_)|(refine nv_ (I xn) (by first|(simp [gU,um,uk,T.cells];done)|fail) ?_)|refine nb_ _ he ?_|refine sD c2 ?_|(exact ⟨i+1,⟨h,hfi⟩,(by omega),by (repeat' (first|(exact leI hnx)|exact wJ|refine And.intro ?_ ?_));done⟩)|(refine And.intro (by first|((simp [gU,um,uk,T.cells]);done)|fail) ?_)|refine aS ?_|refine nT_ ?_)
    ·rw [decide_eq_false c1] at he hfi
     repeat' ((conv=>whnf);first|refine sC hlt ?_|(refine nv_ (.str xv) (by first|(simp [gU,um,uk,T.cells];done)|fail) ?_)|refine nb_ _ he ?_|(exact ⟨i+1,⟨h,hfi⟩,(by omega),by (repeat' (first|(exact leI hnx)|exact wJ|refine And.intro ?_ ?_));done⟩)|(refine And.intro (by first|((simp [gU,um,uk,T.cells]);done)|fail) ?_)|refine aS ?_|refine nT_ ?_)
   ·have hlt: ¬(i:Int)<((st.map um).length:Int):=by omega
    rw [List.drop_eq_nil_of_le h] at hfi
    repeat' ((conv=>whnf);first|refine su hlt ?_|(exact ⟨(),hfi,by (repeat' (first|exact wJ|refine And.intro ?_ ?_));done⟩)|refine aS ?_|fail)
  ·rintro - cG;have hr:=rn cG;subst hr
   repeat' ((conv=>whnf);first|refine aS ?_|exact trivial)
 cases hfd:st.find? (fun x=>decide (x.var=var)&&decide (x.n=(g:Int))) with
 |none=>
  exact main _ (fun e q h1=>by rw [hfd] at h1;cases h1) (fun _=>rfl)
 |some x=>
  refine main _ (fun e q h1 h2=>?_) (fun h1=>by rw [hfd] at h1;cases h1);rw [hfd] at h1;cases h1;rw [h2]
theorem HY{l:List Fd}{s:RS}{st:List RE}{h:List Int}{tick:Int}(hh:HOk h)(hk0:s.kind=0):DCalls Tryz.prog 12 [fds l,wG s,esT st,hd h,I tick] (vq (doE l s st h tick)):=by
 have hd0:doE l s st h tick=⟨h,true,st⟩:=by unfold doE Au doR;rw [if_pos hk0];rfl
 rw [hd0];obtain ⟨x0,x1,x2,x3,x4,x5,x6,x7,x8,x9,rfl⟩:=ten hh;obtain ⟨kk,var,key,field,n,m⟩:=s;dsimp only at hk0;subst hk0;refine dl2 mixed [.cell 10 46] [vq _] Tryz.func12 Go.ST4.l12 ?_
 repeat' ((conv=>whnf);first|exact trivial|refine aE1 ?_|refine aS ?_|refine nT_ ?_)
theorem Ik(f:Option RE): ∃(ev:ByteArray) (kt:T) (en ea:Int),GW f= .tup [.agg [.str ev,kt,I en,I ea],.bool f.isSome]/\en=(f.map (·.n)).getD 0/\(∀ x,f=some x->en=x.n/\ea=x.at_):=by
 cases f with
 |none=>exact ⟨_,_,_,_,rfl,rfl,fun x h=>by cases h⟩
 |some x=>exact ⟨_,_,_,_,rfl,rfl,fun y h=>by cases h;exact ⟨rfl,rfl⟩⟩
theorem Np{l:List Fd}{s:RS}{st:List RE}{h:List Int}{tick:Int}(p:BY l s st h tick)(hko: ∀x∈st,kOk x):DCalls Tryz.prog 12 [fds l,wG s,esT st,hd h,I tick] (vq (doE l s st h tick)):=by
 by_cases hk0:s.kind=0
 ·exact HY p.hok hk0
 obtain ⟨f,hf⟩: ∃f,f=uB st s.var (keyOf l s.key h):=⟨_,rfl⟩
 obtain ⟨o,ho⟩: ∃o,o=ofE st s.var:=⟨_,rfl⟩
 have hlen:=p.len;have hol:o.length<=1000000:=by rw [ho];exact Nat.le_trans (List.length_filter_le _ _) hlen
 have G1:(keyOf l s.key h).length<=1000:=by unfold keyOf;rw [List.length_map];exact p.klen
 have vk: ∀x,f=some x->0<=x.n/\x.n<=65535/\0<=x.at_/\x.at_<=1073741824:=fun x hx=>by
  rw [hf] at hx;exact p.num x (wx hx).1
 have fc: ∀n a,DCalls Tryz.prog 62 [esT st,.agg [.str s.var,.slice 1 ((keyOf l s.key h).map I),I n,I a]] (esT (uS ⟨s.var,keyOf l s.key h,n,a⟩ st)):=fun n a=>by
  have:=KH st (by omega) hko ⟨s.var,keyOf l s.key h,n,a⟩ (show (keyOf l s.key h).length<2^60 by omega)
  rwa [Gs p.inc] at this
 have qm:doE l s st h tick=⟨(doR l s f o h tick).1,(doR l s f o h tick).2.1,cN (doR l s f o h tick).2.2 st⟩:=by unfold doE Au;rw [<- hf, <-ho]
 have uL:uY f o=(!f.isSome&&decide (100<=o.length)):=by unfold uY;rw [xL]
 have ht0:=p.t0;have ht1:=p.t1;have wK:=KG l p.lok s.key p.keys (by have:=p.klen;omega) h p.hok;have vd:=JK st (by omega) hko s.var (keyOf l s.key h) (by omega);rw [<- hf] at vd;have yQ:=EJ st s.var (by omega);have hcn:uD st s.var=o.length:=by rw [ho];rfl
 rw [hcn] at yQ;obtain ⟨ev,kt,en,ea,hfg,hen,gX⟩:=Ik f;rw [hfg] at vd;have hW:=fun (n:Int) (h0:0<=n)=>EK l p.lok p.no h p.hok s.field n h0
 have hHW:=fun (n:Int) (h0:0<=n)=>ten (xw p.lok p.hok (name:=s.field) h0)
 have heb:0<=en/\en<=65535:=by
  cases f with
  |none=>rw [hen];exact ⟨Int.le_refl 0,(by show (0:Int)<=65535;omega)⟩
  |some x=>obtain ⟨g1,g2⟩:=gX x rfl;have:=vk x rfl;omega
 have hkp:=p.k0;have NG:=p.k1;have Fg:s.kind=1\/s.kind=2\/s.kind=3\/s.kind=4\/s.kind=5\/s.kind=6:=by omega
 have hgo:(f.isSome=true/\uY f o=false)\/(f.isSome=false/\(o.length:Int)>=100/\uY f o=true)\/(f.isSome=false/\ ¬(o.length:Int)>=100/\uY f o=false):=by
  rw [uL];cases f.isSome with
  |true=>exact Or.inl ⟨rfl,rfl⟩
  |false=>
   by_cases c:100<=o.length
   ·exact Or.inr (Or.inl ⟨rfl,by omega,by rw [decide_eq_true c];rfl⟩)
   ·exact Or.inr (Or.inr ⟨rfl,by omega,by rw [decide_eq_false c];rfl⟩)
 have hd1:s.kind=1->doR l s f o h tick=do1 l s f o h tick (keyOf l s.key h):=fun e=>by unfold doR;rw [if_neg hk0,if_pos e]
 have hd2:s.kind=2->doR l s f o h tick=do2 s f o h tick (keyOf l s.key h):=fun e=>by unfold doR;rw [if_neg hk0,if_neg (by omega),if_pos e]
 have hd3:s.kind=3->doR l s f o h tick=do3 s f h tick:=fun e=>by unfold doR;rw [if_neg hk0,if_neg (by omega),if_neg (by omega),if_pos e]
 have hd4:s.kind=4->doR l s f o h tick=do4 l s f o h tick (keyOf l s.key h):=fun e=>by unfold doR;rw [if_neg hk0,if_neg (by omega),if_neg (by omega),if_neg (by omega),if_pos e]
 have hd5:s.kind=5->doR l s f o h tick=do5 l s o h:=fun e=>by unfold doR;rw [if_neg hk0,if_neg (by omega),if_neg (by omega),if_neg (by omega),if_neg (by omega),if_pos e]
 have hd6:s.kind=6->doR l s f o h tick=do6 s f o h tick (keyOf l s.key h):=fun e=>by unfold doR;rw [if_neg hk0,if_neg (by omega),if_neg (by omega),if_neg (by omega),if_neg (by omega),if_neg (by omega)]
 obtain ⟨x0,x1,x2,x3,x4,x5,x6,x7,x8,x9,hx⟩:=ten p.hok;have hk3:=p.k3;have hk4:=p.k4;have hk5:=p.k5;have hk6:=p.k6;have Ju:=p.lok;have hno:=p.no;have wo:=p.hok;have wE:=p.inc;have NA:=p.klen;clear p;rcases Fg with hk|hk|hk|hk|hk|hk
 ·have hN:(if (65535:Int)<IntKind.wrap .i64 (en+1) then 65535 else IntKind.wrap .i64 (en+1))=min (en+1) 65535:=by rw [nW (by omega) (by omega)];split <;> omega
  have hW1:=hW (min (en+1) 65535) (by omega);obtain ⟨y0,y1,y2,y3,y4,y5,y6,y7,y8,y9,hy⟩:=hHW (min (en+1) 65535) (by omega);have hP1:=fc (min (en+1) 65535) tick;rw [hy] at hW1;have hdd:uY f o=false->doE l s st h tick=⟨[y0,y1,y2,y3,y4,y5,y6,y7,y8,y9],true,uS ⟨s.var,keyOf l s.key h,min (en+1) 65535,tick⟩ st⟩:=fun hfu=>by rw [qm,hd1 hk];unfold do1;rw [hfu, <-hen,hy];rfl
  rw [<- hN] at hW1 hP1 hdd;clear hN hy;rcases hgo with ⟨hi,hfu⟩|⟨hi,hc,hfu⟩|⟨hi,hc,hfu⟩ <;> rw [hi] at vd
  ·have hD:=hdd hfu;rw [hD];clear hdd;clear hW hHW fc qm hen gX vk uL hd1 hd2 hd3 hd4 hd5 hd6 hD hfg hf ho hko wo wE;generalize keyOf l s.key h=ky at *
   obtain ⟨kk,var,key,field,n,m⟩:=s;dsimp only at *
   subst hk;subst hx;refine dl2 mixed [.cell 10 46] [vq _] Tryz.func12 Go.ST4.l12 ?_
   repeat' ((conv=>whnf);first|exact trivial|refine uc _ (wK) ?_|refine uc _ (vd) ?_|refine uc _ (hW1) ?_|refine uc _ (hP1) ?_|refine aE1 ?_|refine aE0 ?_|refine aS ?_|refine nT_ ?_)
  ·have hD:doE l s st h tick=⟨h,false,st⟩:=by rw [qm,hd1 hk];unfold do1;rw [hfu];rfl
   rw [hD];clear hdd;clear hW hHW fc qm hen gX vk uL hd1 hd2 hd3 hd4 hd5 hd6 hD hfg hf ho hko wo wE;generalize keyOf l s.key h=ky at *
   obtain ⟨kk,var,key,field,n,m⟩:=s;dsimp only at *
   subst hk;subst hx;refine dl2 mixed [.cell 10 46] [vq _] Tryz.func12 Go.ST4.l12 ?_
   repeat' ((conv=>whnf);first|exact trivial|refine uc _ (wK) ?_|refine uc _ (vd) ?_|refine uc _ (yQ) ?_|refine sC hc ?_|refine aE0 ?_|refine aS ?_|refine nT_ ?_)
  ·have hD:=hdd hfu;rw [hD];clear hdd;clear hW hHW fc qm hen gX vk uL hd1 hd2 hd3 hd4 hd5 hd6 hD hfg hf ho hko wo wE;generalize keyOf l s.key h=ky at *
   obtain ⟨kk,var,key,field,n,m⟩:=s;dsimp only at *
   subst hk;subst hx;refine dl2 mixed [.cell 10 46] [vq _] Tryz.func12 Go.ST4.l12 ?_
   repeat' ((conv=>whnf);first|exact trivial|refine uc _ (wK) ?_|refine uc _ (vd) ?_|refine uc _ (yQ) ?_|refine su hc ?_|refine uc _ (hW1) ?_|refine uc _ (hP1) ?_|refine aE1 ?_|refine aE0 ?_|refine aS ?_|refine nT_ ?_)
 ·have hP1:=fc en tick;rcases hgo with ⟨hi,hfu⟩|⟨hi,hc,hfu⟩|⟨hi,hc,hfu⟩ <;> rw [hi] at vd
  ·have hD:doE l s st h tick=⟨h,true,uS ⟨s.var,keyOf l s.key h,en,tick⟩ st⟩:=by rw [qm,hd2 hk];unfold do2;rw [hfu, <-hen];rfl
   rw [hD];clear hW hHW fc qm hen gX vk uL hd1 hd2 hd3 hd4 hd5 hd6 hD hfg hf ho hko wo wE;generalize keyOf l s.key h=ky at *
   obtain ⟨kk,var,key,field,n,m⟩:=s;dsimp only at *
   subst hk;subst hx;refine dl2 mixed [.cell 10 46] [vq _] Tryz.func12 Go.ST4.l12 ?_
   repeat' ((conv=>whnf);first|exact trivial|refine uc _ (wK) ?_|refine uc _ (vd) ?_|refine uc _ (hP1) ?_|refine aE1 ?_|refine aE0 ?_|refine aS ?_|refine nT_ ?_)
  ·have hD:doE l s st h tick=⟨h,false,st⟩:=by rw [qm,hd2 hk];unfold do2;rw [hfu];rfl
   rw [hD];clear hW hHW fc qm hen gX vk uL hd1 hd2 hd3 hd4 hd5 hd6 hD hfg hf ho hko wo wE;generalize keyOf l s.key h=ky at *
   obtain ⟨kk,var,key,field,n,m⟩:=s;dsimp only at *
   subst hk;subst hx;refine dl2 mixed [.cell 10 46] [vq _] Tryz.func12 Go.ST4.l12 ?_
   repeat' ((conv=>whnf);first|exact trivial|refine uc _ (wK) ?_|refine uc _ (vd) ?_|refine uc _ (yQ) ?_|refine sC hc ?_|refine aE0 ?_|refine aS ?_|refine nT_ ?_)
  ·have hD:doE l s st h tick=⟨h,true,uS ⟨s.var,keyOf l s.key h,en,tick⟩ st⟩:=by rw [qm,hd2 hk];unfold do2;rw [hfu, <-hen];rfl
   rw [hD];clear hW hHW fc qm hen gX vk uL hd1 hd2 hd3 hd4 hd5 hd6 hD hfg hf ho hko wo wE;generalize keyOf l s.key h=ky at *
   obtain ⟨kk,var,key,field,n,m⟩:=s;dsimp only at *
   subst hk;subst hx;refine dl2 mixed [.cell 10 46] [vq _] Tryz.func12 Go.ST4.l12 ?_
   repeat' ((conv=>whnf);first|exact trivial|refine uc _ (wK) ?_|refine uc _ (vd) ?_|refine uc _ (yQ) ?_|refine su hc ?_|refine uc _ (hP1) ?_|refine aE1 ?_|refine aE0 ?_|refine aS ?_|refine nT_ ?_)
 ·obtain ⟨q1,q2⟩:=hk3 hk;cases hfs:f with
  |none=>
   have hi:f.isSome=false:=by rw [hfs];rfl
   rw [hi] at vd;have hD:doE l s st h tick=⟨h,false,st⟩:=by rw [qm,hd3 hk,hfs];rfl
   rw [hD];clear hgo hfs;clear hW hHW fc qm hen gX vk uL hd1 hd2 hd3 hd4 hd5 hd6 hD hfg hf ho hko wo wE;generalize keyOf l s.key h=ky at *
   obtain ⟨kk,var,key,field,n,m⟩:=s;dsimp only at *
   subst hk;subst hx;refine dl2 mixed [.cell 10 46] [vq _] Tryz.func12 Go.ST4.l12 ?_
   repeat' ((conv=>whnf);first|exact trivial|refine uc _ (wK) ?_|refine uc _ (vd) ?_|refine aE1 ?_|refine aE0 ?_|refine aS ?_|refine nT_ ?_)
  |some x=>
   have hi:f.isSome=true:=by rw [hfs];rfl
   rw [hi] at vd;obtain ⟨g1,g2⟩:=gX x hfs;obtain ⟨b1,b2,b3,b4⟩:=vk x hfs;have hw:IntKind.wrap .i64 (tick - s.n)=tick - s.n:=nW (by omega) (by omega)
   by_cases c:ea>=IntKind.wrap .i64 (tick - s.n)
   ·have hD:doE l s st h tick=⟨h,true,st⟩:=by
     rw [qm,hd3 hk,hfs];show (Dn.mk h (decide (x.at_>=tick - s.n)) st)=_
     rw [<- g2,decide_eq_true (by rw [hw] at c;exact c)]
    rw [hD];clear hgo hfs hw;clear hW hHW fc qm hen gX vk uL hd1 hd2 hd3 hd4 hd5 hd6 hD hfg hf ho hko wo wE;generalize keyOf l s.key h=ky at *
    obtain ⟨kk,var,key,field,n,m⟩:=s;dsimp only at *
    subst hk;subst hx;refine dl2 mixed [.cell 10 46] [vq _] Tryz.func12 Go.ST4.l12 ?_
    repeat' ((conv=>whnf);first|exact trivial|refine uc _ (wK) ?_|refine uc _ (vd) ?_|refine sC c ?_|refine aE1 ?_|refine aE0 ?_|refine aS ?_|refine nT_ ?_)
   ·have hD:doE l s st h tick=⟨h,false,st⟩:=by
     rw [qm,hd3 hk,hfs];show (Dn.mk h (decide (x.at_>=tick - s.n)) st)=_
     rw [<- g2,decide_eq_false (by rw [hw] at c;exact c)]
    rw [hD];clear hgo hfs hw;clear hW hHW fc qm hen gX vk uL hd1 hd2 hd3 hd4 hd5 hd6 hD hfg hf ho hko wo wE;generalize keyOf l s.key h=ky at *
    obtain ⟨kk,var,key,field,n,m⟩:=s;dsimp only at *
    subst hk;subst hx;refine dl2 mixed [.cell 10 46] [vq _] Tryz.func12 Go.ST4.l12 ?_
    repeat' ((conv=>whnf);first|exact trivial|refine uc _ (wK) ?_|refine uc _ (vd) ?_|refine su c ?_|refine aE1 ?_|refine aE0 ?_|refine aS ?_|refine nT_ ?_)
 ·obtain ⟨b1,b2,b3,b4⟩:=hk4 hk;have hFr:=JO st s.var (by omega) s.n s.m ⟨b1,b2⟩ (by omega);rw [show ofE st s.var=o from ho.symm] at hFr;unfold Fa at hFr;have hsp:=xI o o.length s.n;obtain ⟨F,hFF⟩: ∃F,F=vr o o.length s.n:=⟨_,rfl⟩
  rw [<- hFF] at hFr hsp;have hdT: ∀N,wq s f o=N->0<=N->(uY f o||(f.isNone&&decide (N>s.m)))=false-> ∃y0 y1 y2 y3 y4 y5 y6 y7 y8 y9,DCalls Tryz.prog 61 [fds l,hd h,.str s.field,I N] (hd [y0,y1,y2,y3,y4,y5,y6,y7,y8,y9])/\doE l s st h tick=⟨[y0,y1,y2,y3,y4,y5,y6,y7,y8,y9],true,uS ⟨s.var,keyOf l s.key h,N,tick⟩ st⟩:=fun N hN h0 hfu=>by
   obtain ⟨y0,y1,y2,y3,y4,y5,y6,y7,y8,y9,hy⟩:=hHW N h0;have hW1:=hW N h0;rw [hy] at hW1;refine ⟨y0,y1,y2,y3,y4,y5,y6,y7,y8,y9,hW1,?_⟩;rw [qm,hd4 hk];unfold do4;rw [hN,hfu,hy];rfl
  have hdF: ∀N,wq s f o=N->(uY f o||(f.isNone&&decide (N>s.m)))=true->doE l s st h tick=⟨h,false,st⟩:=fun N hN hfu=>by
   rw [qm,hd4 hk];unfold do4;rw [hN,hfu];rfl
  rcases hgo with ⟨hi,hfu⟩|⟨hi,hc,hfu⟩|⟨hi,hc,hfu⟩ <;> rw [hi] at vd
  ·have hN:wq s f o=en:=by
    cases f with
    |none=>cases hi
    |some x=>exact (gX x rfl).1.symm
   obtain ⟨y0,y1,y2,y3,y4,y5,y6,y7,y8,y9,hW1,hD⟩:=hdT en hN heb.1 (by rw [hfu,xL,hi];rfl);have hP1:=fc en tick;have hn0: ¬en<0:=by omega
   rw [hD];clear hdT hdF hFr hsp hFF hN;clear hW hHW fc qm hen gX vk uL hd1 hd2 hd3 hd4 hd5 hd6 hD hfg hf ho hko wo wE;generalize keyOf l s.key h=ky at *
   obtain ⟨kk,var,key,field,n,m⟩:=s;dsimp only at *
   subst hk;subst hx;refine dl2 mixed [.cell 10 46] [vq _] Tryz.func12 Go.ST4.l12 ?_
   repeat' ((conv=>whnf);first|exact trivial|refine uc _ (wK) ?_|refine uc _ (vd) ?_|refine su hn0 ?_|refine uc _ (hW1) ?_|refine uc _ (hP1) ?_|refine aE1 ?_|refine aE0 ?_|refine aS ?_|refine nT_ ?_)
  ·have hD:=hdF _ rfl (by rw [hfu];rfl);rw [hD];clear hdT hdF hFr hsp hFF;clear hW hHW fc qm hen gX vk uL hd1 hd2 hd3 hd4 hd5 hd6 hD hfg hf ho hko wo wE;generalize keyOf l s.key h=ky at *
   obtain ⟨kk,var,key,field,n,m⟩:=s;dsimp only at *
   subst hk;subst hx;refine dl2 mixed [.cell 10 46] [vq _] Tryz.func12 Go.ST4.l12 ?_
   repeat' ((conv=>whnf);first|exact trivial|refine uc _ (wK) ?_|refine uc _ (vd) ?_|refine uc _ (yQ) ?_|refine sC hc ?_|refine aE0 ?_|refine aS ?_|refine nT_ ?_)
  ·have hN:wq s f o=F:=by
    cases f with
    |none=>exact hFF.symm
    |some x=>cases hi
   by_cases c:F<=s.m
   ·rw [if_pos c] at hFr;obtain ⟨y0,y1,y2,y3,y4,y5,y6,y7,y8,y9,hW1,hD⟩:=hdT F hN (by omega) (by rw [hfu,decide_eq_false (by omega),Bool.and_false];rfl);have hP1:=fc F tick;have hn0: ¬F<0:=by omega
    rw [hD];clear hdT hdF hsp hFF hN;clear hW hHW fc qm hen gX vk uL hd1 hd2 hd3 hd4 hd5 hd6 hD hfg hf ho hko wo wE;generalize keyOf l s.key h=ky at *
    obtain ⟨kk,var,key,field,n,m⟩:=s;dsimp only at *
    subst hk;subst hx;refine dl2 mixed [.cell 10 46] [vq _] Tryz.func12 Go.ST4.l12 ?_
    repeat' ((conv=>whnf);first|exact trivial|refine uc _ (wK) ?_|refine uc _ (vd) ?_|refine uc _ (yQ) ?_|refine su hc ?_|refine uc _ (hFr) ?_|refine su hn0 ?_|refine uc _ (hW1) ?_|refine uc _ (hP1) ?_|refine aE1 ?_|refine aE0 ?_|refine aS ?_|refine nT_ ?_)
   ·rw [if_neg c] at hFr;have hD:=hdF F hN (by rw [xL,hi,decide_eq_true (by omega)];simp);rw [hD];clear hdT hdF hsp hFF hN;clear hW hHW fc qm hen gX vk uL hd1 hd2 hd3 hd4 hd5 hd6 hD hfg hf ho hko wo wE;generalize keyOf l s.key h=ky at *
    obtain ⟨kk,var,key,field,n,m⟩:=s;dsimp only at *
    subst hk;subst hx;refine dl2 mixed [.cell 10 46] [vq _] Tryz.func12 Go.ST4.l12 ?_
    repeat' ((conv=>whnf);first|exact trivial|refine uc _ (wK) ?_|refine uc _ (vd) ?_|refine uc _ (yQ) ?_|refine su hc ?_|refine uc _ (hFr) ?_|refine aE1 ?_|refine aE0 ?_|refine aN1 ?_|refine aS ?_|refine nT_ ?_)
 ·obtain ⟨b1,b2⟩:=hk5 hk;have hB:=JM (s:=s) (st:=st) Ju hno (by omega) (by omega) wo b1 (fun x hx hv=>b2 x hx hv);have hDb:doE l s st h tick=zO l s st h:=by
   rw [qm,hd5 hk,zO, <-ho];unfold do5;split <;> rfl
  obtain ⟨y0,y1,y2,y3,y4,y5,y6,y7,y8,y9,hy⟩: ∃y0 y1 y2 y3 y4 y5 y6 y7 y8 y9,(zO l s st h).h=[y0,y1,y2,y3,y4,y5,y6,y7,y8,y9]:=by
   rw [BZ];split
   ·rename_i x hx2;have hm:=List.mem_of_find?_eq_some hx2;have hv:=List.find?_some hx2;rw [Bool.and_eq_true] at hv;exact ten (yG Ju wo (b2 x hm (of_decide_eq_true hv.1)).2)
   ·exact ten wo
  rw [hDb];generalize zO l s st h=D at *
  obtain ⟨dh,dp,ds⟩:=D;dsimp only at hy;subst hy;clear hW hHW fc hgo qm hen gX vk uL hd1 hd2 hd3 hd4 hd5 hd6 hDb hfg hf ho hko wo wE;generalize keyOf l s.key h=ky at *
  obtain ⟨kk,var,key,field,n,m⟩:=s;dsimp only at *
  subst hk;subst hx;refine dl2 mixed [.cell 10 46] [vq _] Tryz.func12 Go.ST4.l12 ?_
  repeat' ((conv=>whnf);first|exact trivial|refine uc _ (hB) ?_|refine aE1 ?_|refine aE0 ?_|refine aS ?_|refine nT_ ?_)
 ·obtain ⟨b1,b2,b3,b4⟩:=hk6 hk;obtain ⟨tn,htn⟩: ∃tn,tn=xE s f (keyOf l s.key h) tick:=⟨_,rfl⟩
  have hTk: ∀n2 a2,(f.isSome=true->n2=en/\a2=ea)->(f.isSome=false->n2=s.n/\a2=tick)->DCalls Tryz.prog 64 [wG s,.agg [.str s.var,.slice 1 ((keyOf l s.key h).map I),I n2,I a2],I tick] (.agg [.str s.var,.slice 1 ((keyOf l s.key h).map I),I tn.n,I tn.at_])/\0<=tn.n/\tn.n<=2^40:=fun n2 a2 g1 g2=>by
   have hb:0<=n2/\n2<=65535/\0<=a2/\a2<=1073741824/\xE s f (keyOf l s.key h) tick=vY s ⟨s.var,keyOf l s.key h,n2,a2⟩ tick:=by
    cases f with
    |none=>obtain ⟨e1,e2⟩:=g2 rfl;subst e1;subst e2;exact ⟨by omega,by omega,by omega,by omega,rfl⟩
    |some x=>
     obtain ⟨e1,e2⟩:=g1 rfl;obtain ⟨e3,e4⟩:=gX x rfl
     have:=vk x rfl
     obtain ⟨q1,q2,q3⟩:=wx hf.symm;refine ⟨by omega,by omega,by omega,by omega,?_⟩;show vY s x tick=_
     rw [e1,e2,e3,e4, <-q2, <-q3]
   obtain ⟨c1,c2,c3,c4,c5⟩:=hb;have hT:=IP s ⟨s.var,keyOf l s.key h,n2,a2⟩ tick ⟨b1,b2⟩ ⟨b3,b4⟩ ⟨ht0,ht1⟩ ⟨c1,c2⟩ ⟨c3,c4⟩;have NF:0<=(if tick>a2 then (tick - a2).tdiv s.m else 0)/\(if tick>a2 then (tick - a2).tdiv s.m else 0)<=1073741824:=by
    split
    ·have:=Int.tdiv_le_self (a:=tick - a2) s.m (by omega)
     exact ⟨Int.tdiv_nonneg (by omega) (by omega),by omega⟩
    ·exact ⟨Int.le_refl 0,by omega⟩
   have hp:(vY s ⟨s.var,keyOf l s.key h,n2,a2⟩ tick).var=s.var/\(vY s ⟨s.var,keyOf l s.key h,n2,a2⟩ tick).key=keyOf l s.key h/\0<=(vY s ⟨s.var,keyOf l s.key h,n2,a2⟩ tick).n/\(vY s ⟨s.var,keyOf l s.key h,n2,a2⟩ tick).n<=2^40:=by
    unfold vY;dsimp only;generalize (if tick>a2 then (tick - a2).tdiv s.m else 0)=k at *
    split
    ·exact ⟨rfl,rfl,by dsimp only;omega,by dsimp only;omega⟩
    ·exact ⟨rfl,rfl,by dsimp only;omega,by dsimp only;omega⟩
   rw [<- c5, <-htn] at hT hp;obtain ⟨p1,p2,p3,p4⟩:=hp;refine ⟨?_,p3,p4⟩
   have:um tn= .agg [.str s.var,.slice 1 ((keyOf l s.key h).map I),I tn.n,I tn.at_]:=by unfold um uk;rw [p1,p2]
   rw [<- this];exact hT
  have hdF:uY f o=true->doE l s st h tick=⟨h,false,st⟩:=fun hfu=>by rw [qm,hd6 hk];unfold do6;rw [hfu];rfl
  have hdP:uY f o=false->tn.n>0->doE l s st h tick=⟨h,true,uS ⟨s.var,keyOf l s.key h,tn.n - 1,tn.at_⟩ st⟩:=fun hfu c=>by rw [qm,hd6 hk];unfold do6;rw [<- htn,hfu,if_neg (by simp),if_pos c];rfl
  have hdN:uY f o=false-> ¬tn.n>0->doE l s st h tick=⟨h,false,uS ⟨s.var,keyOf l s.key h,tn.n,tn.at_⟩ st⟩:=fun hfu c=>by rw [qm,hd6 hk];unfold do6;rw [<- htn,hfu,if_neg (by simp),if_neg c];rfl
  rcases hgo with ⟨hi,hfu⟩|⟨hi,hc,hfu⟩|⟨hi,hc,hfu⟩ <;> rw [hi] at vd
  ·obtain ⟨hT,hT0,hT1⟩:=hTk en ea (fun _=>⟨rfl,rfl⟩) (fun hh=>by rw [hi] at hh;cases hh);have hwn:W64 (tn.n - 1)=tn.n - 1:=nW (by omega) (by omega)
   by_cases c:tn.n>0
   ·have hD:=hdP hfu c;have hP1:=fc (tn.n - 1) tn.at_;have hz: ¬tn.n=0:=by omega
    rw [hD];rw [<- hwn] at hP1 ⊢;clear hdF hdP hdN hTk htn hwn;clear hW hHW fc qm hen gX vk uL hd1 hd2 hd3 hd4 hd5 hd6 hD hfg hf ho hko wo wE;generalize keyOf l s.key h=ky at *
    obtain ⟨kk,var,key,field,n,m⟩:=s;dsimp only at *
    subst hk;subst hx;refine dl2 mixed [.cell 10 46] [vq _] Tryz.func12 Go.ST4.l12 ?_
    repeat' ((conv=>whnf);first|exact trivial|refine uc _ (wK) ?_|refine uc _ (vd) ?_|refine uc _ (hT) ?_|refine sD hz ?_|refine uc _ (hP1) ?_|refine aE0 ?_|refine aS ?_|refine nT_ ?_)
   ·have hD:=hdN hfu c;have hP1:=fc tn.n tn.at_;have hz:tn.n=0:=by omega
    rw [hD];clear hdF hdP hdN hTk htn hwn;clear hW hHW fc qm hen gX vk uL hd1 hd2 hd3 hd4 hd5 hd6 hD hfg hf ho hko wo wE;generalize keyOf l s.key h=ky at *
    obtain ⟨kk,var,key,field,n,m⟩:=s;dsimp only at *
    subst hk;subst hx;refine dl2 mixed [.cell 10 46] [vq _] Tryz.func12 Go.ST4.l12 ?_
    repeat' ((conv=>whnf);first|exact trivial|refine uc _ (wK) ?_|refine uc _ (vd) ?_|refine uc _ (hT) ?_|refine sE hz ?_|refine uc _ (hP1) ?_|refine aE0 ?_|refine aS ?_|refine nT_ ?_)
  ·have hD:=hdF hfu;rw [hD];clear hdF hdP hdN hTk htn;clear hW hHW fc qm hen gX vk uL hd1 hd2 hd3 hd4 hd5 hd6 hD hfg hf ho hko wo wE;generalize keyOf l s.key h=ky at *
   obtain ⟨kk,var,key,field,n,m⟩:=s;dsimp only at *
   subst hk;subst hx;refine dl2 mixed [.cell 10 46] [vq _] Tryz.func12 Go.ST4.l12 ?_
   repeat' ((conv=>whnf);first|exact trivial|refine uc _ (wK) ?_|refine uc _ (vd) ?_|refine uc _ (yQ) ?_|refine sC hc ?_|refine aE0 ?_|refine aS ?_|refine nT_ ?_)
  ·obtain ⟨hT,hT0,hT1⟩:=hTk s.n tick (fun hh=>by rw [hi] at hh;cases hh) (fun _=>⟨rfl,rfl⟩);have hwn:W64 (tn.n - 1)=tn.n - 1:=nW (by omega) (by omega)
   by_cases c:tn.n>0
   ·have hD:=hdP hfu c;have hP1:=fc (tn.n - 1) tn.at_;have hz: ¬tn.n=0:=by omega
    rw [hD];rw [<- hwn] at hP1 ⊢;clear hdF hdP hdN hTk htn hwn;clear hW hHW fc qm hen gX vk uL hd1 hd2 hd3 hd4 hd5 hd6 hD hfg hf ho hko wo wE;generalize keyOf l s.key h=ky at *
    obtain ⟨kk,var,key,field,n,m⟩:=s;dsimp only at *
    subst hk;subst hx;refine dl2 mixed [.cell 10 46] [vq _] Tryz.func12 Go.ST4.l12 ?_
    repeat' ((conv=>whnf);first|exact trivial|refine uc _ (wK) ?_|refine uc _ (vd) ?_|refine uc _ (yQ) ?_|refine su hc ?_|refine uc _ (hT) ?_|refine sD hz ?_|refine uc _ (hP1) ?_|refine aE0 ?_|refine aS ?_|refine nT_ ?_)
   ·have hD:=hdN hfu c;have hP1:=fc tn.n tn.at_;have hz:tn.n=0:=by omega
    rw [hD];clear hdF hdP hdN hTk htn hwn;clear hW hHW fc qm hen gX vk uL hd1 hd2 hd3 hd4 hd5 hd6 hD hfg hf ho hko wo wE;generalize keyOf l s.key h=ky at *
    obtain ⟨kk,var,key,field,n,m⟩:=s;dsimp only at *
    subst hk;subst hx;refine dl2 mixed [.cell 10 46] [vq _] Tryz.func12 Go.ST4.l12 ?_
    repeat' ((conv=>whnf);first|exact trivial|refine uc _ (wK) ?_|refine uc _ (vd) ?_|refine uc _ (yQ) ?_|refine su hc ?_|refine uc _ (hT) ?_|refine sE hz ?_|refine uc _ (hP1) ?_|refine aE0 ?_|refine aS ?_|refine nT_ ?_)
end Go.ST
end
noncomputable section
namespace Go.ST6
open Go Go.DL Go.Proofs
def c47:aV:=(sr [oo 4 (.mov kF)] (sr [mv 5 0,mv 6 1,oo 7 (.call 103 [(tm 5),(tm 6),(.const (.clos 104 []))]),mv 4 7] .ret))
theorem l47:(Tryz.f47.body.bind (bt Tryz.prog 8 []))=some c47:=by kernel_rfl
def K3:aV:=(sr [oo 2 (.box 4 (tm 0)),oo 3 (.box 4 (tm 1)),oo 4 (.mov kF)] (sr [lA 5 4 2,lA 6 4 3,oo 7 (.call 29 [(tm 5),(tm 6)]),oo 8 (.bin .eql (tm 7) (Kc 0)),mv 9 8,oT 10 9 (.offA 2 (tm 2)),oT 11 9 (.load 1 false (tm 10)),oT 12 9 (.offA 2 (tm 3)),oT 13 9 (.load 1 false (tm 12)),oT 14 9 (.bin .eql (tm 11) (tm 13)),oo 15 (.pick (tm 9) (tm 14) kF),mv 16 15,oT 17 16 (.offA 3 (tm 2)),oT 18 16 (.load 1 false (tm 17)),oT 19 16 (.offA 3 (tm 3)),oT 20 16 (.load 1 false (tm 19)),oT 21 16 (.bin .eql (tm 18) (tm 20)),oo 22 (.pick (tm 16) (tm 21) kF),mv 4 22] .ret))
theorem Mm:(Tryz.f104.body.bind (bt Tryz.prog 23 []))=some K3:=by kernel_rfl
def K2:aV:=(sr [oo 6 (.mov kF)] (.seq (sr [mv 10 0,ln 11 10,mv 12 1,ln 13 12,oo 14 (.bin .neq (tm 11) (tm 13))] (.cond (tm 14) (sr [oo 6 (.mov kF)] .ret) .skip)) (.seq (sr [mv 15 0,ln 16 15,oo 17 (.mov (Kc 0))] (.block 0 (.loop (sr [oo 18 (.bin .lss (tm 17) (tm 16))] (.seq (.cond (tm 18) .skip (.exit 0)) (.seq (.block 1 (sr [mv 19 17,ix 20 4 15 17,lA 21 4 20,⟨some 8,.alloc [S0,.nil,Z0,Z0],none,[]⟩,mv 7 19,o0 (.store 4 (tm 8) (tm 21))] (sr [mv 22 1,mv 23 7,ix 24 4 22 23,lA 25 4 24,⟨some 9,.alloc [S0,.nil,Z0,Z0],none,[]⟩,o0 (.store 4 (tm 9) (tm 25))] (sr [mv 26 2,lA 27 4 8,lA 28 4 9,oo 29 (.bY (tm 26) [(tm 27),(tm 28)]),oo 30 (.not (tm 29))] (.cond (tm 30) (sr [oo 6 (.mov kF)] .ret) .skip))))) (rg [oo 31 (.bin .add (tm 17) (Kc 1)),mv 17 31]))))))) (sr [oo 6 (.mov kT)] .ret))))
theorem Ml:(Tryz.f103.body.bind (bt Tryz.prog 32 []))=some K2:=by kernel_rfl
def c97:aV:=(sr [⟨some 2,.mov (.const S0),none,[]⟩,oo 3 (.mov (Kc 0)),oo 4 (.mov (Kc 0))] (sr [mv 9 0,oo 10 (.call 135 [(tm 9),(Kc 1)]),mv 8 10,oo 11 (.ext (tm 8) 0),oo 12 (.ext (tm 8) 1),oo 13 (.ext (tm 8) 2),mv 5 11,mv 6 12,mv 7 13] (.seq (sr [mv 14 7,oo 15 (.bin .neq (tm 14) (Kc 0))] (.cond (tm 15) (sr [mv 16 7,⟨some 2,.mov (.const S0),none,[]⟩,oo 3 (.mov (Kc 0)),mv 4 16] .ret) .skip)) (sr [mv 17 0,mv 18 6,mv 19 6,mv 20 5,oo 21 (.bin .add (tm 19) (tm 20)),oo 22 (.slice 1 (tm 17) (some (tm 18)) (some (tm 21))),oo 23 (.prim .strB (tm 22)),mv 24 6,mv 25 5,oo 26 (.bin .add (tm 24) (tm 25)),mv 2 23,mv 3 26,oo 4 (.mov (Kc 0))] .ret))))
theorem l97:(Tryz.f97.body.bind (bt Tryz.prog 27 []))=some c97:=by kernel_rfl
def c46:aV:=(sr [oo 2 (.mov (.const .nil))] (sr [mv 6 0,ln 7 6,oo 8 (.call 99 [tm 7]),mv 3 8] (.seq (sr [mv 9 0,ln 10 9,oo 11 (.mov (Kc 0))] (.block 0 (.loop (sr [oo 12 (.bin .lss (tm 11) (tm 10))] (.seq (.cond (tm 12) .skip (.exit 0)) (.seq (.block 1 (sr [ix 13 4 9 11,lA 14 4 13,⟨some 5,.alloc [S0,.nil,Z0,Z0],none,[]⟩,o0 (.store 4 (tm 5) (tm 14))] (rg [mv 15 3,fa 16 0 5,ld 17 16,oo 18 (.call 101 [tm 17]),fa 19 1 5,ld 20 19,oo 21 (.call 102 [tm 20]),fa 22 2 5,ld 23 22,fa 24 3 5,ld 25 24,oo 26 (.buildT 1 2 [Z0] [(0,(tm 23)),(1,(tm 25))]),oo 27 (.call 102 [tm 26]),oo 28 (.buildT 1 4 [.nil] [(0,(tm 15)),(1,(tm 18)),(2,(tm 21)),(3,(tm 27))]),oo 29 (.call 100 [tm 28]),mv 3 29]))) (rg [oo 30 (.bin .add (tm 11) (Kc 1)),mv 11 30]))))))) (sr [mv 31 3,mv 2 31] .ret))))
theorem l46:(Tryz.f46.body.bind (bt Tryz.prog 32 []))=some c46:=by kernel_rfl
def KY:aV:=(sr [oo 2 (.mov (.const .nil))] (sr [oo 3 (.mov (Kc 0))] (.seq (sr [mv 9 0,ln 10 9,oo 11 (.mov (Kc 0))] (.block 0 (.loop (sr [oo 12 (.bin .lss (tm 11) (tm 10))] (.seq (.cond (tm 12) .skip (.exit 0)) (.seq (.block 1 (sr [ix 13 1 9 11,ld 14 13,mv 5 14] (sr [mv 15 3,mv 16 5,ln 17 16,oo 18 (.bin .add (tm 15) (tm 17)),mv 3 18] (sr [mv 19 3,oo 20 (.bin .lss (tm 19) (Kc 0))] (.cond (tm 20) (rg [oo 21 (.bad),o0 (.bad)]) .skip))))) (rg [oo 22 (.bin .add (tm 11) (Kc 1)),mv 11 22]))))))) (sr [mv 23 3,oo 24 (.inl 137 [(.const .nil),(tm 23)]),mv 6 24] (.seq (sr [mv 25 0,ln 26 25,oo 27 (.mov (Kc 0))] (.block 2 (.loop (sr [oo 28 (.bin .lss (tm 27) (tm 26))] (.seq (.cond (tm 28) .skip (.exit 2)) (.seq (.block 3 (sr [ix 29 1 25 27,ld 30 29,mv 8 30] (rg [mv 31 6,mv 32 8,oo 33 (.append 98 5 1 1 (tm 31) (tm 32)),mv 6 33]))) (rg [oo 34 (.bin .add (tm 27) (Kc 1)),mv 27 34]))))))) (sr [mv 35 6,mv 2 35] .ret))))))
theorem Mi:(Tryz.f100.body.bind (bt Tryz.prog 36 [137]))=some KY:=by kernel_rfl
def c13:aV:=(sr [oo 4 (.mov kF)] (.seq (sr [mv 6 0,ln 7 6,mv 8 1,ln 9 8,oo 10 (.bin .neq (tm 7) (tm 9))] (.cond (tm 10) (sr [oo 4 (.mov kF)] .ret) .skip)) (.seq (sr [oo 5 (.mov (Kc 0))] (.block 0 (.loop (.seq (sr [mv 11 5,mv 12 0,ln 13 12,oo 14 (.bin .lss (tm 11) (tm 13))] (.cond (tm 14) .skip (.exit 0))) (.seq (.block 1 (sr [mv 17 0,mv 18 5,ix 19 4 17 18,fa 20 0 19,ld 21 20,mv 22 1,mv 23 5,ix 24 4 22 23,fa 25 0 24,ld 26 25,oo 27 (.bin .neq (tm 21) (tm 26)),mv 28 27,mF 29 0 28,mF 30 5 28,oF 31 28 (.idxL 4 (tm 29) (tm 30)),oF 32 28 (.offA 2 (tm 31)),oF 33 28 (.load 1 false (tm 32)),mF 34 1 28,mF 35 5 28,oF 36 28 (.idxL 4 (tm 34) (tm 35)),oF 37 28 (.offA 2 (tm 36)),oF 38 28 (.load 1 false (tm 37)),oF 39 28 (.bin .neq (tm 33) (tm 38)),oo 40 (.pick (tm 28) kT (tm 39)),mv 41 40,mF 42 0 41,mF 43 5 41,oF 44 41 (.idxL 4 (tm 42) (tm 43)),oF 45 41 (.offA 3 (tm 44)),oF 46 41 (.load 1 false (tm 45)),mF 47 1 41,mF 48 5 41,oF 49 41 (.idxL 4 (tm 47) (tm 48)),oF 50 41 (.offA 3 (tm 49)),oF 51 41 (.load 1 false (tm 50)),oF 52 41 (.bin .neq (tm 46) (tm 51)),oo 53 (.pick (tm 41) kT (tm 52)),mv 54 53,mF 55 0 54,mF 56 5 54,oF 57 54 (.idxL 4 (tm 55) (tm 56)),oF 58 54 (.offA 1 (tm 57)),oF 59 54 (.load 1 false (tm 58)),mF 60 1 54,mF 61 5 54,oF 62 54 (.idxL 4 (tm 60) (tm 61)),oF 63 54 (.offA 1 (tm 62)),oF 64 54 (.load 1 false (tm 63)),oF 65 54 (.call 21 [(tm 59),(tm 64)]),oF 66 54 (.bin .neq (tm 65) (Kc 0)),oo 67 (.pick (tm 54) kT (tm 66))] (.cond (tm 67) (sr [oo 4 (.mov kF)] .ret) .skip))) (rg [mv 15 5,oo 16 (.bin .add (tm 15) (Kc 1)),mv 5 16])))))) (sr [oo 4 (.mov kT)] .ret))))
theorem l13:(Tryz.f13.body.bind (bt Tryz.prog 68 []))=some c13:=by kernel_rfl
def c44:aV:=(sr [oo 2 (.mov kF)] (.seq (sr [oo 3 (.mov (Kc 0))] (.block 0 (.loop (.seq (sr [mv 4 3,mv 5 0,ln 6 5,oo 7 (.bin .lss (tm 4) (tm 6))] (.cond (tm 7) .skip (.exit 0))) (.seq (.block 1 (sr [mv 10 0,mv 11 3,ix 12 1 10 11,ld 13 12,mv 14 3,oo 15 (.bin .add (tm 14) (Kc 1)),oo 16 (.minI (tm 15) (Kc 7)),oo 17 (.bin .neq (tm 13) (tm 16))] (.cond (tm 17) (sr [oo 2 (.mov kF)] .ret) .skip))) (rg [mv 8 3,oo 9 (.bin .add (tm 8) (Kc 1)),mv 3 9])))))) (sr [mv 18 0,ln 19 18,oo 20 (.bin .eql (tm 19) (Kc 10)),mv 2 20] .ret)))
theorem l44:(Tryz.f44.body.bind (bt Tryz.prog 21 []))=some c44:=by kernel_rfl
end Go.ST6
end
section
namespace Go.ST
open Go Go.DL Go.MM Go.Proofs
open Go.TY hiding Fd
theorem KI(a b:RE):a=b↔uz a b=0/\a.n=b.n/\a.at_=b.at_:=by
 rw [wM];obtain ⟨v,k,n,t⟩:=a;obtain ⟨v',k',n',t'⟩:=b;simp [and_assoc]
theorem I5(a b:RE)(ha:kOk a)(hb:kOk b):DCalls Tryz.prog 104 [.agg (uk a),.agg (uk b)] (.bool (decide (a=b))):=by
 have hC:=xH a b ha hb;have Fk:=KI a b;refine dl2 mixed [.tmp 4] [.bool _] Tryz.func104 Go.ST6.Mm ?_
 by_cases c1:uz a b=0
 ·by_cases c2:a.n=b.n
  ·by_cases c3:a.at_=b.at_
   ·rw [decide_eq_true (Fk.2 ⟨c1,c2,c3⟩)]
    repeat' ((conv=>whnf);first|exact trivial|refine uc _ (hC) ?_|refine sE c1 ?_|refine sE c2 ?_|refine sE c3 ?_|refine rb1 ?_|(refine And.intro (by first|exact uo _) ?_)|refine aS ?_|refine nT_ ?_)
   ·rw [decide_eq_false fun e=>c3 (Fk.1 e).2.2]
    repeat' ((conv=>whnf);first|exact trivial|refine uc _ (hC) ?_|refine sE c1 ?_|refine sE c2 ?_|refine sD c3 ?_|refine rb0 ?_|(refine And.intro (by first|exact uo _) ?_)|refine aS ?_|refine nT_ ?_)
  ·rw [decide_eq_false fun e=>c2 (Fk.1 e).2.1]
   repeat' ((conv=>whnf);first|exact trivial|refine uc _ (hC) ?_|refine sE c1 ?_|refine sD c2 ?_|refine rb0 ?_|(refine And.intro (by first|exact uo _) ?_)|refine aS ?_|refine nT_ ?_)
 ·rw [decide_eq_false fun e=>c1 (Fk.1 e).1]
  repeat' ((conv=>whnf);first|refine uc _ (hC) ?_|refine sD c1 ?_|refine rb0 ?_|(refine And.intro (by first|exact uo _) ?_)|refine aS ?_|exact trivial)
theorem Dx{a b:List RE}(hl:a.length=b.length):decide (a=b)=true↔ ∀j (h:j<a.length) (h':j<b.length),a[j]=b[j]:=by
 rw [decide_eq_true_eq];constructor
 ·intro e;subst e;intros;rfl
 ·intro h;exact List.ext_getElem hl h
theorem Hw(a b:List RE)(_:a.length<2^40)(hlb:b.length<2^40)(hka: ∀x∈a,kOk x)(hkb: ∀x∈b,kOk x):DCalls Tryz.prog 103 [esT a,esT b,.clos 104 []] (.bool (decide (a=b))):=by
 have hn:((a.map um).length:Int)=a.length:=by rw [List.length_map]
 have hm:((b.map um).length:Int)=b.length:=by rw [List.length_map]
 refine dl2 mixed [.tmp 6] [.bool _] Tryz.func103 Go.ST6.Ml ?_
 by_cases hab:a.length=b.length
 case neg=>
  rw [decide_eq_false fun e=>hab (by rw [e])];have hne:((a.map um).length:Int)≠((b.map um).length:Int):=by omega
  repeat' ((conv=>whnf);first|refine sG hne ?_|refine rb0 ?_|refine aS ?_|exact trivial)
 have heq:((a.map um).length:Int)=((b.map um).length:Int):=by omega
 repeat' ((conv=>whnf);first|refine sF heq ?_|refine aS ?_|fail)
 refine tT (α:=Nat) (fun i=>{sl:=[(1,.t (esT b)),(2,.t (.clos 104 [])),(15,.t (esT a)),(16,.t (I a.length)),(17,.t (I i))],bx:=[]})
  (fun i=>i<=a.length/\ ∀j (h:j<a.length) (h':j<b.length),j<i->a[j]=b[j]) (fun i=>a.length - i) 0 ⟨Nat.zero_le _,fun j _ _ h=>by omega⟩ ?_ ?_
 ·repeat' (first|(exact leI hn.symm)|exact wJ|refine And.intro ?_ ?_)
 rintro i ⟨hi,hp⟩;rcases Nat.lt_or_ge i a.length with h|h
 ·have h':i<b.length:=by omega
  have hlt:(i:Int)<(a.length:Int):=by omega
  have hS:=I5 a[i] b[i] (hka _ (List.getElem_mem h)) (hkb _ (List.getElem_mem h'));have hnx:((i+1:Nat):Int)=IntKind.wrap .i64 ((i:Int)+1):=by rw [nW] <;> omega
  have g1:(a.map um)[((i:Int)).toNat]?.getD .nil= .agg (uk a[i]):=by rw [Int.toNat_natCast];exact uN h
  have g2:(b.map um)[((i:Int)).toNat]?.getD .nil= .agg (uk b[i]):=by rw [Int.toNat_natCast];exact uN h'
  have b1:0<=(i:Int)/\(i:Int)<((a.map um).length:Int):=by omega
  have b2:0<=(i:Int)/\(i:Int)<((b.map um).length:Int):=by omega
  by_cases e:a[i]=b[i]
  ·rw [decide_eq_true e] at hS;have hp': ∀j (h:j<a.length) (h':j<b.length),j<i+1->a[j]=b[j]:=fun j h1 h2 h3=>by
    rcases Nat.lt_or_ge j i with h4|h4
    ·exact hp j h1 h2 h4
    ·obtain rfl:j=i:=by omega
     exact e
   have hmu:a.length - (i+1)<a.length - i:=by omega
   repeat' ((conv=>whnf);first|refine sC hlt ?_|(refine nv_ (.agg (uk a[i])) (by first|exact g1) ?_)|(refine nv_ (.agg (uk b[i])) (by first|exact g2) ?_)|refine uc _ (hS) ?_|(exact ⟨i+1,⟨h,hp'⟩,hmu,by (repeat' (first|(exact leI hnx)|exact wJ|refine And.intro ?_ ?_));done⟩)|(refine And.intro (by first|exact b1|exact b2|exact uo _) ?_)|refine aS ?_|refine nT_ ?_)
  ·rw [decide_eq_false e] at hS;rw [decide_eq_false fun ee=>e (by subst ee;rfl)]
   repeat' ((conv=>whnf);first|exact trivial|refine sC hlt ?_|(refine nv_ (.agg (uk a[i])) (by first|exact g1) ?_)|(refine nv_ (.agg (uk b[i])) (by first|exact g2) ?_)|refine uc _ (hS) ?_|refine rb0 ?_|(refine And.intro (by first|exact b1|exact b2|exact uo _) ?_)|refine aS ?_|refine nT_ ?_)
 ·have hlt: ¬(i:Int)<(a.length:Int):=by omega
  rw [(Dx hab).2 fun j h1 h2=>hp j h1 h2 (by omega)]
  repeat' ((conv=>whnf);first|refine su hlt ?_|refine rb1 ?_|refine aS ?_|exact trivial)
theorem JV(a b:List RE)(hla:a.length<2^40)(hlb:b.length<2^40)(hka: ∀x∈a,kOk x)(hkb: ∀x∈b,kOk x):DCalls Tryz.prog 47 [esT a,esT b] (.bool (decide (a=b))):=by
 have h:=Hw a b hla hlb hka hkb;refine dl2 mixed [.tmp 4] [.bool _] Tryz.func47 Go.ST6.l47 ?_
 repeat' ((conv=>whnf);first|refine uc _ (h) ?_|refine rbx ?_|exact trivial)
theorem Gm(a b:List RE)(_:a.length<2^40)(hlb:b.length<2^40)(hka: ∀x∈a,kOk x)(hkb: ∀x∈b,kOk x):DCalls Tryz.prog 13 [esT a,esT b] (.bool (decide (a=b))):=by
 have hn:((a.map um).length:Int)=a.length:=by rw [List.length_map]
 have hm:((b.map um).length:Int)=b.length:=by rw [List.length_map]
 refine dl2 mixed [.tmp 4] [.bool _] Tryz.func13 Go.ST6.l13 ?_
 by_cases hab:a.length=b.length
 case neg=>
  rw [decide_eq_false fun e=>hab (by rw [e])];have hne:((a.map um).length:Int)≠((b.map um).length:Int):=by omega
  repeat' ((conv=>whnf);first|refine sG hne ?_|refine rb0 ?_|refine aS ?_|exact trivial)
 have heq:((a.map um).length:Int)=((b.map um).length:Int):=by omega
 repeat' ((conv=>whnf);first|refine sF heq ?_|refine aS ?_|fail)
 refine tT (α:=Nat) (fun i=>{sl:=[(0,.t (esT a)),(1,.t (esT b)),(5,.t (I i))],bx:=[]})
  (fun i=>i<=a.length/\ ∀j (h:j<a.length) (h':j<b.length),j<i->a[j]=b[j]) (fun i=>a.length - i) 0 ⟨Nat.zero_le _,fun j _ _ h=>by omega⟩ ?_ ?_
 ·repeat' (first|exact wJ|refine And.intro ?_ ?_)
 rintro i ⟨hi,hp⟩;rcases Nat.lt_or_ge i a.length with h|h
 ·have h':i<b.length:=by omega
  have hlt:(i:Int)<((a.map um).length:Int):=by omega
  have hnx:((i+1:Nat):Int)=IntKind.wrap .i64 ((i:Int)+1):=by rw [nW] <;> omega
  have hK:=Ck a[i].key b[i].key (hka _ (List.getElem_mem h)) (hkb _ (List.getElem_mem h'));have hga:=ggZ h;have hgb:=ggZ h';have hz:=xF (a:=a[i].key) (b:=b[i].key);have hv:=eqS a[i].var b[i].var;have hno: ¬a[i]=b[i]->decide (a=b)=false:=fun e=>decide_eq_false fun ee=>e (by subst ee;rfl)
  have Cz:a[i]=b[i]-> ∀j (h:j<a.length) (h':j<b.length),j<i+1->a[j]=b[j]:=fun e j h1 h2 h3=>by
   rcases Nat.lt_or_ge j i with h4|h4
   ·exact hp j h1 h2 h4
   ·obtain rfl:j=i:=by omega
    exact e
  have hmu:a.length - (i+1)<a.length - i:=by omega
  generalize a[i]=x at *
  generalize b[i]=y at *
  obtain ⟨xv,xk,xn,xa⟩:=x;obtain ⟨yv,yk,yn,ya⟩:=y;dsimp only at hK hz hv;have hv2:(!(xv.toList==yv.toList))= !decide (xv=yv):=by rw [hv]
  clear hp hv;generalize vf xk yk=c at *
  by_cases c1:xv=yv
  ·rw [decide_eq_true c1] at hv2
   by_cases c2:xn=yn
   ·by_cases c3:xa=ya
    ·by_cases c4:c=0
     ·have e:(⟨xv,xk,xn,xa⟩:RE)=⟨yv,yk,yn,ya⟩:=by rw [c1,c2,c3,hz.1 c4]
      have hp':=Cz e;clear Cz hno
      repeat' ((conv=>whnf);first|refine sC hlt ?_|(refine nv_ (.str xv) (by first|(simp [hga,um,uk,T.cells];done)|fail) ?_)|(refine nv_ (.str yv) (by first|(simp [hgb,um,uk,T.cells];done)|fail) ?_)|refine nb_ _ hv2 ?_|(refine nv_ (I xn) (by first|(simp [hga,um,uk,T.cells];done)|fail) ?_)|(refine nv_ (I yn) (by first|(simp [hgb,um,uk,T.cells];done)|fail) ?_)|(refine nv_ (I xa) (by first|(simp [hga,um,uk,T.cells];done)|fail) ?_)|(refine nv_ (I ya) (by first|(simp [hgb,um,uk,T.cells];done)|fail) ?_)|(refine nv_ (.slice 1 (xk.map I)) (by first|(simp [hga,um,uk,T.cells];done)|fail) ?_)|(refine nv_ (.slice 1 (yk.map I)) (by first|(simp [hgb,um,uk,T.cells];done)|fail) ?_)|refine sF c2 ?_|refine sF c3 ?_|refine uc _ (hK) ?_|refine sF c4 ?_|(exact ⟨i+1,⟨h,hp'⟩,hmu,by (repeat' (first|(exact leI hnx)|exact wJ|refine And.intro ?_ ?_));done⟩)|(refine And.intro (by first|((simp [hga,um,uk,T.cells]);done)|((simp [hgb,um,uk,T.cells]);done)|fail) ?_)|refine aS ?_|refine nT_ ?_)
     ·rw [hno fun e=>c4 (hz.2 (RE.mk.inj e).2.1)];clear Cz hno
      repeat' ((conv=>whnf);first|exact trivial|refine sC hlt ?_|(refine nv_ (.str xv) (by first|(simp [hga,um,uk,T.cells];done)|fail) ?_)|(refine nv_ (.str yv) (by first|(simp [hgb,um,uk,T.cells];done)|fail) ?_)|refine nb_ _ hv2 ?_|(refine nv_ (I xn) (by first|(simp [hga,um,uk,T.cells];done)|fail) ?_)|(refine nv_ (I yn) (by first|(simp [hgb,um,uk,T.cells];done)|fail) ?_)|(refine nv_ (I xa) (by first|(simp [hga,um,uk,T.cells];done)|fail) ?_)|(refine nv_ (I ya) (by first|(simp [hgb,um,uk,T.cells];done)|fail) ?_)|(refine nv_ (.slice 1 (xk.map I)) (by first|(simp [hga,um,uk,T.cells];done)|fail) ?_)|(refine nv_ (.slice 1 (yk.map I)) (by first|(simp [hgb,um,uk,T.cells];done)|fail) ?_)|refine sF c2 ?_|refine sF c3 ?_|refine uc _ (hK) ?_|refine sG c4 ?_|refine rb0 ?_|(refine And.intro (by first|((simp [hga,um,uk,T.cells]);done)|((simp [hgb,um,uk,T.cells]);done)|fail) ?_)|refine aS ?_|refine nT_ ?_)
    ·rw [hno fun e=>c3 (RE.mk.inj e).2.2.2];clear Cz hno
     repeat' ((conv=>whnf);first|exact trivial|refine sC hlt ?_|(refine nv_ (.str xv) (by first|(simp [hga,um,uk,T.cells];done)|fail) ?_)|(refine nv_ (.str yv) (by first|(simp [hgb,um,uk,T.cells];done)|fail) ?_)|refine nb_ _ hv2 ?_|(refine nv_ (I xn) (by first|(simp [hga,um,uk,T.cells];done)|fail) ?_)|(refine nv_ (I yn) (by first|(simp [hgb,um,uk,T.cells];done)|fail) ?_)|(refine nv_ (I xa) (by first|(simp [hga,um,uk,T.cells];done)|fail) ?_)|(refine nv_ (I ya) (by first|(simp [hgb,um,uk,T.cells];done)|fail) ?_)|refine sF c2 ?_|refine sG c3 ?_|refine rb0 ?_|(refine And.intro (by first|((simp [hga,um,uk,T.cells]);done)|((simp [hgb,um,uk,T.cells]);done)|fail) ?_)|refine aS ?_|refine nT_ ?_)
   ·rw [hno fun e=>c2 (RE.mk.inj e).2.2.1];clear Cz hno
    repeat' ((conv=>whnf);first|exact trivial|refine sC hlt ?_|(refine nv_ (.str xv) (by first|(simp [hga,um,uk,T.cells];done)|fail) ?_)|(refine nv_ (.str yv) (by first|(simp [hgb,um,uk,T.cells];done)|fail) ?_)|refine nb_ _ hv2 ?_|(refine nv_ (I xn) (by first|(simp [hga,um,uk,T.cells];done)|fail) ?_)|(refine nv_ (I yn) (by first|(simp [hgb,um,uk,T.cells];done)|fail) ?_)|refine sG c2 ?_|refine rb0 ?_|(refine And.intro (by first|((simp [hga,um,uk,T.cells]);done)|((simp [hgb,um,uk,T.cells]);done)|fail) ?_)|refine aS ?_|refine nT_ ?_)
  ·rw [decide_eq_false c1] at hv2;rw [hno fun e=>c1 (RE.mk.inj e).1];clear Cz hno
   repeat' ((conv=>whnf);first|exact trivial|refine sC hlt ?_|(refine nv_ (.str xv) (by first|(simp [hga,um,uk,T.cells];done)|fail) ?_)|(refine nv_ (.str yv) (by first|(simp [hgb,um,uk,T.cells];done)|fail) ?_)|refine nb_ _ hv2 ?_|refine rb0 ?_|(refine And.intro (by first|((simp [hga,um,uk,T.cells]);done)|((simp [hgb,um,uk,T.cells]);done)|fail) ?_)|refine aS ?_|refine nT_ ?_)
 ·have hlt: ¬(i:Int)<((a.map um).length:Int):=by omega
  rw [(Dx hab).2 fun j h1 h2=>hp j h1 h2 (by omega)]
  repeat' ((conv=>whnf);first|refine su hlt ?_|refine rb1 ?_|refine aS ?_|exact trivial)
def zC(xs:List Int):Bool:=decide (xs.length=10)&&(List.range xs.length).all fun i=>decide (xs.getD i 0=min ((i:Int)+1) 7)
theorem DY(xs:List Int)(hl:xs.length<2^40):DCalls Tryz.prog 44 [.slice 1 (xs.map I)] (.bool (zC xs)):=by
 have hn:((xs.map I).length:Int)=xs.length:=by rw [List.length_map]
 refine dl2 mixed [.tmp 2] [.bool _] Tryz.func44 Go.ST6.l44 ?_
 skip
 refine tx 0 (α:=Nat) (β:=Unit) (fun i=>{sl:=[(0,.t (.slice 1 (xs.map I))),(3,.t (I i))],bx:=[]})
  (fun i=>i<=xs.length/\ ∀j,j<i->xs.getD j 0=min ((j:Int)+1) 7) (fun i=>xs.length - i) (fun _=>{sl:=[(0,.t (.slice 1 (xs.map I)))],bx:=[]}) (fun _=> ∀j,j<xs.length->xs.getD j 0=min ((j:Int)+1) 7) 0 ⟨Nat.zero_le _,fun j h=>by omega⟩ ?_ ?_ ?_
 ·repeat' (first|exact wJ|refine And.intro ?_ ?_)
 ·rintro i ⟨hi,hp⟩;rcases Nat.lt_or_ge i xs.length with h|h
  ·have hlt:(i:Int)<((xs.map I).length:Int):=by omega
   have hnx:((i+1:Nat):Int)=IntKind.wrap .i64 ((i:Int)+1):=by rw [nW] <;> omega
   have hg:(xs.map I)[((i:Int)).toNat]?.getD .nil=I xs[i]:=by simp [h]
   have hgd:xs.getD i 0=xs[i]:=by simp [h]
   have hmn:(if (7:Int)<IntKind.wrap .i64 ((i:Int)+1) then 7 else IntKind.wrap .i64 ((i:Int)+1))=min ((i:Int)+1) 7:=by rw [nW (by omega) (by omega)];split <;> omega
   have hmu:xs.length - (i+1)<xs.length - i:=by omega
   by_cases c:xs[i]=(if (7:Int)<IntKind.wrap .i64 ((i:Int)+1) then 7 else IntKind.wrap .i64 ((i:Int)+1))
   ·have hp': ∀j,j<i+1->xs.getD j 0=min ((j:Int)+1) 7:=fun j hj=>by
     rcases Nat.lt_or_ge j i with h4|h4
     ·exact hp j h4
     ·obtain rfl:j=i:=by omega
      rw [hgd,c,hmn]
    repeat' ((conv=>whnf);first|refine sC hlt ?_|(refine nv_ (I xs[i]) (by first|exact hg) ?_)|refine sF c ?_|(exact ⟨i+1,⟨h,hp'⟩,hmu,by (repeat' (first|(exact leI hnx)|exact wJ|refine And.intro ?_ ?_));done⟩)|refine aS ?_|refine nT_ ?_)
   ·have hf:zC xs=false:=by
     unfold zC;rw [Bool.and_eq_false_iff];refine Or.inr ?_;rw [List.all_eq_false];refine ⟨i,List.mem_range.2 h,?_⟩;rw [hgd, <-hmn];simpa using c
    rw [hf]
    repeat' ((conv=>whnf);first|exact trivial|refine sC hlt ?_|(refine nv_ (I xs[i]) (by first|exact hg) ?_)|refine sG c ?_|refine rb0 ?_|refine aS ?_|refine nT_ ?_)
  ·have hlt: ¬(i:Int)<((xs.map I).length:Int):=by omega
   have hp2: ∀j,j<xs.length->xs.getD j 0=min ((j:Int)+1) 7:=fun j hj=>hp j (by omega)
   repeat' ((conv=>whnf);first|refine su hlt ?_|(exact ⟨(),hp2,by (repeat' (first|exact wJ|refine And.intro ?_ ?_));done⟩)|refine aS ?_|fail)
 ·rintro - hp;have fQ:((List.range xs.length).all fun i=>decide (xs.getD i 0=min ((i:Int)+1) 7))=true:=by
   rw [List.all_eq_true];intro j hj;exact decide_eq_true (hp j (List.mem_range.1 hj))
  unfold zC;rw [fQ,Bool.and_true]
  by_cases c:xs.length=10
  ·have hc:((xs.map I).length:Int)=10:=by omega
   rw [decide_eq_true c]
   repeat' ((conv=>whnf);first|refine sE hc ?_|refine rb1 ?_|refine aS ?_|exact trivial)
  ·have hc: ¬((xs.map I).length:Int)=10:=by omega
   rw [decide_eq_false c]
   repeat' ((conv=>whnf);first|refine sD hc ?_|refine rb0 ?_|refine aS ?_|exact trivial)
end Go.ST
end
section
end
section
namespace Go.RC
open Go Go.DL Go.Proofs
theorem mixed:Tryz.prog.follows .mixedOrders=true:=by kernel_rfl
abbrev I(n:Int):T:=.int .i64 n
abbrev Y(n:Int):T:=.int .u8 n
abbrev Q(n:Int):T:=.int .u64 n
theorem w8{n:Int}(h0:0<=n)(h1:n<256):IntKind.wrap .u8 n=n:=by
 unfold IntKind.wrap;simp [IntKind.bits,IntKind.signed];omega
theorem w64{n:Int}(h0:0<=n)(h1:n<18446744073709551616):IntKind.wrap .u64 n=n:=by
 unfold IntKind.wrap;simp [IntKind.bits,IntKind.signed];omega
theorem or_comm(k:IntKind)(a b:Int):iV .or k a b=iV .or k b a:=by
 unfold iV;simp only [BitVec.or_comm]
end Go.RC
end
section
end
section
end
section
end
section
end
section
namespace Go.RC
open Go Go.DL Go.Proofs
def vg(bs:List Int):Prop:= ∀b∈bs,0<=b/\b<256
def sB(x:ByteArray):List Int:=x.data.toList.map fun b=>(b.toNat:Int)
theorem CJ(x:ByteArray):bX x=(sB x).map Y:=by
 unfold bX sB;rw [List.map_map];rfl
theorem A4(x:ByteArray):(sB x).length=x.size:=by
 unfold sB;rw [List.length_map,Array.length_toList];rfl
theorem CF(x:ByteArray):vg (sB x):=fun b hb=>by
 obtain ⟨u,_,rfl⟩:=List.mem_map.1 hb
 have:=u.toNat_lt
 omega
theorem EL(l:List Int)(h:vg l):sB (oG (l.map Y))=l:=by
 unfold sB oG;simp only [List.map_map];refine (List.map_congr_left (g:=id) fun b hb=>?_).trans (List.map_id l);obtain ⟨h0,h1⟩:=h b hb;show (((UInt8.ofNat b.toNat).toNat:Nat):Int)=b
 rw [UInt8.toNat_ofNat',Nat.mod_eq_of_lt (by omega)];omega
end Go.RC
end
noncomputable section
namespace Go.RC
open Go Go.DL Go.Proofs
def c99:aV:=(sr [oo 2 (.mov (.const .nil))] (sr [mv 5 0,oo 6 (.conv .u64 (tm 5)),oo 7 (.bin .shl (tm 6) (.const (.int .u64 1))),mv 8 0,oo 9 (.bin .shr (tm 8) (.const (.int .u64 63))),oo 10 (.conv .u64 (tm 9)),oo 11 (.bin .xor (tm 7) (tm 10)),mv 3 11] (sr [oo 4 (.mov (.const .nil))] (.seq (.block 0 (.loop (.seq (sr [mv 12 3,oo 13 (.bin .gtr (tm 12) (.const (.int .u64 127)))] (.cond (tm 13) .skip (.exit 0))) (.seq (.block 1 (rg [mv 16 4,mv 17 3,oo 18 (.conv .u8 (tm 17)),oo 19 (.bin .or (tm 18) (.const (Ui 128))),oo 20 (.buildF 1 1 [(Ui 0)] [(0,(tm 19))]),oo 21 (.append 98 5 1 1 (tm 16) (tm 20)),mv 4 21])) (rg [mv 14 3,oo 15 (.bin .shr (tm 14) (.const (.int .u64 7))),mv 3 15]))))) (sr [mv 22 4,mv 23 3,oo 24 (.conv .u8 (tm 23)),oo 25 (.buildF 1 1 [(Ui 0)] [(0,(tm 24))]),oo 26 (.append 98 5 1 1 (tm 22) (tm 25)),mv 2 26] .ret)))))
theorem l99:(Tryz.f99.body.bind (bt Tryz.prog 27 [8000020,8000025]))=some c99:=by kernel_rfl
def KZ:aV:=(sr [oo 2 (.mov (.const .nil))] (sr [mv 3 0,oo 4 (.lenS (tm 3)),oo 5 (.inl 99 [tm 4]),mv 6 0,oo 7 (.append 98 5 1 1 (tm 5) (tm 6)),mv 2 7] .ret))
theorem Mj:(Tryz.f101.body.bind (bt Tryz.prog 8 [99]))=some KZ:=by kernel_rfl
def Lo:aV:=(sr [oo 4 (.mov (.const .nil))] (sr [mv 8 0,ln 9 8,oo 10 (.inl 99 [tm 9]),mv 5 10] (.seq (sr [mv 11 0,ln 12 11,oo 13 (.mov (Kc 0))] (.block 0 (.loop (sr [oo 14 (.bin .lss (tm 13) (tm 12))] (.seq (.cond (tm 14) .skip (.exit 0)) (.seq (.block 1 (sr [ix 15 1 11 13,ld 16 15,mv 7 16] (rg [mv 17 5,mv 18 1,mv 19 7,oo 20 (.bY (tm 18) [tm 19]),oo 21 (.append 98 5 1 1 (tm 17) (tm 20)),mv 5 21]))) (rg [oo 22 (.bin .add (tm 13) (Kc 1)),mv 13 22]))))))) (sr [mv 23 5,mv 4 23] .ret))))
theorem MG:(Tryz.f138.body.bind (bt Tryz.prog 24 [99]))=some Lo:=by kernel_rfl
def K1:aV:=(sr [oo 2 (.mov (.const .nil))] (sr [mv 3 0,oo 4 (.inl 138 [(tm 3),(.const (.clos 99 []))]),mv 2 4] .ret))
theorem Mk:(Tryz.f102.body.bind (bt Tryz.prog 5 [138]))=some K1:=by kernel_rfl
def c96:aV:=(sr [oo 2 (.mov (Kc 0)),oo 3 (.mov (Kc 0)),oo 4 (.mov (Kc 0))] (sr [oo 5 (.mov (.const (.int .u64 0)))] (sr [oo 6 (.mov (Kc 0))] (.seq .skip (.seq (sr [mv 9 0,ln 10 9,oo 11 (.mov (Kc 0))] (.block 0 (.loop (sr [oo 12 (.bin .lss (tm 11) (tm 10))] (.seq (.cond (tm 12) .skip (.exit 0)) (.seq (.block 1 (sr [mv 13 11,ix 14 1 9 11,ld 15 14,mv 7 13,mv 8 15] (.seq (.block 2 (.seq (sr [mv 25 7,oo 26 (.bin .eql (tm 25) (Kc 9)),mv 27 26,mT 28 8 27,oT 29 27 (.bin .gtr (tm 28) (.const (Ui 1))),oo 30 (.pick (tm 27) (tm 29) kF),mv 24 30] (.cond (tm 24) .skip (rg [mv 31 7,oo 32 (.bin .gtr (tm 31) (Kc 0)),mv 33 32,mT 34 8 33,oT 35 33 (.bin .eql (tm 34) (.const (Ui 0))),oo 36 (.pick (tm 33) (tm 35) kF),mv 24 36]))) (.cond (tm 24) (sr [oo 2 (.mov (Kc 0)),oo 3 (.mov (Kc 0)),oo 4 (.mov (Kc 6))] .ret) (rg [mv 16 5,mv 17 8,oo 18 (.bin .and (tm 17) (.const (Ui 127))),oo 19 (.conv .u64 (tm 18)),mv 20 7,oo 21 (.bin .mul (Kc 7) (tm 20)),oo 22 (.bin .shl (tm 19) (tm 21)),oo 23 (.bin .or (tm 16) (tm 22)),mv 5 23])))) (sr [mv 37 8,oo 38 (.bin .lss (tm 37) (.const (Ui 128)))] (.cond (tm 38) (sr [mv 39 7,oo 40 (.bin .add (tm 39) (Kc 1)),mv 6 40] (.exit 0)) .skip))))) (rg [oo 41 (.bin .add (tm 11) (Kc 1)),mv 11 41]))))))) (.seq (sr [mv 42 6,oo 43 (.bin .eql (tm 42) (Kc 0))] (.cond (tm 43) (sr [oo 2 (.mov (Kc 0)),oo 3 (.mov (Kc 0)),oo 4 (.mov (Kc 5))] .ret) .skip)) (sr [mv 44 5,oo 45 (.bin .shr (tm 44) (.const (.int .u64 1))),oo 46 (.conv .i64 (tm 45)),mv 47 5,oo 48 (.bin .and (tm 47) (.const (.int .u64 1))),oo 49 (.conv .i64 (tm 48)),oo 50 (.neg (tm 49)),oo 51 (.bin .xor (tm 46) (tm 50)),mv 52 6,mv 2 51,mv 3 52,oo 4 (.mov (Kc 0))] .ret)))))))
theorem l96:(Tryz.f96.body.bind (bt Tryz.prog 53 []))=some c96:=by kernel_rfl
def Lm:aV:=(sr [oo 4 (.mov (Kc 0)),oo 5 (.mov (Kc 0)),oo 6 (.mov (Kc 0))] (sr [mv 11 0,oo 12 (.call 96 [tm 11]),mv 10 12,oo 13 (.ext (tm 10) 0),oo 14 (.ext (tm 10) 1),oo 15 (.ext (tm 10) 2),mv 7 13,mv 8 14,mv 9 15] (.seq (.block 0 (sr [mv 17 9,oo 18 (.bin .neq (tm 17) (Kc 0)),mv 16 18] (.cond (tm 16) (sr [mv 19 9,oo 4 (.mov (Kc 0)),oo 5 (.mov (Kc 0)),mv 6 19] .ret) (sr [mv 21 7,oo 22 (.bin .lss (tm 21) (Kc 0)),mv 20 22] (.cond (tm 20) (sr [oo 4 (.mov (Kc 0)),oo 5 (.mov (Kc 0)),oo 6 (.mov (Kc 6))] .ret) (sr [mv 24 7,mv 25 0,ln 26 25,mv 27 8,oo 28 (.bin .sub (tm 26) (tm 27)),mv 29 1,oo 30 (.bin .quo (tm 28) (tm 29)),oo 31 (.bin .gtr (tm 24) (tm 30)),mv 23 31] (.cond (tm 23) (sr [oo 4 (.mov (Kc 0)),oo 5 (.mov (Kc 0)),oo 6 (.mov (Kc 5))] .ret) .skip))))))) (sr [mv 32 7,mv 33 8,mv 4 32,mv 5 33,oo 6 (.mov (Kc 0))] .ret))))
theorem ME:(Tryz.f135.body.bind (bt Tryz.prog 34 []))=some Lm:=by kernel_rfl
def Ln:aV:=(sr [oo 6 (.mov (.const .nil)),oo 7 (.mov (Kc 0)),oo 8 (.mov (Kc 0))] (sr [mv 17 0,mv 18 1,oo 19 (.call 135 [(tm 17),(tm 18)]),mv 16 19,oo 20 (.ext (tm 16) 0),oo 21 (.ext (tm 16) 1),oo 22 (.ext (tm 16) 2),mv 9 20,mv 10 21,mv 11 22] (.seq (sr [mv 23 11,oo 24 (.bin .neq (tm 23) (Kc 0))] (.cond (tm 24) (sr [mv 25 11,oo 6 (.mov (.const .nil)),oo 7 (.mov (Kc 0)),mv 8 25] .ret) .skip)) (sr [oo 12 (.mov (.const .nil))] (.seq (sr [mv 26 9,oo 27 (.mov (Kc 0))] (.block 0 (.loop (sr [oo 28 (.bin .lss (tm 27) (tm 26))] (.seq (.cond (tm 28) .skip (.exit 0)) (.seq (.block 1 (sr [mv 30 2,mv 31 0,mv 32 10,oo 33 (.slice 1 (tm 31) (some (tm 32)) none),oo 34 (.bY (tm 30) [tm 33]),mv 29 34,oo 35 (.ext (tm 29) 0),oo 36 (.ext (tm 29) 1),oo 37 (.ext (tm 29) 2),mv 13 35,mv 14 36,mv 15 37] (.seq (sr [mv 38 15,oo 39 (.bin .neq (tm 38) (Kc 0))] (.cond (tm 39) (sr [mv 40 15,oo 6 (.mov (.const .nil)),oo 7 (.mov (Kc 0)),mv 8 40] .ret) .skip)) (rg [mv 41 12,mv 42 13,oo 43 (.buildF 1 1 [Z0] [(0,(tm 42))]),oo 44 (.append 59 3 1 8 (tm 41) (tm 43)),mv 45 10,mv 46 14,oo 47 (.bin .add (tm 45) (tm 46)),mv 12 44,mv 10 47])))) (rg [oo 48 (.bin .add (tm 27) (Kc 1)),mv 27 48]))))))) (sr [mv 49 12,mv 50 10,mv 6 49,mv 7 50,oo 8 (.mov (Kc 0))] .ret))))))
theorem MF:(Tryz.f136.body.bind (bt Tryz.prog 51 [8000043]))=some Ln:=by kernel_rfl
def c98:aV:=(sr [oo 2 (.mov (.const .nil)),oo 3 (.mov (Kc 0)),oo 4 (.mov (Kc 0))] (sr [mv 5 0,oo 6 (.call 136 [(tm 5),(Kc 1),(.const (.clos 96 []))]),oo 7 (.ext (tm 6) 0),oo 8 (.ext (tm 6) 1),oo 9 (.ext (tm 6) 2),mv 2 7,mv 3 8,mv 4 9] .ret))
theorem l98:(Tryz.f98.body.bind (bt Tryz.prog 10 []))=some c98:=by kernel_rfl
end Go.RC
end
section
namespace Go.RC
open Go Go.DL Go.Proofs
def vb(z:Nat):List Int:=if h:z<128 then [(z:Int)] else ((z % 128+128:Nat):Int)::vb (z / 128)
termination_by z
decreasing_by omega
theorem zl{z:Nat}(h:z<128):vb z=[(z:Int)]:=by rw [vb,dif_pos h]
theorem Az{z:Nat}(h: ¬z<128):vb z=((z % 128+128:Nat):Int)::vb (z / 128):=by rw [vb,dif_neg h]
theorem Ja(z:Nat):vg (vb z):=by
 induction z using Nat.strongRecOn with
 |ind z ih=>
  intro b hb
  by_cases h:z<128
  ·rw [zl h] at hb;rw [List.mem_singleton.1 hb];omega
  ·rw [Az h] at hb;rcases List.mem_cons.1 hb with rfl|hb
   ·omega
   ·exact ih (z / 128) (by omega) b hb
theorem GG: ∀(k z:Nat),z<128^(k+1)->(vb z).length<=k+1
 |0,z,h=>by rw [zl (by simpa using h)];simp
 |k+1,z,h=>by
  by_cases h1:z<128
  ·rw [zl h1];simp
  ·rw [Az h1,List.length_cons]
   have:=GG k (z / 128) (Nat.div_lt_of_lt_mul (by rw [<- Nat.pow_succ'];exact h))
   omega
def zz(n:Int):Nat:=if 0<=n then (2 * n).toNat else (2 * (-1 - n)+1).toNat
def i64(n:Int):Prop:= -9223372036854775808<=n/\n<9223372036854775808
theorem FT{n:Int}(h:i64 n):zz n<18446744073709551616:=by
 unfold zz;obtain ⟨h1,h2⟩:=h;split <;> omega
def vi(n:Int):List Int:=vb (zz n)
theorem yF(n:Int):vg (vi n):=Ja _
theorem A8{n:Int}(h:i64 n):(vi n).length<=10:=GG 9 _ (Nat.lt_of_lt_of_le (FT h) (by decide))
theorem HF{a:Int}(h0:0<=a)(h1:a<18446744073709551616):iV .xor .u64 a 18446744073709551615=18446744073709551615 - a:=by
 obtain ⟨a,rfl⟩:=Int.eq_ofNat_of_zero_le h0;have ha:a<2^64:=by omega
 have e1:(BitVec.ofInt 64 18446744073709551615)=BitVec.allOnes 64:=by decide
 have e2:(BitVec.ofInt 64 ((a:Nat):Int)).toNat=a:=by
  rw [BitVec.ofInt_natCast,BitVec.toNat_ofNat,Nat.mod_eq_of_lt ha]
 show IntKind.u64.wrap ((BitVec.ofInt 64 ((a:Nat):Int) ^^^ BitVec.ofInt 64 18446744073709551615).toNat:Int)=_
 rw [e1,BitVec.xor_allOnes,BitVec.toNat_not,e2,w64 (by omega) (by omega)];omega
theorem xor_zero{a:Int}(h0:0<=a)(h1:a<18446744073709551616):iV .xor .u64 a 0=a:=by
 obtain ⟨a,rfl⟩:=Int.eq_ofNat_of_zero_le h0;have ha:a<2^64:=by omega
 have e2:(BitVec.ofInt 64 ((a:Nat):Int)).toNat=a:=by
  rw [BitVec.ofInt_natCast,BitVec.toNat_ofNat,Nat.mod_eq_of_lt ha]
 show IntKind.u64.wrap ((BitVec.ofInt 64 ((a:Nat):Int) ^^^ BitVec.ofInt 64 0).toNat:Int)=_
 rw [show BitVec.ofInt 64 0=0#64 from rfl,BitVec.xor_zero,e2,w64 (by omega) (by omega)]
theorem Br(n:Int):IntKind.u64.wrap n=n % 18446744073709551616:=by
 unfold IntKind.wrap;simp [IntKind.bits,IntKind.signed]
theorem zig{n:Int}(h:i64 n):iV .xor .u64 (IntKind.u64.wrap (IntKind.u64.wrap n * 2^1)) (IntKind.u64.wrap (n.fdiv (2^63)))=zz n:=by
 obtain ⟨h1,h2⟩:=h;unfold zz;rw [show (2:Int)^1=2 from rfl,show (2:Int)^63=9223372036854775808 from rfl];rw [Int.fdiv_eq_ediv_of_nonneg _ (by decide)]
 by_cases h0:0<=n
 ·rw [if_pos h0,show n / 9223372036854775808=0 by omega,w64 (n:=n) h0 (by omega),w64 (n:=n * 2) (by omega) (by omega),w64 (n:=0) (by omega) (by omega),xor_zero (by omega) (by omega)];omega
 ·rw [if_neg h0,show n / 9223372036854775808= -1 by omega];rw [show IntKind.u64.wrap (-1)=18446744073709551615 from rfl,HF (by rw [Br];omega) (by rw [Br];omega),Br,Br];omega
theorem Kx: ∀b:Fin 256,iV .or .u8 (b.val:Int) 128=((b.val % 128+128:Nat):Int):=by decide+kernel
theorem Jg(z:Nat):iV .or .u8 (IntKind.u8.wrap (z:Int)) 128=((z % 128+128:Nat):Int):=by
 have e:IntKind.u8.wrap (z:Int)=((z % 256:Nat):Int):=by
  unfold IntKind.wrap;simp [IntKind.bits,IntKind.signed]
 have:=Kx ⟨z % 256,Nat.mod_lt _ (by decide)⟩
 dsimp only at this;rw [e,this];omega
theorem flY(xs:List Int): ∀t∈(xs.map Y).flatMap T.cells,t.flat=true:=fun t ht=>by
 obtain ⟨x,hx,ht⟩:=List.mem_flatMap.1 ht;obtain ⟨n,_,rfl⟩:=List.mem_map.1 hx;rw [List.mem_singleton.1 ht];rfl
theorem B3(n:Int)(h:i64 n):eC Tryz.prog 99 [I n] 5 1 ((vi n).map Y) []:=by
 refine sX (rs:=[.tmp 2]) mixed Tryz.func99 l99 rfl rfl rfl (nlZ rfl) ?_;have hz:=FT h;have hl:=A8 h;have Jy:=zig h;unfold vi at hl ⊢;generalize zz n=z0 at hz hl Jy
 repeat' ((conv=>whnf);first|refine aS ?_|fail)
 refine tx 0 (α:=Nat×Nat×List Int) (β:=Nat×Nat×List Int) (fun q=>{sl:=[(3,.t (Q q.2.1)),(4,.own q.1 5 1 (q.2.2.map Y))],bx:=[]})
  (fun q=>q.2.1<18446744073709551616/\q.2.2++vb q.2.1=vb z0) (fun q=>q.2.1) (fun q=>{sl:=[(3,.t (Q q.2.1)),(4,.own q.1 5 1 (q.2.2.map Y))],bx:=[]}) (fun q=>q.2.1<128/\q.2.2++vb q.2.1=vb z0) (21,z0,[]) (by dsimp only;exact ⟨hz,rfl⟩) ?_ ?_ ?_
 ·repeat' (first|((refine leT (congrArg Q ?_);rw [<- Jy];rfl))|exact wJ|refine And.intro ?_ ?_)
 ·rintro ⟨q,z,out⟩ ⟨h1,h2⟩;dsimp only at h1 h2;rcases Nat.lt_or_ge z 128 with h|h
  ·repeat' ((conv=>whnf);first|refine aD0 ?_|refine aS ?_|fail)
   exact ⟨(q,z,out),⟨h,h2⟩,by repeat' (first|exact wJ|refine And.intro ?_ ?_)⟩
  ·have e:=Az (z:=z) (by omega);rw [e] at h2;have hol:=congrArg List.length h2;rw [List.length_append,List.length_cons] at hol;have hdiv:(z:Int).fdiv (2^7)=(z / 128:Nat):=by
    rw [Int.fdiv_eq_ediv_of_nonneg _ (by decide)];rfl
   repeat' ((conv=>whnf);first|refine aD1 ?_|(refine And.intro (by first|((simp;omega);done)|fail) ?_)|refine aS ?_|fail)
   refine ⟨(21,z / 128,out++[((z % 128+128:Nat):Int)]),⟨by dsimp only;omega,by simpa using h2⟩,by dsimp only;omega,?_⟩
   repeat' (first|((refine leT (congrArg Q ?_);exact hdiv.symm))|exact wJ|refine ug ?_|refine And.intro ?_ ?_)
   rw [List.map_append,List.map_singleton, <-Jg];rfl
 rintro ⟨q,z,out⟩ ⟨h1,h2⟩;dsimp only at h1 h2;rw [zl h1] at h2;have hol:=congrArg List.length h2;rw [List.length_append,List.length_singleton] at hol;have e1:IntKind.u8.wrap (z:Int)=z:=w8 (by omega) (by omega);rw [<- h2]
 repeat' ((conv=>whnf);first|(refine And.intro (by first|exact flY _|((simp;omega);done)|fail) ?_)|refine aS ?_|fail)
 refine ⟨_,rfl,.inl ⟨26,congrArg (V.own 26 5 1) ?_⟩⟩;dsimp only;rw [e1,List.map_append];rfl
def vs(s:ByteArray):List Int:=vi s.size++sB s
theorem xm{n:Nat}(h:n<2^62):i64 (n:Int):=by unfold i64;omega
theorem Ev(s:ByteArray)(h:s.size<2^40):eC Tryz.prog 101 [.str s] 5 1 ((vs s).map Y) []:=by
 refine sX (rs:=[.tmp 2]) mixed Tryz.func101 Mj rfl rfl rfl (nlZ rfl) ?_;have hi:=xm (n:=s.size) (by omega);have hl:=A8 hi;have hb:(bX s).length=s.size:=by rw [CJ,List.length_map,A4]
 repeat' ((conv=>whnf);first|refine tY rfl (B3 s.size hi) ?_|(refine And.intro (by first|exact flY _|((simp [hb];omega);done)|fail) ?_)|refine aS ?_|fail)
 refine ⟨_,rfl,.inl ⟨7,congrArg (V.own 7 5 1) ?_⟩⟩;unfold vs;rw [List.map_append,CJ]
def vis(l:List Int):List Int:=vi l.length++l.flatMap vi
theorem F0{α:Type}(f:α->List Int){l:List α}{i:Nat}(h:i<l.length):(l.take (i+1)).flatMap f=(l.take i).flatMap f++f l[i]:=by
 rw [List.take_succ_eq_append_getElem h,List.flatMap_append];simp
theorem Ex{α:Type}(f:α->List Int)(k:Nat): ∀{l:List α},(∀ x∈l,(f x).length<=k)->(l.flatMap f).length<=k * l.length
 |[],_=>by simp
 |x::l,h=>by
  have h1:=Ex f k (l:=l) (fun y hy=>h y (by simp [hy]));have h2:=h x (by simp);rw [List.flatMap_cons,List.length_append,List.length_cons,Nat.mul_add];omega
theorem Jk(l:List Int)(h:l.length<2^40)(hi: ∀x∈l,i64 x):eC Tryz.prog 138 [.slice 1 (l.map I),.clos 99 []] 5 1 ((vis l).map Y) []:=by
 refine sX (rs:=[.tmp 4]) mixed Tryz.func138 MG rfl rfl rfl (nlZ rfl) ?_;have h0:=xm (n:=l.length) (by omega);have hl0:=A8 h0
 repeat' ((conv=>whnf);first|(refine tY (ts:=[I l.length]) (by simp;rfl) (B3 l.length h0) ?_)|fail)
 refine tx 0 (α:=Nat×Nat) (β:=Nat) (fun q=>{sl:=[(1,.t (.clos 99 [])),(5,.own q.1 5 1 ((vi l.length++(l.take q.2).flatMap vi).map Y)),(11,.t (.slice 1 (l.map I))),(12,.t (I l.length)),(13,.t (I q.2))],bx:=[]})
  (fun q=>q.2<=l.length) (fun q=>l.length - q.2) (fun q=>{sl:=[(5,.own q 5 1 ((vis l).map Y))],bx:=[]}) (fun _=>True) (10,0) (by simp) ?_ ?_ ?_
 ·repeat' (first|((refine leI ?_;simp;done))|exact wJ|refine ug ?_|refine And.intro ?_ ?_)
  simp
 ·rintro ⟨q,i⟩ hq;dsimp only at hq;rcases Nat.lt_or_ge i l.length with h1|h1
  ·have hx:=hi l[i] (List.getElem_mem h1);have hxl:=A8 hx;have hfl:=Ex vi 10 (l:=l.take i) (fun x hx=>A8 (hi x (List.mem_of_mem_take hx)));rw [List.length_take] at hfl
   repeat' ((conv=>whnf);first|(refine nv_ (I l[i]) (by first|((simp [h1]);done)|fail) ?_)|refine uc _ ((B3 l[i] hx).ua) ?_|refine aD1 ?_|(refine And.intro (by first|((simp;omega);done)|((simp only [List.length_map,List.length_append];omega);done)|fail) ?_)|refine aS ?_|refine nT_ ?_)
   refine ⟨(21,i+1),by dsimp only;omega,by dsimp only;omega,?_⟩
   repeat' (first|exact wJ|refine ug ?_|refine And.intro ?_ ?_)
   rw [F0 vi h1];simp
  ·have:i=l.length:=by omega
   subst this
   repeat' ((conv=>whnf);first|refine aD0 ?_|refine aS ?_|fail)
   exact ⟨q,trivial,by repeat' (first|((refine ug ?_;rw [List.take_length];rfl))|exact wJ|refine And.intro ?_ ?_)⟩
 rintro q -
 repeat' ((conv=>whnf);first|(refine And.intro (by first|exact flY _) ?_)|refine aS ?_|fail)
 exact ⟨_,rfl,.inl ⟨q,rfl⟩⟩
theorem Dy(l:List Int)(h:l.length<2^40)(hi: ∀x∈l,i64 x):eC Tryz.prog 102 [.slice 1 (l.map I)] 5 1 ((vis l).map Y) []:=by
 refine sX (rs:=[.tmp 2]) mixed Tryz.func102 Mk rfl rfl rfl (nlZ rfl) ?_
 repeat' ((conv=>whnf);first|refine tY rfl (Jk l h hi) ?_|(refine And.intro (by first|exact flY _) ?_)|refine aS ?_|fail)
 exact ⟨_,rfl,.inl ⟨_,rfl⟩⟩
theorem ET(s:ByteArray):vg (vs s):=fun b hb=>by
 rcases List.mem_append.1 hb with h|h
 ·exact yF _ b h
 ·exact CF _ b h
end Go.RC
end
section
end
section
end
section
end
section
end
section
end
section
end
section
end
section
end
section
end
section
end
section
end
section
end
section
end
section
namespace Go.RC
open Go Go.DL Go.Proofs
def un(z:Int):Int:=if z % 2=1 then -1 - z / 2 else z / 2
def gz:Nat->Int->List Int->Int×Int×Int
 |_,_,[]=>(0,0,5)
 |k,z,c::r=>if (k=9/\c>1)\/(k>0/\c=0) then (0,0,6) else if c<128 then (un (z+c % 128 * 128^k),(k:Int)+1,0) else gz (k+1) (z+c % 128 * 128^k) r
def gi(b:List Int):Int×Int×Int:=gz 0 0 b
theorem Im{b:List Int}{k:Nat}{z:Int}(h:k<b.length):gz k z (b.drop k)=if (k=9/\b[k]>1)\/(k>0/\b[k]=0) then (0,0,6) else if b[k]<128 then (un (z+b[k] % 128 * 128^k),(k:Int)+1,0) else gz (k+1) (z+b[k] % 128 * 128^k) (b.drop (k+1)):=by
 rw [List.drop_eq_getElem_cons h];rfl
theorem Jc: ∀c:Fin 256,iV .and .u8 (c.val:Int) 127=(c.val:Int) % 128:=by decide+kernel
theorem H4{c:Int}(h0:0<=c)(h1:c<256):iV .and .u8 c 127=c % 128:=by
 obtain ⟨c,rfl⟩:=Int.eq_ofNat_of_zero_le h0;exact Jc ⟨c,by omega⟩
theorem IE{a b:Int}(k:Nat)(ha:0<=a)(ha2:a<18446744073709551616)(hd:a % 2^k=0)(hb:0<=b)(hb2:b<2^k)(hk:k<=64):iV .or .u64 a b=a+b:=by
 obtain ⟨a,rfl⟩:=Int.eq_ofNat_of_zero_le ha;obtain ⟨b,rfl⟩:=Int.eq_ofNat_of_zero_le hb;have hk2:(2:Nat)^k<=2^64:=Nat.pow_le_pow_right (by decide) hk;have hb3:b<2^k:=by exact_mod_cast hb2
 have hd2:a % 2^k=0:=by exact_mod_cast hd
 have ha3:a<2^64:=by omega
 have hb4:b<2^64:=by omega
 have e:a ||| b=a+b:=by
  have:=Nat.two_pow_add_eq_or_of_lt hb3 (a / 2^k)
  have h2:2^k * (a / 2^k)=a:=Nat.mul_div_cancel' (Nat.dvd_of_mod_eq_zero hd2);rw [h2] at this;exact this.symm
 have hor:a ||| b<2^64:=Nat.or_lt_two_pow ha3 hb4
 have e1:(BitVec.ofInt 64 ((a:Nat):Int)).toNat=a:=by
  rw [BitVec.ofInt_natCast,BitVec.toNat_ofNat,Nat.mod_eq_of_lt ha3]
 have e2:(BitVec.ofInt 64 ((b:Nat):Int)).toNat=b:=by
  rw [BitVec.ofInt_natCast,BitVec.toNat_ofNat,Nat.mod_eq_of_lt hb4]
 show IntKind.u64.wrap ((BitVec.ofInt 64 ((a:Nat):Int) ||| BitVec.ofInt 64 ((b:Nat):Int)).toNat:Int)=_
 rw [BitVec.toNat_or,e1,e2,e,w64 (by omega) (by omega)];rfl
theorem He(k:Nat):(2:Int)^(7 * k)=128^k:=by rw [Int.pow_mul];rfl
theorem digit{z c:Int}{k:Nat}(hz:0<=z)(hz2:z<128^k)(hk:k<=9)(c0:0<=c)(c1:c<256)(h9:k=9->c<=1):
  iV .or .u64 z (IntKind.u64.wrap (c % 128 * 2^(7 * k)))=z+c % 128 * 128^k/\0<=z+c % 128 * 128^k/\z+c % 128 * 128^k<128^(k+1)/\z+c % 128 * 128^k<18446744073709551616:=by
 have m0:0<=c % 128:=Int.emod_nonneg _ (by decide);have m1:c % 128<=127:=by omega
 have hp:(0:Int)<128^k:=Int.pow_pos (by decide);have hlt:c % 128 * 128^k<18446744073709551616/\z+c % 128 * 128^k<18446744073709551616:=by
  by_cases h:k=9
  ·subst h
   have:c<=1:=h9 rfl
   have e:(128:Int)^9=9223372036854775808:=by decide
   rw [e] at hz2 ⊢;omega
  ·have h8:(128:Int)^k<=128^8:=by have:=Nat.pow_le_pow_right (show 0<128 by decide) (show k<=8 by omega);exact_mod_cast this
   have e:(128:Int)^8=72057594037927936:=by decide
   have:c % 128 * 128^k<=127 * 128^k:=Int.mul_le_mul_of_nonneg_right m1 (Int.le_of_lt hp)
   rw [e] at h8;omega
 have h0:0<=c % 128 * 128^k:=Int.mul_nonneg m0 (Int.le_of_lt hp);refine ⟨?_,by omega,?_,hlt.2⟩
 ·rw [He,w64 h0 hlt.1,or_comm,IE (7 * k) h0 hlt.1 (by rw [He];exact Int.mul_emod_left _ _) hz (by rw [He];exact hz2) (by omega),Int.add_comm]
 ·rw [Int.pow_succ]
  have:c % 128 * 128^k<=127 * 128^k:=Int.mul_le_mul_of_nonneg_right m1 (Int.le_of_lt hp)
  omega
theorem GH{a:Int}(h0:0<=a)(h1:a<9223372036854775808):iV .xor .i64 a (-1)= -1 - a:=by
 obtain ⟨a,rfl⟩:=Int.eq_ofNat_of_zero_le h0;have ha:a<2^64:=by omega
 have e1:(BitVec.ofInt 64 (-1))=BitVec.allOnes 64:=by decide
 have e2:(BitVec.ofInt 64 ((a:Nat):Int)).toNat=a:=by
  rw [BitVec.ofInt_natCast,BitVec.toNat_ofNat,Nat.mod_eq_of_lt ha]
 show IntKind.i64.wrap ((BitVec.ofInt 64 ((a:Nat):Int) ^^^ BitVec.ofInt 64 (-1)).toNat:Int)=_
 rw [e1,BitVec.xor_allOnes,BitVec.toNat_not,e2];unfold IntKind.wrap;simp [IntKind.bits,IntKind.signed];omega
theorem GI{a:Int}(h0:0<=a)(h1:a<9223372036854775808):iV .xor .i64 a 0=a:=by
 obtain ⟨a,rfl⟩:=Int.eq_ofNat_of_zero_le h0;have ha:a<2^64:=by omega
 have e2:(BitVec.ofInt 64 ((a:Nat):Int)).toNat=a:=by
  rw [BitVec.ofInt_natCast,BitVec.toNat_ofNat,Nat.mod_eq_of_lt ha]
 show IntKind.i64.wrap ((BitVec.ofInt 64 ((a:Nat):Int) ^^^ BitVec.ofInt 64 0).toNat:Int)=_
 have e1:(BitVec.ofInt 64 0)=0#64:=by decide
 rw [e1,BitVec.xor_zero,e2];exact nW (by omega) (by omega)
theorem KX{z:Int}(h0:0<=z)(h1:z<18446744073709551616):iV .and .u64 z 1=z % 2:=by
 obtain ⟨a,rfl⟩:=Int.eq_ofNat_of_zero_le h0;have ha:a<2^64:=by omega
 have e2:(BitVec.ofInt 64 ((a:Nat):Int)).toNat=a:=by
  rw [BitVec.ofInt_natCast,BitVec.toNat_ofNat,Nat.mod_eq_of_lt ha]
 show IntKind.u64.wrap ((BitVec.ofInt 64 ((a:Nat):Int) &&& BitVec.ofInt 64 1).toNat:Int)=_
 have e1:(BitVec.ofInt 64 1).toNat=1:=by decide
 rw [BitVec.toNat_and,e2,e1,Nat.and_one_is_mod,w64 (by omega) (by omega)];rfl
theorem KR{z:Int}(h0:0<=z)(h1:z<18446744073709551616):iV .xor .i64 (IntKind.i64.wrap (z.fdiv (2^1))) (IntKind.i64.wrap (-(IntKind.i64.wrap (iV .and .u64 z 1))))=un z:=by
 rw [KX h0 h1];have e:z.fdiv (2^1)=z / 2:=by rw [Int.fdiv_eq_ediv_of_nonneg _ (by decide)];rfl
 rw [e,nW (by omega) (by omega),nW (n:=z % 2) (by omega) (by omega)];unfold un;rcases Int.emod_two_eq z with h|h
 ·rw [h,if_neg (by decide),show IntKind.i64.wrap (-0)=0 by decide,GI (by omega) (by omega)]
 ·rw [h,if_pos rfl,show IntKind.i64.wrap (-1)= -1 by decide,GH (by omega) (by omega)]
theorem J3{z:Int}(h0:0<=z)(h1:z<18446744073709551616):iV .xor .i64 (IntKind.i64.wrap (z.fdiv (2^min (Int.toNat 1) IntKind.u64.bits))) (IntKind.i64.wrap (0 - IntKind.i64.wrap (iV .and .u64 z 1)))=un z:=by
 rw [show min (Int.toNat 1) IntKind.u64.bits=1 from by decide,Int.zero_sub];exact KR h0 h1
abbrev gT(x:Int×Int×Int):T:=.tup [I x.1,I x.2.1,I x.2.2]
theorem yZ(b:List Int)(hb:vg b)(hl:b.length<2^60):DCalls Tryz.prog 96 [.slice 1 (b.map Y)] (gT (gi b)):=by
 refine dl2 mixed [.tmp 2,.tmp 3,.tmp 4] [I _,I _,I _] Tryz.func96 l96 ?_
 skip
 refine tx 0 (α:=Nat×Int) (β:=Int×Int) (fun q=>{sl:=[(5,.t (Q q.2)),(6,.t (I 0)),(9,.t (.slice 1 (b.map Y))),(10,.t (I b.length)),(11,.t (I q.1))],bx:=[]})
  (fun q=>q.1<=b.length/\q.1<=9/\0<=q.2/\q.2<128^q.1/\gz q.1 q.2 (b.drop q.1)=gi b) (fun q=>b.length - q.1)
  (fun z=>{sl:=[(5,.t (Q z.1)),(6,.t (I z.2))],bx:=[]}) (fun z=>(z.2=0/\gi b=(0,0,5))\/(0<z.2/\0<=z.1/\z.1<18446744073709551616/\gi b=(un z.1,z.2,0))) (0,0) ⟨by simp,by simp,by simp,by simp,rfl⟩ ?_ ?_ ?_
 ·repeat' (first|((refine leI ?_;simp;done))|exact wJ|refine And.intro ?_ ?_)
 ·rintro ⟨k,z⟩ ⟨hk,h9,hz,hz2,ho⟩;dsimp only at hk h9 hz hz2 ho;rcases Nat.lt_or_ge k b.length with h2|h2
  ·rw [Im h2] at ho;obtain ⟨c0,c1⟩:=hb b[k] (List.getElem_mem h2);have hxe:b[k]? =some b[k]:=ggZ h2;generalize b[k]=c at ho c0 c1 hxe;have hg:((b.map Y)[k]?.getD .nil)=Y c:=by rw [List.getElem?_map,hxe];rfl
   by_cases hE:(k=9/\c>1)\/(k>0/\c=0)
   ·rw [if_pos hE] at ho
    by_cases k9:k=9
    ·by_cases c1':c>1
     ·repeat' ((conv=>whnf);first|(refine nv_ (Y c) (by first|((simp only [Int.toNat_natCast];exact hg);done)|fail) ?_)|refine aE1 ?_|refine aD1 ?_|(refine And.intro (by first|((simp;omega);done)|fail) ?_)|refine aS ?_|(exact ri (by rw [<- ho]) (ri (by rw [<- ho]) (ri (by rw [<- ho]) trivial)))|refine nT_ ?_)
     ·have c0':c=0:=by omega
      repeat' ((conv=>whnf);first|(refine nv_ (Y c) (by first|((simp only [Int.toNat_natCast];exact hg);done)|fail) ?_)|refine aE1 ?_|refine aD1 ?_|refine aD0 ?_|(refine And.intro (by first|((simp;omega);done)|fail) ?_)|refine aS ?_|(exact ri (by rw [<- ho]) (ri (by rw [<- ho]) (ri (by rw [<- ho]) trivial)))|refine nT_ ?_)
    ·have c0':c=0:=by omega
     have k0:k>0:=by omega
     repeat' ((conv=>whnf);first|(refine nv_ (Y c) (by first|((simp only [Int.toNat_natCast];exact hg);done)|fail) ?_)|refine aE1 ?_|refine aE0 ?_|refine aD1 ?_|(refine And.intro (by first|((simp;omega);done)|fail) ?_)|refine aS ?_|(exact ri (by rw [<- ho]) (ri (by rw [<- ho]) (ri (by rw [<- ho]) trivial)))|refine nT_ ?_)
   rw [if_neg hE] at ho;have hd:=digit hz hz2 h9 c0 c1 (fun h=>by omega);have hw:IntKind.i64.wrap (7 * (k:Int))=((7 * k:Nat):Int):=by rw [nW (by omega) (by omega)];simp
   have hv:z+c % 128 * 128^k=iV .or .u64 z (IntKind.u64.wrap (IntKind.u64.wrap (iV .and .u8 c 127) * 2^min (IntKind.i64.wrap (7 * (k:Int))).toNat IntKind.u64.bits)):=by
    rw [H4 c0 c1,w64 (n:=c % 128) (by omega) (by omega),hw,Int.toNat_natCast,show min (7 * k) IntKind.u64.bits=7 * k from Nat.min_eq_left (Nat.le_trans (by omega) (nlZ (n:=63) rfl)),hd.1]
   have hk1:(k:Int)+1=IntKind.i64.wrap ((k:Int)+1):=(nW (by omega) (by omega)).symm
   by_cases c8:c<128
   ·rw [if_pos c8] at ho
    by_cases k9:k=9
    ·repeat' ((conv=>whnf);first|(refine nv_ (Y c) (by first|((simp only [Int.toNat_natCast];exact hg);done)|fail) ?_)|refine aE1 ?_|refine aE0 ?_|refine aD1 ?_|refine aD0 ?_|(refine And.intro (by first|((simp;omega);done)|fail) ?_)|refine aS ?_|refine nT_ ?_)
     refine ⟨(z+c % 128 * 128^k,(k:Int)+1),.inr ⟨by dsimp only;omega,hd.2.1,hd.2.2.2,ho.symm⟩,?_⟩
     repeat' (first|((refine leT ?_;exact congrArg Q hv))|((refine leI ?_;exact hk1))|exact wJ|refine And.intro ?_ ?_)
    by_cases k0:k=0
    ·repeat' ((conv=>whnf);first|(refine nv_ (Y c) (by first|((simp only [Int.toNat_natCast];exact hg);done)|fail) ?_)|refine aE0 ?_|refine aD1 ?_|refine aD0 ?_|(refine And.intro (by first|((simp;omega);done)|fail) ?_)|refine aS ?_|refine nT_ ?_)
     refine ⟨(z+c % 128 * 128^k,(k:Int)+1),.inr ⟨by dsimp only;omega,hd.2.1,hd.2.2.2,ho.symm⟩,?_⟩
     repeat' (first|((refine leT ?_;exact congrArg Q hv))|((refine leI ?_;exact hk1))|exact wJ|refine And.intro ?_ ?_)
    ·have c0':c≠0:=by omega
     repeat' ((conv=>whnf);first|(refine nv_ (Y c) (by first|((simp only [Int.toNat_natCast];exact hg);done)|fail) ?_)|refine aE0 ?_|refine aD1 ?_|(refine And.intro (by first|((simp;omega);done)|fail) ?_)|refine aS ?_|refine nT_ ?_)
     refine ⟨(z+c % 128 * 128^k,(k:Int)+1),.inr ⟨by dsimp only;omega,hd.2.1,hd.2.2.2,ho.symm⟩,?_⟩
     repeat' (first|((refine leT ?_;exact congrArg Q hv))|((refine leI ?_;exact hk1))|exact wJ|refine And.intro ?_ ?_)
   ·rw [if_neg c8] at ho;have k9:k≠9:=by omega
    by_cases k0:k=0
    ·repeat' ((conv=>whnf);first|(refine nv_ (Y c) (by first|((simp only [Int.toNat_natCast];exact hg);done)|fail) ?_)|refine aE0 ?_|refine aD1 ?_|refine aD0 ?_|(refine And.intro (by first|((simp;omega);done)|fail) ?_)|refine aS ?_|refine nT_ ?_)
     refine ⟨(k+1,z+c % 128 * 128^k),⟨by dsimp only;omega,by dsimp only;omega,hd.2.1,hd.2.2.1,ho⟩,by dsimp only;omega,?_⟩
     repeat' (first|((refine leT ?_;exact congrArg Q hv))|((refine leI ?_;exact hk1))|exact wJ|refine And.intro ?_ ?_)
    ·have c0':c≠0:=by omega
     repeat' ((conv=>whnf);first|(refine nv_ (Y c) (by first|((simp only [Int.toNat_natCast];exact hg);done)|fail) ?_)|refine aE0 ?_|refine aD1 ?_|refine aD0 ?_|(refine And.intro (by first|((simp;omega);done)|fail) ?_)|refine aS ?_|refine nT_ ?_)
     refine ⟨(k+1,z+c % 128 * 128^k),⟨by dsimp only;omega,by dsimp only;omega,hd.2.1,hd.2.2.1,ho⟩,by dsimp only;omega,?_⟩
     repeat' (first|((refine leT ?_;exact congrArg Q hv))|((refine leI ?_;exact hk1))|exact wJ|refine And.intro ?_ ?_)
  ·have:k=b.length:=by omega
   subst this;rw [List.drop_length] at ho
   repeat' ((conv=>whnf);first|refine aD0 ?_|refine aS ?_|fail)
   exact ⟨(z,0),.inl ⟨rfl,ho.symm⟩,by repeat' (first|exact wJ|refine And.intro ?_ ?_)⟩
 rintro ⟨z,u⟩ h;dsimp only at h;rcases h with ⟨h1,h2⟩|⟨h1,h2,h3,h4⟩
 ·subst h1;rw [h2]
  repeat' ((conv=>whnf);first|refine aE1 ?_|refine rix ?_|refine aS ?_|exact trivial)
 ·rw [h4];have hu:=J3 h2 h3
  repeat' ((conv=>whnf);first|refine sD (by omega) ?_|refine rix ?_|refine aS ?_|exact trivial)
end Go.RC
end
section
end
section
namespace Go.RC
open Go Go.DL Go.Proofs
theorem J1{z:Int}(h0:0<=z)(h1:z<18446744073709551616):i64 (un z):=by
 unfold un i64;split <;> omega
theorem HJ: ∀{l:List Int} {k:Nat} {z:Int},vg l->k<=9->0<=z->z<128^k->i64 (gz k z l).1/\0<=(gz k z l).2.1/\(gz k z l).2.1<=k+l.length/\0<=(gz k z l).2.2/\(gz k z l).2.2<=6/\((gz k z l).2.2=0->(k:Int)+1<=(gz k z l).2.1)
 |[],k,z,_,_,_,_=>by
  rw [gz];refine ⟨by unfold i64;omega,by simp,by simp,by simp,by simp,by simp⟩
 |c::l,k,z,hb,h9,hz,hz2=>by
  obtain ⟨c0,c1⟩:=hb c (by simp);rw [gz]
  by_cases hE:(k=9/\c>1)\/(k>0/\c=0)
  ·rw [if_pos hE];refine ⟨by unfold i64;omega,by simp,by simp;omega,by simp,by simp,by simp⟩
  rw [if_neg hE];obtain ⟨-,d1,d2,d3⟩:=digit hz hz2 h9 c0 c1 (fun h=>by omega)
  by_cases c8:c<128
  ·rw [if_pos c8];exact ⟨J1 d1 d3,by dsimp only;omega,by dsimp only;simp only [List.length_cons];omega,by simp,by simp,by simp⟩
  ·rw [if_neg c8];obtain ⟨q1,q2,q3,q4,q5,q6⟩:=HJ (l:=l) (k:=k+1) (z:=z+c % 128 * 128^k) (fun x hx=>hb x (by simp [hx])) (by omega) d1 d2;refine ⟨q1,q2,?_,q4,q5,fun h=>by have:=q6 h;omega⟩;simp only [List.length_cons];omega
theorem yA{b:List Int}(hb:vg b):i64 (gi b).1/\0<=(gi b).2.1/\(gi b).2.1<=b.length/\0<=(gi b).2.2/\(gi b).2.2<=6/\((gi b).2.2=0->1<=(gi b).2.1):=by
 obtain ⟨q1,q2,q3,q4,q5,q6⟩:=HJ (k:=0) (z:=0) hb (by omega) (by omega) (by decide);have e:gi b=gz 0 0 b:=rfl;rw [e];exact ⟨q1,q2,by omega,q4,q5,fun h=>by have:=q6 h;omega⟩
def gl(b:List Int)(least:Int):Int×Int×Int:=if (gi b).2.2≠0 then (0,0,(gi b).2.2) else if (gi b).1<0 then (0,0,6) else if (gi b).1>(b.length - (gi b).2.1) / least then (0,0,5) else ((gi b).1,(gi b).2.1,0)
theorem Aw(b:List Int)(least:Int)(hb:vg b)(hl:b.length<2^60)(h0:0<least)(h1:least<100):DCalls Tryz.prog 135 [.slice 1 (b.map Y),I least] (gT (gl b least)):=by
 refine dl2 mixed [.tmp 4,.tmp 5,.tmp 6] [I _,I _,I _] Tryz.func135 ME ?_;have hG:=yZ b hb hl;obtain ⟨q1,q2,q3,q4,q5,q6⟩:=yA hb;unfold gl;generalize gi b=g at *
 obtain ⟨n,u,e⟩:=g;dsimp only at *
 by_cases e0:e=0
 case neg=>
  rw [if_pos e0]
  repeat' ((conv=>whnf);first|refine uc _ (hG) ?_|refine sG e0 ?_|refine rix ?_|refine aS ?_|exact trivial)
 rw [if_neg (by simpa using e0)]
 by_cases n0:n<0
 ·rw [if_pos n0]
  repeat' ((conv=>whnf);first|refine uc _ (hG) ?_|refine sF e0 ?_|refine sC n0 ?_|refine rix ?_|refine aS ?_|exact trivial)
 rw [if_neg n0];have hq:IntKind.i64.wrap ((IntKind.i64.wrap (((b.map Y).length:Int) - u)).tdiv least)=(b.length - u) / least:=by
  rw [List.length_map,nW (n:=(b.length:Int) - u) (by omega) (by omega),Int.tdiv_eq_ediv_of_nonneg (by omega)];have h3:0<=((b.length:Int) - u) / least:=Int.ediv_nonneg (by omega) (by omega);have h4:((b.length:Int) - u) / least<=(b.length:Int) - u:=Int.ediv_le_self _ (by omega);exact nW (by omega) (by omega)
 by_cases c:n>(b.length - u) / least
 ·rw [if_pos c]
  repeat' ((conv=>whnf);first|refine uc _ (hG) ?_|refine sF e0 ?_|refine su n0 ?_|(refine sC (by rw [hq];exact c) ?_)|refine rix ?_|(refine And.intro (by first|(omega;done)|fail) ?_)|refine aS ?_|exact trivial)
 ·rw [if_neg c]
  repeat' ((conv=>whnf);first|refine uc _ (hG) ?_|refine sF e0 ?_|refine su n0 ?_|(refine su (by rw [hq];exact c) ?_)|refine rix ?_|(refine And.intro (by first|(omega;done)|fail) ?_)|refine aS ?_|exact trivial)
def gis:Nat->List Int->Int->List Int->List Int×Int×Int
 |0,_,at',acc=>(acc,at',0)
 |n+1,b,at',acc=>if (gi (b.drop at'.toNat)).2.2≠0 then ([],0,(gi (b.drop at'.toNat)).2.2) else gis n b (at'+(gi (b.drop at'.toNat)).2.1) (acc++[(gi (b.drop at'.toNat)).1])
def uV(b:List Int):List Int×Int×Int:=if (gl b 1).2.2≠0 then ([],0,(gl b 1).2.2) else gis (gl b 1).1.toNat b (gl b 1).2.1 []
abbrev gsT(x:List Int×Int×Int):T:=.tup [if x.2.2≠0 then .nil else .slice 1 (x.1.map I),I x.2.1,I x.2.2]
theorem vC{b:List Int}(h:vg b)(k:Nat):vg (b.drop k):=fun x hx=>h x (List.mem_of_mem_drop hx)
theorem Be{b:List Int}{least:Int}(hb:vg b)(h0:0<least):0<=(gl b least).1/\0<=(gl b least).2.1/\(gl b least).2.1<=b.length/\(gl b least).1 * least<=b.length - (gl b least).2.1:=by
 obtain ⟨q1,q2,q3,q4,q5,q6⟩:=yA hb;unfold gl;generalize gi b=g at *
 obtain ⟨n,u,e⟩:=g;dsimp only at *
 by_cases e0:e≠0
 ·rw [if_pos e0];refine ⟨by simp,by simp,by simp,by simp⟩
 rw [if_neg e0]
 by_cases n0:n<0
 ·rw [if_pos n0];refine ⟨by simp,by simp,by simp,by simp⟩
 rw [if_neg n0]
 by_cases c:n>(b.length - u) / least
 ·rw [if_pos c];refine ⟨by simp,by simp,by simp,by simp⟩
 rw [if_neg c];refine ⟨by dsimp only;omega,by dsimp only;omega,by dsimp only;omega,?_⟩;dsimp only;have h1:n * least<=(b.length - u) / least * least:=Int.mul_le_mul_of_nonneg_right (by omega) (by omega);have h2:((b.length:Int) - u) / least * least<=(b.length:Int) - u:=Int.ediv_mul_le _ (by omega);omega
theorem GX{n:Nat}{b:List Int}{a:Int}{acc:List Int}(k:Nat)(hk:k<n):gis (n - k) b a acc=if (gi (b.drop a.toNat)).2.2≠0 then ([],0,(gi (b.drop a.toNat)).2.2) else gis (n - (k+1)) b (a+(gi (b.drop a.toNat)).2.1) (acc++[(gi (b.drop a.toNat)).1]):=by
 obtain ⟨m,hm⟩: ∃m,n - k=m+1:=⟨n - k - 1,by omega⟩
 rw [hm,show n - (k+1)=m by omega];rfl
theorem GA(b:List Int)(hb:vg b)(hl:b.length<2^40):DCalls Tryz.prog 136 [.slice 1 (b.map Y),I 1,.clos 96 []] (gsT (uV b)):=by
 refine dl2 mixed [.tmp 6,.tmp 7,.tmp 8] [_,I _,I _] Tryz.func136 MF ?_;have hL:=Aw b 1 hb (by omega) (by omega) (by omega);obtain ⟨g1,g2,g3,g4⟩:=Be (least:=1) hb (by omega);have hgi:uV b=if (gl b 1).2.2≠0 then ([],0,(gl b 1).2.2) else gis (gl b 1).1.toNat b (gl b 1).2.1 []:=rfl
 generalize gl b 1=g at *
 obtain ⟨n,u,e⟩:=g;dsimp only at *
 by_cases e0:e=0
 case neg=>
  rw [if_pos e0] at hgi;rw [hgi];show wpC _ _ _ (nX _ _ [if e≠0 then .nil else .slice 1 ([].map I),I 0,I e])
  rw [if_pos e0]
  repeat' ((conv=>whnf);first|refine uc _ (hL) ?_|refine sG e0 ?_|refine rix ?_|refine aS ?_|exact trivial)
 rw [if_neg (fun h=>h e0)] at hgi;rw [hgi]
 repeat' ((conv=>whnf);first|refine uc _ (hL) ?_|refine sF e0 ?_|refine aS ?_|fail)
 have hr:gsT (gis n.toNat b u [])= .tup [if (gis n.toNat b u []).2.2≠0 then .nil else .slice 1 ((gis n.toNat b u []).1.map I),I (gis n.toNat b u []).2.1,I (gis n.toNat b u []).2.2]:=rfl;refine tx 0 (α:=Nat×Nat×Int×List Int) (β:=Nat×Int×List Int) (fun q=>{sl:=[(0,.t (.slice 1 (b.map Y))),(2,.t (.clos 96 [])),(10,.t (I q.2.2.1)),(12,.own q.1 3 1 (q.2.2.2.map I)),(26,.t (I n)),(27,.t (I q.2.1))],bx:=[]})
  (fun q=>q.2.1<=n.toNat/\q.2.2.2.length=q.2.1/\0<=q.2.2.1/\q.2.2.1<=b.length/\gis (n.toNat - q.2.1) b q.2.2.1 q.2.2.2=gis n.toNat b u []) (fun q=>n.toNat - q.2.1)
  (fun q=>{sl:=[(10,.t (I q.2.1)),(12,.own q.1 3 1 (q.2.2.map I))],bx:=[]}) (fun q=>gis n.toNat b u []=(q.2.2,q.2.1,0)) (44,0,u,[]) ⟨by simp,rfl,g2,g3,rfl⟩ ?_ ?_ ?_
 ·repeat' (first|exact wJ|refine And.intro ?_ ?_)
 ·rintro ⟨q,k,a,acc⟩ ⟨hk,hla,ha0,ha1,ho⟩;dsimp only at hk hla ha0 ha1 ho;rcases Nat.lt_or_ge k n.toNat with h2|h2
  ·rw [GX k h2] at ho;have hG:=yZ (b.drop a.toNat) (vC hb _) (by simp;omega);obtain ⟨q1,q2,q3,q4,q5,q6⟩:=yA (vC hb a.toNat);rw [List.length_drop] at q3;rw [List.map_drop,show (b.map Y).drop a.toNat=List.drop a.toNat (List.take ((((b.map Y).length:Nat):Int)).toNat (b.map Y)) by rw [Int.toNat_natCast,List.take_length]] at hG;generalize gi (b.drop a.toNat)=g at *
   obtain ⟨v,w,f⟩:=g;dsimp only at *
   by_cases f0:f=0
   ·rw [if_neg (fun h=>h f0)] at ho
    repeat' ((conv=>whnf);first|refine uc _ (hG) ?_|refine sF f0 ?_|refine aD1 ?_|(refine And.intro (by first|((simp;omega);done)|fail) ?_)|refine aS ?_|refine nT_ ?_)
    have hw1:a+w=IntKind.i64.wrap (a+w):=(nW (by omega) (by omega)).symm;have hw2:((k+1:Nat):Int)=IntKind.i64.wrap ((k:Int)+1):=by rw [nW (by omega) (by omega)];rfl
    refine ⟨(44,k+1,a+w,acc++[v]),⟨by dsimp only;omega,by simp [hla],by dsimp only;omega,by dsimp only;omega,ho⟩,by dsimp only;omega,?_⟩
    repeat' (first|((refine leI ?_;first|exact hw1|exact hw2))|((refine ug ?_;simp;done))|exact wJ|refine And.intro ?_ ?_)
   ·rw [if_pos f0] at ho
    repeat' ((conv=>whnf);first|refine uc _ (hG) ?_|refine sG f0 ?_|refine nT_ ?_|refine aD1 ?_|(refine And.intro (by first|((simp;omega);done)|fail) ?_)|refine aS ?_|refine rt ?_ (ri ?_ (ri ?_ trivial)))
    all_goals rw [<- ho]
    exact (if_pos f0).symm
  ·have:k=n.toNat:=by omega
   subst this;rw [Nat.sub_self] at ho
   repeat' ((conv=>whnf);first|(refine su (by simp;omega) ?_)|refine aS ?_|fail)
   exact ⟨(q,a,acc),ho.symm,by repeat' (first|exact wJ|refine And.intro ?_ ?_)⟩
 rintro ⟨q,a,acc⟩ h;rw [h]
 repeat' ((conv=>whnf);first|refine rix ?_|refine aS ?_|exact trivial)
theorem zj(b:List Int)(hb:vg b)(hl:b.length<2^40):DCalls Tryz.prog 98 [.slice 1 (b.map Y)] (gsT (uV b)):=by
 refine dl2 mixed [.tmp 2,.tmp 3,.tmp 4] [_,I _,I _] Tryz.func98 l98 ?_;have h:=GA b hb hl
 repeat' ((conv=>whnf);first|refine uc _ (h) ?_|refine rix ?_|refine aS ?_|exact trivial)
end Go.RC
end
section
end
section
end
