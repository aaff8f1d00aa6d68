/- Joined by program: parts of a data level over the model, of the program's functions over it, and of the statement's proof. -/
import Derived.Test.YtnfonfjleonbdaaGreatGf
import Derived.Test.YtnfonfjleonbdaaGreatGd
import Derived.Shelf.Lays8
import Derived.Test.YtnfonfjleonbdaaGreatProg
import Derived.Test.YtnfonfjleonbdaaGreatGc
import Derived.KernelRfl
import Derived.Test.YtnfonfjleonbdaaGreatGe
set_option maxRecDepth 100000
set_option maxHeartbeats 8000000
section
namespace Go.RC
open Go Go.DL Go.Proofs
theorem KQ(n:Int):un (zz n:Nat)=n:=by unfold un zz;split <;> split <;> omega
theorem KS{m:Nat}:zz (un (m:Int))=m:=by unfold un zz;split <;> split <;> omega
theorem J4(m:Nat):1<=(vb m).length:=by
 by_cases h:m<128
 ·rw [zl h];simp
 ·rw [Az h];simp
theorem Cr(n:Int):1<=(vi n).length:=J4 _
theorem Nn:(128:Int)^9=9223372036854775808:=by decide
theorem Kd: ∀(m k:Nat) (z:Int) (r:List Int),0<=z->z+(m:Int) * 128^k<18446744073709551616->(k>0->m>0)->gz k z (vb m++r)=(un (z+(m:Int) * 128^k),(k:Int)+(vb m).length,0):=by
 intro m
 induction m using Nat.strongRecOn with
 |ind m f=>
  intro k z r l c g;have i:(0:Int)<128^k:=Int.pow_pos (by decide);have d:k=9->m<2:=fun h=>by subst h;rw [Nn] at c;omega
  by_cases h:m<128
  ·rw [zl h];show gz k z ((m:Int)::r)=_
   rw [gz,if_neg (by rintro (⟨a,b⟩|⟨a,b⟩);(have:=d a;omega);(have:=g a;omega)),if_pos (by omega)];rw [show (m:Int) % 128=m by omega];rfl
  ·rw [Az h];show gz k z (((m % 128+128:Nat):Int)::(vb (m / 128)++r))=_
   rw [gz,if_neg (by rintro (⟨a,b⟩|⟨a,b⟩);(have:=d a;omega);(omega)),if_neg (by omega)];rw [show ((m % 128+128:Nat):Int) % 128=((m % 128:Nat):Int) by omega];have e:z+((m % 128:Nat):Int) * 128^k+((m / 128:Nat):Int) * 128^(k+1)=z+(m:Int) * 128^k:=by
    rw [Int.pow_succ,Int.mul_comm (128^k) 128, <-Int.mul_assoc,Int.add_assoc, <-Int.add_mul]
    congr 2;omega
   have j:(0:Int)<=((m % 128:Nat):Int) * 128^k:=Int.mul_nonneg (by omega) (Int.le_of_lt i);rw [f (m / 128) (by omega) (k+1) _ r (by omega) (by rw [e];exact c) (fun _=>by omega),e,List.length_cons]
   congr 2
   omega
theorem Db{n:Int}(h:i64 n)(r:List Int):gi (vi n++r)=(n,(((vi n).length:Nat):Int),0):=by
 have:=Kd (zz n) 0 0 r (by omega) (by have:=FT h;omega) (fun h=>by omega)
 unfold gi vi;rw [this];have e:(0:Int)+((zz n:Nat):Int) * 128^0=((zz n:Nat):Int):=by simp
 rw [e,KQ];simp
theorem F2: ∀{b:List Int} {k:Nat} {z:Int},vg b->k<=9->0<=z->z<128^k->(gz k z b).2.2=0-> ∃m:Nat,(gz k z b).2.1=k+(vb m).length/\b=vb m++b.drop (vb m).length/\(gz k z b).1=un (z+(m:Int) * 128^k)/\(k>0->m>0)
 |[],k,z,_,_,_,_,h=>by rw [gz] at h;simp at h
 |c::r,k,z,hb,hk,hz,hz2,h=>by
  obtain ⟨d,q⟩:=hb c (by simp);obtain ⟨c,rfl⟩:=Int.eq_ofNat_of_zero_le d;have n:vg r:=fun x f=>hb x (by simp [f])
  rw [gz] at h ⊢
  by_cases a:(k=9/\(c:Int)>1)\/(k>0/\(c:Int)=0)
  ·rw [if_pos a] at h;simp at h
  rw [if_neg a] at h ⊢;obtain ⟨-,o,j,s⟩:=digit hz hz2 hk d q (fun h=>by omega)
  by_cases c8:(c:Int)<128
  ·rw [if_pos c8];refine ⟨c,?_,?_,?_,fun p=>by omega⟩
   ·rw [zl (by omega)];rfl
   ·rw [zl (by omega)];rfl
   ·rw [show (c:Int) % 128=c by omega]
  ·rw [if_neg c8] at h ⊢;obtain ⟨m,e,i,l,g⟩:=F2 (b:=r) (k:=k+1) n (by omega) o j h;have t:=g (by omega);refine ⟨c % 128+128 * m,?_,?_,?_,fun _=>by omega⟩
   ·rw [e,Az (z:=c % 128+128 * m) (by omega),show (c % 128+128 * m) / 128=m by omega,List.length_cons];omega
   ·rw [Az (z:=c % 128+128 * m) (by omega),show (c % 128+128 * m) / 128=m by omega,show (c % 128+128 * m) % 128+128=c by omega,List.length_cons,List.drop_succ_cons,List.cons_append, <-i]
   ·rw [l]
    congr 1
    rw [Int.pow_succ,Int.mul_comm (128^k) 128, <-Int.mul_assoc,Int.add_assoc, <-Int.add_mul]
    congr 2;omega
theorem DD{b:List Int}(c:vg b)(h:(gi b).2.2=0):(gi b).2.1=(vi (gi b).1).length/\b=vi (gi b).1++b.drop (gi b).2.1.toNat:=by
 obtain ⟨m,a,f,d,g⟩:=F2 (b:=b) (k:=0) (z:=0) c (by omega) (by omega) (by decide) h;have e:(gi b).1=un (m:Int):=by
  rw [show (gi b).1=un (0+(m:Int) * 128^0) from d];simp
 have a:(gi b).2.1=((vb m).length:Int):=by rw [show (gi b).2.1=((0:Nat):Int)+(vb m).length from a];simp
 rw [e];unfold vi;rw [KS,a];exact ⟨rfl,by simpa using f⟩
theorem Ff{k:Nat}{r:List Int}{least:Int}(b:0<least)(a:k<2^62)(h:(k:Int) * least<=r.length):gl (vi k++r) least=((k:Int),(((vi k).length:Nat):Int),0):=by
 unfold gl;rw [Db (xm a)];dsimp only;rw [if_neg (by simp),if_neg (by omega),if_neg];have e:(((vi k++r).length:Nat):Int) - ((vi k).length:Int)=r.length:=by rw [List.length_append];omega
 rw [e]
 have:=(Int.le_ediv_iff_mul_le b).2 h
 omega
theorem F1{b:List Int}{least:Int}(c:vg b)(h:(gl b least).2.2=0):0<=(gl b least).1/\i64 (gl b least).1/\(gl b least).2.1=(vi (gl b least).1).length/\b=vi (gl b least).1++b.drop (gl b least).2.1.toNat:=by
 have f:=DD c;obtain ⟨g, -⟩:=yA c;unfold gl at h ⊢
 by_cases a:(gi b).2.2≠0
 ·rw [if_pos a] at h;exact absurd h a
 rw [if_neg a] at h ⊢
 by_cases d:(gi b).1<0
 ·rw [if_pos d] at h;simp at h
 rw [if_neg d] at h ⊢
 by_cases c3:(gi b).1>(b.length - (gi b).2.1) / least
 ·rw [if_pos c3] at h;simp at h
 rw [if_neg c3];obtain ⟨e,i⟩:=f (by simpa using a);exact ⟨by dsimp only;omega,g,e,i⟩
theorem DC: ∀(l:List Int),l.length<=(l.flatMap vi).length
 |[]=>by simp
 |x::l=>by
  have:=DC l
  have:=Cr x
  simp only [List.flatMap_cons,List.length_append,List.length_cons];omega
theorem DF{b r:List Int}: ∀{l acc:List Int} {a:Int},0<=a->b.drop a.toNat=l.flatMap vi++r->(∀ x∈l,i64 x)->gis l.length b a acc=(acc++l,a+(l.flatMap vi).length,0)
 |[],acc,a,h0,h,_=>by simp [gis]
 |x::l,acc,a,h0,h,hx=>by
  have c:gi (b.drop a.toNat)=(x,(((vi x).length:Nat):Int),0):=by rw [h,List.flatMap_cons,List.append_assoc];exact Db (hx x (by simp)) _
  show gis (l.length+1) b a acc=_
  rw [gis,c,if_neg (by simp)];dsimp only;rw [DF (l:=l) (by omega) (by
   rw [show (a+((vi x).length:Int)).toNat=a.toNat+(vi x).length by omega, <-List.drop_drop,h,List.flatMap_cons,List.append_assoc,List.drop_left]) (fun y d=>hx y (by simp [d]))]
  simp only [List.append_assoc,List.singleton_append,List.flatMap_cons,List.length_append]
  congr 2
  omega
theorem AP{l r:List Int}(b:l.length<2^62)(a: ∀x∈l,i64 x):uV (vis l++r)=(l,(((vis l).length:Nat):Int),0):=by
 unfold uV vis;rw [List.append_assoc,Ff (by decide) b (by have:=DC l;rw [List.length_append];omega)];dsimp only;rw [if_neg (by simp),Int.toNat_natCast,DF (r:=r) (by omega) (by rw [Int.toNat_natCast,List.drop_left]) a];simp
theorem Ez{b:List Int}(f:vg b): ∀{n:Nat} {acc:List Int} {a:Int},0<=a->(gis n b a acc).2.2=0-> ∃l,(gis n b a acc).1=acc++l/\l.length=n/\(∀ x∈l,i64 x)/\(gis n b a acc).2.1=a+(l.flatMap vi).length/\b.drop a.toNat=l.flatMap vi++b.drop (gis n b a acc).2.1.toNat
 |0,acc,a,h0,h=>⟨[],by simp [gis],rfl,by simp,by simp [gis],by simp [gis]⟩
 |n+1,acc,a,h0,h=>by
  have hd:=vC f a.toNat;rw [gis] at h ⊢
  by_cases c:(gi (b.drop a.toNat)).2.2≠0
  ·rw [if_pos c] at h;exact absurd h c
  rw [if_neg c] at h ⊢;obtain ⟨r,m⟩:=DD hd (by simpa using c);obtain ⟨j, -⟩:=yA hd;generalize gi (b.drop a.toNat)=g at *
  obtain ⟨v,u,e⟩:=g;dsimp only at *
  obtain ⟨l,p,k,o,i,q⟩:=Ez f (n:=n) (acc:=acc++[v]) (a:=a+u) (by omega) h;refine ⟨v::l,?_,by simp [k],?_,?_,?_⟩
  ·rw [p];simp
  ·intro x d;rcases List.mem_cons.1 d with rfl|d
   ·exact j
   ·exact o x d
  ·rw [i,List.flatMap_cons,List.length_append];omega
  ·rw [m,List.drop_drop,show a.toNat+u.toNat=(a+u).toNat by omega,q,List.flatMap_cons,List.append_assoc]
theorem AO{b:List Int}(i:vg b)(h:(uV b).2.2=0):(∀ x∈(uV b).1,i64 x)/\(uV b).2.1=(vis (uV b).1).length/\b=vis (uV b).1++b.drop (uV b).2.1.toNat:=by
 have p:=@F1 b 1 i;unfold uV at h ⊢
 by_cases c:(gl b 1).2.2≠0
 ·rw [if_pos c] at h;exact absurd h c
 rw [if_neg c] at h ⊢;obtain ⟨s, -,k,m⟩:=p (by simpa using c);generalize gl b 1=g at *
 obtain ⟨n,u,e⟩:=g;dsimp only at *
 obtain ⟨l,f,r,o,j,q⟩:=Ez i (n:=n.toNat) (acc:=[]) (a:=u) (by omega) h;rw [List.nil_append] at f;rw [f];have d:((l.length:Nat):Int)=n:=by omega
 refine ⟨o,?_,?_⟩
 ·rw [j,vis,d,List.length_append,k];omega
 ·rw [vis,d,List.append_assoc, <-q];exact m
end Go.RC
end
section
namespace Go.ST
open Go Go.DL Go.TY
open Go.RC (vi vis vs gi gl uV i64 vg vC sB Y Db Ff AP yA Be DD F1 AO xm CF EL A4 yF Cr)
def vU(e:RE):List Int:=vs e.var++(vis e.key++vis [e.n,e.at_])
def xT(a:List RE):List Int:=vi a.length++a.flatMap vU
def gb(b:List Int):ByteArray×Int×Int:=if (gl b 1).2.2≠0 then (⟨#[]⟩,0,(gl b 1).2.2) else (oG (((b.drop (gl b 1).2.1.toNat).take (gl b 1).1.toNat).map Y),(gl b 1).2.1+(gl b 1).1,0)
def BK(b:List Int):RE×List Int×Int:=
 if (gb b).2.2≠0 then (⟨⟨#[]⟩,[],0,0⟩,[],(gb b).2.2) else
 if (uV (b.drop (gb b).2.1.toNat)).2.2≠0 then (⟨⟨#[]⟩,[],0,0⟩,[],(uV (b.drop (gb b).2.1.toNat)).2.2) else
 let a:=(b.drop (gb b).2.1.toNat).drop (uV (b.drop (gb b).2.1.toNat)).2.1.toNat
 if (uV a).2.2≠0 then (⟨⟨#[]⟩,[],0,0⟩,[],(uV a).2.2) else
 if (uV a).1.length≠2 then (⟨⟨#[]⟩,[],0,0⟩,[],6) else
 (⟨(gb b).1,(uV (b.drop (gb b).2.1.toNat)).1,(uV a).1.getD 0 0,(uV a).1.getD 1 0⟩,a.drop (uV a).2.1.toNat,0)
def xS:Nat->List Int->List RE->List RE×List Int×Int
 |0,b,acc=>(acc,b,0)
 |n+1,b,acc=>if (BK b).2.2≠0 then ([],[],(BK b).2.2) else xS n (BK b).2.1 (acc++[(BK b).1])
def yL(b:List Int):List RE×Int:=
 if (gi b).2.2≠0 then ([],(gi b).2.2) else if (gi b).1<0 then ([],6) else
 if (xS (gi b).1.toNat (b.drop (gi b).2.1.toNat) []).2.2≠0 then ([],(xS (gi b).1.toNat (b.drop (gi b).2.1.toNat) []).2.2)
 else if (xS (gi b).1.toNat (b.drop (gi b).2.1.toNat) []).2.1≠[] then ([],6) else ((xS (gi b).1.toNat (b.drop (gi b).2.1.toNat) []).1,0)
structure SzE (e:RE):Prop where
 var:e.var.size<2^40
 key:e.key.length<2^40
 keys: ∀x∈e.key,i64 x
 n:i64 e.n
 at_:i64 e.at_
theorem JQ{a b:ByteArray}(h:sB a=sB b):a=b:=by
 have d: ∀(x y:List UInt8),x.map (fun b=>(b.toNat:Int))=y.map (fun b=>(b.toNat:Int))->x=y:=by
  intro x
  induction x with
  |nil=>intro y h;cases y with
   |nil=>rfl
   |cons _ _=>simp at h
  |cons a r e=>intro y h;cases y with
   |nil=>simp at h
   |cons c s=>
    simp only [List.map_cons,List.cons.injEq] at h
    have:a=c:=UInt8.toNat_inj.1 (by have:=h.1;omega)
    rw [this,e s h.2]
 exact ByteArray.ext (Array.ext' (d _ _ h))
theorem I3(s:ByteArray):oG ((sB s).map Y)=s:=JQ (EL _ (CF s))
theorem J9{s:ByteArray}(h:s.size<2^40)(r:List Int):gb (vs s++r)=(s,(((vs s).length:Nat):Int),0):=by
 unfold gb vs;rw [List.append_assoc,Ff (by decide) (by omega) (by rw [List.length_append,A4];omega)];dsimp only;rw [if_neg (by simp),Int.toNat_natCast,Int.toNat_natCast,List.drop_left, <-A4,List.take_left,I3];simp only [List.length_append,A4,Int.natCast_add]
theorem GO{e:RE}(h:SzE e)(r:List Int):BK (vU e++r)=(e,r,0):=by
 unfold BK vU;rw [List.append_assoc,List.append_assoc,J9 h.var];dsimp only;rw [if_neg (by simp),Int.toNat_natCast,List.drop_left,AP (by have:=h.key;omega) h.keys];dsimp only;rw [if_neg (by simp),Int.toNat_natCast,List.drop_left,AP (by simp) (by simp;exact ⟨h.n,h.at_⟩)];dsimp only;rw [if_neg (by simp),if_neg (by simp),Int.toNat_natCast,List.drop_left];rfl
theorem Dt: ∀{a acc:List RE} {r:List Int},(∀ e∈a,SzE e)->xS a.length (a.flatMap vU++r) acc=(acc++a,r,0)
 |[],acc,r,_=>by simp [xS]
 |e::a,acc,r,h=>by
  show xS (a.length+1) _ _=_
  rw [xS,List.flatMap_cons,List.append_assoc,GO (h e (by simp)),if_neg (by simp)];dsimp only;rw [Dt fun x b=>h x (by simp [b])];simp
theorem GP{a:List RE}(h: ∀e∈a,SzE e)(b:a.length<2^40):yL (xT a)=(a,0):=by
 unfold yL xT;rw [Db (xm (by omega))];dsimp only
 have:=Dt (acc:=[]) (r:=[]) h
 rw [List.append_nil,List.nil_append] at this;rw [if_neg (by simp),if_neg (by omega),Int.toNat_natCast,Int.toNat_natCast,List.drop_left,this];dsimp only;rw [if_neg (by simp),if_neg (by simp)]
end Go.ST
end
section
namespace Go.Proofs
open Go.Shelf
def Tryz.Cd:Go.Shelf.Ren:=⟨fun|4=>137|n=>n,fun|22=>98|25=>5|3=>3|4=>4|9=>9|20=>20|0=>0|n=>n,fun|n=>n⟩
theorem Tryz.Eg:Go.Proofs.Lays8.n4 Tryz.prog Tryz.Cd:={
 mixed:=by kernel_rfl
 f4:=⟨Tryz.f137.name,by decide,Tryz.func137.trans (congrArg some (by kernel_rfl))⟩
 t0:=Tryz.underlying0
 a0:=Tryz.isAgg0
 z0:=Tryz.sizeOf0
 v0:=Tryz.zeroValue0
 t3:=Tryz.underlying3
 a3:=Tryz.isAgg3
 z3:=Tryz.sizeOf3
 v3:=Tryz.zeroValue3
 t4:=Tryz.underlying4
 a4:=Tryz.isAgg4
 z4:=Tryz.sizeOf4
 v4:=Tryz.zeroValue4
 t9:=Tryz.underlying9
 a9:=Tryz.isAgg9
 z9:=Tryz.sizeOf9
 v9:=Tryz.zeroValue9
 t20:=Tryz.underlying20
 a20:=Tryz.isAgg20
 z20:=Tryz.sizeOf20
 v20:=Tryz.zeroValue20
 t22:=Tryz.underlying98
 a22:=Tryz.isAgg98
 z22:=Tryz.sizeOf98
 v22:=Tryz.zeroValue98 }
end Go.Proofs
end
section
namespace Go.ST
open Go Go.DL Go.MM Go.Proofs
open Go.TY hiding Fd
open Go.RC (vi vis vs gi gl uV i64 vg Y)
theorem Kj:(Tryz.prog.info? 5).map (fun i=>(i.zero.map (fun z=>z.cells.size),i.size,i.bytes))=some (some 1,1,1):=by kernel_rfl
theorem Ii(n:Nat)(h:n<2^40):eC Tryz.prog 137 [.nil,I n] 5 1 [] []:=by
 have b:=Kj;cases c:Tryz.prog.info? 5 with
 |none=>rw [c] at b;cases b
 |some j=>
  rw [c] at b;simp only [Option.map_some,Option.some.injEq,Prod.mk.injEq] at b;obtain ⟨a,e,f⟩:=b;cases d:j.zero with
  |none=>rw [d] at a;cases a
  |some z=>
   rw [d] at a;have a:z.cells.size=1:=by simpa using a
   have:=sN Tryz.Eg (i0:=j) (z:=z) c d (by omega) (by omega) n (by rw [f];omega) (by omega) (eb Tryz.func137 rfl rfl)
   rw [e] at this;exact this
abbrev bT(l:List Int):T:=.slice 1 (l.map Y)
def wH(ls:List (List Int)):Nat:=(ls.map List.length).sum
theorem Ce{ls:List (List Int)}{k:Nat}(h:k<ls.length):wH (ls.take (k+1))=wH (ls.take k)+ls[k].length:=by
 unfold wH;rw [List.take_succ_eq_append_getElem h,List.map_append,List.sum_append];simp
theorem BN(ls:List (List Int))(k:Nat):wH (ls.take k)<=wH ls:=by
 conv=>rhs;rw [<- List.take_append_drop k ls]
 unfold wH;rw [List.map_append,List.sum_append];omega
theorem Fs(ls:List (List Int)):ls.flatten.length=wH ls:=by unfold wH;rw [List.length_flatten]
theorem Ji{ls:List (List Int)}{j:Nat}{l:List Int}(h:ls[j]? =some l):((ls.map bT)[j]?.getD .nil)=bT l:=by
 rw [List.getElem?_map,h];rfl
theorem Gz(ls:List (List Int))(u:ls.length<2^20)(s:wH ls<2^30):DCalls Tryz.prog 100 [.slice 1 (ls.map bT)] (bT ls.flatten):=by
 refine dl2 mixed [.tmp 2] [bT _] Tryz.func100 Go.ST6.Mi ?_
 skip
 refine tx 0 (α:=Nat) (β:=Unit) (fun k=>{sl:=[(0,.t (.slice 1 (ls.map bT))),(2,.t .nil),(3,.t (I (wH (ls.take k)))),(9,.t (.slice 1 (ls.map bT))),(10,.t (I ls.length)),(11,.t (I k))],bx:=[]})
  (fun k=>k<=ls.length) (fun k=>ls.length - k) (fun _=>{sl:=[(0,.t (.slice 1 (ls.map bT))),(2,.t .nil),(3,.t (I (wH ls)))],bx:=[]}) (fun _=>True) 0 (by omega) ?_ ?_ ?_
 ·repeat' (first|((refine leI ?_;simp;done))|exact wJ|refine And.intro ?_ ?_)
 ·rintro k j;rcases Nat.lt_or_ge k ls.length with c|c
  ·have a:ls[k]? =some ls[k]:=ggZ c;have b:=Ce c;have h:=BN ls k;have v:=BN ls (k+1);generalize ls[k]=l at a b;have e:0<=(k:Int)/\(k:Int)<((ls.map bT).length:Int):=by rw [List.length_map];omega
   have d:(ls.map bT)[((k:Int)).toNat]?.getD .nil=bT l:=Ji (by rw [Int.toNat_natCast];exact a);have m:IntKind.i64.wrap ((wH (ls.take k):Int)+(((l.map Y).length:Nat):Int))=(wH (ls.take (k+1)):Int):=by
    rw [List.length_map,b,nW (by omega) (by omega)];push_cast;rfl
   have i:=m.symm;have r: ¬IntKind.i64.wrap ((wH (ls.take k):Int)+(((l.map Y).length:Nat):Int))<0:=by rw [m];omega
   repeat' ((conv=>whnf);first|refine sC (by omega) ?_|(refine nv_ (bT l) (by first|exact d) ?_)|refine su r ?_|(refine And.intro (by first|exact e) ?_)|refine aS ?_|refine nT_ ?_)
   exact ⟨k+1,by omega,by omega,by repeat' (first|(exact leI i)|exact wJ|refine And.intro ?_ ?_)⟩
  ·have:k=ls.length:=by omega
   subst this
   repeat' ((conv=>whnf);first|refine su (by omega) ?_|refine aS ?_|fail)
   exact ⟨(),trivial,by repeat' (first|((refine leI ?_;rw [List.take_length]))|exact wJ|refine And.intro ?_ ?_)⟩
 rintro - -;have o:=Ii (wH ls) (by omega)
 repeat' ((conv=>whnf);first|refine tY rfl o ?_)
 refine tx 2 (α:=Nat×Nat) (β:=Nat) (fun q=>{sl:=[(2,.t .nil),(6,.own q.1 5 1 ((ls.take q.2).flatten.map Y)),(25,.t (.slice 1 (ls.map bT))),(26,.t (I ls.length)),(27,.t (I q.2))],bx:=[]})
  (fun q=>q.2<=ls.length/\(q.1=24\/q.1=33)) (fun q=>ls.length - q.2) (fun q=>{sl:=[(2,.t .nil),(6,.own q 5 1 (ls.flatten.map Y))],bx:=[]}) (fun q=>q=24\/q=33) (24,0) (by simp) ?_ ?_ ?_
 ·repeat' (first|((refine leI ?_;simp;done))|exact wJ|refine And.intro ?_ ?_)
 ·rintro ⟨q,k⟩ ⟨j,g⟩;dsimp only at j g;rcases Nat.lt_or_ge k ls.length with c|c
  ·have a:ls[k]? =some ls[k]:=ggZ c;have b:=Ce c;have f:(ls.take (k+1)).flatten=(ls.take k).flatten++ls[k]:=by rw [List.take_succ_eq_append_getElem c,List.flatten_append];simp
   have h:=BN ls (k+1);have p:=Fs (ls.take k);generalize ls[k]=l at a b f;have e:0<=(k:Int)/\(k:Int)<((ls.map bT).length:Int):=by rw [List.length_map];omega
   have d:(ls.map bT)[((k:Int)).toNat]?.getD .nil=bT l:=Ji (by rw [Int.toNat_natCast];exact a);have n:(((ls.take k).flatten.map Y).length+(l.map Y).length) * 1<=140737488355328:=by simp only [List.length_map];omega
   rcases g with rfl|rfl
   all_goals repeat' ((conv=>whnf);first|refine sC (by omega) ?_|(refine nv_ (bT l) (by first|exact d) ?_)|(refine And.intro (by first|exact e|exact n) ?_)|refine aS ?_|refine nT_ ?_)
   all_goals refine ⟨(33,k+1),⟨by dsimp only;omega,.inr rfl⟩,by dsimp only;omega,?_⟩
   all_goals repeat' (first|((refine ug ?_;rw [f,List.map_append]))|exact wJ|refine And.intro ?_ ?_)
  ·have:k=ls.length:=by omega
   subst this
   repeat' ((conv=>whnf);first|refine su (by omega) ?_|refine aS ?_|fail)
   exact ⟨q,g,by repeat' (first|((refine ug ?_;rw [List.take_length]))|exact wJ|refine And.intro ?_ ?_)⟩
 rintro q g
 repeat' ((conv=>whnf);first|refine aS ?_|exact trivial)
end Go.ST
end
section
namespace Go.ST
open Go Go.DL Go.MM Go.Proofs
open Go.TY hiding Fd
open Go.RC (vi vis vs gi gl uV i64 vg Y xm B3 Ev Dy)
theorem Dw(a:List RE)(i:Nat):((a.take i).flatMap vU).length<=(a.flatMap vU).length:=by
 conv=>rhs;rw [<- List.take_append_drop i a,List.flatMap_append,List.length_append]
 omega
theorem Hv(a:List RE)(G: ∀e∈a,SzE e)(v:a.length<2^28)(K:(xT a).length<2^28):DCalls Tryz.prog 46 [esT a] (bT (xT a)):=by
 refine dl2 mixed [.tmp 2] [bT _] Tryz.func46 Go.ST6.l46 ?_;have l:((a.map um).length:Int)=a.length:=by rw [List.length_map]
 have r:=(B3 ((a.map um).length:Int) (by rw [l];exact xm (by omega))).ua;rw [l] at r;have H:I ((a.map um).length:Int)=I (a.length:Int):=by rw [l]
 rw [<- l] at r
 repeat' ((conv=>whnf);first|refine uc _ (r) ?_)
 have z:bT (vi ((a.map um).length:Int))=bT (vi (a.length:Int)++(a.take 0).flatMap vU):=by rw [l];simp
 refine tx 0 (α:=Nat) (β:=Unit) (fun i=>{sl:=[(3,.t (bT (vi (a.length:Int)++(a.take i).flatMap vU))),(9,.t (esT a)),(10,.t (I a.length)),(11,.t (I i))],bx:=[]})
  (fun i=>i<=a.length) (fun i=>a.length - i) (fun _=>{sl:=[(3,.t (bT (xT a)))],bx:=[]}) (fun _=>True) 0 (Nat.zero_le _) ?_ ?_ ?_
 ·repeat' (first|(exact leI l.symm)|(exact leT z.symm)|exact wJ|refine And.intro ?_ ?_)
 ·rintro i J;rcases Nat.lt_or_ge i a.length with h|h
  ·have j:(i:Int)<(a.length:Int):=by omega
   have p:((i+1:Nat):Int)=IntKind.wrap .i64 ((i:Int)+1):=by rw [nW] <;> omega
   have F:(a.map um)[((i:Int)).toNat]?.getD .nil= .agg (uk a[i]):=by rw [Int.toNat_natCast];exact uN h
   have q:0<=(i:Int)/\(i:Int)<((a.map um).length:Int):=by omega
   have b:=G _ (List.getElem_mem h);have d:=Dw a (i+1);have c:(a.take (i+1)).flatMap vU=(a.take i).flatMap vU++vU a[i]:=by rw [List.take_succ_eq_append_getElem h,List.flatMap_append];simp
   have B:(xT a).length=(vi (a.length:Int)).length+(a.flatMap vU).length:=by unfold xT;rw [List.length_append]
   rw [c,List.length_append] at d;generalize a[i]=x at *
   obtain ⟨o,k,f,g⟩:=x;have C:=(Ev o b.var).ua;have w:=(Dy k b.key b.keys).ua;have D: ∀y∈[f,g],i64 y:=fun y m=>by
    simp only [List.mem_cons,List.not_mem_nil,or_false] at m;rcases m with m|m
    ·rw [m];exact b.n
    ·rw [m];exact b.at_
   have A:=(Dy [f,g] (by simp) D).ua;have E:=Gz [vi (a.length:Int)++(a.take i).flatMap vU,vs o,vis k,vis [f,g]] (by simp) (by
    rw [show vU ⟨o,k,f,g⟩=vs o++(vis k++vis [f,g]) from rfl,List.length_append,List.length_append] at d;simp only [wH,List.map_cons,List.map_nil,List.sum_cons,List.sum_nil,List.length_append]
    omega)
   have u:bT (vi (a.length:Int)++(a.take (i+1)).flatMap vU)=bT [vi (a.length:Int)++(a.take i).flatMap vU,vs o,vis k,vis [f,g]].flatten:=by
    rw [c];unfold vU;simp [List.flatten_cons,List.append_assoc]
   have s:a.length - (i+1)<a.length - i:=by omega
   clear c B d
   repeat' ((conv=>whnf);first|refine sC j ?_|(refine nv_ (.agg (uk ⟨o,k,f,g⟩)) (by first|exact F) ?_)|refine uc _ (C) ?_|refine uc _ (w) ?_|refine uc _ (A) ?_|refine uc _ (E) ?_|(exact ⟨i+1,h,s,by (repeat' (first|(exact leI p)|(exact leT u)|exact wJ|refine And.intro ?_ ?_));done⟩)|(refine And.intro (by first|exact q|exact uo _) ?_)|refine aS ?_|refine nT_ ?_)
  ·have j: ¬(i:Int)<(a.length:Int):=by omega
   have u:bT (xT a)=bT (vi (a.length:Int)++(a.take i).flatMap vU):=by rw [List.take_of_length_le h];rfl
   repeat' ((conv=>whnf);first|refine su j ?_|(exact ⟨(),trivial,by (repeat' (first|(exact leT u)|exact wJ|refine And.intro ?_ ?_));done⟩)|refine aS ?_|fail)
 ·rintro - -
  repeat' ((conv=>whnf);first|refine aS ?_|exact trivial)
end Go.ST
end
section
namespace Go.ST
open Go Go.DL Go.MM Go.Proofs
open Go.TY hiding Fd
open Go.RC (vi vis vs gi gl uV i64 vg Y xm gT gsT Aw zj yZ yA Be vC)
theorem En: ∀l:List Int,jY (l.map Y)
 |[]=>trivial
 |_::l=>En l
theorem Nw(b:List Int)(u n:Nat):((b.map Y).take (u+n)).drop u=((b.drop u).take n).map Y:=by
 rw [<- List.map_take, <-List.map_drop,List.drop_take,show u+n - u=n by omega]
theorem FP(b:List Int)(k:vg b)(r:b.length<2^40):DCalls Tryz.prog 97 [bT b] (.tup [.str (gb b).1,I (gb b).2.1,I (gb b).2.2]):=by
 refine dl2 mixed [.tmp 2,.tmp 3,.tmp 4] [.str _,I _,I _] Tryz.func97 Go.ST6.l97 ?_;have j:=Aw b 1 k (by omega) (by decide) (by decide);obtain ⟨h,i,p,o⟩:=Be k (least:=1) (by decide);unfold gb;generalize gl b 1=q at *
 obtain ⟨n,u,e⟩:=q;dsimp only at h i p o ⊢
 by_cases c:e≠0
 ·rw [if_pos c]
  repeat' ((conv=>whnf);first|refine uc _ (j) ?_|refine sG c ?_|refine rix ?_|refine aS ?_|exact trivial)
 ·rw [if_neg c];have l:e=0:=by omega
  subst l;obtain ⟨n,rfl⟩:=Int.eq_ofNat_of_zero_le h;obtain ⟨u,rfl⟩:=Int.eq_ofNat_of_zero_le i;have f:IntKind.wrap .i64 ((u:Int)+(n:Int))=((u+n:Nat):Int):=by rw [nW (by omega) (by omega)];omega
  have a:T.slice 1 (((b.map Y).take (IntKind.wrap .i64 ((u:Int)+(n:Int))).toNat).drop ((u:Int)).toNat)=T.slice 1 (((b.drop u).take n).map Y):=by
   rw [f,Int.toNat_natCast,Int.toNat_natCast,Nw]
  have d:0<=(u:Int)/\(u:Int)<=IntKind.wrap .i64 ((u:Int)+(n:Int))/\IntKind.wrap .i64 ((u:Int)+(n:Int))<=((b.map Y).length:Int):=by rw [f,List.length_map];omega
  have g:=En ((b.drop u).take n);have m:I ((u:Int)+(n:Int))=I (IntKind.wrap .i64 ((u:Int)+(n:Int))):=by rw [f];congr 1
  rw [Int.toNat_natCast,Int.toNat_natCast,m]
  repeat' ((conv=>whnf);first|exact trivial|refine uc _ (j) ?_|(refine nv_ (.slice 1 (((b.drop u).take n).map Y)) (by first|exact a) ?_)|refine aN0 ?_|refine rix ?_|(refine And.intro (by first|exact d|exact g) ?_)|refine aS ?_|refine nT_ ?_)
end Go.ST
end
section
namespace Go.ST9
open Go Go.DL Go.Proofs
noncomputable def c45:aV:=(sr [oo 2 (.mov (.const .nil)),oo 3 (.mov (Kc 0))] (sr [mv 16 0,oo 17 (.call 96 [tm 16]),mv 15 17,oo 18 (.ext (tm 15) 0),oo 19 (.ext (tm 15) 1),oo 20 (.ext (tm 15) 2),mv 4 18,mv 5 19,mv 6 20] (.seq (.block 0 (sr [mv 22 6,oo 23 (.bin .neq (tm 22) (Kc 0)),mv 21 23] (.cond (tm 21) (sr [mv 24 6,oo 2 (.mov (.const .nil)),mv 3 24] .ret) (sr [mv 26 4,oo 27 (.bin .lss (tm 26) (Kc 0)),mv 25 27] (.cond (tm 25) (sr [oo 2 (.mov (.const .nil)),oo 3 (.mov (Kc 6))] .ret) .skip))))) (sr [mv 28 0,mv 29 5,oo 30 (.slice 1 (tm 28) (some (tm 29)) none),mv 0 30] (sr [oo 7 (.mov (.const .nil))] (.seq (sr [mv 31 4,oo 32 (.mov (Kc 0))] (.block 1 (.loop (sr [oo 33 (.bin .lss (tm 32) (tm 31))] (.seq (.cond (tm 33) .skip (.exit 1)) (.seq (.block 2 (.seq (.cut (rg [mv 35 0,oo 36 (.call 97 [tm 35]),mv 34 36,oo 37 (.ext (tm 34) 0),oo 38 (.ext (tm 34) 1),oo 39 (.ext (tm 34) 2),mv 8 37,mv 9 38,mv 10 39])) (.seq (sr [mv 40 10,oo 41 (.bin .neq (tm 40) (Kc 0))] (.cond (tm 41) (sr [mv 42 10,oo 2 (.mov (.const .nil)),mv 3 42] .ret) .skip)) (.seq (.cut (rg [mv 44 0,mv 45 9,oo 46 (.slice 1 (tm 44) (some (tm 45)) none),oo 47 (.call 98 [tm 46]),mv 43 47,oo 48 (.ext (tm 43) 0),oo 49 (.ext (tm 43) 1),oo 50 (.ext (tm 43) 2),mv 11 48,mv 12 49,mv 10 50])) (.seq (sr [mv 51 10,oo 52 (.bin .neq (tm 51) (Kc 0))] (.cond (tm 52) (sr [mv 53 10,oo 2 (.mov (.const .nil)),mv 3 53] .ret) .skip)) (.seq (.cut (rg [mv 55 0,mv 56 9,mv 57 12,oo 58 (.bin .add (tm 56) (tm 57)),oo 59 (.slice 1 (tm 55) (some (tm 58)) none),oo 60 (.call 98 [tm 59]),mv 54 60,oo 61 (.ext (tm 54) 0),oo 62 (.ext (tm 54) 1),oo 63 (.ext (tm 54) 2),mv 13 61,mv 14 62,mv 10 63])) (.seq (.block 3 (sr [mv 65 10,oo 66 (.bin .neq (tm 65) (Kc 0)),mv 64 66] (.cond (tm 64) (sr [mv 67 10,oo 2 (.mov (.const .nil)),mv 3 67] .ret) (sr [mv 69 13,ln 70 69,oo 71 (.bin .neq (tm 70) (Kc 2)),mv 68 71] (.cond (tm 68) (sr [oo 2 (.mov (.const .nil)),oo 3 (.mov (Kc 6))] .ret) .skip))))) (sr [mv 72 7,mv 73 8,mv 74 11,mv 75 13,oo 76 (.idxL 1 (tm 75) (Kc 0)),ld 77 76,mv 78 13,oo 79 (.idxL 1 (tm 78) (Kc 1)),ld 80 79,⟨some 81,.build [S0,.nil,Z0,Z0] [(0,1,(tm 73)),(1,1,(tm 74)),(2,1,(tm 77)),(3,1,(tm 80))],none,[]⟩,⟨some 82,.buildT 4 1 [S0,.nil,Z0,Z0] [(0,(tm 81))],none,[]⟩,oo 83 (.append 25 64 4 56 (tm 72) (tm 82)),mv 7 83] (rg [mv 84 0,mv 85 9,mv 86 12,oo 87 (.bin .add (tm 85) (tm 86)),mv 88 14,oo 89 (.bin .add (tm 87) (tm 88)),oo 90 (.slice 1 (tm 84) (some (tm 89)) none),mv 0 90]))))))))) (rg [oo 91 (.bin .add (tm 32) (Kc 1)),mv 32 91]))))))) (.seq (sr [mv 92 0,ln 93 92,oo 94 (.bin .gtr (tm 93) (Kc 0))] (.cond (tm 94) (sr [oo 2 (.mov (.const .nil)),oo 3 (.mov (Kc 6))] .ret) .skip)) (sr [mv 95 7,mv 2 95,oo 3 (.mov (Kc 0))] .ret))))))))
theorem l45:(Tryz.f45.body.bind (bt Tryz.prog 96 [6000010,6000013,6000016]))=some c45:=by kernel_rfl
end Go.ST9
end
section
namespace Go.ST
open Go Go.DL Go.MM Go.Proofs
open Go.TY hiding Fd
open Go.RC (vi vis vs gi gl uV i64 vg Y xm gT gsT Aw zj yZ yA Be vC AO Cr)
theorem J8{b:List Int}(a:vg b)(h:(gb b).2.2=0):0<=(gb b).2.1/\(gb b).2.1<=b.length:=by
 obtain ⟨d,e,g,f⟩:=Be a (least:=1) (by decide);unfold gb at h ⊢
 by_cases c:(gl b 1).2.2≠0
 ·rw [if_pos c] at h;exact absurd h c
 ·rw [if_neg c];exact ⟨by dsimp only;omega,by dsimp only;omega⟩
theorem DE{b:List Int}(a:vg b)(h:(uV b).2.2=0):1<=(uV b).2.1/\(uV b).2.1<=b.length:=by
 obtain ⟨e,f,d⟩:=AO a h;have g:1<=(vis (uV b).1).length:=by
  unfold vis;rw [List.length_append]
  have:=Cr ((uV b).1.length:Int)
  omega
 have c:=congrArg List.length d;rw [List.length_append] at c;omega
abbrev LV(x:List RE×Int):T:=.tup [if x.2≠0 then .nil else esT x.1,I x.2]
theorem B2(b:List Int)(u:Nat):((b.map Y).take ((((b.map Y).length:Nat):Int)).toNat).drop u=(b.drop u).map Y:=by
 rw [Int.toNat_natCast,List.take_length,List.map_drop]
theorem Hu(b:List Int)(hb:vg b)(hl:b.length<2^40):DCalls Tryz.prog 45 [bT b] (LV (yL b)):=by
 have Z:=yZ b hb (by omega);obtain ⟨⟨q0,q0'⟩,q1,q2,q3,q4,q5⟩:=yA hb;have S: ∀(m:T) (J:Int),((yL b).2≠0->m= .nil/\J=(yL b).2)->((yL b).2=0->m=esT (yL b).1/\J=0)->DCalls Tryz.prog 45 [bT b] (.tup [m,I J]):=fun m J o y=>by
  refine dl2 mixed [.tmp 2,.tmp 3] [m,I J] Tryz.func45 Go.ST9.l45 ?_;unfold yL at o y;generalize gi b=g at *
  obtain ⟨n,u,e⟩:=g;dsimp only at q0 q0' q1 q2 q3 q4 q5 o y Z
  by_cases c0:e≠0
  ·rw [if_pos c0] at o y;obtain ⟨rfl,rfl⟩:=o c0
   repeat' ((conv=>whnf);first|refine uc _ (Z) ?_|refine sG c0 ?_|refine rix ?_|refine aS ?_|exact trivial)
  rw [if_neg c0] at o y;have e0:e=0:=by omega
  by_cases c1:n<0
  ·rw [if_pos c1] at o y;obtain ⟨rfl,rfl⟩:=o (by decide)
   repeat' ((conv=>whnf);first|refine uc _ (Z) ?_|refine sF e0 ?_|refine sC c1 ?_|refine rix ?_|refine aS ?_|exact trivial)
  rw [if_neg c1] at o y;obtain ⟨n,rfl⟩:=Int.eq_ofNat_of_zero_le (show 0<=n by omega);obtain ⟨u,rfl⟩:=Int.eq_ofNat_of_zero_le q1;rw [Int.toNat_natCast,Int.toNat_natCast] at o y;obtain ⟨D,hD⟩: ∃D,D=xS n (b.drop u) []:=⟨_,rfl⟩
  rw [<- hD] at o y;have hbd:0<=(u:Int)/\(u:Int)<=((b.map Y).length:Int)/\((b.map Y).length:Int)<=((b.map Y).length:Int):=by rw [List.length_map];omega
  have hsl:T.slice 1 (((b.map Y).take ((((b.map Y).length:Nat):Int)).toNat).drop ((u:Int)).toNat)=bT (b.drop u):=by
   rw [Int.toNat_natCast,B2]
  have C:D.2.2≠0->m= .nil/\J=D.2.2:=fun h=>by
   have:=o (by rw [if_pos h];exact h)
   rw [if_pos h] at this;exact this
  have hD6:D.2.2=0->D.2.1≠[]->m= .nil/\J=6:=fun h V=>by
   have:=o (by rw [if_neg (by simpa using h),if_pos V];decide)
   rw [if_neg (by simpa using h),if_pos V] at this;exact this
  have hDo:D.2.2=0->D.2.1=[]->m=esT D.1/\J=0:=fun h V=>by
   have:=y (by rw [if_neg (by simpa using h),if_neg (by simpa using V)])
   rw [if_neg (by simpa using h),if_neg (by simpa using V)] at this;exact this
  clear o y;have hbl:(b.drop u).length<=b.length:=by rw [List.length_drop];omega
  repeat' ((conv=>whnf);first|refine uc _ (Z) ?_|refine sF e0 ?_|refine su c1 ?_|(refine nv_ (bT (b.drop u)) (by first|exact hsl) ?_)|(refine And.intro (by first|exact hbd) ?_)|refine aS ?_|fail)
  refine tx 1 (α:=Nat×List Int×List RE) (β:=List Int×List RE) (fun p=>{sl:=[(0,.t (bT p.2.1)),(7,.own 83 64 4 (p.2.2.map um)),(31,.t (I n)),(32,.t (I p.1))],bx:=[]})
   (fun p=>p.1<=n/\vg p.2.1/\p.2.2.length+p.2.1.length<=b.length/\xS (n - p.1) p.2.1 p.2.2=D) (fun p=>n - p.1)
   (fun p=>{sl:=[(0,.t (bT p.1)),(7,.own 83 64 4 (p.2.map um))],bx:=[]}) (fun p=>D=(p.2,p.1,0)) (0,b.drop u,[]) ⟨Nat.zero_le _,vC hb _,by simp,hD.symm⟩ ?_ ?_ ?_
  ·repeat' (first|exact wJ|refine And.intro ?_ ?_)
  ·rintro ⟨i,r,acc⟩ ⟨hi,R,hal,k⟩;dsimp only at hi R hal k;rcases Nat.lt_or_ge i n with h|h
   ·have L:(i:Int)<(n:Int):=by omega
    have hnx:((i+1:Nat):Int)=IntKind.wrap .i64 ((i:Int)+1):=by rw [nW] <;> omega
    rw [show n - i=(n - (i+1))+1 by omega,xS] at k;have hB:=FP r R (by omega);have K:=@J8 r R;unfold BK at k;generalize gb r=g1 at *
    obtain ⟨v,f,e1⟩:=g1;dsimp only at hB K k;clear Z hsl hbd
    repeat' ((conv=>whnf);first|refine sC L ?_|refine aS ?_|fail)
    refine tV (β:=Unit) (fun _=>{sl:=[(0,.t (bT r)),(7,.own 83 64 4 (acc.map um)),(8,.t (.str v)),(9,.t (I f)),(10,.t (I e1)),(31,.t (I n)),(32,.t (I i))],bx:=[]}) (fun _=>True) ?_ ?_
    ·repeat' ((conv=>whnf);first|refine uc _ (hB) ?_|(exact ⟨(),trivial,by (repeat' (first|exact wJ|refine And.intro ?_ ?_));done⟩)|fail)
    rintro _ _;clear hB
    by_cases d1:e1≠0
    ·rw [if_pos d1,if_pos d1] at k;obtain ⟨rfl,rfl⟩:=C (by rw [<- k];exact d1);rw [<- k]
     repeat' ((conv=>whnf);first|refine sG d1 ?_|refine rix ?_|refine aS ?_|exact trivial)
    have d1':e1=0:=by omega
    obtain ⟨f1,f2⟩:=K d1';obtain ⟨f,rfl⟩:=Int.eq_ofNat_of_zero_le f1;rw [if_neg d1,Int.toNat_natCast] at k;have hI:=zj (r.drop f) (vC R _) (by rw [List.length_drop];omega);have O:=@DE (r.drop f) (vC R _);have X:0<=(f:Int)/\(f:Int)<=((r.map Y).length:Int)/\((r.map Y).length:Int)<=((r.map Y).length:Int):=by rw [List.length_map];omega
    have U:T.slice 1 (((r.map Y).take ((((r.map Y).length:Nat):Int)).toNat).drop ((f:Int)).toNat)=bT (r.drop f):=by
     rw [Int.toNat_natCast,B2]
    generalize hg2:uV (r.drop f)=g2 at *
    obtain ⟨A,j,s⟩:=g2;dsimp only at O k;obtain ⟨G,E⟩: ∃G:T,(s≠0->G= .nil)/\(s=0->G= .slice 1 (A.map I)):=⟨if s≠0 then .nil else .slice 1 (A.map I),fun h=>if_pos h,fun h=>if_neg (by simpa using h)⟩
    have hI:DCalls Tryz.prog 98 [bT (r.drop f)] (.tup [G,I j,I s]):=by
     have e:gsT (A,j,s)= .tup [G,I j,I s]:=by
      show T.tup [if s≠0 then .nil else _,_,_]=_
      by_cases d:s=0
      ·rw [if_neg (by simpa using d),E.2 d]
      ·rw [if_pos d,E.1 d]
     rw [<- e];exact hI
    repeat' ((conv=>whnf);first|refine sF d1' ?_|refine aS ?_|fail)
    refine tV (β:=Unit) (fun _=>{sl:=[(0,.t (bT r)),(7,.own 83 64 4 (acc.map um)),(8,.t (.str v)),(9,.t (I f)),(10,.t (I s)),(11,.t G),(12,.t (I j)),(31,.t (I n)),(32,.t (I i))],bx:=[]}) (fun _=>True) ?_ ?_
    ·repeat' ((conv=>whnf);first|(refine nv_ (bT (r.drop f)) (by first|exact U) ?_)|refine uc _ (hI) ?_|(exact ⟨(),trivial,by (repeat' (first|exact wJ|refine And.intro ?_ ?_));done⟩)|(refine And.intro (by first|exact X) ?_)|fail)
    rintro _ _;clear hI U X
    by_cases W:s≠0
    ·rw [if_pos W,if_pos W] at k;obtain ⟨rfl,rfl⟩:=C (by rw [<- k];exact W);rw [<- k]
     repeat' ((conv=>whnf);first|refine sG W ?_|refine rix ?_|refine aS ?_|exact trivial)
    have M:s=0:=by omega
    rw [E.2 M];obtain ⟨k1,k2⟩:=O M;rw [List.length_drop] at k2;obtain ⟨j,rfl⟩:=Int.eq_ofNat_of_zero_le (show 0<=j by omega);rw [if_neg W,Int.toNat_natCast] at k;have P:vg ((r.drop f).drop j):=vC (vC R _) _;have H:=zj ((r.drop f).drop j) P (by rw [List.length_drop,List.length_drop];omega);have Fl:=DE P;rw [List.length_drop,List.length_drop] at Fl;have z:IntKind.wrap .i64 ((f:Int)+(j:Int))=((f+j:Nat):Int):=by rw [nW (by omega) (by omega)];omega
    have hb2:0<=IntKind.wrap .i64 ((f:Int)+(j:Int))/\IntKind.wrap .i64 ((f:Int)+(j:Int))<=((r.map Y).length:Int)/\((r.map Y).length:Int)<=((r.map Y).length:Int):=by rw [z,List.length_map];omega
    have hs2:T.slice 1 (((r.map Y).take ((((r.map Y).length:Nat):Int)).toNat).drop (IntKind.wrap .i64 ((f:Int)+(j:Int))).toNat)=bT ((r.drop f).drop j):=by
     rw [z,Int.toNat_natCast (n:=f+j),B2,List.drop_drop]
    generalize uV ((r.drop f).drop j)=g3 at *
    obtain ⟨x,l,w⟩:=g3;dsimp only at Fl k;obtain ⟨N,F⟩: ∃G:T,(w≠0->G= .nil)/\(w=0->G= .slice 1 (x.map I)):=⟨if w≠0 then .nil else .slice 1 (x.map I),fun h=>if_pos h,fun h=>if_neg (by simpa using h)⟩
    have H:DCalls Tryz.prog 98 [bT ((r.drop f).drop j)] (.tup [N,I l,I w]):=by
     have e:gsT (x,l,w)= .tup [N,I l,I w]:=by
      show T.tup [if w≠0 then .nil else _,_,_]=_
      by_cases d:w=0
      ·rw [if_neg (by simpa using d),F.2 d]
      ·rw [if_pos d,F.1 d]
     rw [<- e];exact H
    repeat' ((conv=>whnf);first|refine sF M ?_|refine aS ?_|fail)
    refine tV (β:=Unit) (fun _=>{sl:=[(0,.t (bT r)),(7,.own 83 64 4 (acc.map um)),(8,.t (.str v)),(9,.t (I f)),(10,.t (I w)),(11,.t (.slice 1 (A.map I))),(12,.t (I j)),(13,.t N),(14,.t (I l)),(31,.t (I n)),(32,.t (I i))],bx:=[]}) (fun _=>True) ?_ ?_
    ·repeat' ((conv=>whnf);first|(refine nv_ (bT ((r.drop f).drop j)) (by first|exact hs2) ?_)|refine uc _ (H) ?_|(exact ⟨(),trivial,by (repeat' (first|exact wJ|refine And.intro ?_ ?_));done⟩)|(refine And.intro (by first|exact hb2) ?_)|fail)
    rintro _ _;clear H hs2 hb2
    by_cases d3:w≠0
    ·rw [if_pos d3,if_pos d3] at k;obtain ⟨rfl,rfl⟩:=C (by rw [<- k];exact d3);rw [<- k]
     repeat' ((conv=>whnf);first|refine sG d3 ?_|refine rix ?_|refine aS ?_|exact trivial)
    have B:w=0:=by omega
    rw [F.2 B];rw [if_neg d3] at k;have hlw:((x.map I).length:Int)=x.length:=by rw [List.length_map]
    by_cases d4:x.length≠2
    ·rw [if_pos d4,if_pos (by decide)] at k;obtain ⟨rfl,rfl⟩:=C (by rw [<- k];decide);rw [<- k];have d4':((x.map I).length:Int)≠2:=by omega
     repeat' ((conv=>whnf);first|refine sF B ?_|refine sG d4' ?_|refine rix ?_|refine aS ?_|exact trivial)
    obtain ⟨k3,k4⟩:=Fl B;obtain ⟨l,rfl⟩:=Int.eq_ofNat_of_zero_le (show 0<=l by omega);rw [if_neg d4,if_neg (by simp),Int.toNat_natCast] at k;dsimp only at k;obtain ⟨a,c,rfl⟩: ∃a c,x=[a,c]:=by
     match x,(show x.length=2 by omega) with
     |[a,c],_=>exact ⟨a,c,rfl⟩
    have Q:IntKind.wrap .i64 (IntKind.wrap .i64 ((f:Int)+(j:Int))+(l:Int))=((f+j+l:Nat):Int):=by rw [z,nW (by omega) (by omega)];omega
    have hb3:0<=IntKind.wrap .i64 (IntKind.wrap .i64 ((f:Int)+(j:Int))+(l:Int))/\IntKind.wrap .i64 (IntKind.wrap .i64 ((f:Int)+(j:Int))+(l:Int))<=((r.map Y).length:Int)/\((r.map Y).length:Int)<=((r.map Y).length:Int):=by rw [Q,List.length_map];omega
    have hs3:T.slice 1 (((r.map Y).take ((((r.map Y).length:Nat):Int)).toNat).drop (IntKind.wrap .i64 (IntKind.wrap .i64 ((f:Int)+(j:Int))+(l:Int))).toNat)=bT (((r.drop f).drop j).drop l):=by
     rw [Q,Int.toNat_natCast (n:=f+j+l),B2,List.drop_drop,List.drop_drop,Nat.add_assoc]
    have hr4:vg (((r.drop f).drop j).drop l):=vC P _;have LW:(acc++[(⟨v,A,a,c⟩:RE)]).length+(((r.drop f).drop j).drop l).length<=b.length:=by
     rw [List.length_append,List.length_drop,List.length_drop,List.length_drop,List.length_cons,List.length_nil];omega
    have hrm:((acc.map um).length+1) * 56<=140737488355328:=by rw [List.length_map];omega
    have hsn:(acc++[(⟨v,A,a,c⟩:RE)]).map um=acc.map um++[um ⟨v,A,a,c⟩]:=by rw [List.map_append];rfl
    have hmu:n - (i+1)<n - i:=by omega
    have Fj:xS (n - (i+1)) (((r.drop f).drop j).drop l) (acc++[(⟨v,A,a,c⟩:RE)])=D:=k;clear k O Fl K hlw z Q E F
    repeat' ((conv=>whnf);first|refine sF B ?_|(refine nv_ (bT (((r.drop f).drop j).drop l)) (by first|exact hs3) ?_)|(exact ⟨(i+1,((r.drop f).drop j).drop l,acc++[⟨v,A,a,c⟩]),⟨h,hr4,LW,Fj⟩,hmu,by (repeat' (first|(exact leI hnx)|(exact ug hsn)|exact wJ|refine And.intro ?_ ?_));done⟩)|refine aN0 ?_|(refine And.intro (by first|exact hb3|exact hrm) ?_)|refine aS ?_|refine nT_ ?_)
   ·have L: ¬(i:Int)<(n:Int):=by omega
    rw [show n - i=0 by omega] at k;have Fj:D=(acc,r,0):=k.symm
    repeat' ((conv=>whnf);first|refine su L ?_|(exact ⟨(r,acc),Fj,by (repeat' (first|exact wJ|refine And.intro ?_ ?_));done⟩)|refine aS ?_|fail)
  ·rintro ⟨r,acc⟩ q;dsimp only at q;have hrl:((r.map Y).length:Int)=r.length:=by rw [List.length_map]
   by_cases c5:r=[]
   ·obtain ⟨rfl,rfl⟩:=hDo (by rw [q]) (by rw [q];exact c5);have c6: ¬((r.map Y).length:Int)>0:=by rw [c5];simp
    rw [q]
    repeat' ((conv=>whnf);first|refine su c6 ?_|refine rix ?_|refine aS ?_|exact trivial)
   ·obtain ⟨rfl,rfl⟩:=hD6 (by rw [q]) (by rw [q];exact c5);have c6:((r.map Y).length:Int)>0:=by
     have:=List.length_pos_iff.2 c5
     omega
    repeat' ((conv=>whnf);first|refine sC c6 ?_|refine rix ?_|refine aS ?_|exact trivial)
 have h:=S (if (yL b).2≠0 then .nil else esT (yL b).1) (yL b).2 (fun h=>⟨if_pos h,rfl⟩) (fun h=>⟨if_neg (by simpa using h),h⟩);exact h
end Go.ST
end
section
namespace Go.ST8
open Go Go.DL Go.Proofs
noncomputable def c9:aV:=(sr [oo 0 (.mov kF)] (sr [oo 1 (.mov (.const .nil))] (.seq (sr [oo 2 (.mov (Kc 0))] (.block 0 (.loop (.seq (sr [mv 24 2,oo 25 (.bin .lss (tm 24) (Kc 10))] (.cond (tm 25) .skip (.exit 0))) (.seq (.block 1 (rg [mv 28 1,mv 29 2,oo 30 (.build [Z0,Z0,Z0] [(0,1,(Kc 5)),(1,1,(Kc 0)),(2,1,(tm 29))]),oo 31 (.buildF 3 1 [Z0,Z0,Z0] [(0,(tm 30))]),oo 32 (.append 91 92 3 24 (tm 28) (tm 31)),mv 1 32])) (rg [mv 26 2,oo 27 (.bin .add (tm 26) (Kc 1)),mv 2 27])))))) (.seq (.cut (rg [⟨some 34,.call 43 [(Kc 1),(.const (.str ⟨#[107,105,110,100]⟩)),(Kc 0),(Kc 0)],none,[]⟩,mv 35 1,⟨some 36,.call 42 [(tm 34),(.const .nil),(.const (.str ⟨#[107,105,110,100]⟩)),(tm 35)],none,[]⟩,mv 33 36,oo 37 (.ext (tm 33) 0),oo 38 (.ext (tm 33) 1),mv 3 37,mv 4 38])) (.seq (.cut (rg [mv 39 3,oo 40 (.call 44 [tm 39]),mv 41 40,mT 42 4 41,oT 43 41 (.len (tm 42)),oT 44 41 (.bin .eql (tm 43) (Kc 1)),oo 45 (.pick (tm 41) (tm 44) kF),mv 46 45,mT 47 4 46,oT 48 46 (.idxL 4 (tm 47) (Kc 0)),oT 49 46 (.offA 2 (tm 48)),oT 50 46 (.load 1 false (tm 49)),oT 51 46 (.bin .eql (tm 50) (Kc 10)),oo 52 (.pick (tm 46) (tm 51) kF),mv 5 52])) (.seq (.cut (rg [⟨some 54,.call 43 [(Kc 3),(.const S0),(Kc 3),(Kc 0)],none,[]⟩,oo 55 (.build [Z0,Z0,Z0] [(0,1,(Kc 7)),(1,1,(Kc 0)),(2,1,(Kc 10))]),oo 56 (.buildS 92 3 1 [Z0,Z0,Z0] [(0,(tm 55))]),⟨some 57,.call 42 [(tm 54),(.const .nil),(.const (.str ⟨#[115,114,99]⟩)),(tm 56)],none,[]⟩,mv 53 57,oo 58 (.ext (tm 53) 0),oo 59 (.ext (tm 53) 1),mv 6 58,mv 7 59])) (.seq (.cut (rg [⟨some 61,.call 43 [(Kc 2),(.const S0),(Kc 0),(Kc 0)],none,[]⟩,mv 62 7,oo 63 (.build [Z0,Z0,Z0] [(0,1,(Kc 7)),(1,1,(Kc 0)),(2,1,(Kc 10))]),oo 64 (.buildS 92 3 1 [Z0,Z0,Z0] [(0,(tm 63))]),⟨some 65,.call 42 [(tm 61),(tm 62),(.const (.str ⟨#[115,114,99]⟩)),(tm 64)],none,[]⟩,mv 60 65,oo 66 (.ext (tm 60) 0),oo 67 (.ext (tm 60) 1),mv 8 66,mv 9 67])) (.seq (.cut (rg [⟨some 69,.call 43 [(Kc 3),(.const S0),(Kc 3),(Kc 0)],none,[]⟩,mv 70 9,oo 71 (.build [Z0,Z0,Z0] [(0,1,(Kc 7)),(1,1,(Kc 0)),(2,1,(Kc 13))]),oo 72 (.build [Z0,Z0,Z0] [(0,1,(Kc 7)),(1,1,(Kc 0)),(2,1,(Kc 14))]),oo 73 (.buildS 92 3 2 [Z0,Z0,Z0] [(0,(tm 71)),(1,(tm 72))]),⟨some 74,.call 42 [(tm 69),(tm 70),(.const (.str ⟨#[115,114,99]⟩)),(tm 73)],none,[]⟩,mv 68 74,oo 75 (.ext (tm 68) 0),oo 76 (.ext (tm 68) 1),mv 10 75,mv 11 76])) (.seq (.cut (rg [mv 77 6,ln 78 77,oo 79 (.bin .eql (tm 78) (Kc 1)),mv 80 79,mT 81 6 80,oT 82 80 (.idxL 1 (tm 81) (Kc 0)),oT 83 80 (.load 1 false (tm 82)),oT 84 80 (.bin .eql (tm 83) (.const (.int .i64 (-1)))),oo 85 (.pick (tm 80) (tm 84) kF),mv 86 85,mT 87 9 86,oT 88 86 (.len (tm 87)),oT 89 86 (.bin .eql (tm 88) (Kc 1)),oo 90 (.pick (tm 86) (tm 89) kF),mv 91 90,mT 92 10 91,oT 93 91 (.buildS 3 1 2 [Z0] [(0,(Kc 7)),(1,(.const (.int .i64 (-1))))]),oT 94 91 (.call 21 [(tm 92),(tm 93)]),oT 95 91 (.bin .eql (tm 94) (Kc 0)),oo 96 (.pick (tm 91) (tm 95) kF),mv 12 96])) (.seq (.cut (rg [⟨some 98,.call 43 [(Kc 4),(.const (.str ⟨#[100,115,116]⟩)),(Kc 20),(Kc 21)],none,[]⟩,oo 99 (.build [Z0,Z0,Z0] [(0,1,(Kc 1)),(1,1,(Kc 0)),(2,1,(Kc 0))]),oo 100 (.build [Z0,Z0,Z0] [(0,1,(Kc 2)),(1,1,(Kc 0)),(2,1,(Kc 0))]),oo 101 (.build [Z0,Z0,Z0] [(0,1,(Kc 1)),(1,1,(Kc 0)),(2,1,(Kc 0))]),oo 102 (.build [Z0,Z0,Z0] [(0,1,(Kc 3)),(1,1,(Kc 0)),(2,1,(Kc 0))]),oo 103 (.buildS 92 3 4 [Z0,Z0,Z0] [(0,(tm 99)),(1,(tm 100)),(2,(tm 101)),(3,(tm 102))]),⟨some 104,.call 42 [(tm 98),(.const .nil),(.const (.str ⟨#[100,115,116]⟩)),(tm 103)],none,[]⟩,mv 97 104,oo 105 (.ext (tm 97) 0),oo 106 (.ext (tm 97) 1),mv 13 105,mv 14 106])) (.seq (.cut (rg [⟨some 108,.call 43 [(Kc 5),(.const (.str ⟨#[100,115,116]⟩)),(Kc 0),(Kc 0)],none,[]⟩,mv 109 14,oo 110 (.build [Z0,Z0,Z0] [(0,1,(Kc 9)),(1,1,(Kc 21)),(2,1,(Kc 0))]),oo 111 (.build [Z0,Z0,Z0] [(0,1,(Kc 9)),(1,1,(Kc 22)),(2,1,(Kc 0))]),oo 112 (.buildS 92 3 2 [Z0,Z0,Z0] [(0,(tm 110)),(1,(tm 111))]),⟨some 113,.call 42 [(tm 108),(tm 109),(.const (.str ⟨#[115,114,99]⟩)),(tm 112)],none,[]⟩,mv 107 113,oo 114 (.ext (tm 107) 0),oo 115 (.ext (tm 107) 1),mv 15 114,mv 16 115])) (.seq (.cut (rg [mv 116 13,oo 117 (.buildS 3 1 4 [Z0] [(0,(Kc 20)),(1,(Kc 21)),(2,(Kc 20)),(3,(.const (.int .i64 (-1))))]),oo 118 (.call 21 [(tm 116),(tm 117)]),oo 119 (.bin .eql (tm 118) (Kc 0)),mv 120 119,mT 121 14 120,oT 122 120 (.len (tm 121)),oT 123 120 (.bin .eql (tm 122) (Kc 2)),oo 124 (.pick (tm 120) (tm 123) kF),mv 125 124,mT 126 15 125,oT 127 125 (.buildS 3 1 2 [Z0] [(0,(Kc 2)),(1,(.const (.int .i64 (-1))))]),oT 128 125 (.call 21 [(tm 126),(tm 127)]),oT 129 125 (.bin .eql (tm 128) (Kc 0)),oo 130 (.pick (tm 125) (tm 129) kF),mv 17 130])) (.seq (.cut (rg [⟨some 132,.call 43 [(Kc 6),(.const S0),(Kc 2),(Kc 10)],none,[]⟩,oo 133 (.build [Z0,Z0,Z0] [(0,1,(Kc 4)),(1,1,(Kc 0)),(2,1,(Kc 0))]),oo 134 (.build [Z0,Z0,Z0] [(0,1,(Kc 4)),(1,1,(Kc 0)),(2,1,(Kc 0))]),oo 135 (.build [Z0,Z0,Z0] [(0,1,(Kc 4)),(1,1,(Kc 0)),(2,1,(Kc 0))]),oo 136 (.build [Z0,Z0,Z0] [(0,1,(Kc 4)),(1,1,(Kc 0)),(2,1,(Kc 9))]),oo 137 (.build [Z0,Z0,Z0] [(0,1,(Kc 4)),(1,1,(Kc 0)),(2,1,(Kc 10))]),oo 138 (.build [Z0,Z0,Z0] [(0,1,(Kc 4)),(1,1,(Kc 0)),(2,1,(Kc 11))]),oo 139 (.build [Z0,Z0,Z0] [(0,1,(Kc 4)),(1,1,(Kc 0)),(2,1,(Kc 40))]),oo 140 (.build [Z0,Z0,Z0] [(0,1,(Kc 4)),(1,1,(Kc 0)),(2,1,(Kc 40))]),oo 141 (.build [Z0,Z0,Z0] [(0,1,(Kc 4)),(1,1,(Kc 0)),(2,1,(Kc 40))]),oo 142 (.buildS 92 3 9 [Z0,Z0,Z0] [(0,(tm 133)),(1,(tm 134)),(2,(tm 135)),(3,(tm 136)),(4,(tm 137)),(5,(tm 138)),(6,(tm 139)),(7,(tm 140)),(8,(tm 141))]),⟨some 143,.call 42 [(tm 132),(.const .nil),(.const (.str ⟨#[115,114,99]⟩)),(tm 142)],none,[]⟩,mv 131 143,oo 144 (.ext (tm 131) 0),oo 145 (.ext (tm 131) 1),mv 18 144,mv 19 145])) (.seq (.cut (rg [mv 147 14,oo 148 (.call 46 [tm 147]),oo 149 (.call 45 [tm 148]),mv 146 149,oo 150 (.ext (tm 146) 0),oo 151 (.ext (tm 146) 1),mv 20 150,mv 21 151])) (.seq (.cut (rg [mv 153 4,oo 154 (.call 27 [(tm 153),(.const .nil)]),mv 152 154,oo 155 (.ext (tm 152) 0),oo 156 (.ext (tm 152) 1),mv 22 155,mv 23 156])) (sr [mv 157 5,mv 158 157,mT 159 12 158,oo 160 (.pick (tm 158) (tm 159) kF),mv 161 160,mT 162 17 161,oo 163 (.pick (tm 161) (tm 162) kF),mv 164 163,mT 165 18 164,oT 166 164 (.buildS 3 1 9 [Z0] [(0,(Kc 4)),(1,(Kc 4)),(2,(.const (.int .i64 (-1)))),(3,(.const (.int .i64 (-1)))),(4,(Kc 4)),(5,(.const (.int .i64 (-1)))),(6,(Kc 4)),(7,(Kc 4)),(8,(.const (.int .i64 (-1))))]),oT 167 164 (.call 21 [(tm 165),(tm 166)]),oT 168 164 (.bin .eql (tm 167) (Kc 0)),oo 169 (.pick (tm 164) (tm 168) kF),mv 170 169,mT 171 21 170,oT 172 170 (.bin .eql (tm 171) (Kc 0)),oo 173 (.pick (tm 170) (tm 172) kF),mv 174 173,mT 175 20 174,mT 176 14 174,oT 177 174 (.call 47 [(tm 175),(tm 176)]),oo 178 (.pick (tm 174) (tm 177) kF),mv 179 178,mT 180 14 179,mT 181 4 179,oT 182 179 (.call 47 [(tm 180),(tm 181)]),oT 183 179 (.not (tm 182)),oo 184 (.pick (tm 179) (tm 183) kF),mv 185 184,mT 186 23 185,oT 187 185 (.bin .eql (tm 186) (Kc 0)),oo 188 (.pick (tm 185) (tm 187) kF),mv 189 188,mT 190 22 189,oT 191 189 (.len (tm 190)),oT 192 189 (.bin .eql (tm 191) (Kc 1)),oo 193 (.pick (tm 189) (tm 192) kF),mv 194 193,mT 195 4 194,oT 196 194 (.call 23 [(.const .nil),(tm 195)]),oT 197 194 (.bin .eql (tm 196) (Kc 4)),oo 198 (.pick (tm 194) (tm 197) kF),mv 0 198] .ret))))))))))))))))
theorem l9:(Tryz.f9.body.bind (bt Tryz.prog 199 [6000006,6000007,6000008,6000009,6000010,6000011,6000012,6000013,6000014,6000015,6000016,6000017,8000031]))=some c9:=by kernel_rfl
end Go.ST8
end
section
namespace Go.ST
open Go Go.DL Go.MM Go.Proofs
open Go.TY hiding Fd
open Go.RC (vi vis vs vg yF ET)
abbrev EA:List RE:=[⟨vN,[5],10,9⟩]
abbrev EO:List RE:=[⟨vN,[7],0,10⟩]
abbrev EN:List RE:=[⟨vN,[1],20,0⟩,⟨vN,[2],21,0⟩]
abbrev E6:List RE:=[⟨vN,[4],0,40⟩]
abbrev Ax:List (Int×Int×Int):=[(5,0,0),(5,0,1),(5,0,2),(5,0,3),(5,0,4),(5,0,5),(5,0,6),(5,0,7),(5,0,8),(5,0,9)]
abbrev Nv:List (Int×Int×Int):=[(4,0,0),(4,0,0),(4,0,0),(4,0,9),(4,0,10),(4,0,11),(4,0,40),(4,0,40),(4,0,40)]
theorem FK(k:Int)(f:ByteArray)(n m:Int)(e:List RE)(a:ByteArray)(d:List (Int×Int×Int))(b:List Int)(c:List RE)(i:d.length<2^20)(g:CG L17 (stp k f n m) a d e=true)(j:uA L17 a=true)(h:vW L17 (stp k f n m) a d ([],e)=(b,c)):
  DCalls Tryz.prog 42 [wG (stp k f n m),esT e,.str a,BU d] (.tup [.slice 1 (b.map I),esT c]):=by
 have:=HB (stp k f n m) e a d i g j
 rwa [h] at this
theorem Dh(k:Int)(f:ByteArray)(n m:Int)(a:ByteArray)(d:List (Int×Int×Int))(c:List Int)(b:List RE)(g:d.length<2^20)(e:CG L17 (stp k f n m) a d []=true)(i:uA L17 a=true)(h:vW L17 (stp k f n m) a d ([],[])=(c,b)):
  DCalls Tryz.prog 42 [wG (stp k f n m),.nil,.str a,BU d] (.tup [.slice 1 (c.map I),esT b]):=
 (FK k f n m [] a d c b g e i h).lesAll ⟨Les.refl _,Les.nil 4,Les.refl _,Les.refl _,trivial⟩
theorem Dg(a:List Int)(h:a.length<2^60):DCalls Tryz.prog 21 [.slice 1 (a.map I),.slice 1 (a.map I)] (I 0):=by
 have:=Ck a a h h
 rwa [xF.2 rfl] at this
theorem IZ(a:List Int)(h:a.length<2^40)(b:zC a=true):DCalls Tryz.prog 44 [.slice 1 (a.map I)] (.bool true):=by
 have:=DY a h
 rwa [b] at this
theorem HE(l:List Int):vg (vis l):=fun b a=>by
 unfold vis at a;rcases List.mem_append.1 a with h|h
 ·exact yF _ b h
 ·obtain ⟨x,_,c⟩:=List.mem_flatMap.1 h;exact yF x b c
theorem FZ(d:List RE):vg (xT d):=fun b a=>by
 unfold xT at a;rcases List.mem_append.1 a with h|h
 ·exact yF _ b h
 ·obtain ⟨e,_,c⟩:=List.mem_flatMap.1 h;unfold vU at c;rcases List.mem_append.1 c with h|h
  ·exact ET _ b h
  ·rcases List.mem_append.1 h with h|h <;> exact HE _ b h
theorem szN: ∀e∈EN,SzE e:=fun e a=>by
 simp only [List.mem_cons,List.not_mem_nil,or_false] at a;rcases a with rfl|rfl
 all_goals exact ⟨by decide,by decide,fun x b=>by rw [List.mem_singleton.1 b];unfold Go.RC.i64;decide,by unfold Go.RC.i64;decide,by unfold Go.RC.i64;decide⟩
theorem Ns(a:List RE)(b: ∀e∈a,SzE e)(d:a.length<2^20)(_:a≠[])(c:(xT a).length<2^28):DCalls Tryz.prog 45 [bT (xT a)] (.tup [esT a,I 0]):=by
 have:=Hu (xT a) (FZ a) (by omega)
 rw [GP b (by omega)] at this;exact this
theorem HZ(a b:List RE)(x:Bool)(f:a.length<2^40)(c:b.length<2^40)(d: ∀x∈a,kOk x)(e: ∀x∈b,kOk x)(h:decide (a=b)=x):DCalls Tryz.prog 47 [esT a,esT b] (.bool x):=h▸JV a b f c d e
theorem KJ(a:List RE)(c:uP a)(e:a.length<2^30)(b: ∀x∈a,kOk x)(h:B9 a []=some a):DCalls Tryz.prog 27 [esT a,.nil] (.tup [esT a,I 0]):=by
 have:=JU a [] c List.Pairwise.nil e (by decide) b (fun x d=>by cases d)
 rw [h] at this;exact this.lesAll ⟨Les.refl _,Les.nil 4,trivial⟩
theorem IY(a:List RE)(c:a.length<2^60)(b: ∀e∈a,kOk e)(x:Int)(h:zn [] a=x):DCalls Tryz.prog 23 [.nil,esT a] (I x):=
 (h▸I4 [] (by decide) (fun v d=>by cases d) a c b:DCalls Tryz.prog 23 [vsT [],esT a] (I x)).lesAll ⟨Les.nil 5,Les.refl _,trivial⟩
theorem kEA: ∀e∈EA,kOk e:=by decide
theorem kEN: ∀e∈EN,kOk e:=by decide
theorem HA:DCalls Tryz.prog 9 [] (.bool true):=by
 refine dl2 mixed [.tmp 0] [.bool true] Tryz.func9 Go.ST8.l9 ?_
 skip
 refine tx 0 (α:=Nat) (β:=Unit) (fun i=>{sl:=[(1,.own 32 92 3 ((Ax.take i).map tri)),(2,.t (I i))],bx:=[]}) (fun i=>i<=10) (fun i=>10 - i)
  (fun _=>{sl:=[(1,.t (BU Ax))],bx:=[]}) (fun _=>True) 0 (by decide) ?_ ?_ ?_
 ·repeat' (first|exact wJ|refine And.intro ?_ ?_)
 ·rintro i A;rcases Nat.lt_or_ge i 10 with h|h
  ·have C:(Ax.take (i+1)).map tri=(Ax.take i).map tri++[tri (5,0,i)]:=by
    have:i=0\/i=1\/i=2\/i=3\/i=4\/i=5\/i=6\/i=7\/i=8\/i=9:=by omega
    rcases this with rfl|rfl|rfl|rfl|rfl|rfl|rfl|rfl|rfl|rfl <;> rfl
   have D:((Ax.take i).map tri).length=i:=by rw [List.length_map,List.length_take];exact Nat.min_eq_left A
   generalize (Ax.take i).map tri=xs at *
   repeat' ((conv=>whnf);first|refine aD1 ?_|refine aS ?_|fail)
   exact ⟨i+1,h,by omega,by repeat' (first|(exact ug C)|exact wJ|refine And.intro ?_ ?_)⟩
  ·obtain rfl:i=10:=by omega
   repeat' ((conv=>whnf);first|(exact ⟨(),trivial,by (repeat' (first|(exact AS rfl)|exact wJ|refine And.intro ?_ ?_));done⟩)|refine aD0 ?_|refine aS ?_|fail)
 rintro _ _;have n:=yT 1 Df 0 0;have s:=Dh 1 Df 0 0 Df Ax [1,2,3,4,5,6,7,7,7,7] EA (by decide) (by decide+kernel) (by decide+kernel) (by decide+kernel)
 skip
 refine tV (β:=Unit) (fun _=>{sl:=[(3,.t (.slice 1 ([1,2,3,4,5,6,7,7,7,7].map I))),(4,.t (esT EA))],bx:=[]}) (fun _=>True) ?_ ?_
 ·repeat' ((conv=>whnf);first|refine uc _ (n) ?_|refine uc _ (s) ?_|(exact ⟨(),trivial,by (repeat' (first|exact wJ|refine And.intro ?_ ?_));done⟩)|fail)
 rintro _ _;clear n s;have q:=IZ [1,2,3,4,5,6,7,7,7,7] (by decide) (by decide+kernel)
 skip
 refine tV (β:=Unit) (fun _=>{sl:=[(4,.t (esT EA)),(5,.t (.bool true))],bx:=[]}) (fun _=>True) ?_ ?_
 ·repeat' ((conv=>whnf);first|refine uc _ (q) ?_|(exact ⟨(),trivial,by (repeat' (first|exact wJ|refine And.intro ?_ ?_));done⟩)|refine aE1 ?_|refine aS ?_|refine nT_ ?_)
 rintro _ _;clear q;have v:=yT 3 e0 3 0;have r:=Dh 3 e0 3 0 BR [(7,0,10)] [-1] [] (by decide) (by decide+kernel) (by decide+kernel) (by decide+kernel)
 skip
 refine tV (β:=Unit) (fun _=>{sl:=[(4,.t (esT EA)),(5,.t (.bool true)),(6,.t (.slice 1 ([-1].map I))),(7,.t (esT []))],bx:=[]}) (fun _=>True) ?_ ?_
 ·repeat' ((conv=>whnf);first|refine uc _ (v) ?_|refine uc _ (r) ?_|(exact ⟨(),trivial,by (repeat' (first|exact wJ|refine And.intro ?_ ?_));done⟩)|refine aS ?_|fail)
 rintro _ _;clear v r;have u:=yT 2 e0 0 0;have p:=FK 2 e0 0 0 [] BR [(7,0,10)] [7] EO (by decide) (by decide+kernel) (by decide+kernel) (by decide+kernel)
 skip
 refine tV (β:=Unit) (fun _=>{sl:=[(4,.t (esT EA)),(5,.t (.bool true)),(6,.t (.slice 1 ([-1].map I))),(9,.t (esT EO))],bx:=[]}) (fun _=>True) ?_ ?_
 ·repeat' ((conv=>whnf);first|refine uc _ (u) ?_|refine uc _ (p) ?_|(exact ⟨(),trivial,by (repeat' (first|exact wJ|refine And.intro ?_ ?_));done⟩)|refine aS ?_|fail)
 rintro _ _;clear u p;have w:=yT 3 e0 3 0;have o:=FK 3 e0 3 0 EO BR [(7,0,13),(7,0,14)] [7, -1] EO (by decide) (by decide+kernel) (by decide+kernel) (by decide+kernel)
 skip
 refine tV (β:=Unit) (fun _=>{sl:=[(4,.t (esT EA)),(5,.t (.bool true)),(6,.t (.slice 1 ([-1].map I))),(9,.t (esT EO)),(10,.t (.slice 1 ([7, -1].map I)))],bx:=[]}) (fun _=>True) ?_ ?_
 ·repeat' ((conv=>whnf);first|refine uc _ (w) ?_|refine uc _ (o) ?_|(exact ⟨(),trivial,by (repeat' (first|exact wJ|refine And.intro ?_ ?_));done⟩)|refine aS ?_|fail)
 rintro _ _;clear w o;have c:=Dg [7, -1] (by decide)
 skip
 refine tV (β:=Unit) (fun _=>{sl:=[(4,.t (esT EA)),(5,.t (.bool true)),(12,.t (.bool true))],bx:=[]}) (fun _=>True) ?_ ?_
 ·repeat' ((conv=>whnf);first|refine uc _ (c) ?_|(exact ⟨(),trivial,by (repeat' (first|exact wJ|refine And.intro ?_ ?_));done⟩)|refine aE1 ?_|refine aS ?_|refine nT_ ?_)
 rintro _ _;clear c;have k11:=yT 4 Cx 20 21;have l:=Dh 4 Cx 20 21 Cx [(1,0,0),(2,0,0),(1,0,0),(3,0,0)] [20,21,20, -1] EN (by decide) (by decide+kernel) (by decide+kernel) (by decide+kernel)
 skip
 refine tV (β:=Unit) (fun _=>{sl:=[(4,.t (esT EA)),(5,.t (.bool true)),(12,.t (.bool true)),(13,.t (.slice 1 ([20,21,20, -1].map I))),(14,.t (esT EN))],bx:=[]}) (fun _=>True) ?_ ?_
 ·repeat' ((conv=>whnf);first|refine uc _ (k11) ?_|refine uc _ (l) ?_|(exact ⟨(),trivial,by (repeat' (first|exact wJ|refine And.intro ?_ ?_));done⟩)|refine aS ?_|fail)
 rintro _ _;clear k11 l;have e:=yT 5 Cx 0 0;have a:=FK 5 Cx 0 0 EN BR [(9,21,0),(9,22,0)] [2, -1] EN (by decide) (by decide+kernel) (by decide+kernel) (by decide+kernel)
 skip
 refine tV (β:=Unit) (fun _=>{sl:=[(4,.t (esT EA)),(5,.t (.bool true)),(12,.t (.bool true)),(13,.t (.slice 1 ([20,21,20, -1].map I))),(14,.t (esT EN)),(15,.t (.slice 1 ([2, -1].map I)))],bx:=[]}) (fun _=>True) ?_ ?_
 ·repeat' ((conv=>whnf);first|refine uc _ (e) ?_|refine uc _ (a) ?_|(exact ⟨(),trivial,by (repeat' (first|exact wJ|refine And.intro ?_ ?_));done⟩)|refine aS ?_|fail)
 rintro _ _;clear e a;have k:=Dg [20,21,20, -1] (by decide);have d:=Dg [2, -1] (by decide)
 skip
 refine tV (β:=Unit) (fun _=>{sl:=[(4,.t (esT EA)),(5,.t (.bool true)),(12,.t (.bool true)),(14,.t (esT EN)),(17,.t (.bool true))],bx:=[]}) (fun _=>True) ?_ ?_
 ·repeat' ((conv=>whnf);first|refine uc _ (k) ?_|refine uc _ (d) ?_|(exact ⟨(),trivial,by (repeat' (first|exact wJ|refine And.intro ?_ ?_));done⟩)|refine aE1 ?_|refine aS ?_|fail)
 rintro _ _;clear k d;have f:=yT 6 e0 2 10;have g:=Dh 6 e0 2 10 BR Nv [4,4, -1, -1,4, -1,4,4, -1] E6 (by decide) (by decide+kernel) (by decide+kernel) (by decide+kernel)
 skip
 refine tV (β:=Unit) (fun _=>{sl:=[(4,.t (esT EA)),(5,.t (.bool true)),(12,.t (.bool true)),(14,.t (esT EN)),(17,.t (.bool true)),(18,.t (.slice 1 ([4,4, -1, -1,4, -1,4,4, -1].map I)))],bx:=[]}) (fun _=>True) ?_ ?_
 ·repeat' ((conv=>whnf);first|refine uc _ (f) ?_|refine uc _ (g) ?_|(exact ⟨(),trivial,by (repeat' (first|exact wJ|refine And.intro ?_ ?_));done⟩)|refine aS ?_|fail)
 rintro _ _;clear f g;have j:=Hv EN szN (by decide) (by decide+kernel);have m:=Ns EN szN (by decide) (by simp) (by decide+kernel)
 skip
 refine tV (β:=Unit) (fun _=>{sl:=[(4,.t (esT EA)),(5,.t (.bool true)),(12,.t (.bool true)),(14,.t (esT EN)),(17,.t (.bool true)),(18,.t (.slice 1 ([4,4, -1, -1,4, -1,4,4, -1].map I))),(20,.t (esT EN)),(21,.t (I 0))],bx:=[]}) (fun _=>True) ?_ ?_
 ·repeat' ((conv=>whnf);first|refine uc _ (j) ?_|refine uc _ (m) ?_|(exact ⟨(),trivial,by (repeat' (first|exact wJ|refine And.intro ?_ ?_));done⟩)|fail)
 rintro _ _;clear j m;have b:=KJ EA (xW.1 (by decide+kernel)) (by decide) kEA (by decide+kernel)
 skip
 refine tV (β:=Unit) (fun _=>{sl:=[(4,.t (esT EA)),(5,.t (.bool true)),(12,.t (.bool true)),(14,.t (esT EN)),(17,.t (.bool true)),(18,.t (.slice 1 ([4,4, -1, -1,4, -1,4,4, -1].map I))),(20,.t (esT EN)),(21,.t (I 0)),(22,.t (esT EA)),(23,.t (I 0))],bx:=[]}) (fun _=>True) ?_ ?_
 ·repeat' ((conv=>whnf);first|refine uc _ (b) ?_|(exact ⟨(),trivial,by (repeat' (first|exact wJ|refine And.intro ?_ ?_));done⟩)|fail)
 rintro _ _;clear b;have x:=Dg [4,4, -1, -1,4, -1,4,4, -1] (by decide);have z:=HZ EN EN true (by decide) (by decide) kEN kEN (by decide+kernel);have B:=HZ EN EA false (by decide) (by decide) kEN kEA (by decide+kernel);have y:=IY EA (by decide) kEA 4 (by decide+kernel)
 repeat' ((conv=>whnf);first|refine uc _ (x) ?_|refine uc _ (z) ?_|refine uc _ (B) ?_|refine uc _ (y) ?_|refine aE1 ?_|refine rb1 ?_|refine aS ?_|exact trivial)
end Go.ST
end
section
end
section
end
section
end
section
namespace Go.ST
open Go Go.DL Go.MM Go.Proofs
open Go.TY hiding Fd
theorem Bv(p:RE->Bool): ∀a:List RE,a.length=(a.filter p).length+(a.filter fun x=> !p x).length
 |[]=>rfl
 |x::xs=>by
  have b:=Bv p xs;rw [List.filter_cons,List.filter_cons];cases p x
  ·simp;omega
  ·simp;omega
theorem CW: ∀(c:List ByteArray) (b:List RE),(∀ e∈b,e.var∈c)->(∀ v,uD b v<=100)->b.length<=100 * c.length
 |[],b,h,_=>by
  cases b with
  |nil=>simp
  |cons a r=>exact absurd (h a (by simp)) (by simp)
 |n::c,b,h,hc=>by
  have j:=Bv (fun e=>decide (e.var=n)) b;have k:(b.filter fun e=>decide (e.var=n)).length<=100:=hc n;have l:=CW c (b.filter fun e=> !decide (e.var=n)) (fun e i=>by
   obtain ⟨f,g⟩:=List.mem_filter.1 i;rcases List.mem_cons.1 (h e f) with d|d
   ·simp [d] at g
   ·exact d) (fun v=>Nat.le_trans (List.Sublist.length_le (List.Sublist.filter _ (List.filter_sublist))) (hc v))
  rw [List.length_cons];omega
theorem OkS.len{a:List RV}{b:List RE}(h:OkS a b):b.length<=100 * a.length:=by
 have:=CW (a.map (·.name)) b (fun e g=>by
  obtain ⟨v,c, -⟩:=(h.fit e g).ex;unfold varOf at c;have d:=List.mem_of_find?_eq_some c;have f:=List.find?_some c;exact List.mem_map.2 ⟨v,d,by simpa using f⟩) h.few
 rwa [List.length_map] at this
theorem OkS.kok{a:List RV}(f: ∀v∈a,VOk v){b:List RE}(h:OkS a b): ∀e∈b,kOk e:=fun e g=>by
 obtain ⟨v,c,d, -⟩:=(h.fit e g).ex;unfold varOf at c
 have:=(f v (List.mem_of_find?_eq_some c)).len
 have:=zX d
 show e.key.length<2^60
 omega
abbrev gsT(gs:List RG):T:=.slice 15 (gs.map uE)
def yr(g:RG):Bool:=decide (g.pol.size<=20)&&decide (g.pol.wm<=2)&&zH g.pol.wm g.pol.yt
def A1(L:List Fd)(gs:List RG)(a:List RE):Bool:=decide (zf L gs=0)&&decide (a.length<=250)&&decide (zn (wD L gs) a=0)
theorem IL(L:List Fd)(h:LOk L)(gs:List RG)(r:gs.length<2^30)(k: ∀g∈gs,SmG (2^39) g)(a:List RE)(p:a.length<2^60)(q: ∀e∈a,kOk e):
  DCalls Tryz.prog 41 [fds L,gsT gs,esT a] (.bool (A1 L gs a)):=by
 refine dl2 mixed [.tmp 6] [.bool _] Tryz.func41 Go.ST7.l41 ?_;have b:=Gl L h gs (by omega) k;have s:((a.map um).length:Int)=a.length:=by rw [List.length_map]
 unfold A1
 by_cases c:zf L gs=0
 case neg=>
  rw [decide_eq_false c];generalize zf L gs=x at *
  repeat' ((conv=>whnf);first|refine uc _ (b) ?_|refine sG c ?_|refine rb0 ?_|refine aS ?_|exact trivial)
 rw [decide_eq_true c];have m:=Ew c;have j:=BD L h gs (by omega) (fun g o=>by have:=(k g o).st.len;omega) m.pw;have f:=BV h m;have n:=A6 (l:=L) (gs:=gs);rw [c] at b;have i:=EI (wD L gs) (by omega) f a p q;generalize wD L gs=vars at *
 by_cases d:a.length<=250
 ·rw [decide_eq_true d]
  by_cases e:zn vars a=0
  ·rw [decide_eq_true e];rw [e] at i
   repeat' ((conv=>whnf);first|refine uc _ (b) ?_|refine uc _ (j) ?_|refine uc _ (i) ?_|refine aE1 ?_|refine aN0 ?_|refine aD0 ?_|refine rb1 ?_|refine aS ?_|exact trivial)
  ·rw [decide_eq_false e];generalize zn vars a=x at *
   repeat' ((conv=>whnf);first|refine uc _ (b) ?_|refine uc _ (j) ?_|refine uc _ (i) ?_|refine sD e ?_|refine aN0 ?_|refine aD0 ?_|refine rb0 ?_|refine aS ?_|exact trivial)
 ·rw [decide_eq_false d]
  repeat' ((conv=>whnf);first|refine uc _ (b) ?_|refine aN0 ?_|refine aD1 ?_|refine rb0 ?_|refine aS ?_|exact trivial)
def A0(l:List RF)(gs:List RG)(b:List RE)(h:List Int)(a:Int):Bool:=
 decide (yI l=0)&&zW gs&&wg h&&decide (0<=a)&&decide (a<=1073741824)&&gs.all yr&&A1 (l.map RF.fd) gs b
theorem Iz(l:List RF)(X:l.length<2^60)(W: ∀f∈l,f.name.size<2^62)(gs:List RG)(K:gs.length<2^30)(J: ∀g∈gs,SmG (2^39) g)(o:List RE)(B:o.length<2^60)(Y: ∀e∈o,kOk e)(h:List Int)(P:h.length=10)(b:Int):
  DCalls Tryz.prog 8 [xZ l,gsT gs,esT o,hd h,I b] (.bool (A0 l gs o h b)):=by
 refine dl2 mixed [.tmp 10] [.bool _] Tryz.func8 Go.ST7.l8 ?_;have p:=t47 l X W;have r:=DW gs (by omega) fun g V=>by have:=(J g V).wt;omega
 have s:=t11 h P;have O:((gs.map uE).length:Int)=(gs.length:Int):=by rw [List.length_map]
 have k:(h.map I).length=10:=by rw [List.length_map];exact P
 unfold A0
 by_cases u:yI l=0
 case neg=>
  rw [decide_eq_false u];generalize yI l=c at *
  repeat' ((conv=>whnf);first|refine uc _ (p) ?_|refine uc _ (r) ?_|refine uc _ (s) ?_|refine sG u ?_|refine rb0 ?_|(refine And.intro (by first|exact k) ?_)|refine aS ?_|exact trivial)
 have N:=B1 u;have C:=N.ok;have A:=N.fds;rw [u] at p;rw [decide_eq_true u,Bool.true_and];have y:=IL (l.map RF.fd) C gs K J o B Y;generalize A1 (l.map RF.fd) gs o=b4 at *
 generalize l.map RF.fd=L at *
 rw [A] at p ⊢;generalize zW gs=b2 at *
 generalize wg h=b3 at *
 cases b2
 ·repeat' ((conv=>whnf);first|refine uc _ (p) ?_|refine uc _ (r) ?_|refine uc _ (s) ?_|refine aN0 ?_|refine rb0 ?_|(refine And.intro (by first|exact k) ?_)|refine aS ?_|exact trivial)
 cases b3
 ·repeat' ((conv=>whnf);first|refine uc _ (p) ?_|refine uc _ (r) ?_|refine uc _ (s) ?_|refine aN0 ?_|refine rb0 ?_|(refine And.intro (by first|exact k) ?_)|refine aS ?_|exact trivial)
 by_cases G:0<=b
 case neg=>rw [decide_eq_false G];repeat' ((conv=>whnf);first|refine uc _ (p) ?_|refine uc _ (r) ?_|refine uc _ (s) ?_|refine aN0 ?_|refine aD1 ?_|refine rb0 ?_|(refine And.intro (by first|exact k) ?_)|refine aS ?_|exact trivial)
 by_cases R:b<=1073741824
 case neg=>rw [decide_eq_true G,decide_eq_false R];repeat' ((conv=>whnf);first|refine uc _ (p) ?_|refine uc _ (r) ?_|refine uc _ (s) ?_|refine aN0 ?_|refine aD1 ?_|refine aD0 ?_|refine rb0 ?_|(refine And.intro (by first|exact k) ?_)|refine aS ?_|exact trivial)
 rw [decide_eq_true G,decide_eq_true R]
 repeat' ((conv=>whnf);first|refine uc _ (p) ?_|refine uc _ (r) ?_|refine uc _ (s) ?_|refine aN0 ?_|refine aD0 ?_|(refine And.intro (by first|exact k) ?_)|refine aS ?_|fail)
 refine tx 0 (α:=Nat) (β:=Unit) (fun i=>{sl:=[(0,.t (fds L)),(1,.t (gsT gs)),(2,.t (esT o)),(14,.t (I i))],bx:=[]})
  (fun i=>i<=gs.length/\ ∀j (h:j<gs.length),j<i->yr gs[j]=true) (fun i=>gs.length - i)
  (fun _=>{sl:=[(0,.t (fds L)),(1,.t (gsT gs)),(2,.t (esT o))],bx:=[]}) (fun _=>gs.all yr=true) 0 (by simp) ?_ ?_ ?_
 ·repeat' (first|exact wJ|refine And.intro ?_ ?_)
 ·rintro i ⟨Z,Q⟩;rcases Nat.lt_or_ge i gs.length with h|h
  ·have a:(i:Int)<((gs.map uE).length:Int):=by omega
   have q:(gs.map uE)[i]?.getD .nil= .agg (uu gs[i]):=by simp [h];rfl
   have m:=zL gs[i];have hw:=(J gs[i] (List.getElem_mem h)).wt;have w:=t89 _ gs[i].pol (Nat.le_refl _) (by omega);have E:=t59 _ gs[i].pol (Nat.le_refl _) (by omega);have M:=t38 gs[i].pol (by omega);have n:yr gs[i]=false->gs.all yr=false:=fun F=>List.all_eq_false.2 ⟨gs[i],List.getElem_mem h,by rw [F];simp⟩
   have step:yr gs[i]=true-> ∀j (v:j<gs.length),j<i+1->yr gs[j]=true:=fun F j v a=>by
    rcases Nat.lt_or_ge j i with y|y
    ·exact Q j v y
    ·obtain rfl:j=i:=by omega
     exact F
   have d:yr gs[i]=(decide (gs[i].pol.size<=20)&&decide (gs[i].pol.wm<=2)&&zH gs[i].pol.wm gs[i].pol.yt):=rfl;generalize yr gs[i]=pb at *
   generalize gs[i].pol.size=z at *
   generalize gs[i].pol.deep=dp at *
   generalize zH gs[i].pol.wm gs[i].pol.yt=lb at *
   generalize gs[i].pol.wm=sr at *
   by_cases U:z<=20
   case neg=>
    rw [n (by rw [d,decide_eq_false U];rfl)]
    repeat' ((conv=>whnf);first|exact trivial|refine sC a ?_|(refine nv_ (.agg (uu gs[i])) (by first|exact q) ?_)|(refine nv_ (.agg (ux gs[i].pol)) (by first|exact congrArg T.agg m) ?_)|refine uc _ (w) ?_|refine aD1 ?_|refine rb0 ?_|(refine And.intro (by first|exact xq _|exact xU _|exact wh _) ?_)|refine aS ?_|refine nT_ ?_)
   by_cases S:sr<=2
   case neg=>
    rw [n (by rw [d,decide_eq_false S,Bool.and_false];rfl)]
    repeat' ((conv=>whnf);first|exact trivial|refine sC a ?_|(refine nv_ (.agg (uu gs[i])) (by first|exact q) ?_)|(refine nv_ (.agg (ux gs[i].pol)) (by first|exact congrArg T.agg m) ?_)|refine uc _ (w) ?_|refine uc _ (E) ?_|refine aD1 ?_|refine aD0 ?_|refine rb0 ?_|(refine And.intro (by first|exact xq _|exact xU _|exact wh _) ?_)|refine aS ?_|refine nT_ ?_)
   cases lb with
   |false=>
    rw [n (by rw [d,Bool.and_false])]
    repeat' ((conv=>whnf);first|exact trivial|refine sC a ?_|(refine nv_ (.agg (uu gs[i])) (by first|exact q) ?_)|(refine nv_ (.agg (ux gs[i].pol)) (by first|exact congrArg T.agg m) ?_)|refine uc _ (w) ?_|refine uc _ (E) ?_|refine uc _ (M) ?_|refine aD0 ?_|refine rb0 ?_|(refine And.intro (by first|exact xq _|exact xU _|exact wh _) ?_)|refine aS ?_|refine nT_ ?_)
   |true=>
    have H:i+1<=gs.length/\ ∀j (v:j<gs.length),j<i+1->yr gs[j]=true:=⟨h,step (by rw [d,decide_eq_true U,decide_eq_true S];rfl)⟩
    clear n step
    repeat' ((conv=>whnf);first|refine sC a ?_|(refine nv_ (.agg (uu gs[i])) (by first|exact q) ?_)|(refine nv_ (.agg (ux gs[i].pol)) (by first|exact congrArg T.agg m) ?_)|refine uc _ (w) ?_|refine uc _ (E) ?_|refine uc _ (M) ?_|refine aD0 ?_|(refine And.intro (by first|exact xq _|exact xU _|exact wh _) ?_)|refine aS ?_|refine nT_ ?_)
    exact ⟨i+1,H,by omega,by repeat' (first|exact wJ|refine And.intro ?_ ?_)⟩
  ·have a: ¬(i:Int)<((gs.map uE).length:Int):=by omega
   have D:gs.all yr=true:=List.all_eq_true.2 fun x q=>by
    obtain ⟨j,v,rfl⟩:=List.getElem_of_mem q;exact Q j v (by omega)
   repeat' ((conv=>whnf);first|refine su a ?_|(exact ⟨(),D,by (repeat' (first|exact wJ|refine And.intro ?_ ?_));done⟩)|refine aS ?_|fail)
 ·rintro _ D;rw [D]
  repeat' ((conv=>whnf);first|refine uc _ (y) ?_|refine rbx ?_|exact trivial)
structure Dk (l:List RF) (gs:List RG) (st:List RE) (h:List Int) (tick:Int):Prop where
 ck:MM.Checked l
 few:zW gs=true
 hh:HOk h
 t0:0<=tick
 t1:tick<=1073741824
 pol: ∀g∈gs,g.pol.size<=20/\g.pol.wm<=2/\zH g.pol.wm g.pol.yt=true
 fits:Fits (l.map RF.fd) gs
 prog:zf (l.map RF.fd) gs=0
 len:st.length<=250
 st:OkS (wD (l.map RF.fd) gs) st
theorem Gt{l:List RF}{gs:List RG}{d:List RE}{h:List Int}{a:Int}(m:h.length=10)(b:A0 l gs d h a=true):Dk l gs d h a:=by
 unfold A0 A1 at b;simp only [Bool.and_eq_true,decide_eq_true_eq,List.all_eq_true] at b;obtain ⟨⟨⟨⟨⟨⟨i,q⟩,j⟩,e⟩,n⟩,f⟩,⟨c,o⟩,k⟩:=b;refine ⟨B1 i,q,⟨m,j⟩,e,n,fun g p=>?_,Ew c,c,o,Ep.1 k⟩
 have:=f g p
 unfold yr at this;simp only [Bool.and_eq_true,decide_eq_true_eq] at this;exact ⟨this.1.1,this.1.2,this.2⟩
end Go.ST
end
section
namespace Go.STC
open Go Go.DL Go.Proofs
noncomputable def c3:aV:=(sr [oo 8 (.box 10 (tm 3)),oo 10 (.mov kF)] (sr [mv 18 0,mv 19 1,mv 20 2,lA 21 10 8,mv 22 4,oo 23 (.call 8 [(tm 18),(tm 19),(tm 20),(tm 21),(tm 22)]),mv 11 23] (.seq (sr [mv 24 11,oo 25 (.not (tm 24))] (.cond (tm 25) (sr [oo 26 (.call 9 []),mv 10 26] .ret) .skip)) (sr [mv 27 0,mv 28 1,oo 29 (.call 10 [(tm 27),(tm 28)]),mv 12 29] (.seq (sr [oo 13 (.mov (Kc 0))] (.block 0 (.loop (.seq (sr [mv 30 13,mv 31 1,ln 32 31,oo 33 (.bin .lss (tm 30) (tm 32))] (.cond (tm 33) .skip (.exit 0))) (.seq (.block 1 (.seq (.cut (rg [mv 37 0,mv 38 1,mv 39 13,ix 40 15 38 39,fa 41 9 40,lA 42 6 41,mv 43 2,lA 44 10 8,mv 45 4,oo 46 (.call 11 [(tm 37),(tm 42),(tm 43),(tm 44),(tm 45)]),mv 36 46,oo 47 (.ext (tm 36) 0),oo 48 (.ext (tm 36) 1),oo 49 (.ext (tm 36) 2),oo 14 (.alloc [Z0,Z0,Z0,Z0,Z0,Z0,Z0,Z0,Z0,Z0]),o0 (.store 10 (tm 14) (tm 47)),mv 15 48,mv 16 49])) (.seq (.cut (rg [mv 50 0,mv 51 1,mv 52 13,ix 53 15 51 52,fa 54 9 53,lA 55 6 54,mv 56 2,lA 57 10 8,mv 58 4,oo 59 (.call 12 [(tm 50),(tm 55),(tm 56),(tm 57),(tm 58)]),oo 17 (.alloc [Z0,Z0,Z0,Z0,Z0,Z0,Z0,Z0,Z0,Z0,(.bool false),.nil]),o0 (.store 12 (tm 17) (tm 59))])) (.seq (.seq (.cut (rg [lA 60 10 14,fa 61 0 17,lA 62 10 61,oo 63 (.eqv true [.int .i64,.int .i64,.int .i64,.int .i64,.int .i64,.int .i64,.int .i64,.int .i64,.int .i64,.int .i64] (tm 60) (tm 62)),mv 64 63,mF 65 15 64,oF 66 64 (.offA 10 (tm 17)),oF 67 64 (.load 1 false (tm 66)),oF 68 64 (.eqB true (tm 65) (tm 67)),oo 69 (.pick (tm 64) kT (tm 68)),mv 70 69,mF 71 16 70,oF 72 70 (.offA 11 (tm 17)),oF 73 70 (.load 1 false (tm 72)),oF 74 70 (.call 13 [(tm 71),(tm 73)]),oF 75 70 (.not (tm 74)),oo 76 (.pick (tm 70) kT (tm 75)),mv 77 76,mF 78 12 77,mF 79 16 77,oF 80 77 (.call 14 [(tm 78),(tm 79)]),oF 81 77 (.bin .neq (tm 80) (Kc 0)),oo 82 (.pick (tm 77) kT (tm 81)),mv 83 82,oF 84 83 (.load 10 true (tm 14)),oF 85 83 (.call 15 [tm 84]),oF 86 83 (.not (tm 85)),oo 87 (.pick (tm 83) kT (tm 86)),mv 88 87,mF 89 16 88,mF 90 1 88,mF 91 13 88,oF 92 88 (.idxL 15 (tm 90) (tm 91)),oF 93 88 (.offA 9 (tm 92)),oF 94 88 (.offA 1 (tm 93)),oF 95 88 (.load 1 false (tm 94)),oF 96 88 (.call 16 [(tm 89),(tm 95)]),mF 97 2 88,mF 98 1 88,mF 99 13 88,oF 100 88 (.idxL 15 (tm 98) (tm 99)),oF 101 88 (.offA 9 (tm 100)),oF 102 88 (.offA 1 (tm 101)),oF 103 88 (.load 1 false (tm 102)),oF 104 88 (.call 16 [(tm 97),(tm 103)]),oF 105 88 (.call 13 [(tm 96),(tm 104)]),oF 106 88 (.not (tm 105)),oo 107 (.pick (tm 88) kT (tm 106)),mv 108 107,mF 109 15 108,oF 110 108 (.not (tm 109)),mF 111 110 108,oT 112 111 (.load 10 true (tm 14)),oT 113 111 (.load 10 true (tm 8)),oT 114 111 (.eqv true [.int .i64,.int .i64,.int .i64,.int .i64,.int .i64,.int .i64,.int .i64,.int .i64,.int .i64,.int .i64] (tm 112) (tm 113)),oF 115 108 (.pick (tm 111) (tm 114) kF),oo 116 (.pick (tm 108) kT (tm 115))])) (.cond (tm 116) (sr [oo 10 (.mov kF)] .ret) .skip)) (rg [mv 117 16,mv 2 117]))))) (rg [mv 34 13,oo 35 (.bin .add (tm 34) (Kc 1)),mv 13 35])))))) (sr [oo 118 (.call 9 []),mv 10 118] .ret))))))
theorem l3:(Tryz.f3.body.bind (bt Tryz.prog 119 [6000008,6000009,6000010]))=some c3:=by kernel_rfl
end Go.STC
end
section
namespace Go.ST
open Go Go.DL Go.MM Go.Proofs
open Go.TY hiding Fd
theorem HH: ∀a b:List Int,a.length=b.length->eqL (a.map I) (b.map I)=decide (a=b)
 |[],[],_=>rfl
 |[],_::_,h=>by simp at h
 |_::_,[],h=>by simp at h
 |x::a,y::b,h=>by
  have d:=HH a b (by simpa using h);show (x==y&&eqL (a.map I) (b.map I))=_
  rw [d]
  by_cases c:x=y
  ·subst c;by_cases f:a=b <;> simp [f]
  ·have:(x==y)=false:=by simpa using c
   rw [this,decide_eq_false (fun e=>c (List.cons.inj e).1)];rfl
structure KT (l:List RF) (gs:List RG) (st:List RE) (h:List Int):Prop where
 ll:l.length<2^60
 ln: ∀f∈l,f.name.size<2^62
 gl:gs.length<2^30
 gg: ∀g∈gs,SmG (2^39) g
 sl:st.length<2^28
 sk: ∀e∈st,kOk e
 hl:h.length=10
theorem Dk.at{l:List RF}{gs:List RG}{r:List RE}{h:List Int}{a:Int}(p:Dk l gs r h a){g:RG}(t:g∈gs){b:List RE}(f:OkS (wD (l.map RF.fd) gs) b){c:List Int}(i:HOk c):
  DCalls Tryz.prog 11 [fds (l.map RF.fd),wG g.st,esT b,hd c,I a] (dnT (doE (l.map RF.fd) g.st b c a))/\DCalls Tryz.prog 12 [fds (l.map RF.fd),wG g.st,esT b,hd c,I a] (vq (doE (l.map RF.fd) g.st b c a))/\
  OkS (wD (l.map RF.fd) gs) (doE (l.map RF.fd) g.st b c a).st/\HOk (doE (l.map RF.fd) g.st b c a).h/\uR (doE (l.map RF.fd) g.st b c a).st g.st.var=uR b g.st.var/\((doE (l.map RF.fd) g.st b c a).pass=false->(doE (l.map RF.fd) g.st b c a).h=c):=by
 have d:=p.ck.ok;have m:=Kw p.ck
 by_cases j:g.st.kind=0
 ·have e:doE (l.map RF.fd) g.st b c a=⟨c,true,b⟩:=by unfold doE Au doR;rw [if_pos j];rfl
  refine ⟨H0 i j,HY i j,?_⟩;rw [e];exact ⟨f,i,rfl,fun s=>by cases s⟩
 ·have q:=Hq p.fits t j;have k:=BV d p.fits;have n:b.length<=1000000:=by
   have v:=f.len;have u:=A6 (l:=l.map RF.fd) (gs:=gs);have w:gs.length<=12:=by have:=p.few;unfold zW at this;simp only [Bool.and_eq_true,decide_eq_true_eq] at this;exact this.2
   omega
  have hd:=HG d m i f n p.t0 p.t1 q;have o:=f.kok k;exact ⟨JS hd o,Np hd o,Jh d i f p.t0 p.t1 q⟩
abbrev Nt:List Sh:=[.int .i64,.int .i64,.int .i64,.int .i64,.int .i64,.int .i64,.int .i64,.int .i64,.int .i64,.int .i64]
theorem B5(a b c d e f g h i j:Int):fits Nt [I a,I b,I c,I d,I e,I f,I g,I h,I i,I j]:=⟨rfl,rfl,rfl,rfl,rfl,rfl,rfl,rfl,rfl,rfl,trivial⟩
theorem Jj{a b:List Int}(h:a=b):(!eqL (a.map I) (b.map I))=false:=by rw [HH a b (by rw [h]),decide_eq_true h];rfl
theorem law_Does(l:List RF)(gs:List RG)(W:List RE)(h:List Int)(b:Int)(a:KT l gs W h):DCalls Tryz.prog 3 [xZ l,gsT gs,esT W,hd h,I b] (.bool true):=by
 refine dl2 mixed [.tmp 10] [.bool true] Tryz.func3 Go.STC.l3 ?_;have h0:=HA;have U:=Iz l a.ll a.ln gs a.gl a.gg W (by have:=a.sl;omega) a.sk h a.hl b;have h10:(h.map I).length=10:=by rw [List.length_map];exact a.hl
 cases hq:A0 l gs W h b with
 |false=>
  rw [hq] at U
  repeat' ((conv=>whnf);first|refine uc _ (U) ?_|refine uc _ (h0) ?_|refine rb1 ?_|(refine And.intro (by first|exact h10) ?_)|exact trivial)
 |true=>
 rw [hq] at U;have p:=Gt a.hl hq;have hV:=BD (l.map RF.fd) p.ck.ok gs (by have:=a.gl;omega) (fun g hm=>by have:=(a.gg g hm).st.len;omega) p.fits.pw;have hA:=fun {g:RG} (hg:g∈gs) {st':List RE} (ho:OkS (wD (l.map RF.fd) gs) st') {h':List Int} (hh:HOk h')=>p.at hg ho hh
 have A:=BV p.ck.ok p.fits;have hvl:(wD (l.map RF.fd) gs).length<=1000:=by
  have h2:=A6 (l:=l.map RF.fd) (gs:=gs);have h3:gs.length<=12:=by have:=p.few;unfold zW at this;simp only [Bool.and_eq_true,decide_eq_true_eq] at this;exact this.2
  omega
 have hst:=p.st;have F:=p.hh;have hgl:=a.gl;have V:=p.ck.fds;rw [V] at U ⊢;clear V hq a p;generalize l.map RF.fd=L at *
 generalize wD L gs=vars at *
 obtain ⟨R,N,H,K,P,M,B,Q,J,C,rfl⟩:=ten F
 repeat' ((conv=>whnf);first|refine uc _ (U) ?_|refine uc _ (hV) ?_|refine aS ?_|fail)
 have hn:(((gs.map uE)).length:Int)=gs.length:=by rw [List.length_map]
 refine tx 0 (α:=Nat×List RE) (β:=Unit) (fun p=>{sl:=[(0,.t (fds L)),(1,.t (gsT gs)),(2,.t (esT p.2)),(4,.t (I b)),(8,.ptr 8 0),(12,.t (vsT vars)),(13,.t (I p.1))],bx:=[(8,.d 10 [I R,I N,I H,I K,I P,I M,I B,I Q,I J,I C])]})
  (fun p=>p.1<=gs.length/\OkS vars p.2) (fun p=>gs.length - p.1) (fun _=>{sl:=[],bx:=[]}) (fun _=>True) (0,W) ⟨Nat.zero_le _,hst⟩ ?_ ?_ ?_
 ·repeat' (first|exact wJ|refine And.intro ?_ ?_)
 ·rintro ⟨i,s⟩ ⟨hi,hs⟩;dsimp only at hi hs;rcases Nat.lt_or_ge i gs.length with h|h
  ·have G:(i:Int)<((gs.map uE).length:Int):=by omega
   have O:(gs.map uE)[i]?.getD .nil= .agg (uu gs[i]):=by simp [h];rfl
   obtain ⟨k1,Y,e,c,hw,E⟩:=hA (List.getElem_mem h) hs F;obtain ⟨g,hg⟩: ∃g,gs[i]=g:=⟨_,rfl⟩
   rw [hg] at O k1 Y e c hw E;have hc2:=xQ g;have Z:=GF g;have Jt:10<(uu g).length:=by rw [wN];exact nlZ rfl
   generalize doE L g.st s [R,N,H,K,P,M,B,Q,J,C] b=d at *
   obtain ⟨dh,S,f⟩:=d;dsimp only at e c hw E;have hsl:s.length<=200000:=by have:=hs.len;omega
   have hdl:f.length<=200000:=by have:=e.len;omega
   have X:=hs.kok A;have z:=e.kok A;have c1:=Gm f f (by omega) (by omega) z z;rw [decide_eq_true rfl] at c1;have c2:=EI vars (by omega) A f (by omega) z;rw [Ep.2 e] at c2;have c3:=t11 dh c.len;rw [c.right] at c3;have c4:=C2 f g.st.var (by omega);have c5:=C2 s g.st.var (by omega);rw [hw] at c4;have hwl:(uR s g.st.var).length<=s.length:=List.length_filter_le _ _;have D: ∀x∈uR s g.st.var,kOk x:=fun x O=>X x (List.mem_filter.1 O).1
   have c6:=Gm (uR s g.st.var) (uR s g.st.var) (by omega) (by omega) D D;rw [decide_eq_true rfl] at c6;generalize uR s g.st.var=w at *
   obtain ⟨o,r,k,m,n,v,j,y,q,u,rfl⟩:=ten c;have e1:(!eqL [I o,I r,I k,I m,I n,I v,I j,I y,I q,I u] [I o,I r,I k,I m,I n,I v,I j,I y,I q,I u])=false:=Jj (a:=[o,r,k,m,n,v,j,y,q,u]) rfl;have k1:DCalls Tryz.prog 11 [fds L,.agg (uw g.st),esT s,.agg [I R,I N,I H,I K,I P,I M,I B,I Q,I J,I C],I b] (.tup [.agg [I o,I r,I k,I m,I n,I v,I j,I y,I q,I u],.bool S,esT f]):=k1;have Y:DCalls Tryz.prog 12 [fds L,.agg (uw g.st),esT s,.agg [I R,I N,I H,I K,I P,I M,I B,I Q,I J,I C],I b] (.agg [I o,I r,I k,I m,I n,I v,I j,I y,I q,I u,.bool S,esT f]):=Y;have c3:DCalls Tryz.prog 15 [.agg [I o,I r,I k,I m,I n,I v,I j,I y,I q,I u]] (.bool true):=c3;have hnx:((i+1:Nat):Int)=IntKind.wrap .i64 ((i:Int)+1):=by rw [nW] <;> omega
   have hmu:gs.length - (i+1)<gs.length - i:=by omega
   have inv:i+1<=gs.length/\OkS vars f:=⟨h,e⟩
   clear hA hV U X z D hst F c
   repeat' ((conv=>whnf);first|refine sC G ?_|refine aS ?_|fail)
   refine tV (β:=Unit) (fun _=>{sl:=[(0,.t (fds L)),(1,.t (gsT gs)),(2,.t (esT s)),(4,.t (I b)),(8,.ptr 8 0),(12,.t (vsT vars)),(13,.t (I i)),(14,.ptr 14 0),(15,.t (.bool S)),(16,.t (esT f))],bx:=[(8,.d 10 [I R,I N,I H,I K,I P,I M,I B,I Q,I J,I C]),(14,.d 10 [I o,I r,I k,I m,I n,I v,I j,I y,I q,I u])]}) (fun _=>True) ?_ ?_
   ·repeat' ((conv=>whnf);first|(refine nv_ (.agg (uu g)) (by first|exact O) ?_)|(refine nv_ (.agg (uw g.st)) (by first|exact congrArg T.agg hc2) ?_)|refine uc _ (k1) ?_|(exact ⟨(),trivial,by (repeat' (first|exact wJ|refine And.intro ?_ ?_));done⟩)|(refine And.intro (by first|exact wh _) ?_)|refine aS ?_|fail)
   rintro _ _
   skip
   refine tV (β:=Unit) (fun _=>{sl:=[(0,.t (fds L)),(1,.t (gsT gs)),(2,.t (esT s)),(4,.t (I b)),(8,.ptr 8 0),(12,.t (vsT vars)),(13,.t (I i)),(14,.ptr 14 0),(15,.t (.bool S)),(16,.t (esT f)),(17,.ptr 17 0)],bx:=[(8,.d 10 [I R,I N,I H,I K,I P,I M,I B,I Q,I J,I C]),(14,.d 10 [I o,I r,I k,I m,I n,I v,I j,I y,I q,I u]),(17,.d 12 [I o,I r,I k,I m,I n,I v,I j,I y,I q,I u,.bool S,esT f])]}) (fun _=>True) ?_ ?_
   ·repeat' ((conv=>whnf);first|(refine nv_ (.agg (uu g)) (by first|exact O) ?_)|(refine nv_ (.agg (uw g.st)) (by first|exact congrArg T.agg hc2) ?_)|refine uc _ (Y) ?_|(exact ⟨(),trivial,by (repeat' (first|exact wJ|refine And.intro ?_ ?_));done⟩)|(refine And.intro (by first|exact wh _) ?_)|refine aS ?_|fail)
   rintro _ _;clear k1 Y
   skip
   refine tV (β:=Unit) (fun _=>{sl:=[(0,.t (fds L)),(1,.t (gsT gs)),(4,.t (I b)),(8,.ptr 8 0),(12,.t (vsT vars)),(13,.t (I i)),(16,.t (esT f)),(116,.t (.bool false))],bx:=[(8,.d 10 [I R,I N,I H,I K,I P,I M,I B,I Q,I J,I C])]}) (fun _=>True) ?_ ?_
   ·cases S with
    |true=>
     repeat' ((conv=>whnf);first|(refine nv_ (.agg (uu g)) (by first|exact O) ?_)|(refine nv_ (.str g.st.var) (by first|exact Z) ?_)|(refine nv_ (.agg [I o,I r,I k,I m,I n,I v,I j,I y,I q,I u]) (by first|(rfl;done)|fail) ?_)|refine nb_ _ e1 ?_|refine uc _ (c1) ?_|refine uc _ (c2) ?_|refine uc _ (c3) ?_|refine uc _ (c4) ?_|refine uc _ (c5) ?_|refine uc _ (c6) ?_|(exact ⟨(),trivial,by (repeat' (first|exact wJ|refine And.intro ?_ ?_));done⟩)|refine nT_ ?_|refine aN0 ?_|(refine And.intro (by first|exact Jt|exact ⟨B5 ..,B5 ..⟩) ?_)|refine aS ?_|refine nb_ false rfl ?_)
    |false=>
     have E:=E rfl;simp only [List.cons.injEq,and_true] at E;obtain ⟨rfl,rfl,rfl,rfl,rfl,rfl,rfl,rfl,rfl,rfl⟩:=E
     repeat' ((conv=>whnf);first|(refine nv_ (.agg (uu g)) (by first|exact O) ?_)|(refine nv_ (.str g.st.var) (by first|exact Z) ?_)|(refine nv_ (.agg [I o,I r,I k,I m,I n,I v,I j,I y,I q,I u]) (by first|(rfl;done)|fail) ?_)|refine nb_ _ e1 ?_|refine uc _ (c1) ?_|refine uc _ (c2) ?_|refine uc _ (c3) ?_|refine uc _ (c4) ?_|refine uc _ (c5) ?_|refine uc _ (c6) ?_|(exact ⟨(),trivial,by (repeat' (first|exact wJ|refine And.intro ?_ ?_));done⟩)|refine nT_ ?_|refine aN0 ?_|(refine And.intro (by first|exact Jt|exact ⟨B5 ..,B5 ..⟩) ?_)|refine aS ?_|refine nb_ false rfl ?_)
   rintro _ _;clear c1 c2 c3 c4 c5 c6 e1 E
   repeat' ((conv=>whnf);first|(exact ⟨(i+1,f),inv,hmu,by (repeat' (first|(exact leI hnx)|exact wJ|refine And.intro ?_ ?_));done⟩)|fail)
  ·have G: ¬(i:Int)<((gs.map uE).length:Int):=by omega
   repeat' ((conv=>whnf);first|refine su G ?_|(exact ⟨(),trivial,by (repeat' (first|exact wJ|refine And.intro ?_ ?_));done⟩)|refine aS ?_|fail)
 ·rintro _ _
  repeat' ((conv=>whnf);first|refine uc _ (h0) ?_|refine rb1 ?_|exact trivial)
end Go.ST
end
section
end
section
end
section
end
section
end
section
end
section
end
section
end
section
end
section
end
section
end
section
end
section
end
section
namespace Go.MM
open Go Go.DL Go.Proofs
theorem aInt{us:List T}(h:cB Tryz.prog 3 us): ∃n,mkT Tryz.prog 3 us=I n:=by
 obtain ⟨n,rfl,_⟩:=wc h;exact ⟨n,by unfold mkT;rw [Tryz.underlying3];rfl⟩
theorem aHead{us:List T}(h:cB Tryz.prog 27 us): ∃h,mkT Tryz.prog 27 us=hd h/\h.length=10:=by
 obtain ⟨x,rfl,a,_⟩:=Io h;exact ⟨x,Ni _,a⟩
theorem aFields{us:List T}(h:cB Tryz.prog 22 us)(d:aQ us<=1048576): ∃l,Les (mkT Tryz.prog 22 us) (xZ l)/\l.length<2^60/\ ∀f∈l,f.name.size<2^62:=by
 obtain ⟨l,a,e,b⟩:=Gq h;exact ⟨l,a,by omega,fun f c=>by have:=b f c;omega⟩
end Go.MM
end
section
namespace Go.ST
open Go Go.DL Go.MM Go.Proofs
open Go.TY hiding Fd
def typesS:List TypeId:=[22,54,36,34,39,37,42,40,44,24,30,67,59,25,64,27,9,3,4]
theorem typesS_ok:eW Tryz.prog typesS=true:=by kernel_rfl
theorem Dp:Tryz.prog.cellsOf 64=4:=by kernel_rfl
theorem Kv(us:List T):mkT Tryz.prog 64 us= .agg us:=by unfold mkT;rw [Tryz.underlying64]
theorem Kk{us:List T}(h:us.length=4): ∃a b c d,us=[a,b,c,d]:=by
 match us,h with
 |[a,b,c,d],_=>exact ⟨a,b,c,d,rfl⟩
theorem Hj{us:List T}(h:cB Tryz.prog 64 us): ∃e:RE,dn us (uk e)/\e.key.length<aQ us:=by
 cases h with
 |struct h us i f=>
  rw [Tryz.underlying64] at h;cases h;rw [Dp] at i;obtain ⟨a,b,c,d,rfl⟩:=Kk i;have k:=f ⟨ "Var",9,0,false, "", "",0⟩ (by simp);have q:=f ⟨ "Key",59,1,false, "", "",16⟩ (by simp);have p:=f ⟨ "N",3,2,false, "", "",40⟩ (by simp);have j:=f ⟨ "At",3,3,false, "", "",48⟩ (by simp);simp only [yH,zB,FW,List.drop,List.take] at k q p j;obtain ⟨v,e0⟩:=yR k;obtain ⟨l,r,s⟩:=IT q;obtain ⟨n,o,_⟩:=wc p;obtain ⟨m,g,_⟩:=wc j;simp only [List.cons.injEq,and_true] at e0 o g;subst e0;subst o;subst g;refine ⟨⟨v,l,n,m⟩,.cons (Les.refl _) rfl (dn.append (us:=[T.slice 1 (l.map I)]) r (.cons (Les.refl _) rfl (.cons (Les.refl _) rfl .nil))),?_⟩;simp only [aQ,T.bulk] at s ⊢;show l.length<_
  omega
 |int h|bool h|str h|nil h|slice h|array h=>rw [Tryz.underlying64] at h;cases h
theorem aEnts{us:List T}(h:cB Tryz.prog 25 us)(m:aQ us<=1048576): ∃j:List RE,Les (mkT Tryz.prog 25 us) (esT j)/\j.length<=1048576/\ ∀e∈j,kOk e:=by
 have e: ∀t,mkT Tryz.prog 25 [t]=t:=fun t=>by unfold mkT;rw [u9];rfl
 cases h with
 |nil h=>exact ⟨[],by rw [e];exact Les.nil 4,by simp,by simp⟩
 |slice h b d w=>
  rw [u9] at h;cases h;rw [e,Dp];have u:b.map (mkT Tryz.prog 64)=b.map .agg:=List.map_congr_left fun x _=>Kv x
  rw [u] at m ⊢;simp only [aQ,T.bulk] at m;have n: ∃l:List RE,l.length=b.length/\l.length<=aQ (b.map .agg)/\(∀ r∈l,kOk r)/\ ∀(i:Nat) x (r:RE),b[i]? =some x->l[i]? =some r->dn x (uk r):=by
   clear w u
   induction b with
   |nil=>exact ⟨[],rfl,by simp,by simp,by simp⟩
   |cons x b A=>
    simp only [List.map_cons,aQ,T.bulk] at m;obtain ⟨r,B,C⟩:=Hj (d x (by simp));obtain ⟨l,g,z,k,p⟩:=A (fun y a=>d y (by simp [a])) (by omega);refine ⟨r::l,by simp [g],by simp only [List.map_cons,aQ,T.bulk,List.length_cons];omega,fun s c=>?_,fun i y s a c=>?_⟩
    ·rcases List.mem_cons.1 c with rfl|c
     ·show s.key.length<2^60
      omega
     ·exact k s c
    ·cases i with
     |zero=>simp at a c;subst a;subst c;exact B
     |succ i=>exact p i y s (by simpa using a) (by simpa using c)
  obtain ⟨l,g,z,k,p⟩:=n;refine ⟨l,Les.slice (by simp [g]) fun i x y d a=>?_,by omega,k⟩;rw [List.getElem?_map] at d a;obtain ⟨v,f,rfl⟩:=Option.map_eq_some_iff.1 d;obtain ⟨q,o,rfl⟩:=Option.map_eq_some_iff.1 a;exact ⟨p i v q f o,uo q⟩
 |int h|bool h|str h|array h|struct h=>rw [u9] at h;cases h
theorem aProgS{us:List T}(h:cB Tryz.prog 24 us)(d:aQ us<=1048576): ∃gs:List RG,Les (mkT Tryz.prog 24 us) (.slice 15 (gs.map uE))/\gs.length<=1048576/\ ∀g∈gs,SmG (2^39) g:=by
 obtain ⟨gs,a,e,b⟩:=IV h;exact ⟨gs,a,by omega,fun g c=>by
  have:=b g c
  exact ⟨this.st.mono (by omega),by have:=this.wt;omega,fun _=>this.names (by omega)⟩⟩
end Go.ST
end
