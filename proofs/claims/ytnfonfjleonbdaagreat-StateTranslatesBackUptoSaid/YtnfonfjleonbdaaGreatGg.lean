/- Joined by program: parts of a data level over the model, of the program's functions over it, and of the statement's proof. -/
import Derived.Test.YtnfonfjleonbdaaGreatGf
import Derived.Test.YtnfonfjleonbdaaGreatGd
import Derived.Shelf.Lays8
import Derived.Test.YtnfonfjleonbdaaGreatProg
import Derived.Test.YtnfonfjleonbdaaGreatGc
import Derived.KernelRfl
import Derived.Test.YtnfonfjleonbdaaGreatGe
set_option maxRecDepth 100000
set_option maxHeartbeats 8000000
section
namespace Go.RC
open Go Go.DL Go.Proofs
theorem K6(n:Int):un (zz n:Nat)=n:=by unfold un zz;split <;> split <;> omega
theorem K8{m:Nat}:zz (un (m:Int))=m:=by unfold un zz;split <;> split <;> omega
theorem Kk(m:Nat):1<=(vb m).length:=by
 by_cases h:m<128
 ·rw [zq h];simp
 ·rw [AK h];simp
theorem Cw(n:Int):1<=(vi n).length:=Kk _
theorem ND:(128:Int)^9=9223372036854775808:=by decide
theorem Kt: ∀(m k:Nat) (z:Int) (r:List Int),0<=z->z+(m:Int) * 128^k<18446744073709551616->(k>0->m>0)->gz k z (vb m++r)=(un (z+(m:Int) * 128^k),(k:Int)+(vb m).length,0):=by
 intro m
 induction m using Nat.strongRecOn with
 |ind m i=>
  intro k z r l c f;have g:(0:Int)<128^k:=Int.pow_pos (by decide);have d:k=9->m<2:=fun h=>by subst h;rw [ND] at c;omega
  by_cases h:m<128
  ·rw [zq h];show gz k z ((m:Int)::r)=_
   rw [gz,if_neg (by rintro (⟨a,b⟩|⟨a,b⟩);(have:=d a;omega);(have:=f a;omega)),if_pos (by omega)];rw [show (m:Int) % 128=m by omega];rfl
  ·rw [AK h];show gz k z (((m % 128+128:Nat):Int)::(vb (m / 128)++r))=_
   rw [gz,if_neg (by rintro (⟨a,b⟩|⟨a,b⟩);(have:=d a;omega);(omega)),if_neg (by omega)];rw [show ((m % 128+128:Nat):Int) % 128=((m % 128:Nat):Int) by omega];have e:z+((m % 128:Nat):Int) * 128^k+((m / 128:Nat):Int) * 128^(k+1)=z+(m:Int) * 128^k:=by
    rw [Int.pow_succ,Int.mul_comm (128^k) 128, <-Int.mul_assoc,Int.add_assoc, <-Int.add_mul]
    congr 2;omega
   have j:(0:Int)<=((m % 128:Nat):Int) * 128^k:=Int.mul_nonneg (by omega) (Int.le_of_lt g);rw [i (m / 128) (by omega) (k+1) _ r (by omega) (by rw [e];exact c) (fun _=>by omega),e,List.length_cons]
   congr 2
   omega
theorem Dg{n:Int}(h:i64 n)(r:List Int):gi (vi n++r)=(n,(((vi n).length:Nat):Int),0):=by
 have:=Kt (zz n) 0 0 r (by omega) (by have:=F2 h;omega) (fun h=>by omega)
 unfold gi vi;rw [this];have e:(0:Int)+((zz n:Nat):Int) * 128^0=((zz n:Nat):Int):=by simp
 rw [e,K6];simp
theorem Gb: ∀{b:List Int} {k:Nat} {z:Int},vg b->k<=9->0<=z->z<128^k->(gz k z b).2.2=0-> ∃m:Nat,(gz k z b).2.1=k+(vb m).length/\b=vb m++b.drop (vb m).length/\(gz k z b).1=un (z+(m:Int) * 128^k)/\(k>0->m>0)
 |[],k,z,_,_,_,_,h=>by rw [gz] at h;simp at h
 |c::r,k,z,hb,hk,hz,hz2,h=>by
  obtain ⟨d,j⟩:=hb c (by simp);obtain ⟨c,rfl⟩:=Int.eq_ofNat_of_zero_le d;have l:vg r:=fun x n=>hb x (by simp [n])
  rw [gz] at h ⊢
  by_cases a:(k=9/\(c:Int)>1)\/(k>0/\(c:Int)=0)
  ·rw [if_pos a] at h;simp at h
  rw [if_neg a] at h ⊢;obtain ⟨-,p,o,s⟩:=digit hz hz2 hk d j (fun h=>by omega)
  by_cases c8:(c:Int)<128
  ·rw [if_pos c8];refine ⟨c,?_,?_,?_,fun e=>by omega⟩
   ·rw [zq (by omega)];rfl
   ·rw [zq (by omega)];rfl
   ·rw [show (c:Int) % 128=c by omega]
  ·rw [if_neg c8] at h ⊢;obtain ⟨m,g,q,f,i⟩:=Gb (b:=r) (k:=k+1) l (by omega) p o h;have t:=i (by omega);refine ⟨c % 128+128 * m,?_,?_,?_,fun _=>by omega⟩
   ·rw [g,AK (z:=c % 128+128 * m) (by omega),show (c % 128+128 * m) / 128=m by omega,List.length_cons];omega
   ·rw [AK (z:=c % 128+128 * m) (by omega),show (c % 128+128 * m) / 128=m by omega,show (c % 128+128 * m) % 128+128=c by omega,List.length_cons,List.drop_succ_cons,List.cons_append, <-q]
   ·rw [f]
    congr 1
    rw [Int.pow_succ,Int.mul_comm (128^k) 128, <-Int.mul_assoc,Int.add_assoc, <-Int.add_mul]
    congr 2;omega
theorem DM{b:List Int}(d:vg b)(h:(gi b).2.2=0):(gi b).2.1=(vi (gi b).1).length/\b=vi (gi b).1++b.drop (gi b).2.1.toNat:=by
 obtain ⟨m,a,f,c,g⟩:=Gb (b:=b) (k:=0) (z:=0) d (by omega) (by omega) (by decide) h;have e:(gi b).1=un (m:Int):=by
  rw [show (gi b).1=un (0+(m:Int) * 128^0) from c];simp
 have a:(gi b).2.1=((vb m).length:Int):=by rw [show (gi b).2.1=((0:Nat):Int)+(vb m).length from a];simp
 rw [e];unfold vi;rw [K8,a];exact ⟨rfl,by simpa using f⟩
theorem Fp{k:Nat}{r:List Int}{least:Int}(b:0<least)(a:k<2^62)(h:(k:Int) * least<=r.length):gl (vi k++r) least=((k:Int),(((vi k).length:Nat):Int),0):=by
 unfold gl;rw [Dg (xw a)];dsimp only;rw [if_neg (by simp),if_neg (by omega),if_neg];have e:(((vi k++r).length:Nat):Int) - ((vi k).length:Int)=r.length:=by rw [List.length_append];omega
 rw [e]
 have:=(Int.le_ediv_iff_mul_le b).2 h
 omega
theorem Ga{b:List Int}{least:Int}(d:vg b)(h:(gl b least).2.2=0):0<=(gl b least).1/\i64 (gl b least).1/\(gl b least).2.1=(vi (gl b least).1).length/\b=vi (gl b least).1++b.drop (gl b least).2.1.toNat:=by
 have g:=DM d;obtain ⟨i, -⟩:=yF d;unfold gl at h ⊢
 by_cases a:(gi b).2.2≠0
 ·rw [if_pos a] at h;exact absurd h a
 rw [if_neg a] at h ⊢
 by_cases c:(gi b).1<0
 ·rw [if_pos c] at h;simp at h
 rw [if_neg c] at h ⊢
 by_cases e:(gi b).1>(b.length - (gi b).2.1) / least
 ·rw [if_pos e] at h;simp at h
 rw [if_neg e];obtain ⟨f,j⟩:=g (by simpa using a);exact ⟨by dsimp only;omega,i,f,j⟩
theorem DH: ∀(l:List Int),l.length<=(l.flatMap vi).length
 |[]=>by simp
 |x::l=>by
  have:=DH l
  have:=Cw x
  simp only [List.flatMap_cons,List.length_append,List.length_cons];omega
theorem DO{b r:List Int}: ∀{l acc:List Int} {a:Int},0<=a->b.drop a.toNat=l.flatMap vi++r->(∀ x∈l,i64 x)->gis l.length b a acc=(acc++l,a+(l.flatMap vi).length,0)
 |[],acc,a,h0,h,_=>by simp [gis]
 |x::l,acc,a,h0,h,hx=>by
  have c:gi (b.drop a.toNat)=(x,(((vi x).length:Nat):Int),0):=by rw [h,List.flatMap_cons,List.append_assoc];exact Dg (hx x (by simp)) _
  show gis (l.length+1) b a acc=_
  rw [gis,c,if_neg (by simp)];dsimp only;rw [DO (l:=l) (by omega) (by
   rw [show (a+((vi x).length:Int)).toNat=a.toNat+(vi x).length by omega, <-List.drop_drop,h,List.flatMap_cons,List.append_assoc,List.drop_left]) (fun y d=>hx y (by simp [d]))]
  simp only [List.append_assoc,List.singleton_append,List.flatMap_cons,List.length_append]
  congr 2
  omega
theorem A0{l r:List Int}(a:l.length<2^62)(b: ∀x∈l,i64 x):uV (vis l++r)=(l,(((vis l).length:Nat):Int),0):=by
 unfold uV vis;rw [List.append_assoc,Fp (by decide) a (by have:=DH l;rw [List.length_append];omega)];dsimp only;rw [if_neg (by simp),Int.toNat_natCast,DO (r:=r) (by omega) (by rw [Int.toNat_natCast,List.drop_left]) b];simp
theorem EH{b:List Int}(f:vg b): ∀{n:Nat} {acc:List Int} {a:Int},0<=a->(gis n b a acc).2.2=0-> ∃l,(gis n b a acc).1=acc++l/\l.length=n/\(∀ x∈l,i64 x)/\(gis n b a acc).2.1=a+(l.flatMap vi).length/\b.drop a.toNat=l.flatMap vi++b.drop (gis n b a acc).2.1.toNat
 |0,acc,a,h0,h=>⟨[],by simp [gis],rfl,by simp,by simp [gis],by simp [gis]⟩
 |n+1,acc,a,h0,h=>by
  have hd:=vD f a.toNat;rw [gis] at h ⊢
  by_cases c:(gi (b.drop a.toNat)).2.2≠0
  ·rw [if_pos c] at h;exact absurd h c
  rw [if_neg c] at h ⊢;obtain ⟨r,p⟩:=DM hd (by simpa using c);obtain ⟨m, -⟩:=yF hd;generalize gi (b.drop a.toNat)=g at *
  obtain ⟨v,u,e⟩:=g;dsimp only at *
  obtain ⟨l,i,q,j,o,k⟩:=EH f (n:=n) (acc:=acc++[v]) (a:=a+u) (by omega) h;refine ⟨v::l,?_,by simp [q],?_,?_,?_⟩
  ·rw [i];simp
  ·intro x d;rcases List.mem_cons.1 d with rfl|d
   ·exact m
   ·exact j x d
  ·rw [o,List.flatMap_cons,List.length_append];omega
  ·rw [p,List.drop_drop,show a.toNat+u.toNat=(a+u).toNat by omega,k,List.flatMap_cons,List.append_assoc]
theorem AZ{b:List Int}(i:vg b)(h:(uV b).2.2=0):(∀ x∈(uV b).1,i64 x)/\(uV b).2.1=(vis (uV b).1).length/\b=vis (uV b).1++b.drop (uV b).2.1.toNat:=by
 have j:=@Ga b 1 i;unfold uV at h ⊢
 by_cases c:(gl b 1).2.2≠0
 ·rw [if_pos c] at h;exact absurd h c
 rw [if_neg c] at h ⊢;obtain ⟨r, -,k,q⟩:=j (by simpa using c);generalize gl b 1=g at *
 obtain ⟨n,u,e⟩:=g;dsimp only at *
 obtain ⟨l,f,s,m,p,o⟩:=EH i (n:=n.toNat) (acc:=[]) (a:=u) (by omega) h;rw [List.nil_append] at f;rw [f];have d:((l.length:Nat):Int)=n:=by omega
 refine ⟨m,?_,?_⟩
 ·rw [p,vis,d,List.length_append,k];omega
 ·rw [vis,d,List.append_assoc, <-o];exact q
end Go.RC
end
section
namespace Go.ST
open Go Go.DL Go.TY
open Go.RC (vi vis vs gi gl uV i64 vg vD sB Y Dg Fp A0 yF Bp DM Ga AZ xw CK EV Be yL Cw)
def wa(e:RE):List Int:=vs e.var++(vis e.key++vis [e.n,e.at_])
def xV(st:List RE):List Int:=vi st.length++st.flatMap wa
def gb(b:List Int):ByteArray×Int×Int:=if (gl b 1).2.2≠0 then (⟨#[]⟩,0,(gl b 1).2.2) else (oG (((b.drop (gl b 1).2.1.toNat).take (gl b 1).1.toNat).map Y),(gl b 1).2.1+(gl b 1).1,0)
def BS(b:List Int):RE×List Int×Int:=
 if (gb b).2.2≠0 then (⟨⟨#[]⟩,[],0,0⟩,[],(gb b).2.2) else
 if (uV (b.drop (gb b).2.1.toNat)).2.2≠0 then (⟨⟨#[]⟩,[],0,0⟩,[],(uV (b.drop (gb b).2.1.toNat)).2.2) else
 let a:=(b.drop (gb b).2.1.toNat).drop (uV (b.drop (gb b).2.1.toNat)).2.1.toNat
 if (uV a).2.2≠0 then (⟨⟨#[]⟩,[],0,0⟩,[],(uV a).2.2) else
 if (uV a).1.length≠2 then (⟨⟨#[]⟩,[],0,0⟩,[],6) else
 (⟨(gb b).1,(uV (b.drop (gb b).2.1.toNat)).1,(uV a).1.getD 0 0,(uV a).1.getD 1 0⟩,a.drop (uV a).2.1.toNat,0)
def xU:Nat->List Int->List RE->List RE×List Int×Int
 |0,b,acc=>(acc,b,0)
 |n+1,b,acc=>if (BS b).2.2≠0 then ([],[],(BS b).2.2) else xU n (BS b).2.1 (acc++[(BS b).1])
def yR(b:List Int):List RE×Int:=
 if (gi b).2.2≠0 then ([],(gi b).2.2) else if (gi b).1<0 then ([],6) else
 if (xU (gi b).1.toNat (b.drop (gi b).2.1.toNat) []).2.2≠0 then ([],(xU (gi b).1.toNat (b.drop (gi b).2.1.toNat) []).2.2)
 else if (xU (gi b).1.toNat (b.drop (gi b).2.1.toNat) []).2.1≠[] then ([],6) else ((xU (gi b).1.toNat (b.drop (gi b).2.1.toNat) []).1,0)
structure SzE (e:RE):Prop where
 var:e.var.size<2^40
 key:e.key.length<2^40
 keys: ∀x∈e.key,i64 x
 n:i64 e.n
 at_:i64 e.at_
theorem J4{a b:ByteArray}(h:sB a=sB b):a=b:=by
 have key: ∀(x y:List UInt8),x.map (fun b=>(b.toNat:Int))=y.map (fun b=>(b.toNat:Int))->x=y:=by
  intro x
  induction x with
  |nil=>intro y h;cases y with
   |nil=>rfl
   |cons _ _=>simp at h
  |cons a r d=>intro y h;cases y with
   |nil=>simp at h
   |cons c s=>
    simp only [List.map_cons,List.cons.injEq] at h
    have:a=c:=UInt8.toNat_inj.1 (by have:=h.1;omega)
    rw [this,d s h.2]
 exact ByteArray.ext (Array.ext' (key _ _ h))
theorem Ji(s:ByteArray):oG ((sB s).map Y)=s:=J4 (EV _ (CK s))
theorem Kq{s:ByteArray}(h:s.size<2^40)(r:List Int):gb (vs s++r)=(s,(((vs s).length:Nat):Int),0):=by
 unfold gb vs;rw [List.append_assoc,Fp (by decide) (by omega) (by rw [List.length_append,Be];omega)];dsimp only;rw [if_neg (by simp),Int.toNat_natCast,Int.toNat_natCast,List.drop_left, <-Be,List.take_left,Ji];simp only [List.length_append,Be,Int.natCast_add]
theorem GX{e:RE}(h:SzE e)(r:List Int):BS (wa e++r)=(e,r,0):=by
 unfold BS wa;rw [List.append_assoc,List.append_assoc,Kq h.var];dsimp only;rw [if_neg (by simp),Int.toNat_natCast,List.drop_left,A0 (by have:=h.key;omega) h.keys];dsimp only;rw [if_neg (by simp),Int.toNat_natCast,List.drop_left,A0 (by simp) (by simp;exact ⟨h.n,h.at_⟩)];dsimp only;rw [if_neg (by simp),if_neg (by simp),Int.toNat_natCast,List.drop_left];rfl
theorem Dy: ∀{st acc:List RE} {r:List Int},(∀ e∈st,SzE e)->xU st.length (st.flatMap wa++r) acc=(acc++st,r,0)
 |[],acc,r,_=>by simp [xU]
 |e::st,acc,r,h=>by
  show xU (st.length+1) _ _=_
  rw [xU,List.flatMap_cons,List.append_assoc,GX (h e (by simp)),if_neg (by simp)];dsimp only;rw [Dy fun x a=>h x (by simp [a])];simp
theorem GY{st:List RE}(h: ∀e∈st,SzE e)(a:st.length<2^40):yR (xV st)=(st,0):=by
 unfold yR xV;rw [Dg (xw (by omega))];dsimp only
 have:=Dy (acc:=[]) (r:=[]) h
 rw [List.append_nil,List.nil_append] at this;rw [if_neg (by simp),if_neg (by omega),Int.toNat_natCast,Int.toNat_natCast,List.drop_left,this];dsimp only;rw [if_neg (by simp),if_neg (by simp)]
end Go.ST
end
section
namespace Go.Proofs
open Go.Shelf
def Tryz.Ck:Go.Shelf.Ren:=⟨fun|4=>137|n=>n,fun|22=>98|25=>5|3=>3|4=>4|9=>9|20=>20|0=>0|n=>n,fun|n=>n⟩
theorem Tryz.En:Go.Proofs.Lays8.n4 Tryz.prog Tryz.Ck:={
 mixed:=by kernel_rfl
 f4:=⟨Tryz.f137.name,by decide,Tryz.func137.trans (congrArg some (by kernel_rfl))⟩
 t0:=Tryz.underlying0
 a0:=Tryz.isAgg0
 z0:=Tryz.sizeOf0
 v0:=Tryz.zeroValue0
 t3:=Tryz.underlying3
 a3:=Tryz.isAgg3
 z3:=Tryz.sizeOf3
 v3:=Tryz.zeroValue3
 t4:=Tryz.underlying4
 a4:=Tryz.isAgg4
 z4:=Tryz.sizeOf4
 v4:=Tryz.zeroValue4
 t9:=Tryz.underlying9
 a9:=Tryz.isAgg9
 z9:=Tryz.sizeOf9
 v9:=Tryz.zeroValue9
 t20:=Tryz.underlying20
 a20:=Tryz.isAgg20
 z20:=Tryz.sizeOf20
 v20:=Tryz.zeroValue20
 t22:=Tryz.underlying98
 a22:=Tryz.isAgg98
 z22:=Tryz.sizeOf98
 v22:=Tryz.zeroValue98 }
end Go.Proofs
end
section
namespace Go.ST
open Go Go.DL Go.MM Go.Proofs
open Go.TY hiding Fd
open Go.RC (vi vis vs gi gl uV i64 vg Y)
theorem KA:(Tryz.prog.info? 5).map (fun i=>(i.zero.map (fun z=>z.cells.size),i.size,i.bytes))=some (some 1,1,1):=by kernel_rfl
theorem Iy(n:Nat)(h:n<2^40):eC Tryz.prog 137 [.nil,I n] 5 1 [] []:=by
 have b:=KA;cases c:Tryz.prog.info? 5 with
 |none=>rw [c] at b;cases b
 |some j=>
  rw [c] at b;simp only [Option.map_some,Option.some.injEq,Prod.mk.injEq] at b;obtain ⟨a,e,f⟩:=b;cases d:j.zero with
  |none=>rw [d] at a;cases a
  |some z=>
   rw [d] at a;have a:z.cells.size=1:=by simpa using a
   have:=sN Tryz.En (i0:=j) (z:=z) c d (by omega) (by omega) n (by rw [f];omega) (by omega) (eb Tryz.func137 rfl rfl)
   rw [e] at this;exact this
abbrev bT(l:List Int):T:=.slice 1 (l.map Y)
def wK(ls:List (List Int)):Nat:=(ls.map List.length).sum
theorem Cl{ls:List (List Int)}{k:Nat}(h:k<ls.length):wK (ls.take (k+1))=wK (ls.take k)+ls[k].length:=by
 unfold wK;rw [List.take_succ_eq_append_getElem h,List.map_append,List.sum_append];simp
theorem BW(ls:List (List Int))(k:Nat):wK (ls.take k)<=wK ls:=by
 conv=>rhs;rw [<- List.take_append_drop k ls]
 unfold wK;rw [List.map_append,List.sum_append];omega
theorem FB(ls:List (List Int)):ls.flatten.length=wK ls:=by unfold wK;rw [List.length_flatten]
theorem Jx{ls:List (List Int)}{j:Nat}{l:List Int}(h:ls[j]? =some l):((ls.map bT)[j]?.getD .nil)=bT l:=by
 rw [List.getElem?_map,h];rfl
theorem GI(ls:List (List Int))(v:ls.length<2^20)(s:wK ls<2^30):DCalls Tryz.prog 100 [.slice 1 (ls.map bT)] (bT ls.flatten):=by
 refine dl2 mixed [.tmp 2] [bT _] Tryz.func100 Go.ST6.My ?_
 skip
 refine tx 0 (α:=Nat) (β:=Unit) (fun k=>{sl:=[(0,.t (.slice 1 (ls.map bT))),(2,.t .nil),(3,.t (I (wK (ls.take k)))),(9,.t (.slice 1 (ls.map bT))),(10,.t (I ls.length)),(11,.t (I k))],bx:=[]})
  (fun k=>k<=ls.length) (fun k=>ls.length - k) (fun _=>{sl:=[(0,.t (.slice 1 (ls.map bT))),(2,.t .nil),(3,.t (I (wK ls)))],bx:=[]}) (fun _=>True) 0 (by omega) ?_ ?_ ?_
 ·repeat' (first|((refine leI ?_;simp;done))|exact wJ|refine And.intro ?_ ?_)
 ·rintro k j;rcases Nat.lt_or_ge k ls.length with c|c
  ·have a:ls[k]? =some ls[k]:=ggZ c;have b:=Cl c;have h:=BW ls k;have u:=BW ls (k+1);generalize ls[k]=l at a b;have e:0<=(k:Int)/\(k:Int)<((ls.map bT).length:Int):=by rw [List.length_map];omega
   have d:(ls.map bT)[((k:Int)).toNat]?.getD .nil=bT l:=Jx (by rw [Int.toNat_natCast];exact a);have m:IntKind.i64.wrap ((wK (ls.take k):Int)+(((l.map Y).length:Nat):Int))=(wK (ls.take (k+1)):Int):=by
    rw [List.length_map,b,nW (by omega) (by omega)];push_cast;rfl
   have i:=m.symm;have r: ¬IntKind.i64.wrap ((wK (ls.take k):Int)+(((l.map Y).length:Nat):Int))<0:=by rw [m];omega
   repeat' ((conv=>whnf);first|refine sC (by omega) ?_|(refine nv_ (bT l) (by first|exact d) ?_)|refine su r ?_|(refine And.intro (by first|exact e) ?_)|refine aS ?_|refine nT_ ?_)
   exact ⟨k+1,by omega,by omega,by repeat' (first|(exact leI i)|exact wJ|refine And.intro ?_ ?_)⟩
  ·have:k=ls.length:=by omega
   subst this
   repeat' ((conv=>whnf);first|refine su (by omega) ?_|refine aS ?_|fail)
   exact ⟨(),trivial,by repeat' (first|((refine leI ?_;rw [List.take_length]))|exact wJ|refine And.intro ?_ ?_)⟩
 rintro - -;have n:=Iy (wK ls) (by omega)
 repeat' ((conv=>whnf);first|refine tY rfl n ?_)
 refine tx 2 (α:=Nat×Nat) (β:=Nat) (fun q=>{sl:=[(2,.t .nil),(6,.own q.1 5 1 ((ls.take q.2).flatten.map Y)),(25,.t (.slice 1 (ls.map bT))),(26,.t (I ls.length)),(27,.t (I q.2))],bx:=[]})
  (fun q=>q.2<=ls.length/\(q.1=24\/q.1=33)) (fun q=>ls.length - q.2) (fun q=>{sl:=[(2,.t .nil),(6,.own q 5 1 (ls.flatten.map Y))],bx:=[]}) (fun q=>q=24\/q=33) (24,0) (by simp) ?_ ?_ ?_
 ·repeat' (first|((refine leI ?_;simp;done))|exact wJ|refine And.intro ?_ ?_)
 ·rintro ⟨q,k⟩ ⟨j,g⟩;dsimp only at j g;rcases Nat.lt_or_ge k ls.length with c|c
  ·have a:ls[k]? =some ls[k]:=ggZ c;have b:=Cl c;have f:(ls.take (k+1)).flatten=(ls.take k).flatten++ls[k]:=by rw [List.take_succ_eq_append_getElem c,List.flatten_append];simp
   have h:=BW ls (k+1);have o:=FB (ls.take k);generalize ls[k]=l at a b f;have e:0<=(k:Int)/\(k:Int)<((ls.map bT).length:Int):=by rw [List.length_map];omega
   have d:(ls.map bT)[((k:Int)).toNat]?.getD .nil=bT l:=Jx (by rw [Int.toNat_natCast];exact a);have p:(((ls.take k).flatten.map Y).length+(l.map Y).length) * 1<=140737488355328:=by simp only [List.length_map];omega
   rcases g with rfl|rfl
   all_goals repeat' ((conv=>whnf);first|refine sC (by omega) ?_|(refine nv_ (bT l) (by first|exact d) ?_)|(refine And.intro (by first|exact e|exact p) ?_)|refine aS ?_|refine nT_ ?_)
   all_goals refine ⟨(33,k+1),⟨by dsimp only;omega,.inr rfl⟩,by dsimp only;omega,?_⟩
   all_goals repeat' (first|((refine ug ?_;rw [f,List.map_append]))|exact wJ|refine And.intro ?_ ?_)
  ·have:k=ls.length:=by omega
   subst this
   repeat' ((conv=>whnf);first|refine su (by omega) ?_|refine aS ?_|fail)
   exact ⟨q,g,by repeat' (first|((refine ug ?_;rw [List.take_length]))|exact wJ|refine And.intro ?_ ?_)⟩
 rintro q g
 repeat' ((conv=>whnf);first|refine aS ?_|exact trivial)
end Go.ST
end
section
namespace Go.ST
open Go Go.DL Go.MM Go.Proofs
open Go.TY hiding Fd
open Go.RC (vi vis vs gi gl uV i64 vg Y xw Cc ED DE)
theorem DC(st:List RE)(i:Nat):((st.take i).flatMap wa).length<=(st.flatMap wa).length:=by
 conv=>rhs;rw [<- List.take_append_drop i st,List.flatMap_append,List.length_append]
 omega
theorem HH(st:List RE)(D: ∀e∈st,SzE e)(u:st.length<2^28)(J:(xV st).length<2^28):DCalls Tryz.prog 46 [esT st] (bT (xV st)):=by
 refine dl2 mixed [.tmp 2] [bT _] Tryz.func46 Go.ST6.l46 ?_;have l:((st.map um).length:Int)=st.length:=by rw [List.length_map]
 have r:=(Cc ((st.map um).length:Int) (by rw [l];exact xw (by omega))).ua;rw [l] at r;have C:I ((st.map um).length:Int)=I (st.length:Int):=by rw [l]
 rw [<- l] at r
 repeat' ((conv=>whnf);first|refine uc _ (r) ?_)
 have B:bT (vi ((st.map um).length:Int))=bT (vi (st.length:Int)++(st.take 0).flatMap wa):=by rw [l];simp
 refine tx 0 (α:=Nat) (β:=Unit) (fun i=>{sl:=[(3,.t (bT (vi (st.length:Int)++(st.take i).flatMap wa))),(9,.t (esT st)),(10,.t (I st.length)),(11,.t (I i))],bx:=[]})
  (fun i=>i<=st.length) (fun i=>st.length - i) (fun _=>{sl:=[(3,.t (bT (xV st)))],bx:=[]}) (fun _=>True) 0 (Nat.zero_le _) ?_ ?_ ?_
 ·repeat' (first|(exact leI l.symm)|(exact leT B.symm)|exact wJ|refine And.intro ?_ ?_)
 ·rintro i H;rcases Nat.lt_or_ge i st.length with h|h
  ·have b:(i:Int)<(st.length:Int):=by omega
   have p:((i+1:Nat):Int)=IntKind.wrap .i64 ((i:Int)+1):=by rw [nW] <;> omega
   have A:(st.map um)[((i:Int)).toNat]?.getD .nil= .agg (uk st[i]):=by rw [Int.toNat_natCast];exact uP h
   have o:0<=(i:Int)/\(i:Int)<((st.map um).length:Int):=by omega
   have a:=D _ (List.getElem_mem h);have d:=DC st (i+1);have f:(st.take (i+1)).flatMap wa=(st.take i).flatMap wa++wa st[i]:=by rw [List.take_succ_eq_append_getElem h,List.flatMap_append];simp
   have z:(xV st).length=(vi (st.length:Int)).length+(st.flatMap wa).length:=by unfold xV;rw [List.length_append]
   rw [f,List.length_append] at d;generalize st[i]=x at *
   obtain ⟨m,j,c,g⟩:=x;have v:=(ED m a.var).ua;have w:=(DE j a.key a.keys).ua;have E: ∀y∈[c,g],i64 y:=fun y k=>by
    simp only [List.mem_cons,List.not_mem_nil,or_false] at k;rcases k with k|k
    ·rw [k];exact a.n
    ·rw [k];exact a.at_
   have F:=(DE [c,g] (by simp) E).ua;have G:=GI [vi (st.length:Int)++(st.take i).flatMap wa,vs m,vis j,vis [c,g]] (by simp) (by
    rw [show wa ⟨m,j,c,g⟩=vs m++(vis j++vis [c,g]) from rfl,List.length_append,List.length_append] at d;simp only [wK,List.map_cons,List.map_nil,List.sum_cons,List.sum_nil,List.length_append]
    omega)
   have s:bT (vi (st.length:Int)++(st.take (i+1)).flatMap wa)=bT [vi (st.length:Int)++(st.take i).flatMap wa,vs m,vis j,vis [c,g]].flatten:=by
    rw [f];unfold wa;simp [List.flatten_cons,List.append_assoc]
   have q:st.length - (i+1)<st.length - i:=by omega
   clear f z d
   repeat' ((conv=>whnf);first|refine sC b ?_|(refine nv_ (.agg (uk ⟨m,j,c,g⟩)) (by first|exact A) ?_)|refine uc _ (v) ?_|refine uc _ (w) ?_|refine uc _ (F) ?_|refine uc _ (G) ?_|(exact ⟨i+1,h,q,by (repeat' (first|(exact leI p)|(exact leT s)|exact wJ|refine And.intro ?_ ?_));done⟩)|(refine And.intro (by first|exact o|exact uo _) ?_)|refine aS ?_|refine nT_ ?_)
  ·have b: ¬(i:Int)<(st.length:Int):=by omega
   have s:bT (xV st)=bT (vi (st.length:Int)++(st.take i).flatMap wa):=by rw [List.take_of_length_le h];rfl
   repeat' ((conv=>whnf);first|refine su b ?_|(exact ⟨(),trivial,by (repeat' (first|(exact leT s)|exact wJ|refine And.intro ?_ ?_));done⟩)|refine aS ?_|fail)
 ·rintro - -
  repeat' ((conv=>whnf);first|refine aS ?_|exact trivial)
end Go.ST
end
section
namespace Go.ST
open Go Go.DL Go.MM Go.Proofs
open Go.TY hiding Fd
open Go.RC (vi vis vs gi gl uV i64 vg Y xw gT gsT AH zo ze yF Bp vD)
theorem Ew: ∀l:List Int,jY (l.map Y)
 |[]=>trivial
 |_::l=>Ew l
theorem NL(b:List Int)(u n:Nat):((b.map Y).take (u+n)).drop u=((b.drop u).take n).map Y:=by
 rw [<- List.map_take, <-List.map_drop,List.drop_take,show u+n - u=n by omega]
theorem FZ(b:List Int)(i:vg b)(r:b.length<2^40):DCalls Tryz.prog 97 [bT b] (.tup [.str (gb b).1,I (gb b).2.1,I (gb b).2.2]):=by
 refine dl2 mixed [.tmp 2,.tmp 3,.tmp 4] [.str _,I _,I _] Tryz.func97 Go.ST6.l97 ?_;have j:=AH b 1 i (by omega) (by decide) (by decide);obtain ⟨h,k,p,m⟩:=Bp i (least:=1) (by decide);unfold gb;generalize gl b 1=q at *
 obtain ⟨n,u,e⟩:=q;dsimp only at h k p m ⊢
 by_cases c:e≠0
 ·rw [if_pos c]
  repeat' ((conv=>whnf);first|refine uc _ (j) ?_|refine sG c ?_|refine rix ?_|refine aS ?_|exact trivial)
 ·rw [if_neg c];have o:e=0:=by omega
  subst o;obtain ⟨n,rfl⟩:=Int.eq_ofNat_of_zero_le h;obtain ⟨u,rfl⟩:=Int.eq_ofNat_of_zero_le k;have f:IntKind.wrap .i64 ((u:Int)+(n:Int))=((u+n:Nat):Int):=by rw [nW (by omega) (by omega)];omega
  have a:T.slice 1 (((b.map Y).take (IntKind.wrap .i64 ((u:Int)+(n:Int))).toNat).drop ((u:Int)).toNat)=T.slice 1 (((b.drop u).take n).map Y):=by
   rw [f,Int.toNat_natCast,Int.toNat_natCast,NL]
  have g:0<=(u:Int)/\(u:Int)<=IntKind.wrap .i64 ((u:Int)+(n:Int))/\IntKind.wrap .i64 ((u:Int)+(n:Int))<=((b.map Y).length:Int):=by rw [f,List.length_map];omega
  have d:=Ew ((b.drop u).take n);have l:I ((u:Int)+(n:Int))=I (IntKind.wrap .i64 ((u:Int)+(n:Int))):=by rw [f];congr 1
  rw [Int.toNat_natCast,Int.toNat_natCast,l]
  repeat' ((conv=>whnf);first|exact trivial|refine uc _ (j) ?_|(refine nv_ (.slice 1 (((b.drop u).take n).map Y)) (by first|exact a) ?_)|refine aN0 ?_|refine rix ?_|(refine And.intro (by first|exact g|exact d) ?_)|refine aS ?_|refine nT_ ?_)
end Go.ST
end
section
namespace Go.ST9
open Go Go.DL Go.Proofs
noncomputable def c45:aV:=(sr [oo 2 (.mov (.const .nil)),oo 3 (.mov (Kc 0))] (sr [mv 16 0,oo 17 (.call 96 [tm 16]),mv 15 17,oo 18 (.ext (tm 15) 0),oo 19 (.ext (tm 15) 1),oo 20 (.ext (tm 15) 2),mv 4 18,mv 5 19,mv 6 20] (.seq (.block 0 (sr [mv 22 6,oo 23 (.bin .neq (tm 22) (Kc 0)),mv 21 23] (.cond (tm 21) (sr [mv 24 6,oo 2 (.mov (.const .nil)),mv 3 24] .ret) (sr [mv 26 4,oo 27 (.bin .lss (tm 26) (Kc 0)),mv 25 27] (.cond (tm 25) (sr [oo 2 (.mov (.const .nil)),oo 3 (.mov (Kc 6))] .ret) .skip))))) (sr [mv 28 0,mv 29 5,oo 30 (.slice 1 (tm 28) (some (tm 29)) none),mv 0 30] (sr [oo 7 (.mov (.const .nil))] (.seq (sr [mv 31 4,oo 32 (.mov (Kc 0))] (.block 1 (.loop (sr [oo 33 (.bin .lss (tm 32) (tm 31))] (.seq (.cond (tm 33) .skip (.exit 1)) (.seq (.block 2 (.seq (.cut (rg [mv 35 0,oo 36 (.call 97 [tm 35]),mv 34 36,oo 37 (.ext (tm 34) 0),oo 38 (.ext (tm 34) 1),oo 39 (.ext (tm 34) 2),mv 8 37,mv 9 38,mv 10 39])) (.seq (sr [mv 40 10,oo 41 (.bin .neq (tm 40) (Kc 0))] (.cond (tm 41) (sr [mv 42 10,oo 2 (.mov (.const .nil)),mv 3 42] .ret) .skip)) (.seq (.cut (rg [mv 44 0,mv 45 9,oo 46 (.slice 1 (tm 44) (some (tm 45)) none),oo 47 (.call 98 [tm 46]),mv 43 47,oo 48 (.ext (tm 43) 0),oo 49 (.ext (tm 43) 1),oo 50 (.ext (tm 43) 2),mv 11 48,mv 12 49,mv 10 50])) (.seq (sr [mv 51 10,oo 52 (.bin .neq (tm 51) (Kc 0))] (.cond (tm 52) (sr [mv 53 10,oo 2 (.mov (.const .nil)),mv 3 53] .ret) .skip)) (.seq (.cut (rg [mv 55 0,mv 56 9,mv 57 12,oo 58 (.bin .add (tm 56) (tm 57)),oo 59 (.slice 1 (tm 55) (some (tm 58)) none),oo 60 (.call 98 [tm 59]),mv 54 60,oo 61 (.ext (tm 54) 0),oo 62 (.ext (tm 54) 1),oo 63 (.ext (tm 54) 2),mv 13 61,mv 14 62,mv 10 63])) (.seq (.block 3 (sr [mv 65 10,oo 66 (.bin .neq (tm 65) (Kc 0)),mv 64 66] (.cond (tm 64) (sr [mv 67 10,oo 2 (.mov (.const .nil)),mv 3 67] .ret) (sr [mv 69 13,ln 70 69,oo 71 (.bin .neq (tm 70) (Kc 2)),mv 68 71] (.cond (tm 68) (sr [oo 2 (.mov (.const .nil)),oo 3 (.mov (Kc 6))] .ret) .skip))))) (sr [mv 72 7,mv 73 8,mv 74 11,mv 75 13,oo 76 (.idxL 1 (tm 75) (Kc 0)),ld 77 76,mv 78 13,oo 79 (.idxL 1 (tm 78) (Kc 1)),ld 80 79,⟨some 81,.build [S0,.nil,Z0,Z0] [(0,1,(tm 73)),(1,1,(tm 74)),(2,1,(tm 77)),(3,1,(tm 80))],none,[]⟩,⟨some 82,.buildT 4 1 [S0,.nil,Z0,Z0] [(0,(tm 81))],none,[]⟩,oo 83 (.append 25 64 4 56 (tm 72) (tm 82)),mv 7 83] (rg [mv 84 0,mv 85 9,mv 86 12,oo 87 (.bin .add (tm 85) (tm 86)),mv 88 14,oo 89 (.bin .add (tm 87) (tm 88)),oo 90 (.slice 1 (tm 84) (some (tm 89)) none),mv 0 90]))))))))) (rg [oo 91 (.bin .add (tm 32) (Kc 1)),mv 32 91]))))))) (.seq (sr [mv 92 0,ln 93 92,oo 94 (.bin .gtr (tm 93) (Kc 0))] (.cond (tm 94) (sr [oo 2 (.mov (.const .nil)),oo 3 (.mov (Kc 6))] .ret) .skip)) (sr [mv 95 7,mv 2 95,oo 3 (.mov (Kc 0))] .ret))))))))
theorem l45:(Tryz.f45.body.bind (bt Tryz.prog 96 [6000010,6000013,6000016]))=some c45:=by kernel_rfl
end Go.ST9
end
section
namespace Go.ST
open Go Go.DL Go.MM Go.Proofs
open Go.TY hiding Fd
open Go.RC (vi vis vs gi gl uV i64 vg Y xw gT gsT AH zo ze yF Bp vD AZ Cw)
theorem Kp{b:List Int}(a:vg b)(h:(gb b).2.2=0):0<=(gb b).2.1/\(gb b).2.1<=b.length:=by
 obtain ⟨d,e,g,f⟩:=Bp a (least:=1) (by decide);unfold gb at h ⊢
 by_cases c:(gl b 1).2.2≠0
 ·rw [if_pos c] at h;exact absurd h c
 ·rw [if_neg c];exact ⟨by dsimp only;omega,by dsimp only;omega⟩
theorem DN{b:List Int}(c:vg b)(h:(uV b).2.2=0):1<=(uV b).2.1/\(uV b).2.1<=b.length:=by
 obtain ⟨e,f,d⟩:=AZ c h;have g:1<=(vis (uV b).1).length:=by
  unfold vis;rw [List.length_append]
  have:=Cw ((uV b).1.length:Int)
  omega
 have a:=congrArg List.length d;rw [List.length_append] at a;omega
abbrev Me(x:List RE×Int):T:=.tup [if x.2≠0 then .nil else esT x.1,I x.2]
theorem Cb(b:List Int)(u:Nat):((b.map Y).take ((((b.map Y).length:Nat):Int)).toNat).drop u=(b.drop u).map Y:=by
 rw [Int.toNat_natCast,List.take_length,List.map_drop]
theorem HF(b:List Int)(hb:vg b)(hl:b.length<2^40):DCalls Tryz.prog 45 [bT b] (Me (yR b)):=by
 have hG:=ze b hb (by omega);obtain ⟨⟨q0,q0'⟩,q1,q2,q3,q4,q5⟩:=yF hb;have main: ∀(m:T) (H:Int),((yR b).2≠0->m= .nil/\H=(yR b).2)->((yR b).2=0->m=esT (yR b).1/\H=0)->DCalls Tryz.prog 45 [bT b] (.tup [m,I H]):=fun m H o x=>by
  refine dl2 mixed [.tmp 2,.tmp 3] [m,I H] Tryz.func45 Go.ST9.l45 ?_;unfold yR at o x;generalize gi b=g at *
  obtain ⟨n,u,e⟩:=g;dsimp only at q0 q0' q1 q2 q3 q4 q5 o x hG
  by_cases c0:e≠0
  ·rw [if_pos c0] at o x;obtain ⟨rfl,rfl⟩:=o c0
   repeat' ((conv=>whnf);first|refine uc _ (hG) ?_|refine sG c0 ?_|refine rix ?_|refine aS ?_|exact trivial)
  rw [if_neg c0] at o x;have e0:e=0:=by omega
  by_cases c1:n<0
  ·rw [if_pos c1] at o x;obtain ⟨rfl,rfl⟩:=o (by decide)
   repeat' ((conv=>whnf);first|refine uc _ (hG) ?_|refine sF e0 ?_|refine sC c1 ?_|refine rix ?_|refine aS ?_|exact trivial)
  rw [if_neg c1] at o x;obtain ⟨n,rfl⟩:=Int.eq_ofNat_of_zero_le (show 0<=n by omega);obtain ⟨u,rfl⟩:=Int.eq_ofNat_of_zero_le q1;rw [Int.toNat_natCast,Int.toNat_natCast] at o x;obtain ⟨D,hD⟩: ∃D,D=xU n (b.drop u) []:=⟨_,rfl⟩
  rw [<- hD] at o x;have R:0<=(u:Int)/\(u:Int)<=((b.map Y).length:Int)/\((b.map Y).length:Int)<=((b.map Y).length:Int):=by rw [List.length_map];omega
  have hsl:T.slice 1 (((b.map Y).take ((((b.map Y).length:Nat):Int)).toNat).drop ((u:Int)).toNat)=bT (b.drop u):=by
   rw [Int.toNat_natCast,Cb]
  have F:D.2.2≠0->m= .nil/\H=D.2.2:=fun h=>by
   have:=o (by rw [if_pos h];exact h)
   rw [if_pos h] at this;exact this
  have hD6:D.2.2=0->D.2.1≠[]->m= .nil/\H=6:=fun h U=>by
   have:=o (by rw [if_neg (by simpa using h),if_pos U];decide)
   rw [if_neg (by simpa using h),if_pos U] at this;exact this
  have hDo:D.2.2=0->D.2.1=[]->m=esT D.1/\H=0:=fun h U=>by
   have:=x (by rw [if_neg (by simpa using h),if_neg (by simpa using U)])
   rw [if_neg (by simpa using h),if_neg (by simpa using U)] at this;exact this
  clear o x;have hbl:(b.drop u).length<=b.length:=by rw [List.length_drop];omega
  repeat' ((conv=>whnf);first|refine uc _ (hG) ?_|refine sF e0 ?_|refine su c1 ?_|(refine nv_ (bT (b.drop u)) (by first|exact hsl) ?_)|(refine And.intro (by first|exact R) ?_)|refine aS ?_|fail)
  refine tx 1 (α:=Nat×List Int×List RE) (β:=List Int×List RE) (fun p=>{sl:=[(0,.t (bT p.2.1)),(7,.own 83 64 4 (p.2.2.map um)),(31,.t (I n)),(32,.t (I p.1))],bx:=[]})
   (fun p=>p.1<=n/\vg p.2.1/\p.2.2.length+p.2.1.length<=b.length/\xU (n - p.1) p.2.1 p.2.2=D) (fun p=>n - p.1)
   (fun p=>{sl:=[(0,.t (bT p.1)),(7,.own 83 64 4 (p.2.map um))],bx:=[]}) (fun p=>D=(p.2,p.1,0)) (0,b.drop u,[]) ⟨Nat.zero_le _,vD hb _,by simp,hD.symm⟩ ?_ ?_ ?_
  ·repeat' (first|exact wJ|refine And.intro ?_ ?_)
  ·rintro ⟨i,r,acc⟩ ⟨hi,Q,hal,k⟩;dsimp only at hi Q hal k;rcases Nat.lt_or_ge i n with h|h
   ·have M:(i:Int)<(n:Int):=by omega
    have hnx:((i+1:Nat):Int)=IntKind.wrap .i64 ((i:Int)+1):=by rw [nW] <;> omega
    rw [show n - i=(n - (i+1))+1 by omega,xU] at k;have hB:=FZ r Q (by omega);have P:=@Kp r Q;unfold BS at k;generalize gb r=g1 at *
    obtain ⟨v,f,e1⟩:=g1;dsimp only at hB P k;clear hG hsl R
    repeat' ((conv=>whnf);first|refine sC M ?_|refine aS ?_|fail)
    refine tV (β:=Unit) (fun _=>{sl:=[(0,.t (bT r)),(7,.own 83 64 4 (acc.map um)),(8,.t (.str v)),(9,.t (I f)),(10,.t (I e1)),(31,.t (I n)),(32,.t (I i))],bx:=[]}) (fun _=>True) ?_ ?_
    ·repeat' ((conv=>whnf);first|refine uc _ (hB) ?_|(exact ⟨(),trivial,by (repeat' (first|exact wJ|refine And.intro ?_ ?_));done⟩)|fail)
    rintro _ _;clear hB
    by_cases W:e1≠0
    ·rw [if_pos W,if_pos W] at k;obtain ⟨rfl,rfl⟩:=F (by rw [<- k];exact W);rw [<- k]
     repeat' ((conv=>whnf);first|refine sG W ?_|refine rix ?_|refine aS ?_|exact trivial)
    have d1':e1=0:=by omega
    obtain ⟨f1,f2⟩:=P d1';obtain ⟨f,rfl⟩:=Int.eq_ofNat_of_zero_le f1;rw [if_neg W,Int.toNat_natCast] at k;have hI:=zo (r.drop f) (vD Q _) (by rw [List.length_drop];omega);have J:=@DN (r.drop f) (vD Q _);have Z:0<=(f:Int)/\(f:Int)<=((r.map Y).length:Int)/\((r.map Y).length:Int)<=((r.map Y).length:Int):=by rw [List.length_map];omega
    have V:T.slice 1 (((r.map Y).take ((((r.map Y).length:Nat):Int)).toNat).drop ((f:Int)).toNat)=bT (r.drop f):=by
     rw [Int.toNat_natCast,Cb]
    generalize hg2:uV (r.drop f)=g2 at *
    obtain ⟨ks,j,s⟩:=g2;dsimp only at J k;obtain ⟨C,z⟩: ∃C:T,(s≠0->C= .nil)/\(s=0->C= .slice 1 (ks.map I)):=⟨if s≠0 then .nil else .slice 1 (ks.map I),fun h=>if_pos h,fun h=>if_neg (by simpa using h)⟩
    have hI:DCalls Tryz.prog 98 [bT (r.drop f)] (.tup [C,I j,I s]):=by
     have e:gsT (ks,j,s)= .tup [C,I j,I s]:=by
      show T.tup [if s≠0 then .nil else _,_,_]=_
      by_cases d:s=0
      ·rw [if_neg (by simpa using d),z.2 d]
      ·rw [if_pos d,z.1 d]
     rw [<- e];exact hI
    repeat' ((conv=>whnf);first|refine sF d1' ?_|refine aS ?_|fail)
    refine tV (β:=Unit) (fun _=>{sl:=[(0,.t (bT r)),(7,.own 83 64 4 (acc.map um)),(8,.t (.str v)),(9,.t (I f)),(10,.t (I s)),(11,.t C),(12,.t (I j)),(31,.t (I n)),(32,.t (I i))],bx:=[]}) (fun _=>True) ?_ ?_
    ·repeat' ((conv=>whnf);first|(refine nv_ (bT (r.drop f)) (by first|exact V) ?_)|refine uc _ (hI) ?_|(exact ⟨(),trivial,by (repeat' (first|exact wJ|refine And.intro ?_ ?_));done⟩)|(refine And.intro (by first|exact Z) ?_)|fail)
    rintro _ _;clear hI V Z
    by_cases d2:s≠0
    ·rw [if_pos d2,if_pos d2] at k;obtain ⟨rfl,rfl⟩:=F (by rw [<- k];exact d2);rw [<- k]
     repeat' ((conv=>whnf);first|refine sG d2 ?_|refine rix ?_|refine aS ?_|exact trivial)
    have N:s=0:=by omega
    rw [z.2 N];obtain ⟨k1,k2⟩:=J N;rw [List.length_drop] at k2;obtain ⟨j,rfl⟩:=Int.eq_ofNat_of_zero_le (show 0<=j by omega);rw [if_neg d2,Int.toNat_natCast] at k;have L:vg ((r.drop f).drop j):=vD (vD Q _) _;have G:=zo ((r.drop f).drop j) L (by rw [List.length_drop,List.length_drop];omega);have Fw:=DN L;rw [List.length_drop,List.length_drop] at Fw;have A:IntKind.wrap .i64 ((f:Int)+(j:Int))=((f+j:Nat):Int):=by rw [nW (by omega) (by omega)];omega
    have X:0<=IntKind.wrap .i64 ((f:Int)+(j:Int))/\IntKind.wrap .i64 ((f:Int)+(j:Int))<=((r.map Y).length:Int)/\((r.map Y).length:Int)<=((r.map Y).length:Int):=by rw [A,List.length_map];omega
    have S:T.slice 1 (((r.map Y).take ((((r.map Y).length:Nat):Int)).toNat).drop (IntKind.wrap .i64 ((f:Int)+(j:Int))).toNat)=bT ((r.drop f).drop j):=by
     rw [A,Int.toNat_natCast (n:=f+j),Cb,List.drop_drop]
    generalize uV ((r.drop f).drop j)=g3 at *
    obtain ⟨y,l,w⟩:=g3;dsimp only at Fw k;obtain ⟨K,B⟩: ∃C:T,(w≠0->C= .nil)/\(w=0->C= .slice 1 (y.map I)):=⟨if w≠0 then .nil else .slice 1 (y.map I),fun h=>if_pos h,fun h=>if_neg (by simpa using h)⟩
    have G:DCalls Tryz.prog 98 [bT ((r.drop f).drop j)] (.tup [K,I l,I w]):=by
     have e:gsT (y,l,w)= .tup [K,I l,I w]:=by
      show T.tup [if w≠0 then .nil else _,_,_]=_
      by_cases d:w=0
      ·rw [if_neg (by simpa using d),B.2 d]
      ·rw [if_pos d,B.1 d]
     rw [<- e];exact G
    repeat' ((conv=>whnf);first|refine sF N ?_|refine aS ?_|fail)
    refine tV (β:=Unit) (fun _=>{sl:=[(0,.t (bT r)),(7,.own 83 64 4 (acc.map um)),(8,.t (.str v)),(9,.t (I f)),(10,.t (I w)),(11,.t (.slice 1 (ks.map I))),(12,.t (I j)),(13,.t K),(14,.t (I l)),(31,.t (I n)),(32,.t (I i))],bx:=[]}) (fun _=>True) ?_ ?_
    ·repeat' ((conv=>whnf);first|(refine nv_ (bT ((r.drop f).drop j)) (by first|exact S) ?_)|refine uc _ (G) ?_|(exact ⟨(),trivial,by (repeat' (first|exact wJ|refine And.intro ?_ ?_));done⟩)|(refine And.intro (by first|exact X) ?_)|fail)
    rintro _ _;clear G S X
    by_cases d3:w≠0
    ·rw [if_pos d3,if_pos d3] at k;obtain ⟨rfl,rfl⟩:=F (by rw [<- k];exact d3);rw [<- k]
     repeat' ((conv=>whnf);first|refine sG d3 ?_|refine rix ?_|refine aS ?_|exact trivial)
    have E:w=0:=by omega
    rw [B.2 E];rw [if_neg d3] at k;have hlw:((y.map I).length:Int)=y.length:=by rw [List.length_map]
    by_cases d4:y.length≠2
    ·rw [if_pos d4,if_pos (by decide)] at k;obtain ⟨rfl,rfl⟩:=F (by rw [<- k];decide);rw [<- k];have d4':((y.map I).length:Int)≠2:=by omega
     repeat' ((conv=>whnf);first|refine sF E ?_|refine sG d4' ?_|refine rix ?_|refine aS ?_|exact trivial)
    obtain ⟨k3,k4⟩:=Fw E;obtain ⟨l,rfl⟩:=Int.eq_ofNat_of_zero_le (show 0<=l by omega);rw [if_neg d4,if_neg (by simp),Int.toNat_natCast] at k;dsimp only at k;obtain ⟨a,c,rfl⟩: ∃a c,y=[a,c]:=by
     match y,(show y.length=2 by omega) with
     |[a,c],_=>exact ⟨a,c,rfl⟩
    have O:IntKind.wrap .i64 (IntKind.wrap .i64 ((f:Int)+(j:Int))+(l:Int))=((f+j+l:Nat):Int):=by rw [A,nW (by omega) (by omega)];omega
    have hb3:0<=IntKind.wrap .i64 (IntKind.wrap .i64 ((f:Int)+(j:Int))+(l:Int))/\IntKind.wrap .i64 (IntKind.wrap .i64 ((f:Int)+(j:Int))+(l:Int))<=((r.map Y).length:Int)/\((r.map Y).length:Int)<=((r.map Y).length:Int):=by rw [O,List.length_map];omega
    have hs3:T.slice 1 (((r.map Y).take ((((r.map Y).length:Nat):Int)).toNat).drop (IntKind.wrap .i64 (IntKind.wrap .i64 ((f:Int)+(j:Int))+(l:Int))).toNat)=bT (((r.drop f).drop j).drop l):=by
     rw [O,Int.toNat_natCast (n:=f+j+l),Cb,List.drop_drop,List.drop_drop,Nat.add_assoc]
    have hr4:vg (((r.drop f).drop j).drop l):=vD L _;have Mf:(acc++[(⟨v,ks,a,c⟩:RE)]).length+(((r.drop f).drop j).drop l).length<=b.length:=by
     rw [List.length_append,List.length_drop,List.length_drop,List.length_drop,List.length_cons,List.length_nil];omega
    have hrm:((acc.map um).length+1) * 56<=140737488355328:=by rw [List.length_map];omega
    have hsn:(acc++[(⟨v,ks,a,c⟩:RE)]).map um=acc.map um++[um ⟨v,ks,a,c⟩]:=by rw [List.map_append];rfl
    have hmu:n - (i+1)<n - i:=by omega
    have Fu:xU (n - (i+1)) (((r.drop f).drop j).drop l) (acc++[(⟨v,ks,a,c⟩:RE)])=D:=k;clear k J Fw P hlw A O z B
    repeat' ((conv=>whnf);first|refine sF E ?_|(refine nv_ (bT (((r.drop f).drop j).drop l)) (by first|exact hs3) ?_)|(exact ⟨(i+1,((r.drop f).drop j).drop l,acc++[⟨v,ks,a,c⟩]),⟨h,hr4,Mf,Fu⟩,hmu,by (repeat' (first|(exact leI hnx)|(exact ug hsn)|exact wJ|refine And.intro ?_ ?_));done⟩)|refine aN0 ?_|(refine And.intro (by first|exact hb3|exact hrm) ?_)|refine aS ?_|refine nT_ ?_)
   ·have M: ¬(i:Int)<(n:Int):=by omega
    rw [show n - i=0 by omega] at k;have Fu:D=(acc,r,0):=k.symm
    repeat' ((conv=>whnf);first|refine su M ?_|(exact ⟨(r,acc),Fu,by (repeat' (first|exact wJ|refine And.intro ?_ ?_));done⟩)|refine aS ?_|fail)
  ·rintro ⟨r,acc⟩ q;dsimp only at q;have hrl:((r.map Y).length:Int)=r.length:=by rw [List.length_map]
   by_cases c5:r=[]
   ·obtain ⟨rfl,rfl⟩:=hDo (by rw [q]) (by rw [q];exact c5);have c6: ¬((r.map Y).length:Int)>0:=by rw [c5];simp
    rw [q]
    repeat' ((conv=>whnf);first|refine su c6 ?_|refine rix ?_|refine aS ?_|exact trivial)
   ·obtain ⟨rfl,rfl⟩:=hD6 (by rw [q]) (by rw [q];exact c5);have c6:((r.map Y).length:Int)>0:=by
     have:=List.length_pos_iff.2 c5
     omega
    repeat' ((conv=>whnf);first|refine sC c6 ?_|refine rix ?_|refine aS ?_|exact trivial)
 have h:=main (if (yR b).2≠0 then .nil else esT (yR b).1) (yR b).2 (fun h=>⟨if_pos h,rfl⟩) (fun h=>⟨if_neg (by simpa using h),h⟩);exact h
end Go.ST
end
section
namespace Go.ST8
open Go Go.DL Go.Proofs
noncomputable def c9:aV:=(sr [oo 0 (.mov kF)] (sr [oo 1 (.mov (.const .nil))] (.seq (sr [oo 2 (.mov (Kc 0))] (.block 0 (.loop (.seq (sr [mv 24 2,oo 25 (.bin .lss (tm 24) (Kc 10))] (.cond (tm 25) .skip (.exit 0))) (.seq (.block 1 (rg [mv 28 1,mv 29 2,oo 30 (.build [Z0,Z0,Z0] [(0,1,(Kc 5)),(1,1,(Kc 0)),(2,1,(tm 29))]),oo 31 (.buildF 3 1 [Z0,Z0,Z0] [(0,(tm 30))]),oo 32 (.append 91 92 3 24 (tm 28) (tm 31)),mv 1 32])) (rg [mv 26 2,oo 27 (.bin .add (tm 26) (Kc 1)),mv 2 27])))))) (.seq (.cut (rg [⟨some 34,.call 43 [(Kc 1),(.const (.str ⟨#[107,105,110,100]⟩)),(Kc 0),(Kc 0)],none,[]⟩,mv 35 1,⟨some 36,.call 42 [(tm 34),(.const .nil),(.const (.str ⟨#[107,105,110,100]⟩)),(tm 35)],none,[]⟩,mv 33 36,oo 37 (.ext (tm 33) 0),oo 38 (.ext (tm 33) 1),mv 3 37,mv 4 38])) (.seq (.cut (rg [mv 39 3,oo 40 (.call 44 [tm 39]),mv 41 40,mT 42 4 41,oT 43 41 (.len (tm 42)),oT 44 41 (.bin .eql (tm 43) (Kc 1)),oo 45 (.pick (tm 41) (tm 44) kF),mv 46 45,mT 47 4 46,oT 48 46 (.idxL 4 (tm 47) (Kc 0)),oT 49 46 (.offA 2 (tm 48)),oT 50 46 (.load 1 false (tm 49)),oT 51 46 (.bin .eql (tm 50) (Kc 10)),oo 52 (.pick (tm 46) (tm 51) kF),mv 5 52])) (.seq (.cut (rg [⟨some 54,.call 43 [(Kc 3),(.const S0),(Kc 3),(Kc 0)],none,[]⟩,oo 55 (.build [Z0,Z0,Z0] [(0,1,(Kc 7)),(1,1,(Kc 0)),(2,1,(Kc 10))]),oo 56 (.buildS 92 3 1 [Z0,Z0,Z0] [(0,(tm 55))]),⟨some 57,.call 42 [(tm 54),(.const .nil),(.const (.str ⟨#[115,114,99]⟩)),(tm 56)],none,[]⟩,mv 53 57,oo 58 (.ext (tm 53) 0),oo 59 (.ext (tm 53) 1),mv 6 58,mv 7 59])) (.seq (.cut (rg [⟨some 61,.call 43 [(Kc 2),(.const S0),(Kc 0),(Kc 0)],none,[]⟩,mv 62 7,oo 63 (.build [Z0,Z0,Z0] [(0,1,(Kc 7)),(1,1,(Kc 0)),(2,1,(Kc 10))]),oo 64 (.buildS 92 3 1 [Z0,Z0,Z0] [(0,(tm 63))]),⟨some 65,.call 42 [(tm 61),(tm 62),(.const (.str ⟨#[115,114,99]⟩)),(tm 64)],none,[]⟩,mv 60 65,oo 66 (.ext (tm 60) 0),oo 67 (.ext (tm 60) 1),mv 8 66,mv 9 67])) (.seq (.cut (rg [⟨some 69,.call 43 [(Kc 3),(.const S0),(Kc 3),(Kc 0)],none,[]⟩,mv 70 9,oo 71 (.build [Z0,Z0,Z0] [(0,1,(Kc 7)),(1,1,(Kc 0)),(2,1,(Kc 13))]),oo 72 (.build [Z0,Z0,Z0] [(0,1,(Kc 7)),(1,1,(Kc 0)),(2,1,(Kc 14))]),oo 73 (.buildS 92 3 2 [Z0,Z0,Z0] [(0,(tm 71)),(1,(tm 72))]),⟨some 74,.call 42 [(tm 69),(tm 70),(.const (.str ⟨#[115,114,99]⟩)),(tm 73)],none,[]⟩,mv 68 74,oo 75 (.ext (tm 68) 0),oo 76 (.ext (tm 68) 1),mv 10 75,mv 11 76])) (.seq (.cut (rg [mv 77 6,ln 78 77,oo 79 (.bin .eql (tm 78) (Kc 1)),mv 80 79,mT 81 6 80,oT 82 80 (.idxL 1 (tm 81) (Kc 0)),oT 83 80 (.load 1 false (tm 82)),oT 84 80 (.bin .eql (tm 83) (.const (.int .i64 (-1)))),oo 85 (.pick (tm 80) (tm 84) kF),mv 86 85,mT 87 9 86,oT 88 86 (.len (tm 87)),oT 89 86 (.bin .eql (tm 88) (Kc 1)),oo 90 (.pick (tm 86) (tm 89) kF),mv 91 90,mT 92 10 91,oT 93 91 (.buildS 3 1 2 [Z0] [(0,(Kc 7)),(1,(.const (.int .i64 (-1))))]),oT 94 91 (.call 21 [(tm 92),(tm 93)]),oT 95 91 (.bin .eql (tm 94) (Kc 0)),oo 96 (.pick (tm 91) (tm 95) kF),mv 12 96])) (.seq (.cut (rg [⟨some 98,.call 43 [(Kc 4),(.const (.str ⟨#[100,115,116]⟩)),(Kc 20),(Kc 21)],none,[]⟩,oo 99 (.build [Z0,Z0,Z0] [(0,1,(Kc 1)),(1,1,(Kc 0)),(2,1,(Kc 0))]),oo 100 (.build [Z0,Z0,Z0] [(0,1,(Kc 2)),(1,1,(Kc 0)),(2,1,(Kc 0))]),oo 101 (.build [Z0,Z0,Z0] [(0,1,(Kc 1)),(1,1,(Kc 0)),(2,1,(Kc 0))]),oo 102 (.build [Z0,Z0,Z0] [(0,1,(Kc 3)),(1,1,(Kc 0)),(2,1,(Kc 0))]),oo 103 (.buildS 92 3 4 [Z0,Z0,Z0] [(0,(tm 99)),(1,(tm 100)),(2,(tm 101)),(3,(tm 102))]),⟨some 104,.call 42 [(tm 98),(.const .nil),(.const (.str ⟨#[100,115,116]⟩)),(tm 103)],none,[]⟩,mv 97 104,oo 105 (.ext (tm 97) 0),oo 106 (.ext (tm 97) 1),mv 13 105,mv 14 106])) (.seq (.cut (rg [⟨some 108,.call 43 [(Kc 5),(.const (.str ⟨#[100,115,116]⟩)),(Kc 0),(Kc 0)],none,[]⟩,mv 109 14,oo 110 (.build [Z0,Z0,Z0] [(0,1,(Kc 9)),(1,1,(Kc 21)),(2,1,(Kc 0))]),oo 111 (.build [Z0,Z0,Z0] [(0,1,(Kc 9)),(1,1,(Kc 22)),(2,1,(Kc 0))]),oo 112 (.buildS 92 3 2 [Z0,Z0,Z0] [(0,(tm 110)),(1,(tm 111))]),⟨some 113,.call 42 [(tm 108),(tm 109),(.const (.str ⟨#[115,114,99]⟩)),(tm 112)],none,[]⟩,mv 107 113,oo 114 (.ext (tm 107) 0),oo 115 (.ext (tm 107) 1),mv 15 114,mv 16 115])) (.seq (.cut (rg [mv 116 13,oo 117 (.buildS 3 1 4 [Z0] [(0,(Kc 20)),(1,(Kc 21)),(2,(Kc 20)),(3,(.const (.int .i64 (-1))))]),oo 118 (.call 21 [(tm 116),(tm 117)]),oo 119 (.bin .eql (tm 118) (Kc 0)),mv 120 119,mT 121 14 120,oT 122 120 (.len (tm 121)),oT 123 120 (.bin .eql (tm 122) (Kc 2)),oo 124 (.pick (tm 120) (tm 123) kF),mv 125 124,mT 126 15 125,oT 127 125 (.buildS 3 1 2 [Z0] [(0,(Kc 2)),(1,(.const (.int .i64 (-1))))]),oT 128 125 (.call 21 [(tm 126),(tm 127)]),oT 129 125 (.bin .eql (tm 128) (Kc 0)),oo 130 (.pick (tm 125) (tm 129) kF),mv 17 130])) (.seq (.cut (rg [⟨some 132,.call 43 [(Kc 6),(.const S0),(Kc 2),(Kc 10)],none,[]⟩,oo 133 (.build [Z0,Z0,Z0] [(0,1,(Kc 4)),(1,1,(Kc 0)),(2,1,(Kc 0))]),oo 134 (.build [Z0,Z0,Z0] [(0,1,(Kc 4)),(1,1,(Kc 0)),(2,1,(Kc 0))]),oo 135 (.build [Z0,Z0,Z0] [(0,1,(Kc 4)),(1,1,(Kc 0)),(2,1,(Kc 0))]),oo 136 (.build [Z0,Z0,Z0] [(0,1,(Kc 4)),(1,1,(Kc 0)),(2,1,(Kc 9))]),oo 137 (.build [Z0,Z0,Z0] [(0,1,(Kc 4)),(1,1,(Kc 0)),(2,1,(Kc 10))]),oo 138 (.build [Z0,Z0,Z0] [(0,1,(Kc 4)),(1,1,(Kc 0)),(2,1,(Kc 11))]),oo 139 (.build [Z0,Z0,Z0] [(0,1,(Kc 4)),(1,1,(Kc 0)),(2,1,(Kc 40))]),oo 140 (.build [Z0,Z0,Z0] [(0,1,(Kc 4)),(1,1,(Kc 0)),(2,1,(Kc 40))]),oo 141 (.build [Z0,Z0,Z0] [(0,1,(Kc 4)),(1,1,(Kc 0)),(2,1,(Kc 40))]),oo 142 (.buildS 92 3 9 [Z0,Z0,Z0] [(0,(tm 133)),(1,(tm 134)),(2,(tm 135)),(3,(tm 136)),(4,(tm 137)),(5,(tm 138)),(6,(tm 139)),(7,(tm 140)),(8,(tm 141))]),⟨some 143,.call 42 [(tm 132),(.const .nil),(.const (.str ⟨#[115,114,99]⟩)),(tm 142)],none,[]⟩,mv 131 143,oo 144 (.ext (tm 131) 0),oo 145 (.ext (tm 131) 1),mv 18 144,mv 19 145])) (.seq (.cut (rg [mv 147 14,oo 148 (.call 46 [tm 147]),oo 149 (.call 45 [tm 148]),mv 146 149,oo 150 (.ext (tm 146) 0),oo 151 (.ext (tm 146) 1),mv 20 150,mv 21 151])) (.seq (.cut (rg [mv 153 4,oo 154 (.call 27 [(tm 153),(.const .nil)]),mv 152 154,oo 155 (.ext (tm 152) 0),oo 156 (.ext (tm 152) 1),mv 22 155,mv 23 156])) (sr [mv 157 5,mv 158 157,mT 159 12 158,oo 160 (.pick (tm 158) (tm 159) kF),mv 161 160,mT 162 17 161,oo 163 (.pick (tm 161) (tm 162) kF),mv 164 163,mT 165 18 164,oT 166 164 (.buildS 3 1 9 [Z0] [(0,(Kc 4)),(1,(Kc 4)),(2,(.const (.int .i64 (-1)))),(3,(.const (.int .i64 (-1)))),(4,(Kc 4)),(5,(.const (.int .i64 (-1)))),(6,(Kc 4)),(7,(Kc 4)),(8,(.const (.int .i64 (-1))))]),oT 167 164 (.call 21 [(tm 165),(tm 166)]),oT 168 164 (.bin .eql (tm 167) (Kc 0)),oo 169 (.pick (tm 164) (tm 168) kF),mv 170 169,mT 171 21 170,oT 172 170 (.bin .eql (tm 171) (Kc 0)),oo 173 (.pick (tm 170) (tm 172) kF),mv 174 173,mT 175 20 174,mT 176 14 174,oT 177 174 (.call 47 [(tm 175),(tm 176)]),oo 178 (.pick (tm 174) (tm 177) kF),mv 179 178,mT 180 14 179,mT 181 4 179,oT 182 179 (.call 47 [(tm 180),(tm 181)]),oT 183 179 (.not (tm 182)),oo 184 (.pick (tm 179) (tm 183) kF),mv 185 184,mT 186 23 185,oT 187 185 (.bin .eql (tm 186) (Kc 0)),oo 188 (.pick (tm 185) (tm 187) kF),mv 189 188,mT 190 22 189,oT 191 189 (.len (tm 190)),oT 192 189 (.bin .eql (tm 191) (Kc 1)),oo 193 (.pick (tm 189) (tm 192) kF),mv 194 193,mT 195 4 194,oT 196 194 (.call 23 [(.const .nil),(tm 195)]),oT 197 194 (.bin .eql (tm 196) (Kc 4)),oo 198 (.pick (tm 194) (tm 197) kF),mv 0 198] .ret))))))))))))))))
theorem l9:(Tryz.f9.body.bind (bt Tryz.prog 199 [6000006,6000007,6000008,6000009,6000010,6000011,6000012,6000013,6000014,6000015,6000016,6000017,8000031]))=some c9:=by kernel_rfl
end Go.ST8
end
section
namespace Go.ST
open Go Go.DL Go.MM Go.Proofs
open Go.TY hiding Fd
open Go.RC (vi vis vs vg yL E0)
abbrev EA:List RE:=[⟨vN,[5],10,9⟩]
abbrev EO:List RE:=[⟨vN,[7],0,10⟩]
abbrev EN:List RE:=[⟨vN,[1],20,0⟩,⟨vN,[2],21,0⟩]
abbrev E6:List RE:=[⟨vN,[4],0,40⟩]
abbrev AI:List (Int×Int×Int):=[(5,0,0),(5,0,1),(5,0,2),(5,0,3),(5,0,4),(5,0,5),(5,0,6),(5,0,7),(5,0,8),(5,0,9)]
abbrev NK:List (Int×Int×Int):=[(4,0,0),(4,0,0),(4,0,0),(4,0,9),(4,0,10),(4,0,11),(4,0,40),(4,0,40),(4,0,40)]
theorem FV(k:Int)(f:ByteArray)(n m:Int)(st:List RE)(name:ByteArray)(ts:List (Int×Int×Int))(a:List Int)(b:List RE)(c:ts.length<2^20)(d:CL L17 (stp k f n m) name ts st=true)(e:uu L17 name=true)(h:wc L17 (stp k f n m) name ts ([],st)=(a,b)):
  DCalls Tryz.prog 42 [wI (stp k f n m),esT st,.str name,B5 ts] (.tup [.slice 1 (a.map I),esT b]):=by
 have:=HN (stp k f n m) st name ts c d e
 rwa [h] at this
theorem Dl(k:Int)(f:ByteArray)(n m:Int)(name:ByteArray)(ts:List (Int×Int×Int))(a:List Int)(b:List RE)(c:ts.length<2^20)(d:CL L17 (stp k f n m) name ts []=true)(e:uu L17 name=true)(h:wc L17 (stp k f n m) name ts ([],[])=(a,b)):
  DCalls Tryz.prog 42 [wI (stp k f n m),.nil,.str name,B5 ts] (.tup [.slice 1 (a.map I),esT b]):=
 (FV k f n m [] name ts a b c d e h).lesAll ⟨Les.refl _,Les.nil 4,Les.refl _,Les.refl _,trivial⟩
theorem Dk(a:List Int)(h:a.length<2^60):DCalls Tryz.prog 21 [.slice 1 (a.map I),.slice 1 (a.map I)] (I 0):=by
 have:=Ba a a h h
 rwa [xf.2 rfl] at this
theorem Je(a:List Int)(h:a.length<2^40)(b:zI a=true):DCalls Tryz.prog 44 [.slice 1 (a.map I)] (.bool true):=by
 have:=D6 a h
 rwa [b] at this
theorem HQ(l:List Int):vg (vis l):=fun b a=>by
 unfold vis at a;rcases List.mem_append.1 a with h|h
 ·exact yL _ b h
 ·obtain ⟨x,_,c⟩:=List.mem_flatMap.1 h;exact yL x b c
theorem F8(st:List RE):vg (xV st):=fun b a=>by
 unfold xV at a;rcases List.mem_append.1 a with h|h
 ·exact yL _ b h
 ·obtain ⟨e,_,c⟩:=List.mem_flatMap.1 h;unfold wa at c;rcases List.mem_append.1 c with h|h
  ·exact E0 _ b h
  ·rcases List.mem_append.1 h with h|h <;> exact HQ _ b h
theorem szN: ∀e∈EN,SzE e:=fun e a=>by
 simp only [List.mem_cons,List.not_mem_nil,or_false] at a;rcases a with rfl|rfl
 all_goals exact ⟨by decide,by decide,fun x b=>by rw [List.mem_singleton.1 b];unfold Go.RC.i64;decide,by unfold Go.RC.i64;decide,by unfold Go.RC.i64;decide⟩
theorem NI(st:List RE)(a: ∀e∈st,SzE e)(c:st.length<2^20)(b:st≠[])(d:(xV st).length<2^28):DCalls Tryz.prog 45 [bT (xV st)] (.tup [esT st,I 0]):=by
 have:=HF (xV st) (F8 st) (by omega)
 rw [GY a (by omega)] at this;exact this
theorem Ie(a b:List RE)(x:Bool)(f:a.length<2^40)(e:b.length<2^40)(c: ∀x∈a,kOk x)(d: ∀x∈b,kOk x)(h:decide (a=b)=x):DCalls Tryz.prog 47 [esT a,esT b] (.bool x):=h▸J9 a b f e c d
theorem KY(a:List RE)(c:uR a)(e:a.length<2^30)(b: ∀x∈a,kOk x)(h:Cg a []=some a):DCalls Tryz.prog 27 [esT a,.nil] (.tup [esT a,I 0]):=by
 have:=J7 a [] c List.Pairwise.nil e (by decide) b (fun x d=>by cases d)
 rw [h] at this;exact this.lesAll ⟨Les.refl _,Les.nil 4,trivial⟩
theorem Jd(st:List RE)(b:st.length<2^60)(a: ∀e∈st,kOk e)(x:Int)(h:zt [] st=x):DCalls Tryz.prog 23 [.nil,esT st] (I x):=
 (h▸Jj [] (by decide) (fun v c=>by cases c) st b a:DCalls Tryz.prog 23 [vsT [],esT st] (I x)).lesAll ⟨Les.nil 5,Les.refl _,trivial⟩
theorem kEA: ∀e∈EA,kOk e:=by decide
theorem kEN: ∀e∈EN,kOk e:=by decide
theorem HM:DCalls Tryz.prog 9 [] (.bool true):=by
 refine dl2 mixed [.tmp 0] [.bool true] Tryz.func9 Go.ST8.l9 ?_
 skip
 refine tx 0 (α:=Nat) (β:=Unit) (fun i=>{sl:=[(1,.own 32 92 3 ((AI.take i).map tri)),(2,.t (I i))],bx:=[]}) (fun i=>i<=10) (fun i=>10 - i)
  (fun _=>{sl:=[(1,.t (B5 AI))],bx:=[]}) (fun _=>True) 0 (by decide) ?_ ?_ ?_
 ·repeat' (first|exact wJ|refine And.intro ?_ ?_)
 ·rintro i z;rcases Nat.lt_or_ge i 10 with h|h
  ·have w:(AI.take (i+1)).map tri=(AI.take i).map tri++[tri (5,0,i)]:=by
    have:i=0\/i=1\/i=2\/i=3\/i=4\/i=5\/i=6\/i=7\/i=8\/i=9:=by omega
    rcases this with rfl|rfl|rfl|rfl|rfl|rfl|rfl|rfl|rfl|rfl <;> rfl
   have B:((AI.take i).map tri).length=i:=by rw [List.length_map,List.length_take];exact Nat.min_eq_left z
   generalize (AI.take i).map tri=xs at *
   repeat' ((conv=>whnf);first|refine aD1 ?_|refine aS ?_|fail)
   exact ⟨i+1,h,by omega,by repeat' (first|(exact ug w)|exact wJ|refine And.intro ?_ ?_)⟩
  ·obtain rfl:i=10:=by omega
   repeat' ((conv=>whnf);first|(exact ⟨(),trivial,by (repeat' (first|(exact A4 rfl)|exact wJ|refine And.intro ?_ ?_));done⟩)|refine aD0 ?_|refine aS ?_|fail)
 rintro _ _;have k1:=yZ 1 Dj 0 0;have k2:=Dl 1 Dj 0 0 Dj AI [1,2,3,4,5,6,7,7,7,7] EA (by decide) (by decide+kernel) (by decide+kernel) (by decide+kernel)
 skip
 refine tV (β:=Unit) (fun _=>{sl:=[(3,.t (.slice 1 ([1,2,3,4,5,6,7,7,7,7].map I))),(4,.t (esT EA))],bx:=[]}) (fun _=>True) ?_ ?_
 ·repeat' ((conv=>whnf);first|refine uc _ (k1) ?_|refine uc _ (k2) ?_|(exact ⟨(),trivial,by (repeat' (first|exact wJ|refine And.intro ?_ ?_));done⟩)|fail)
 rintro _ _;clear k1 k2;have p:=Je [1,2,3,4,5,6,7,7,7,7] (by decide) (by decide+kernel)
 skip
 refine tV (β:=Unit) (fun _=>{sl:=[(4,.t (esT EA)),(5,.t (.bool true))],bx:=[]}) (fun _=>True) ?_ ?_
 ·repeat' ((conv=>whnf);first|refine uc _ (p) ?_|(exact ⟨(),trivial,by (repeat' (first|exact wJ|refine And.intro ?_ ?_));done⟩)|refine aE1 ?_|refine aS ?_|refine nT_ ?_)
 rintro _ _;clear p;have u:=yZ 3 e0 3 0;have n:=Dl 3 e0 3 0 B1 [(7,0,10)] [-1] [] (by decide) (by decide+kernel) (by decide+kernel) (by decide+kernel)
 skip
 refine tV (β:=Unit) (fun _=>{sl:=[(4,.t (esT EA)),(5,.t (.bool true)),(6,.t (.slice 1 ([-1].map I))),(7,.t (esT []))],bx:=[]}) (fun _=>True) ?_ ?_
 ·repeat' ((conv=>whnf);first|refine uc _ (u) ?_|refine uc _ (n) ?_|(exact ⟨(),trivial,by (repeat' (first|exact wJ|refine And.intro ?_ ?_));done⟩)|refine aS ?_|fail)
 rintro _ _;clear u n;have q:=yZ 2 e0 0 0;have s:=FV 2 e0 0 0 [] B1 [(7,0,10)] [7] EO (by decide) (by decide+kernel) (by decide+kernel) (by decide+kernel)
 skip
 refine tV (β:=Unit) (fun _=>{sl:=[(4,.t (esT EA)),(5,.t (.bool true)),(6,.t (.slice 1 ([-1].map I))),(9,.t (esT EO))],bx:=[]}) (fun _=>True) ?_ ?_
 ·repeat' ((conv=>whnf);first|refine uc _ (q) ?_|refine uc _ (s) ?_|(exact ⟨(),trivial,by (repeat' (first|exact wJ|refine And.intro ?_ ?_));done⟩)|refine aS ?_|fail)
 rintro _ _;clear q s;have o:=yZ 3 e0 3 0;have r:=FV 3 e0 3 0 EO B1 [(7,0,13),(7,0,14)] [7, -1] EO (by decide) (by decide+kernel) (by decide+kernel) (by decide+kernel)
 skip
 refine tV (β:=Unit) (fun _=>{sl:=[(4,.t (esT EA)),(5,.t (.bool true)),(6,.t (.slice 1 ([-1].map I))),(9,.t (esT EO)),(10,.t (.slice 1 ([7, -1].map I)))],bx:=[]}) (fun _=>True) ?_ ?_
 ·repeat' ((conv=>whnf);first|refine uc _ (o) ?_|refine uc _ (r) ?_|(exact ⟨(),trivial,by (repeat' (first|exact wJ|refine And.intro ?_ ?_));done⟩)|refine aS ?_|fail)
 rintro _ _;clear o r;have e:=Dk [7, -1] (by decide)
 skip
 refine tV (β:=Unit) (fun _=>{sl:=[(4,.t (esT EA)),(5,.t (.bool true)),(12,.t (.bool true))],bx:=[]}) (fun _=>True) ?_ ?_
 ·repeat' ((conv=>whnf);first|refine uc _ (e) ?_|(exact ⟨(),trivial,by (repeat' (first|exact wJ|refine And.intro ?_ ?_));done⟩)|refine aE1 ?_|refine aS ?_|refine nT_ ?_)
 rintro _ _;clear e;have k11:=yZ 4 CC 20 21;have a:=Dl 4 CC 20 21 CC [(1,0,0),(2,0,0),(1,0,0),(3,0,0)] [20,21,20, -1] EN (by decide) (by decide+kernel) (by decide+kernel) (by decide+kernel)
 skip
 refine tV (β:=Unit) (fun _=>{sl:=[(4,.t (esT EA)),(5,.t (.bool true)),(12,.t (.bool true)),(13,.t (.slice 1 ([20,21,20, -1].map I))),(14,.t (esT EN))],bx:=[]}) (fun _=>True) ?_ ?_
 ·repeat' ((conv=>whnf);first|refine uc _ (k11) ?_|refine uc _ (a) ?_|(exact ⟨(),trivial,by (repeat' (first|exact wJ|refine And.intro ?_ ?_));done⟩)|refine aS ?_|fail)
 rintro _ _;clear k11 a;have l:=yZ 5 CC 0 0;have b:=FV 5 CC 0 0 EN B1 [(9,21,0),(9,22,0)] [2, -1] EN (by decide) (by decide+kernel) (by decide+kernel) (by decide+kernel)
 skip
 refine tV (β:=Unit) (fun _=>{sl:=[(4,.t (esT EA)),(5,.t (.bool true)),(12,.t (.bool true)),(13,.t (.slice 1 ([20,21,20, -1].map I))),(14,.t (esT EN)),(15,.t (.slice 1 ([2, -1].map I)))],bx:=[]}) (fun _=>True) ?_ ?_
 ·repeat' ((conv=>whnf);first|refine uc _ (l) ?_|refine uc _ (b) ?_|(exact ⟨(),trivial,by (repeat' (first|exact wJ|refine And.intro ?_ ?_));done⟩)|refine aS ?_|fail)
 rintro _ _;clear l b;have k:=Dk [20,21,20, -1] (by decide);have m:=Dk [2, -1] (by decide)
 skip
 refine tV (β:=Unit) (fun _=>{sl:=[(4,.t (esT EA)),(5,.t (.bool true)),(12,.t (.bool true)),(14,.t (esT EN)),(17,.t (.bool true))],bx:=[]}) (fun _=>True) ?_ ?_
 ·repeat' ((conv=>whnf);first|refine uc _ (k) ?_|refine uc _ (m) ?_|(exact ⟨(),trivial,by (repeat' (first|exact wJ|refine And.intro ?_ ?_));done⟩)|refine aE1 ?_|refine aS ?_|fail)
 rintro _ _;clear k m;have j:=yZ 6 e0 2 10;have g:=Dl 6 e0 2 10 B1 NK [4,4, -1, -1,4, -1,4,4, -1] E6 (by decide) (by decide+kernel) (by decide+kernel) (by decide+kernel)
 skip
 refine tV (β:=Unit) (fun _=>{sl:=[(4,.t (esT EA)),(5,.t (.bool true)),(12,.t (.bool true)),(14,.t (esT EN)),(17,.t (.bool true)),(18,.t (.slice 1 ([4,4, -1, -1,4, -1,4,4, -1].map I)))],bx:=[]}) (fun _=>True) ?_ ?_
 ·repeat' ((conv=>whnf);first|refine uc _ (j) ?_|refine uc _ (g) ?_|(exact ⟨(),trivial,by (repeat' (first|exact wJ|refine And.intro ?_ ?_));done⟩)|refine aS ?_|fail)
 rintro _ _;clear j g;have f:=HH EN szN (by decide) (by decide+kernel);have d:=NI EN szN (by decide) (by simp) (by decide+kernel)
 skip
 refine tV (β:=Unit) (fun _=>{sl:=[(4,.t (esT EA)),(5,.t (.bool true)),(12,.t (.bool true)),(14,.t (esT EN)),(17,.t (.bool true)),(18,.t (.slice 1 ([4,4, -1, -1,4, -1,4,4, -1].map I))),(20,.t (esT EN)),(21,.t (I 0))],bx:=[]}) (fun _=>True) ?_ ?_
 ·repeat' ((conv=>whnf);first|refine uc _ (f) ?_|refine uc _ (d) ?_|(exact ⟨(),trivial,by (repeat' (first|exact wJ|refine And.intro ?_ ?_));done⟩)|fail)
 rintro _ _;clear f d;have c:=KY EA (xZ.1 (by decide+kernel)) (by decide) kEA (by decide+kernel)
 skip
 refine tV (β:=Unit) (fun _=>{sl:=[(4,.t (esT EA)),(5,.t (.bool true)),(12,.t (.bool true)),(14,.t (esT EN)),(17,.t (.bool true)),(18,.t (.slice 1 ([4,4, -1, -1,4, -1,4,4, -1].map I))),(20,.t (esT EN)),(21,.t (I 0)),(22,.t (esT EA)),(23,.t (I 0))],bx:=[]}) (fun _=>True) ?_ ?_
 ·repeat' ((conv=>whnf);first|refine uc _ (c) ?_|(exact ⟨(),trivial,by (repeat' (first|exact wJ|refine And.intro ?_ ?_));done⟩)|fail)
 rintro _ _;clear c;have x:=Dk [4,4, -1, -1,4, -1,4,4, -1] (by decide);have A:=Ie EN EN true (by decide) (by decide) kEN kEN (by decide+kernel);have v:=Ie EN EA false (by decide) (by decide) kEN kEA (by decide+kernel);have y:=Jd EA (by decide) kEA 4 (by decide+kernel)
 repeat' ((conv=>whnf);first|refine uc _ (x) ?_|refine uc _ (A) ?_|refine uc _ (v) ?_|refine uc _ (y) ?_|refine aE1 ?_|refine rb1 ?_|refine aS ?_|exact trivial)
end Go.ST
end
section
end
section
end
section
namespace Go.MM
open Go Go.DL Go.Proofs
theorem uH{a b:ByteArray}:uq a b=true↔a=b:=by
 unfold uq;rw [beq_iff_eq];constructor
 ·intro h;cases a;cases b
  congr 1
  exact Array.toList_inj.1 h
 ·rintro rfl;rfl
end Go.MM
end
section
namespace Go.ST
open Go Go.DL Go.MM Go.Proofs
open Go.TY hiding Fd
theorem BF(p:RE->Bool): ∀st:List RE,st.length=(st.filter p).length+(st.filter fun x=> !p x).length
 |[]=>rfl
 |x::xs=>by
  have a:=BF p xs;rw [List.filter_cons,List.filter_cons];cases p x
  ·simp;omega
  ·simp;omega
theorem C2: ∀(ns:List ByteArray) (st:List RE),(∀ e∈st,e.var∈ns)->(∀ v,uD st v<=100)->st.length<=100 * ns.length
 |[],st,h,_=>by
  cases st with
  |nil=>simp
  |cons a r=>exact absurd (h a (by simp)) (by simp)
 |n::ns,st,h,hc=>by
  have g:=BF (fun e=>decide (e.var=n)) st;have i:(st.filter fun e=>decide (e.var=n)).length<=100:=hc n;have j:=C2 ns (st.filter fun e=> !decide (e.var=n)) (fun e d=>by
   obtain ⟨f,c⟩:=List.mem_filter.1 d;rcases List.mem_cons.1 (h e f) with b|b
   ·simp [b] at c
   ·exact b) (fun v=>Nat.le_trans (List.Sublist.length_le (List.Sublist.filter _ (List.filter_sublist))) (hc v))
  rw [List.length_cons];omega
theorem OkS.len{vars:List RV}{st:List RE}(h:OkS vars st):st.length<=100 * vars.length:=by
 have:=C2 (vars.map (·.name)) st (fun e d=>by
  obtain ⟨v,a, -⟩:=(h.fit e d).ex;unfold varOf at a;have b:=List.mem_of_find?_eq_some a;have c:=List.find?_some a;exact List.mem_map.2 ⟨v,b,by simpa using c⟩) h.few
 rwa [List.length_map] at this
theorem OkS.kok{vars:List RV}(c: ∀v∈vars,VOk v){st:List RE}(h:OkS vars st): ∀e∈st,kOk e:=fun e d=>by
 obtain ⟨v,a,b, -⟩:=(h.fit e d).ex;unfold varOf at a
 have:=(c v (List.mem_of_find?_eq_some a)).len
 have:=Af b
 show e.key.length<2^60
 omega
abbrev gsT(gs:List RG):T:=.slice 15 (gs.map uE)
def yz(g:RG):Bool:=decide (g.pol.size<=20)&&decide (g.pol.wx<=2)&&zN g.pol.wx g.pol.yA
def Bc(L:List Fd)(gs:List RG)(st:List RE):Bool:=decide (zk L gs=0)&&decide (st.length<=250)&&decide (zt (wL L gs) st=0)
theorem I3(L:List Fd)(h:LOk L)(gs:List RG)(o:gs.length<2^30)(j: ∀g∈gs,SmG (2^39) g)(st:List RE)(p:st.length<2^60)(n: ∀e∈st,kOk e):
  DCalls Tryz.prog 41 [fds L,gsT gs,esT st] (.bool (Bc L gs st)):=by
 refine dl2 mixed [.tmp 6] [.bool _] Tryz.func41 Go.ST7.l41 ?_;have a:=Gv L h gs (by omega) j;have r:((st.map um).length:Int)=st.length:=by rw [List.length_map]
 unfold Bc
 by_cases c:zk L gs=0
 case neg=>
  rw [decide_eq_false c];generalize zk L gs=x at *
  repeat' ((conv=>whnf);first|refine uc _ (a) ?_|refine sG c ?_|refine rb0 ?_|refine aS ?_|exact trivial)
 rw [decide_eq_true c];have i:=EE c;have k:=Er L h gs (by omega) (fun g m=>by have:=(j g m).st.len;omega) i.pw;have f:=B6 h i;have q:=Bg (l:=L) (gs:=gs);rw [c] at a;have b:=I2 (wL L gs) (by omega) f st p n;generalize wL L gs=vars at *
 by_cases d:st.length<=250
 ·rw [decide_eq_true d]
  by_cases e:zt vars st=0
  ·rw [decide_eq_true e];rw [e] at b
   repeat' ((conv=>whnf);first|refine uc _ (a) ?_|refine uc _ (k) ?_|refine uc _ (b) ?_|refine aE1 ?_|refine aN0 ?_|refine aD0 ?_|refine rb1 ?_|refine aS ?_|exact trivial)
  ·rw [decide_eq_false e];generalize zt vars st=x at *
   repeat' ((conv=>whnf);first|refine uc _ (a) ?_|refine uc _ (k) ?_|refine uc _ (b) ?_|refine sD e ?_|refine aN0 ?_|refine aD0 ?_|refine rb0 ?_|refine aS ?_|exact trivial)
 ·rw [decide_eq_false d]
  repeat' ((conv=>whnf);first|refine uc _ (a) ?_|refine aN0 ?_|refine aD1 ?_|refine rb0 ?_|refine aS ?_|exact trivial)
def Bb(l:List RF)(gs:List RG)(st:List RE)(h:List Int)(tick:Int):Bool:=
 decide (yO l=0)&&AY gs&&vS h&&decide (0<=tick)&&decide (tick<=1073741824)&&gs.all yz&&Bc (l.map RF.fd) gs st
theorem IQ(l:List RF)(W:l.length<2^60)(S: ∀f∈l,f.name.size<2^62)(gs:List RG)(C:gs.length<2^30)(y: ∀g∈gs,SmG (2^39) g)(st:List RE)(A:st.length<2^60)(V: ∀e∈st,kOk e)(h:List Int)(J:h.length=10)(tick:Int):
  DCalls Tryz.prog 8 [ye l,gsT gs,esT st,hd h,I tick] (.bool (Bb l gs st h tick)):=by
 refine dl2 mixed [.tmp 10] [.bool _] Tryz.func8 Go.ST7.l8 ?_;have n:=t47 l W S;have p:=D4 gs (by omega) fun g U=>by have:=(y g U).wt;omega
 have o:=t11 h J;have Q:((gs.map uE).length:Int)=(gs.length:Int):=by rw [List.length_map]
 have d:(h.map I).length=10:=by rw [List.length_map];exact J
 unfold Bb
 by_cases s:yO l=0
 case neg=>
  rw [decide_eq_false s];generalize yO l=c at *
  repeat' ((conv=>whnf);first|refine uc _ (n) ?_|refine uc _ (p) ?_|refine uc _ (o) ?_|refine sG s ?_|refine rb0 ?_|(refine And.intro (by first|exact d) ?_)|refine aS ?_|exact trivial)
 have R:=Ca s;have E:=R.ok;have w:=R.fds;rw [s] at n;rw [decide_eq_true s,Bool.true_and];have v:=I3 (l.map RF.fd) E gs C y st A V;generalize Bc (l.map RF.fd) gs st=b4 at *
 generalize l.map RF.fd=L at *
 rw [w] at n ⊢;generalize AY gs=b2 at *
 generalize vS h=b3 at *
 cases b2
 ·repeat' ((conv=>whnf);first|refine uc _ (n) ?_|refine uc _ (p) ?_|refine uc _ (o) ?_|refine aN0 ?_|refine rb0 ?_|(refine And.intro (by first|exact d) ?_)|refine aS ?_|exact trivial)
 cases b3
 ·repeat' ((conv=>whnf);first|refine uc _ (n) ?_|refine uc _ (p) ?_|refine uc _ (o) ?_|refine aN0 ?_|refine rb0 ?_|(refine And.intro (by first|exact d) ?_)|refine aS ?_|exact trivial)
 by_cases F:0<=tick
 case neg=>rw [decide_eq_false F];repeat' ((conv=>whnf);first|refine uc _ (n) ?_|refine uc _ (p) ?_|refine uc _ (o) ?_|refine aN0 ?_|refine aD1 ?_|refine rb0 ?_|(refine And.intro (by first|exact d) ?_)|refine aS ?_|exact trivial)
 by_cases K:tick<=1073741824
 case neg=>rw [decide_eq_true F,decide_eq_false K];repeat' ((conv=>whnf);first|refine uc _ (n) ?_|refine uc _ (p) ?_|refine uc _ (o) ?_|refine aN0 ?_|refine aD1 ?_|refine aD0 ?_|refine rb0 ?_|(refine And.intro (by first|exact d) ?_)|refine aS ?_|exact trivial)
 rw [decide_eq_true F,decide_eq_true K]
 repeat' ((conv=>whnf);first|refine uc _ (n) ?_|refine uc _ (p) ?_|refine uc _ (o) ?_|refine aN0 ?_|refine aD0 ?_|(refine And.intro (by first|exact d) ?_)|refine aS ?_|fail)
 refine tx 0 (α:=Nat) (β:=Unit) (fun i=>{sl:=[(0,.t (fds L)),(1,.t (gsT gs)),(2,.t (esT st)),(14,.t (I i))],bx:=[]})
  (fun i=>i<=gs.length/\ ∀j (h:j<gs.length),j<i->yz gs[j]=true) (fun i=>gs.length - i)
  (fun _=>{sl:=[(0,.t (fds L)),(1,.t (gsT gs)),(2,.t (esT st))],bx:=[]}) (fun _=>gs.all yz=true) 0 (by simp) ?_ ?_ ?_
 ·repeat' (first|exact wJ|refine And.intro ?_ ?_)
 ·rintro i ⟨X,O⟩;rcases Nat.lt_or_ge i gs.length with h|h
  ·have a:(i:Int)<((gs.map uE).length:Int):=by omega
   have q:(gs.map uE)[i]?.getD .nil= .agg (uw gs[i]):=by simp [h];rfl
   have m:=zS gs[i];have Y:=(y gs[i] (List.getElem_mem h)).wt;have u:=t89 _ gs[i].pol (Nat.le_refl _) (by omega);have G:=t59 _ gs[i].pol (Nat.le_refl _) (by omega);have M:=t38 gs[i].pol (by omega);have k:yz gs[i]=false->gs.all yz=false:=fun B=>List.all_eq_false.2 ⟨gs[i],List.getElem_mem h,by rw [B];simp⟩
   have step:yz gs[i]=true-> ∀j (r:j<gs.length),j<i+1->yz gs[j]=true:=fun B j r a=>by
    rcases Nat.lt_or_ge j i with v|v
    ·exact O j r v
    ·obtain rfl:j=i:=by omega
     exact B
   have b:yz gs[i]=(decide (gs[i].pol.size<=20)&&decide (gs[i].pol.wx<=2)&&zN gs[i].pol.wx gs[i].pol.yA):=rfl;generalize yz gs[i]=pb at *
   generalize gs[i].pol.size=z at *
   generalize gs[i].pol.deep=dp at *
   generalize zN gs[i].pol.wx gs[i].pol.yA=lb at *
   generalize gs[i].pol.wx=sr at *
   by_cases N:z<=20
   case neg=>
    rw [k (by rw [b,decide_eq_false N];rfl)]
    repeat' ((conv=>whnf);first|exact trivial|refine sC a ?_|(refine nv_ (.agg (uw gs[i])) (by first|exact q) ?_)|(refine nv_ (.agg (ux gs[i].pol)) (by first|exact congrArg T.agg m) ?_)|refine uc _ (u) ?_|refine aD1 ?_|refine rb0 ?_|(refine And.intro (by first|exact xz _|exact xX _|exact wD _) ?_)|refine aS ?_|refine nT_ ?_)
   by_cases P:sr<=2
   case neg=>
    rw [k (by rw [b,decide_eq_false P,Bool.and_false];rfl)]
    repeat' ((conv=>whnf);first|exact trivial|refine sC a ?_|(refine nv_ (.agg (uw gs[i])) (by first|exact q) ?_)|(refine nv_ (.agg (ux gs[i].pol)) (by first|exact congrArg T.agg m) ?_)|refine uc _ (u) ?_|refine uc _ (G) ?_|refine aD1 ?_|refine aD0 ?_|refine rb0 ?_|(refine And.intro (by first|exact xz _|exact xX _|exact wD _) ?_)|refine aS ?_|refine nT_ ?_)
   cases lb with
   |false=>
    rw [k (by rw [b,Bool.and_false])]
    repeat' ((conv=>whnf);first|exact trivial|refine sC a ?_|(refine nv_ (.agg (uw gs[i])) (by first|exact q) ?_)|(refine nv_ (.agg (ux gs[i].pol)) (by first|exact congrArg T.agg m) ?_)|refine uc _ (u) ?_|refine uc _ (G) ?_|refine uc _ (M) ?_|refine aD0 ?_|refine rb0 ?_|(refine And.intro (by first|exact xz _|exact xX _|exact wD _) ?_)|refine aS ?_|refine nT_ ?_)
   |true=>
    have H:i+1<=gs.length/\ ∀j (r:j<gs.length),j<i+1->yz gs[j]=true:=⟨h,step (by rw [b,decide_eq_true N,decide_eq_true P];rfl)⟩
    clear k step
    repeat' ((conv=>whnf);first|refine sC a ?_|(refine nv_ (.agg (uw gs[i])) (by first|exact q) ?_)|(refine nv_ (.agg (ux gs[i].pol)) (by first|exact congrArg T.agg m) ?_)|refine uc _ (u) ?_|refine uc _ (G) ?_|refine uc _ (M) ?_|refine aD0 ?_|(refine And.intro (by first|exact xz _|exact xX _|exact wD _) ?_)|refine aS ?_|refine nT_ ?_)
    exact ⟨i+1,H,by omega,by repeat' (first|exact wJ|refine And.intro ?_ ?_)⟩
  ·have a: ¬(i:Int)<((gs.map uE).length:Int):=by omega
   have D:gs.all yz=true:=List.all_eq_true.2 fun x q=>by
    obtain ⟨j,r,rfl⟩:=List.getElem_of_mem q;exact O j r (by omega)
   repeat' ((conv=>whnf);first|refine su a ?_|(exact ⟨(),D,by (repeat' (first|exact wJ|refine And.intro ?_ ?_));done⟩)|refine aS ?_|fail)
 ·rintro _ D;rw [D]
  repeat' ((conv=>whnf);first|refine uc _ (v) ?_|refine rbx ?_|exact trivial)
structure Dr (l:List RF) (gs:List RG) (st:List RE) (h:List Int) (tick:Int):Prop where
 ck:MM.Checked l
 few:AY gs=true
 hh:HOk h
 t0:0<=tick
 t1:tick<=1073741824
 pol: ∀g∈gs,g.pol.size<=20/\g.pol.wx<=2/\zN g.pol.wx g.pol.yA=true
 fits:Fits (l.map RF.fd) gs
 prog:zk (l.map RF.fd) gs=0
 len:st.length<=250
 st:OkS (wL (l.map RF.fd) gs) st
theorem GB{l:List RF}{gs:List RG}{st:List RE}{h:List Int}{tick:Int}(f:h.length=10)(a:Bb l gs st h tick=true):Dr l gs st h tick:=by
 unfold Bb Bc at a;simp only [Bool.and_eq_true,decide_eq_true_eq,List.all_eq_true] at a;obtain ⟨⟨⟨⟨⟨⟨o,c⟩,n⟩,d⟩,m⟩,i⟩,⟨b,e⟩,j⟩:=a;refine ⟨Ca o,c,⟨f,n⟩,d,m,fun g k=>?_,EE b,b,e,Ir.1 j⟩
 have:=i g k
 unfold yz at this;simp only [Bool.and_eq_true,decide_eq_true_eq] at this;exact ⟨this.1.1,this.1.2,this.2⟩
end Go.ST
end
section
end
section
namespace Go.ST
open Go Go.DL Go.MM Go.Proofs
open Go.TY hiding Fd
structure K9 (l:List RF) (gs:List RG) (st:List RE) (h:List Int):Prop where
 ll:l.length<2^60
 ln: ∀f∈l,f.name.size<2^62
 gl:gs.length<2^30
 gg: ∀g∈gs,SmG (2^39) g
 sl:st.length<2^28
 sk: ∀e∈st,kOk e
 hl:h.length=10
theorem Dr.at{l:List RF}{gs:List RG}{st:List RE}{h:List Int}{tick:Int}(p:Dr l gs st h tick){g:RG}(q:g∈gs){a:List RE}(f:OkS (wL (l.map RF.fd) gs) a){b:List Int}(d:HOk b):
  DCalls Tryz.prog 11 [fds (l.map RF.fd),wI g.st,esT a,hd b,I tick] (dnT (doE (l.map RF.fd) g.st a b tick))/\DCalls Tryz.prog 12 [fds (l.map RF.fd),wI g.st,esT a,hd b,I tick] (vp (doE (l.map RF.fd) g.st a b tick))/\
  OkS (wL (l.map RF.fd) gs) (doE (l.map RF.fd) g.st a b tick).st/\HOk (doE (l.map RF.fd) g.st a b tick).h/\wv (doE (l.map RF.fd) g.st a b tick).st g.st.var=wv a g.st.var/\((doE (l.map RF.fd) g.st a b tick).pass=false->(doE (l.map RF.fd) g.st a b tick).h=b):=by
 have c:=p.ck.ok;have j:=H3 p.ck
 by_cases i:g.st.kind=0
 ·have e:doE (l.map RF.fd) g.st a b tick=⟨b,true,a⟩:=by unfold doE yB doR;rw [if_pos i];rfl
  refine ⟨Ig d i,Ic d i,?_⟩;rw [e];exact ⟨f,d,rfl,fun r=>by cases r⟩
 ·have n:=Ef p.fits q i;have m:=B6 c p.fits;have k:a.length<=1000000:=by
   have u:=f.len;have t:=Bg (l:=l.map RF.fd) (gs:=gs);have s:gs.length<=12:=by have:=p.few;unfold AY at this;simp only [Bool.and_eq_true,decide_eq_true_eq] at this;exact this.2
   omega
  have hd:=Fa c j d f k p.t0 p.t1 n;have o:=f.kok m;exact ⟨HG hd o,NF hd o,Dz c d f p.t0 p.t1 n⟩
end Go.ST
end
section
end
section
end
section
end
section
end
section
end
section
end
section
end
section
namespace Go.MM
open Go Go.DL Go.Proofs
theorem IC{x s w n:Nat}(a:n<2^w):xW (yc x s w n) s w=n:=by
 refine Nat.eq_of_testBit_eq fun j=>?_
 rw [BU,AA a]
 by_cases h:j<w
 ·rw [if_neg (by omega),if_pos (by omega)];simp [h]
 ·have:n.testBit j=false:=Nat.testBit_lt_two_pow (Nat.lt_of_lt_of_le a (Nat.pow_le_pow_right (by decide) (by omega)))
  simp [h,this]
theorem G5{x s w n b a:Nat}(c:n<2^w)(h:s+w<=b\/b+a<=s):xW (yc x s w n) b a=xW x b a:=by
 refine Nat.eq_of_testBit_eq fun j=>?_
 rw [BU,BU,AA c]
 by_cases d:j<a
 ·rcases h with h|h
  ·rw [if_neg (by omega),if_neg (by omega)]
  ·rw [if_pos (by omega)]
 ·simp [d]
theorem BP{h:List Int}{i n:Nat}(a:i<h.length):wd (h.set i (n:Int)) i=n:=by simp [wd,a]
theorem Eh{h:List Int}{i j:Nat}{n:Int}(a:i≠j):wd (h.set i n) j=wd h j:=by simp [wd,a]
theorem C0{f:Fd}(a:FOk f){h:List Int}(c:h.length=10){n:Nat}(b:n<2^f.w):uI f (vF f h n)=n:=by
 have:=a.i
 unfold uI vF;rw [BP (by omega),IC b]
def w7(f g:Fd):Prop:=f.a+f.w<=g.a\/g.a+g.w<=f.a
theorem w7.bits{f g:Fd}(b:FOk f)(c:FOk g)(h:w7 f g)(d:f.i=g.i):f.s+f.w<=g.s\/g.s+g.w<=f.s:=by
 have:=b.w2;have:=c.w2;have:=b.a;have:=c.a
 unfold w7 at h;unfold Fd.i at d;unfold Fd.s;omega
theorem Fo{f g:Fd}(b:FOk f)(d:FOk g)(e:w7 f g){h:List Int}(j:h.length=10){n:Nat}(c:n<2^f.w):uI g (vF f h n)=uI g h:=by
 have:=b.i
 unfold uI vF
 by_cases a:f.i=g.i
 ·rw [<- a,BP (by omega)];exact G5 c (e.bits b d a)
 ·rw [Eh a]
theorem Checked.GQ{l:List RF}(x:Checked l){s t:ByteArray}{F G:Fd}(y:findF (l.map RF.fd) s=some F)(q:findF (l.map RF.fd) t=some G)(o:s≠t):w7 F G:=by
 have f: ∀{u:ByteArray} {H:Fd},uq u vH=false->findF (l.map RF.fd) u=some H-> ∃i, ∃b:i<l.length,H=l[i].fd/\l[i].name=u:=fun {u H} k c=>by
  unfold findF at c;rw [if_neg (by simp [k])] at c;obtain ⟨C,A⟩:=List.mem_of_find?_eq_some c,List.find?_some c;obtain ⟨g,B,rfl⟩:=List.mem_map.1 C;obtain ⟨i,b,rfl⟩:=List.getElem_of_mem B;exact ⟨i,b,rfl,uH.1 A⟩
 have d: ∀{u:ByteArray} {H:Fd},uq u vH=true->findF (l.map RF.fd) u=some H->H=yI:=fun {u H} k c=>by
  unfold findF at c;rw [if_pos k] at c;exact (Option.some.inj c).symm
 have r: ∀i (b:i<l.length),16<=l[i].a/\l[i].a<=143/\1<=l[i].w/\l[i].w<=16:=fun i b=>by
  have:=x.place _ (List.getElem_mem b)
  simp [xj] at this;omega
 cases k:uq s vH with
 |true=>
  cases m:uq t vH with
  |true=>exact absurd ((uH.1 k).trans (uH.1 m).symm) o
  |false=>
   obtain ⟨j,n,rfl,_⟩:=f m q;obtain rfl:=d k y
   have:=r j n
   left;simp only [yI,RF.fd];omega
 |false=>
  obtain ⟨i,b,rfl,D⟩:=f k y;have E:=r i b;cases m:uq t vH with
  |true=>
   obtain rfl:=d m q;right;simp only [yI,RF.fd];omega
  |false=>
   obtain ⟨j,n,rfl,z⟩:=f m q;have I:=r j n;have p:i≠j:=fun e=>by subst e;exact o (D.symm.trans z)
   have v:wA l[i] l[j]=false\/wA l[j] l[i]=false:=by
    rcases Nat.lt_or_gt_of_ne p with h|h
    ·exact .inl (x.apart j i n b h)
    ·exact .inr (x.apart i j b n h)
   unfold w7;simp only [RF.fd];rcases v with h|h <;> simp [wA] at h <;> omega
end Go.MM
end
section
namespace Go.ST
open Go Go.DL Go.MM
open Go.TY hiding Fd
def AO(l:List Fd):Prop:= ∀s t,uu l s=true->uu l t=true->s≠t->MM.w7 (fld l s) (fld l t)
theorem EG{l:List Fd}(c:LOk l){h:List Int}(b:HOk h){k:ByteArray}(a:uu l k=true){n:Int}(f:0<=n)(d:n<2^(fld l k).w):(uI (fld l k) (wrF l h k n):Int)=n:=by
 unfold wrF;have g:=Nat.two_pow_pos (fld l k).w;have e:((2^(fld l k).w:Nat):Int)=2^(fld l k).w:=by simp
 rw [if_pos a,C0 (Ak c a) b.len (by omega)];omega
theorem G6{l:List Fd}(d:LOk l)(f:AO l){h:List Int}(e:HOk h){k m:ByteArray}(a:uu l k=true)(c:uu l m=true)(b:k≠m){n:Int}(_:0<=n):uI (fld l m) (wrF l h k n)=uI (fld l m) h:=by
 unfold wrF;have i:=Nat.two_pow_pos (fld l k).w;rw [if_pos a,Fo (Ak d a) (Ak d c) (f k m a c b) e.len (by omega)]
theorem DK{l:List Fd}(c:LOk l)(f:AO l){m:ByteArray}(d:uu l m=true): ∀{ks:List ByteArray} {vs:List Int} {h:List Int},HOk h->(∀ k∈ks,uu l k=true)->(∀ x∈vs,0<=x)-> ¬m∈ks->uI (fld l m) (vT l ks vs h)=uI (fld l m) h
 |[],_,h,_,_,_,_=>rfl
 |_::_,[],h,_,_,_,_=>rfl
 |k::ks,v::vs,h,hh,hk,hv,hn=>by
  have b:=hv v (by simp);rw [vT,DK c f d (wX c hh b) (fun x a=>hk x (by simp [a])) (fun x a=>hv x (by simp [a])) (fun a=>hn (by simp [a])),G6 c f hh (hk k (by simp)) d (fun e=>hn (by simp [e])) b]
theorem DV{l:List Fd}(d:LOk l)(f:AO l): ∀{ks:List ByteArray} {vs:List Int} {h:List Int},HOk h->(∀ k∈ks,uu l k=true)->ks.Nodup->vz vs (ks.map fun k=>((fld l k).w:Int))=true->keyOf l ks (vT l ks vs h)=vs
 |[],[],h,_,_,_,_=>rfl
 |[],_::_,h,_,_,_,a=>by cases a
 |_::_,[],h,_,_,_,a=>by cases a
 |k::ks,v::vs,h,hh,hk,hn,a=>by
  rw [List.map_cons,vz] at a;simp only [Bool.and_eq_true,decide_eq_true_eq,Int.toNat_natCast] at a;obtain ⟨⟨v0,p⟩,a⟩:=a;obtain ⟨n,m⟩:=List.nodup_cons.1 hn;have e: ∀x∈vs,0<=x:=fun x c=>by
   obtain ⟨o,q⟩:=Ae.1 a;obtain ⟨i,g,rfl⟩:=List.getElem_of_mem c;exact (q i vs[i] ((ks.map fun k=>((fld l k).w:Int))[i]'(by rw [<- o];exact g)) (ggZ g) (ggZ _)).1
  have b:=hk k (by simp);have j:=wX (name:=k) d hh v0;show (uI (fld l k) (vT l ks vs (wrF l h k v)):Int)::keyOf l ks (vT l ks vs (wrF l h k v))=v::vs
  rw [DV d f j (fun x c=>hk x (by simp [c])) m a,DK d f b j (fun x c=>hk x (by simp [c])) e n,EG d hh b v0 p]
theorem Gp{vars:List RV}{st:List RE}(c:OkS vars st){v:ByteArray}(g:Hj vars v):(ofE st v).Pairwise fun x y=>x.n≠y.n:=by
 have d:(ofE st v).Pairwise (w7 vars):=c.tr.filter _;refine List.Pairwise.imp_of_mem (fun {x y} e f h=>?_) d;have a:x.var=v:=by simpa using (List.mem_filter.1 e).2
 have b:y.var=v:=by simpa using (List.mem_filter.1 f).2
 exact h (a.trans b.symm) (by rw [a];exact g)
theorem Ij{l:List Fd}{vars:List RV}{s:RS}{st:List RE}{h other:List Int}{tick:Int}(j:LOk l)(S:AO l)(I:HOk h)(i:HOk other)(q:OkS vars st)(R:0<=tick)(h1:tick<=1073741824)(o:zX l vars s)(t:s.kind=4)
  (B:s.key.Nodup) (hp:(doE l s st h tick).pass=true):
  let n:=uI (fld l s.field) (doE l s st h tick).h
  let r:=doE l {s with kind:=5,n:=0,m:=0 } (doE l s st h tick).st (vF (fld l s.field) other n) tick
  s.n<=n/\(n:Int)<=s.m/\r.pass=true/\r.st=(doE l s st h tick).st/\keyOf l s.key r.h=keyOf l s.key h/\(ofE (doE l s st h tick).st s.var).Pairwise (fun x y=>x.n≠y.n):=by
 obtain ⟨m1,m2,m3,m4,C,m6⟩:=o.k4 t;obtain ⟨v,D,v2,v3,V,v5⟩:=o.var;obtain ⟨e1,e2⟩:=V t;have c:v.fam=3:=by rw [v2,t];decide
 have F:=(Dz (l:=l) (vars:=vars) (s:=s) (st:=st) (h:=h) (tick:=tick) j I q R h1 o).1;obtain ⟨N,Z,P,k,G⟩: ∃N:Int,s.n<=N/\N<=s.m/\(doE l s st h tick).st=uS ⟨s.var,keyOf l s.key h,N,tick⟩ st/\(doE l s st h tick).h=wrF l h s.field N:=by
  have b:=hp;unfold doE yB doR at b ⊢;dsimp only at b ⊢;rw [if_neg (show ¬s.kind=0 by omega),if_neg (show ¬s.kind=1 by omega),if_neg (show ¬s.kind=2 by omega),if_neg (show ¬s.kind=3 by omega),if_pos t] at b ⊢;unfold do4 at b ⊢;split at b
  ·cases b
  ·rename_i O;rw [if_neg O];have H:uY (uB st s.var (keyOf l s.key h)) (ofE st s.var)=false/\((uB st s.var (keyOf l s.key h)).isNone&&decide (wb s (uB st s.var (keyOf l s.key h)) (ofE st s.var)>s.m))=false:=by
    simpa only [Bool.or_eq_true,not_or,Bool.not_eq_true] using O
   refine ⟨wb s (uB st s.var (keyOf l s.key h)) (ofE st s.var),?_,?_,rfl,rfl⟩
   ·cases p:uB st s.var (keyOf l s.key h) with
    |none=>exact (xu _ _ _).1
    |some e=>
     obtain ⟨u,E,X⟩:=vP p;obtain ⟨w,g,w2,T,z,Q⟩:=(q.fit e u).ex;rw [E,D] at g;cases g
     have:=(z c).1
     show s.n<=e.n
     omega
   ·cases p:uB st s.var (keyOf l s.key h) with
    |none=>
     have:=H.2
     rw [p] at this;simpa using this
    |some e=>
     obtain ⟨u,E,X⟩:=vP p;obtain ⟨w,g,w2,T,z,Q⟩:=(q.fit e u).ex;rw [E,D] at g;cases g
     have:=(z c).2
     show e.n<=s.m
     omega
 have hpw:=Nat.two_pow_pos (fld l s.field).w;have ew:((2^(fld l s.field).w:Nat):Int)=2^(fld l s.field).w:=by simp
 have U:(uI (fld l s.field) (doE l s st h tick).h:Int)=N:=by rw [G];exact EG j I C (by omega) (by omega)
 have f:=Bo (fld l s.field) (doE l s st h tick).h;have M:=Gp F ⟨v,D,c⟩;dsimp only;generalize hn:uI (fld l s.field) (doE l s st h tick).h=n at *
 have Kv:HOk (vF (fld l s.field) other n):=i.set (Ak j C) f;have A:uI (fld l s.field) (vF (fld l s.field) other n)=n:=C0 (Ak j C) i.len f;have J:(⟨s.var,keyOf l s.key h,N,tick⟩:RE)∈ofE (doE l s st h tick).st s.var:=by
  rw [k];exact List.mem_filter.2 ⟨(wu q.inc).2 (Or.inl rfl),by simp⟩
 have gS:(ofE (doE l s st h tick).st s.var).find? (fun e=>decide (e.n=((uI (fld l s.field) (vF (fld l s.field) other n):Nat):Int)))=some ⟨s.var,keyOf l s.key h,N,tick⟩:=by
  rw [A,U];generalize ofE (doE l s st h tick).st s.var=L at *
  clear k
  induction L with
  |nil=>simp at J
  |cons a r W=>
   obtain ⟨a1,a2⟩:=List.pairwise_cons.1 M;rw [List.find?_cons];rcases List.mem_cons.1 J with e|K
   ·rw [<- e];simp
   ·have:decide (a.n=N)=false:=by simpa using a1 _ K
    rw [this];exact W a2 K
 have Y:doE l {s with kind:=5,n:=0,m:=0 } (doE l s st h tick).st (vF (fld l s.field) other n) tick=⟨vT l s.key (keyOf l s.key h) (vF (fld l s.field) other n),true,(doE l s st h tick).st⟩:=by
  generalize doE l s st h tick=d at *
  show (⟨_,_,_⟩:Dn)=_
  have h5:yB l {s with kind:=5,n:=0,m:=0 } d.st (vF (fld l s.field) other n) tick=(vT l s.key (keyOf l s.key h) (vF (fld l s.field) other n),true,none):=by
   unfold yB doR;dsimp only;rw [if_neg (by decide),if_neg (by decide),if_neg (by decide),if_neg (by decide),if_neg (by decide),if_pos rfl];unfold do5;dsimp only;rw [gS]
  rw [h5];rfl
 rw [Y];refine ⟨by omega,by omega,rfl,rfl,?_,M⟩;exact DV j S Kv o.keys B (BT s.key)
end Go.ST
end
section
namespace Go.STD
open Go Go.DL Go.Proofs
noncomputable def c4:aV:=(sr [oo 10 (.box 10 (tm 3)),oo 11 (.box 10 (tm 4)),oo 14 (.mov kF)] (sr [mv 37 0,mv 38 1,mv 39 2,lA 40 10 10,mv 41 6,oo 42 (.call 8 [(tm 37),(tm 38),(tm 39),(tm 40),(tm 41)]),mv 15 42] (sr [lA 43 10 11,oo 44 (.call 15 [tm 43]),mv 16 44] (.seq (sr [mv 45 15,oo 46 (.not (tm 45)),mv 47 46,mF 48 16 47,oF 49 47 (.not (tm 48)),oo 50 (.pick (tm 47) kT (tm 49)),mv 51 50,mF 52 1 51,oF 53 51 (.len (tm 52)),oF 54 51 (.bin .gtr (tm 53) (Kc 7)),oo 55 (.pick (tm 51) kT (tm 54)),mv 56 55,mF 57 5 56,oF 58 56 (.bin .lss (tm 57) (Kc 0)),oo 59 (.pick (tm 56) kT (tm 58)),mv 60 59,mF 61 5 60,mF 62 1 60,oF 63 60 (.len (tm 62)),oF 64 60 (.bin .geq (tm 61) (tm 63)),oo 65 (.pick (tm 60) kT (tm 64)),mv 66 65,mF 67 1 66,mF 68 5 66,oF 69 66 (.idxL 15 (tm 67) (tm 68)),oF 70 66 (.offA 9 (tm 69)),oF 71 66 (.offA 0 (tm 70)),oF 72 66 (.load 1 false (tm 71)),oF 73 66 (.bin .neq (tm 72) (Kc 4)),oo 74 (.pick (tm 66) kT (tm 73))] (.cond (tm 74) (sr [oo 75 (.call 9 []),mv 14 75] .ret) .skip)) (.seq (.cut (rg [mv 76 1,mv 77 5,ix 78 15 76 77,fa 79 9 78,lA 80 6 79,⟨some 17,.alloc [Z0,S0,.nil,S0,Z0,Z0],none,[]⟩,o0 (.store 6 (tm 17) (tm 80))])) (.seq (sr [oo 18 (.mov (Kc 0))] (.block 0 (.loop (.seq (sr [mv 81 18,fa 82 2 17,ld 83 82,ln 84 83,oo 85 (.bin .lss (tm 81) (tm 84))] (.cond (tm 85) .skip (.exit 0))) (.seq (.block 1 (sr [fa 88 2 17,ld 89 88,mv 90 18,ix 91 1 89 90,ld 92 91,fa 93 3 17,ld 94 93,oo 95 (.bin .eql (tm 92) (tm 94))] (.cond (tm 95) (sr [oo 96 (.call 9 []),mv 14 96] .ret) .skip))) (rg [mv 86 18,oo 87 (.bin .add (tm 86) (Kc 1)),mv 18 87])))))) (.seq (.cut (rg [mv 98 0,lA 99 6 17,mv 100 2,lA 101 10 10,mv 102 6,oo 103 (.call 11 [(tm 98),(tm 99),(tm 100),(tm 101),(tm 102)]),mv 97 103,oo 104 (.ext (tm 97) 0),oo 105 (.ext (tm 97) 1),oo 106 (.ext (tm 97) 2),oo 19 (.alloc [Z0,Z0,Z0,Z0,Z0,Z0,Z0,Z0,Z0,Z0]),o0 (.store 10 (tm 19) (tm 104)),mv 20 105,mv 21 106])) (.seq (sr [mv 107 20,oo 108 (.not (tm 107))] (.cond (tm 108) (sr [oo 109 (.call 9 []),mv 14 109] .ret) .skip)) (.seq (.cut (rg [mv 111 0,fa 112 3 17,ld 113 112,oo 114 (.call 17 [(tm 111),(tm 113)]),mv 110 114,oo 115 (.ext (tm 110) 0),oo 116 (.ext (tm 110) 1),⟨some 22,.alloc [S0,Z0,Z0],none,[]⟩,o0 (.store 3 (tm 22) (tm 115)),mv 23 116])) (.seq (.cut (rg [lA 117 3 22,lA 118 10 19,oo 119 (.call 18 [(tm 117),(tm 118)]),mv 24 119])) (.seq (.cut (rg [lA 120 6 17,⟨some 25,.alloc [Z0,S0,.nil,S0,Z0,Z0],none,[]⟩,o0 (.store 6 (tm 25) (tm 120))])) (sr [fa 121 0 25,o0 (.store 1 (tm 121) (Kc 5))] (sr [fa 122 4 25,o0 (.store 1 (tm 122) (Kc 0))] (sr [fa 123 5 25,o0 (.store 1 (tm 123) (Kc 0))] (.seq (.cut (rg [lA 124 3 22,lA 125 10 11,mv 126 24,oo 127 (.call 19 [(tm 124),(tm 125),(tm 126)]),oo 26 (.alloc [Z0,Z0,Z0,Z0,Z0,Z0,Z0,Z0,Z0,Z0]),o0 (.store 10 (tm 26) (tm 127))])) (.seq (.cut (rg [mv 129 0,lA 130 6 25,mv 131 21,lA 132 10 26,mv 133 6,oo 134 (.call 11 [(tm 129),(tm 130),(tm 131),(tm 132),(tm 133)]),mv 128 134,oo 135 (.ext (tm 128) 0),oo 136 (.ext (tm 128) 1),oo 137 (.ext (tm 128) 2),oo 27 (.alloc [Z0,Z0,Z0,Z0,Z0,Z0,Z0,Z0,Z0,Z0]),o0 (.store 10 (tm 27) (tm 135)),mv 28 136,mv 29 137])) (.seq (.cut (rg [mv 139 0,fa 140 2 17,ld 141 140,lA 142 10 10,oo 143 (.call 20 [(tm 139),(tm 141),(tm 142)]),mv 138 143,oo 144 (.ext (tm 138) 0),oo 145 (.ext (tm 138) 1),mv 30 144,mv 31 145])) (.seq (.cut (rg [mv 147 0,fa 148 2 17,ld 149 148,lA 150 10 27,oo 151 (.call 20 [(tm 147),(tm 149),(tm 150)]),mv 146 151,oo 152 (.ext (tm 146) 0),oo 153 (.ext (tm 146) 1),mv 32 152,mv 33 153])) (.seq (.seq (.cut (rg [mv 154 24,fa 155 4 17,ld 156 155,oo 157 (.bin .lss (tm 154) (tm 156)),mv 158 157,mF 159 24 158,oF 160 158 (.offA 5 (tm 17)),oF 161 158 (.load 1 false (tm 160)),oF 162 158 (.bin .gtr (tm 159) (tm 161)),oo 163 (.pick (tm 158) kT (tm 162)),mv 164 163,mF 165 28 164,oF 166 164 (.not (tm 165)),oo 167 (.pick (tm 164) kT (tm 166)),mv 168 167,mF 169 30 168,mF 170 32 168,oF 171 168 (.call 21 [(tm 169),(tm 170)]),oF 172 168 (.bin .neq (tm 171) (Kc 0)),oo 173 (.pick (tm 168) kT (tm 172)),mv 174 173,mF 175 29 174,mF 176 21 174,oF 177 174 (.call 13 [(tm 175),(tm 176)]),oF 178 174 (.not (tm 177)),oo 179 (.pick (tm 174) kT (tm 178))])) (.cond (tm 179) (sr [oo 14 (.mov kF)] .ret) .skip)) (.seq (.cut (rg [mv 180 21,fa 181 1 17,ld 182 181,oo 183 (.call 22 [(tm 180),(tm 182)]),mv 34 183])) (.seq (sr [oo 35 (.mov (Kc 0))] (.block 2 (.loop (.seq (sr [mv 184 35,mv 185 34,ln 186 185,oo 187 (.bin .lss (tm 184) (tm 186))] (.cond (tm 187) .skip (.exit 2))) (.seq (.block 3 (sr [oo 36 (.mov (Kc 0))] (.block 4 (.loop (.seq (sr [mv 190 36,mv 191 35,oo 192 (.bin .lss (tm 190) (tm 191))] (.cond (tm 192) .skip (.exit 4))) (.seq (.block 5 (sr [mv 195 34,mv 196 35,ix 197 4 195 196,fa 198 2 197,ld 199 198,mv 200 34,mv 201 36,ix 202 4 200 201,fa 203 2 202,ld 204 203,oo 205 (.bin .eql (tm 199) (tm 204))] (.cond (tm 205) (sr [oo 14 (.mov kF)] .ret) .skip))) (rg [mv 193 36,oo 194 (.bin .add (tm 193) (Kc 1)),mv 36 194]))))))) (rg [mv 188 35,oo 189 (.bin .add (tm 188) (Kc 1)),mv 35 189])))))) (sr [oo 206 (.call 9 []),mv 14 206] .ret))))))))))))))))))))))
theorem l4:(Tryz.f4.body.bind (bt Tryz.prog 207 [6000005,6000011,6000014,6000015,6000016,6000020,6000021,6000022,6000023,6000024,6000026]))=some c4:=by kernel_rfl
end Go.STD
end
section
namespace Go.ST
open Go Go.DL Go.MM Go.Proofs
open Go.TY hiding Fd
theorem Js{l:List RF}(f:MM.Checked l):AO (l.map RF.fd):=fun s t b c a=>by
 unfold uu at b c;obtain ⟨F,d⟩:=Option.isSome_iff_exists.1 b;obtain ⟨G,e⟩:=Option.isSome_iff_exists.1 c;rw [zK d,zK e];exact f.GQ d e a
abbrev HS(s:RS):RS:={s with kind:=5,n:=0,m:=0 }
theorem Kn{l:List Fd}{vars:List RV}{s:RS}(h:zX l vars s)(b:s.kind=4):zX l vars (HS s):=by
 obtain ⟨v,d,e,c, -, -⟩:=h.var;refine ⟨show (1:Int)<=5 by decide,show (5:Int)<=6 by decide,h.keys,h.klen,⟨v,d,?_,c,(fun a=>absurd (show (5:Int)=4 from a) (by decide)),(fun a=>absurd (show (5:Int)=6 from a) (by decide))⟩,(fun a=>absurd (show (5:Int)=3 from a) (by decide)),(fun a=>absurd (show (5:Int)=4 from a) (by decide)),(fun _=>(h.k4 b).2.2.2.2.1),(fun a=>absurd (show (5:Int)=6 from a) (by decide))⟩;rw [e,b];show vr 4=vr 5;decide
theorem law_Back(l:List RF)(gs:List RG)(st:List RE)(h other:List Int)(i tick:Int)(a:K9 l gs st h)(hh:other.length=10):DCalls Tryz.prog 4 [ye l,gsT gs,esT st,hd h,hd other,I i,I tick] (.bool true):=by
 refine dl2 mixed [.tmp 14] [.bool true] Tryz.func4 Go.STD.l4 ?_;have O:=HM;have C:=IQ l a.ll a.ln gs a.gl a.gg st (by have:=a.sl;omega) a.sk h a.hl tick;have G:=t11 other hh;have B:(h.map I).length=10:=by rw [List.length_map];exact a.hl
 have A:(other.map I).length=10:=by rw [List.length_map];exact hh
 have hn:((gs.map uE).length:Int)=gs.length:=by rw [List.length_map]
 cases hq:Bb l gs st h tick with
 |false=>
  rw [hq] at C;generalize vS other=b at *
  repeat' ((conv=>whnf);first|refine uc _ (C) ?_|refine uc _ (G) ?_|refine uc _ (O) ?_|refine rb1 ?_|(refine And.intro (by first|exact B|exact A) ?_)|exact trivial)
 |true=>
 rw [hq] at C;cases hrh:vS other with
 |false=>
  rw [hrh] at G
  repeat' ((conv=>whnf);first|refine uc _ (C) ?_|refine uc _ (G) ?_|refine uc _ (O) ?_|refine rb1 ?_|(refine And.intro (by first|exact B|exact A) ?_)|exact trivial)
 |true=>
 rw [hrh] at G
 by_cases l7:((gs.map uE).length:Int)>7
 ·repeat' ((conv=>whnf);first|refine uc _ (C) ?_|refine uc _ (G) ?_|refine uc _ (O) ?_|refine sC l7 ?_|refine rb1 ?_|(refine And.intro (by first|exact B|exact A) ?_)|refine aS ?_|exact trivial)
 by_cases i0:i<0
 ·repeat' ((conv=>whnf);first|refine uc _ (C) ?_|refine uc _ (G) ?_|refine uc _ (O) ?_|refine su l7 ?_|refine sC i0 ?_|refine rb1 ?_|(refine And.intro (by first|exact B|exact A) ?_)|refine aS ?_|exact trivial)
 by_cases i1:i>=((gs.map uE).length:Int)
 ·repeat' ((conv=>whnf);first|refine uc _ (C) ?_|refine uc _ (G) ?_|refine uc _ (O) ?_|refine su l7 ?_|refine su i0 ?_|refine sC i1 ?_|refine rb1 ?_|(refine And.intro (by first|exact B|exact A) ?_)|refine aS ?_|exact trivial)
 obtain ⟨i,rfl⟩:=Int.eq_ofNat_of_zero_le (show 0<=i by omega);have hi:i<gs.length:=by omega
 have Y:(gs.map uE)[i]?.getD .nil= .agg (uw gs[i]):=by simp [hi];rfl
 have hc2:=xS gs[i];have X:=EJ gs[i];have hl9:=Hl gs[i]
 by_cases V:gs[i].st.kind=4
 case neg=>
  generalize gs[i].st.kind=kk at *
  repeat' ((conv=>whnf);first|refine uc _ (C) ?_|refine uc _ (G) ?_|refine uc _ (O) ?_|refine su l7 ?_|refine su i0 ?_|refine su i1 ?_|(refine nv_ (.agg (uw gs[i])) (by first|exact Y) ?_)|(refine nv_ (I kk) (by first|exact X) ?_)|refine sG V ?_|refine rb1 ?_|(refine And.intro (by first|exact B|exact A|exact hl9) ?_)|refine aS ?_|exact trivial)
 have p:=GB a.hl hq;have F:=p.hh;have E:HOk other:=⟨hh,hrh⟩
 have hvs:=B6 p.ck.ok p.fits;have hvl:(wL (l.map RF.fd) gs).length<=1000:=by
  have K:=Bg (l:=l.map RF.fd) (gs:=gs);omega
 have hnz:gs[i].st.kind≠0:=by omega
 have S:=Ef p.fits (List.getElem_mem hi) hnz;have SP:=B2 (p.fits.st gs[i] (List.getElem_mem hi)) hnz;have SB:=Kn S V;have hap:=Js p.ck;have u:=p.ck.ok;have hno:=H3 p.ck;have hst:=p.st;have ht0:=p.t0;have ht1:=p.t1;obtain ⟨n1, -,o1,u1, -, -⟩:=p.at (List.getElem_mem hi) hst F;have hfd:=p.ck.fds;rw [hfd] at C ⊢;rw [V] at X;clear hfd hq a p;generalize l.map RF.fd=L at *
 generalize wL L gs=vars at *
 generalize hs:gs[i].st=s at *
 obtain ⟨sk,g,c,f,m,q⟩:=s;have Mq:sk=4:=V;subst Mq;have hnd:c.Nodup:=SP.nd;have hkf: ∀k∈c,uu L k=true:=S.keys;have hkl:c.length<=1000:=S.klen;have hff:uu L f=true:=(S.k4 rfl).2.2.2.2.1;have hFo:FOk (MM.fld L f):=Ak u hff;have D:=zT L u f;rw [hff] at D;have hcs:uA ⟨4,g,c,f,m,q⟩=[I 4,.str g,.slice 1 (c.map .str),.str f,I m,I q]:=rfl;rw [hcs] at hc2;have hbk:(doE L ⟨4,g,c,f,m,q⟩ st h tick).pass=true->m<=(uI (MM.fld L f) (doE L ⟨4,g,c,f,m,q⟩ st h tick).h:Int)/\(uI (MM.fld L f) (doE L ⟨4,g,c,f,m,q⟩ st h tick).h:Int)<=q/\(doE L ⟨5,g,c,f,0,0⟩ (doE L ⟨4,g,c,f,m,q⟩ st h tick).st (vF (MM.fld L f) other (uI (MM.fld L f) (doE L ⟨4,g,c,f,m,q⟩ st h tick).h)) tick).pass=true/\(doE L ⟨5,g,c,f,0,0⟩ (doE L ⟨4,g,c,f,m,q⟩ st h tick).st (vF (MM.fld L f) other (uI (MM.fld L f) (doE L ⟨4,g,c,f,m,q⟩ st h tick).h)) tick).st=(doE L ⟨4,g,c,f,m,q⟩ st h tick).st/\keyOf L c (doE L ⟨5,g,c,f,0,0⟩ (doE L ⟨4,g,c,f,m,q⟩ st h tick).st (vF (MM.fld L f) other (uI (MM.fld L f) (doE L ⟨4,g,c,f,m,q⟩ st h tick).h)) tick).h=keyOf L c h/\(ofE (doE L ⟨4,g,c,f,m,q⟩ st h tick).st g).Pairwise (fun x y=>x.n≠y.n):=fun hp=>Ij (other:=other) u hap F E hst ht0 ht1 S rfl hnd hp
 have P:=FK L u c hkf (by omega) h F;have gU:=t57 (MM.fld L f) hFo _ u1;have hgl:=Bo (MM.fld L f) (doE L ⟨4,g,c,f,m,q⟩ st h tick).h;have tN:=t52 (MM.fld L f) hFo other E (uI (MM.fld L f) (doE L ⟨4,g,c,f,m,q⟩ st h tick).h) hgl;have R:=E.set hFo hgl;have NV:(doE L ⟨4,g,c,f,m,q⟩ st h tick).st.length<=200000:=by have:=o1.len;omega
 have n2:=HG (Fa u hno R o1 (by omega) ht0 ht1 SB) (o1.kok hvs);obtain ⟨o2,u2, -, -⟩:=Dz u R o1 ht0 ht1 SB;have z:=FK L u c hkf (by omega) _ u2;have hsk:=o1.kok hvs;have c1:=JY _ _ (show (doE L ⟨4,g,c,f,m,q⟩ st h tick).st.length<2^40 by omega) (show (doE L ⟨4,g,c,f,m,q⟩ st h tick).st.length<2^40 by omega) hsk hsk;rw [decide_eq_true rfl] at c1;have c2:=J8 (doE L ⟨4,g,c,f,m,q⟩ st h tick).st g (by omega);have hoL:(ofE (doE L ⟨4,g,c,f,m,q⟩ st h tick).st g).length<2^40:=Nat.lt_of_le_of_lt (List.length_filter_le _ _) (by omega);have c3:=Ba (keyOf L c h) (keyOf L c h) (by unfold keyOf;rw [List.length_map];omega) (by unfold keyOf;rw [List.length_map];omega);rw [xf.2 rfl] at c3;have hbb:HS ⟨4,g,c,f,m,q⟩=⟨5,g,c,f,0,0⟩:=rfl;rw [hbb] at n2 z u2;generalize doE L ⟨4,g,c,f,m,q⟩ st h tick=d at *
 obtain ⟨dh,dp,ds⟩:=d;dsimp only at *
 generalize uI (MM.fld L f) dh=n at *
 generalize vF (MM.fld L f) other n=fr at *
 generalize doE L ⟨5,g,c,f,0,0⟩ ds fr tick=e at *
 obtain ⟨eh,ep,v⟩:=e;dsimp only at *
 obtain ⟨x0,x1,x2,x3,x4,x5,x6,x7,x8,x9,rfl⟩:=ten F;obtain ⟨U,Q,N,H,J,W,y6,y7,y8,M,rfl⟩:=ten E;obtain ⟨p0,p1,p2,p3,p4,p5,p6,p7,p8,p9,rfl⟩:=ten u1;obtain ⟨q0,q1,q2,q3,q4,q5,q6,q7,q8,q9,rfl⟩:=ten u2;obtain ⟨z0,z1,z2,z3,z4,z5,z6,z7,z8,z9,rfl⟩:=ten R;have i0':=i0
 repeat' ((conv=>whnf);first|refine uc _ (C) ?_|refine uc _ (G) ?_|refine su l7 ?_|refine su i0 ?_|refine su i1 ?_|(refine nv_ (.agg (uw gs[i])) (by first|exact Y) ?_)|(refine nv_ (I 4) (by first|exact X) ?_)|(refine And.intro (by first|exact hl9) ?_)|refine aS ?_|fail)
 refine tV (β:=Unit) (fun _=>{sl:=[(0,.t (fds L)),(2,.t (esT st)),(6,.t (I tick)),(10,.ptr 10 0),(11,.ptr 11 0),(17,.ptr 17 0)],bx:=[(10,.d 10 [I x0,I x1,I x2,I x3,I x4,I x5,I x6,I x7,I x8,I x9]),(11,.d 10 [I U,I Q,I N,I H,I J,I W,I y6,I y7,I y8,I M]),(17,.d 6 [I 4,.str g,.slice 1 (c.map .str),.str f,I m,I q])]}) (fun _=>True) ?_ ?_
 ·repeat' ((conv=>whnf);first|(refine nv_ (.agg (uw gs[i])) (by first|exact Y) ?_)|(refine nv_ (.agg [I 4,.str g,.slice 1 (c.map .str),.str f,I m,I q]) (by first|exact congrArg T.agg hc2) ?_)|(exact ⟨(),trivial,by (repeat' (first|(refine JS rfl ?_)|(exact (C7 rfl).symm)|exact wJ|refine And.intro ?_ ?_));done⟩)|(refine And.intro (by first|exact wD _|exact ⟨rfl,nlZ rfl⟩) ?_)|refine aS ?_|fail)
 rintro _ _;clear Y hc2 X hl9 C G i0 i1 i0' l7 hn
 skip
 refine tx 0 (α:=Nat) (β:=Unit) (fun j=>{sl:=[(0,.t (fds L)),(2,.t (esT st)),(6,.t (I tick)),(10,.ptr 10 0),(11,.ptr 11 0),(17,.ptr 17 0),(18,.t (I j))],bx:=[(10,.d 10 [I x0,I x1,I x2,I x3,I x4,I x5,I x6,I x7,I x8,I x9]),(11,.d 10 [I U,I Q,I N,I H,I J,I W,I y6,I y7,I y8,I M]),(17,.d 6 [I 4,.str g,.slice 1 (c.map .str),.str f,I m,I q])]})
  (fun j=>j<=c.length) (fun j=>c.length - j) (fun _=>{sl:=[(0,.t (fds L)),(2,.t (esT st)),(6,.t (I tick)),(10,.ptr 10 0),(11,.ptr 11 0),(17,.ptr 17 0)],bx:=[(10,.d 10 [I x0,I x1,I x2,I x3,I x4,I x5,I x6,I x7,I x8,I x9]),(11,.d 10 [I U,I Q,I N,I H,I J,I W,I y6,I y7,I y8,I M]),(17,.d 6 [I 4,.str g,.slice 1 (c.map .str),.str f,I m,I q])]}) (fun _=>True) 0 (by simp) ?_ ?_ ?_
 ·repeat' (first|exact wJ|refine And.intro ?_ ?_)
 ·rintro j hj;have hkn:((c.map T.str).length:Int)=c.length:=by rw [List.length_map]
  rcases Nat.lt_or_ge j c.length with K|K
  ·have r:(j:Int)<((c.map T.str).length:Int):=by omega
   have hgk:(c.map T.str)[j]?.getD .nil= .str c[j]:=by simp [K]
   have hE:=eqS c[j] f;have hnx:((j+1:Nat):Int)=IntKind.wrap .i64 ((j:Int)+1):=by rw [nW] <;> omega
   have hmu:c.length - (j+1)<c.length - j:=by omega
   by_cases hc:c[j]=f
   ·rw [decide_eq_true hc] at hE
    repeat' ((conv=>whnf);first|exact trivial|refine sC r ?_|(refine nv_ (.str c[j]) (by first|exact hgk) ?_)|refine nb_ _ hE ?_|refine uc _ (O) ?_|refine rb1 ?_|refine aS ?_|refine nT_ ?_)
   ·rw [decide_eq_false hc] at hE
    repeat' ((conv=>whnf);first|refine sC r ?_|(refine nv_ (.str c[j]) (by first|exact hgk) ?_)|refine nb_ _ hE ?_|(exact ⟨j+1,K,hmu,by (repeat' (first|(exact leI hnx)|exact wJ|refine And.intro ?_ ?_));done⟩)|refine aS ?_|refine nT_ ?_)
  ·have r: ¬(j:Int)<((c.map T.str).length:Int):=by omega
   repeat' ((conv=>whnf);first|refine su r ?_|(exact ⟨(),trivial,by (repeat' (first|exact wJ|refine And.intro ?_ ?_));done⟩)|refine aS ?_|refine nT_ ?_)
 rintro _ _;have n1:DCalls Tryz.prog 11 [fds L,.agg [I 4,.str g,.slice 1 (c.map .str),.str f,I m,I q],esT st,.agg [I x0,I x1,I x2,I x3,I x4,I x5,I x6,I x7,I x8,I x9],I tick] (.tup [.agg [I p0,I p1,I p2,I p3,I p4,I p5,I p6,I p7,I p8,I p9],.bool dp,esT ds]):=n1
 skip
 refine tV (β:=Unit) (fun _=>{sl:=[(0,.t (fds L)),(6,.t (I tick)),(10,.ptr 10 0),(11,.ptr 11 0),(17,.ptr 17 0),(19,.ptr 19 0),(20,.t (.bool dp)),(21,.t (esT ds))],bx:=[(10,.d 10 [I x0,I x1,I x2,I x3,I x4,I x5,I x6,I x7,I x8,I x9]),(11,.d 10 [I U,I Q,I N,I H,I J,I W,I y6,I y7,I y8,I M]),(17,.d 6 [I 4,.str g,.slice 1 (c.map .str),.str f,I m,I q]),(19,.d 10 [I p0,I p1,I p2,I p3,I p4,I p5,I p6,I p7,I p8,I p9])]}) (fun _=>True) ?_ ?_
 ·repeat' ((conv=>whnf);first|refine uc _ (n1) ?_|(exact ⟨(),trivial,by (repeat' (first|exact wJ|refine And.intro ?_ ?_));done⟩)|refine aS ?_|fail)
 rintro _ _;clear n1;cases dp with
 |false=>repeat' ((conv=>whnf);first|refine uc _ (O) ?_|refine rb1 ?_|exact trivial)
 |true=>
 obtain ⟨b1,b2,rfl,rfl,b5,b6⟩:=hbk rfl;clear hbk;rw [b5] at z;generalize hkx:keyOf L c [x0,x1,x2,x3,x4,x5,x6,x7,x8,x9]=kx at *
 generalize ofE v g=o at *
 have n2:DCalls Tryz.prog 11 [fds L,.agg [I 5,.str g,.slice 1 (c.map .str),.str f,I 0,I 0],esT v,.agg [I z0,I z1,I z2,I z3,I z4,I z5,I z6,I z7,I z8,I z9],I tick] (.tup [.agg [I q0,I q1,I q2,I q3,I q4,I q5,I q6,I q7,I q8,I q9],.bool true,esT v]):=n2;have P:DCalls Tryz.prog 20 [fds L,.slice 1 (c.map .str),.agg [I x0,I x1,I x2,I x3,I x4,I x5,I x6,I x7,I x8,I x9]] (.tup [.slice 1 (kx.map I),.bool true]):=P;have z:DCalls Tryz.prog 20 [fds L,.slice 1 (c.map .str),.agg [I q0,I q1,I q2,I q3,I q4,I q5,I q6,I q7,I q8,I q9]] (.tup [.slice 1 (kx.map I),.bool true]):=z;have gU:DCalls Tryz.prog 18 [fdc L f,.agg [I p0,I p1,I p2,I p3,I p4,I p5,I p6,I p7,I p8,I p9]] (I n):=gU;have tN:DCalls Tryz.prog 19 [fdc L f,.agg [I U,I Q,I N,I H,I J,I W,I y6,I y7,I y8,I M],I n] (.agg [I z0,I z1,I z2,I z3,I z4,I z5,I z6,I z7,I z8,I z9]):=tN;obtain ⟨fn,fa,fw,Z⟩: ∃(fn:ByteArray) (fa fw:Int),[T.str (MM.fld L f).name,I (MM.fld L f).a,I (MM.fld L f).w]=[T.str fn,I fa,I fw]:=⟨_,_,_,rfl⟩
 have D:DCalls Tryz.prog 17 [fds L,.str f] (.tup [.agg [.str fn,I fa,I fw],.bool true]):=by rw [<- Z];exact D
 have gU:DCalls Tryz.prog 18 [.agg [.str fn,I fa,I fw],.agg [I p0,I p1,I p2,I p3,I p4,I p5,I p6,I p7,I p8,I p9]] (I n):=by rw [<- Z];exact gU
 have tN:DCalls Tryz.prog 19 [.agg [.str fn,I fa,I fw],.agg [I U,I Q,I N,I H,I J,I W,I y6,I y7,I y8,I M],I n] (.agg [I z0,I z1,I z2,I z3,I z4,I z5,I z6,I z7,I z8,I z9]):=by rw [<- Z];exact tN
 clear Z hkx b5 S SP SB hap R o1 o2 u1 u2 hgl F E
 skip
 refine tV (β:=Unit) (fun _=>{sl:=[(0,.t (fds L)),(6,.t (I tick)),(10,.ptr 10 0),(11,.ptr 11 0),(17,.ptr 17 0),(19,.ptr 19 0),(21,.t (esT v)),(22,.ptr 22 0)],bx:=[(10,.d 10 [I x0,I x1,I x2,I x3,I x4,I x5,I x6,I x7,I x8,I x9]),(11,.d 10 [I U,I Q,I N,I H,I J,I W,I y6,I y7,I y8,I M]),(17,.d 6 [I 4,.str g,.slice 1 (c.map .str),.str f,I m,I q]),(19,.d 10 [I p0,I p1,I p2,I p3,I p4,I p5,I p6,I p7,I p8,I p9]),(22,.d 3 [.str fn,I fa,I fw])]}) (fun _=>True) ?_ ?_
 ·repeat' ((conv=>whnf);first|refine uc _ (D) ?_|(exact ⟨(),trivial,by (repeat' (first|exact wJ|refine And.intro ?_ ?_));done⟩)|refine aS ?_|refine nT_ ?_)
 rintro _ _
 skip
 refine tV (β:=Unit) (fun _=>{sl:=[(0,.t (fds L)),(6,.t (I tick)),(10,.ptr 10 0),(11,.ptr 11 0),(17,.ptr 17 0),(19,.ptr 19 0),(21,.t (esT v)),(22,.ptr 22 0),(24,.t (I n))],bx:=[(10,.d 10 [I x0,I x1,I x2,I x3,I x4,I x5,I x6,I x7,I x8,I x9]),(11,.d 10 [I U,I Q,I N,I H,I J,I W,I y6,I y7,I y8,I M]),(17,.d 6 [I 4,.str g,.slice 1 (c.map .str),.str f,I m,I q]),(19,.d 10 [I p0,I p1,I p2,I p3,I p4,I p5,I p6,I p7,I p8,I p9]),(22,.d 3 [.str fn,I fa,I fw])]}) (fun _=>True) ?_ ?_
 ·repeat' ((conv=>whnf);first|refine uc _ (gU) ?_|(exact ⟨(),trivial,by (repeat' (first|exact wJ|refine And.intro ?_ ?_));done⟩)|fail)
 rintro _ _
 skip
 refine tV (β:=Unit) (fun _=>{sl:=[(0,.t (fds L)),(6,.t (I tick)),(10,.ptr 10 0),(11,.ptr 11 0),(17,.ptr 17 0),(19,.ptr 19 0),(21,.t (esT v)),(22,.ptr 22 0),(24,.t (I n)),(25,.ptr 25 0)],bx:=[(10,.d 10 [I x0,I x1,I x2,I x3,I x4,I x5,I x6,I x7,I x8,I x9]),(11,.d 10 [I U,I Q,I N,I H,I J,I W,I y6,I y7,I y8,I M]),(17,.d 6 [I 4,.str g,.slice 1 (c.map .str),.str f,I m,I q]),(19,.d 10 [I p0,I p1,I p2,I p3,I p4,I p5,I p6,I p7,I p8,I p9]),(22,.d 3 [.str fn,I fa,I fw]),(25,.d 6 [I 4,.str g,.slice 1 (c.map .str),.str f,I m,I q])]}) (fun _=>True) ?_ ?_
 ·repeat' ((conv=>whnf);first|(exact ⟨(),trivial,by (repeat' (first|exact wJ|refine And.intro ?_ ?_));done⟩)|refine aS ?_|fail)
 rintro _ _
 repeat' ((conv=>whnf);first|refine aS ?_|fail)
 refine tV (β:=Unit) (fun _=>{sl:=[(0,.t (fds L)),(6,.t (I tick)),(10,.ptr 10 0),(17,.ptr 17 0),(21,.t (esT v)),(24,.t (I n)),(25,.ptr 25 0),(26,.ptr 26 0)],bx:=[(10,.d 10 [I x0,I x1,I x2,I x3,I x4,I x5,I x6,I x7,I x8,I x9]),(17,.d 6 [I 4,.str g,.slice 1 (c.map .str),.str f,I m,I q]),(25,.d 6 [I 5,.str g,.slice 1 (c.map .str),.str f,I 0,I 0]),(26,.d 10 [I z0,I z1,I z2,I z3,I z4,I z5,I z6,I z7,I z8,I z9])]}) (fun _=>True) ?_ ?_
 ·repeat' ((conv=>whnf);first|refine uc _ (tN) ?_|(exact ⟨(),trivial,by (repeat' (first|exact wJ|refine And.intro ?_ ?_));done⟩)|refine aS ?_|fail)
 rintro _ _
 skip
 refine tV (β:=Unit) (fun _=>{sl:=[(0,.t (fds L)),(6,.t (I tick)),(10,.ptr 10 0),(17,.ptr 17 0),(21,.t (esT v)),(24,.t (I n)),(27,.ptr 27 0),(28,.t (.bool true)),(29,.t (esT v))],bx:=[(10,.d 10 [I x0,I x1,I x2,I x3,I x4,I x5,I x6,I x7,I x8,I x9]),(17,.d 6 [I 4,.str g,.slice 1 (c.map .str),.str f,I m,I q]),(27,.d 10 [I q0,I q1,I q2,I q3,I q4,I q5,I q6,I q7,I q8,I q9])]}) (fun _=>True) ?_ ?_
 ·repeat' ((conv=>whnf);first|refine uc _ (n2) ?_|(exact ⟨(),trivial,by (repeat' (first|exact wJ|refine And.intro ?_ ?_));done⟩)|refine aS ?_|fail)
 rintro _ _
 skip
 refine tV (β:=Unit) (fun _=>{sl:=[(0,.t (fds L)),(6,.t (I tick)),(10,.ptr 10 0),(17,.ptr 17 0),(21,.t (esT v)),(24,.t (I n)),(27,.ptr 27 0),(28,.t (.bool true)),(29,.t (esT v)),(30,.t (.slice 1 (kx.map I)))],bx:=[(10,.d 10 [I x0,I x1,I x2,I x3,I x4,I x5,I x6,I x7,I x8,I x9]),(17,.d 6 [I 4,.str g,.slice 1 (c.map .str),.str f,I m,I q]),(27,.d 10 [I q0,I q1,I q2,I q3,I q4,I q5,I q6,I q7,I q8,I q9])]}) (fun _=>True) ?_ ?_
 ·repeat' ((conv=>whnf);first|refine uc _ (P) ?_|(exact ⟨(),trivial,by (repeat' (first|exact wJ|refine And.intro ?_ ?_));done⟩)|refine aS ?_|refine nT_ ?_)
 rintro _ _
 skip
 refine tV (β:=Unit) (fun _=>{sl:=[(0,.t (fds L)),(6,.t (I tick)),(10,.ptr 10 0),(17,.ptr 17 0),(21,.t (esT v)),(24,.t (I n)),(28,.t (.bool true)),(29,.t (esT v)),(30,.t (.slice 1 (kx.map I))),(32,.t (.slice 1 (kx.map I)))],bx:=[(10,.d 10 [I x0,I x1,I x2,I x3,I x4,I x5,I x6,I x7,I x8,I x9]),(17,.d 6 [I 4,.str g,.slice 1 (c.map .str),.str f,I m,I q])]}) (fun _=>True) ?_ ?_
 ·repeat' ((conv=>whnf);first|refine uc _ (z) ?_|(exact ⟨(),trivial,by (repeat' (first|exact wJ|refine And.intro ?_ ?_));done⟩)|refine aS ?_|refine nT_ ?_)
 rintro _ _
 skip
 refine tV (β:=Unit) (fun _=>{sl:=[(17,.ptr 17 0),(21,.t (esT v)),(179,.t (.bool false))],bx:=[(17,.d 6 [I 4,.str g,.slice 1 (c.map .str),.str f,I m,I q])]}) (fun _=>True) ?_ ?_
 ·repeat' ((conv=>whnf);first|refine uc _ (c1) ?_|refine uc _ (c3) ?_|(exact ⟨(),trivial,by (repeat' (first|exact wJ|refine And.intro ?_ ?_));done⟩)|refine aE0 ?_|refine aD0 ?_|refine aS ?_|refine nT_ ?_)
 rintro _ _
 skip
 refine tV (β:=Unit) (fun _=>{sl:=[(34,.t (esT o))],bx:=[]}) (fun _=>True) ?_ ?_
 ·repeat' ((conv=>whnf);first|refine uc _ (c2) ?_|(exact ⟨(),trivial,by (repeat' (first|exact wJ|refine And.intro ?_ ?_));done⟩)|refine aS ?_|refine nT_ ?_)
 rintro _ _;clear D gU tN n2 P z c1 c2 c3;have hon:((o.map um).length:Int)=o.length:=by rw [List.length_map]
 have hol:o.length<2^40:=hoL
 skip
 refine tx 2 (α:=Nat) (β:=Unit) (fun i=>{sl:=[(34,.t (esT o)),(35,.t (I i))],bx:=[]}) (fun i=>i<=o.length) (fun i=>o.length - i) (fun _=>{sl:=[],bx:=[]}) (fun _=>True) 0 (by simp) ?_ ?_ ?_
 ·repeat' (first|exact wJ|refine And.intro ?_ ?_)
 ·rintro i hi;rcases Nat.lt_or_ge i o.length with K|K
  ·have r:(i:Int)<((o.map um).length:Int):=by omega
   have hnx:((i+1:Nat):Int)=IntKind.wrap .i64 ((i:Int)+1):=by rw [nW] <;> omega
   have hmu:o.length - (i+1)<o.length - i:=by omega
   repeat' ((conv=>whnf);first|refine sC r ?_|refine aS ?_|fail)
   refine tx 4 (α:=Nat) (β:=Unit) (fun j=>{sl:=[(34,.t (esT o)),(35,.t (I i)),(36,.t (I j))],bx:=[]}) (fun j=>j<=i) (fun j=>i - j) (fun _=>{sl:=[(34,.t (esT o)),(35,.t (I i))],bx:=[]}) (fun _=>True) 0 (by simp) ?_ ?_ ?_
   ·repeat' (first|exact wJ|refine And.intro ?_ ?_)
   ·rintro j hj;rcases Nat.lt_or_ge j i with h3|h3
    ·have vE:(j:Int)<(i:Int):=by omega
     have hj2:j<o.length:=by omega
     have hne:o[i].n≠o[j].n:=fun e=>List.pairwise_iff_getElem.1 b6 j i hj2 K h3 e.symm
     have hgi:=uP K;have hgj:=uP hj2;have hei:((o.map um)[i]?.getD .nil).cells[2]?.getD .nil=I o[i].n:=by rw [hgi];rfl
     have hej:((o.map um)[j]?.getD .nil).cells[2]?.getD .nil=I o[j].n:=by rw [hgj];rfl
     have He:((j+1:Nat):Int)=IntKind.wrap .i64 ((j:Int)+1):=by rw [nW] <;> omega
     have Mt:i - (j+1)<i - j:=by omega
     repeat' ((conv=>whnf);first|refine sC vE ?_|(refine nv_ (.agg (uk o[i])) (by first|exact hgi) ?_)|(refine nv_ (.agg (uk o[j])) (by first|exact hgj) ?_)|refine sD hne ?_|(exact ⟨j+1,h3,Mt,by (repeat' (first|(exact leI He)|exact wJ|refine And.intro ?_ ?_));done⟩)|refine aS ?_|refine nT_ ?_)
    ·have vE: ¬(j:Int)<(i:Int):=by omega
     repeat' ((conv=>whnf);first|refine su vE ?_|(exact ⟨(),trivial,by (repeat' (first|exact wJ|refine And.intro ?_ ?_));done⟩)|refine aS ?_|fail)
   ·rintro _ _
    repeat' ((conv=>whnf);first|(exact ⟨i+1,K,hmu,by (repeat' (first|(exact leI hnx)|exact wJ|refine And.intro ?_ ?_));done⟩)|fail)
  ·have r: ¬(i:Int)<((o.map um).length:Int):=by omega
   repeat' ((conv=>whnf);first|refine su r ?_|(exact ⟨(),trivial,by (repeat' (first|exact wJ|refine And.intro ?_ ?_));done⟩)|refine aS ?_|fail)
 ·rintro _ _
  repeat' ((conv=>whnf);first|refine uc _ (O) ?_|refine rb1 ?_|exact trivial)
end Go.ST
end
section
end
section
namespace Go.MM
open Go Go.DL Go.Proofs
theorem aInt{us:List T}(h:cB Tryz.prog 3 us): ∃n,mkT Tryz.prog 3 us=I n:=by
 obtain ⟨n,rfl,_⟩:=wo h;exact ⟨n,by unfold mkT;rw [Tryz.underlying3];rfl⟩
theorem aHead{us:List T}(h:cB Tryz.prog 27 us): ∃h,mkT Tryz.prog 27 us=hd h/\h.length=10:=by
 obtain ⟨x,rfl,a,_⟩:=IE h;exact ⟨x,Nz _,a⟩
theorem aFields{us:List T}(h:cB Tryz.prog 22 us)(d:aQ us<=1048576): ∃l,Les (mkT Tryz.prog 22 us) (ye l)/\l.length<2^60/\ ∀f∈l,f.name.size<2^62:=by
 obtain ⟨l,a,e,c⟩:=Gy h;exact ⟨l,a,by omega,fun f b=>by have:=c f b;omega⟩
end Go.MM
end
section
namespace Go.ST
open Go Go.DL Go.MM Go.Proofs
open Go.TY hiding Fd
def typesS:List TypeId:=[22,54,36,34,39,37,42,40,44,24,30,67,59,25,64,27,9,3,4]
theorem typesS_ok:eW Tryz.prog typesS=true:=by kernel_rfl
theorem Dv:Tryz.prog.cellsOf 64=4:=by kernel_rfl
theorem KM(us:List T):mkT Tryz.prog 64 us= .agg us:=by unfold mkT;rw [Tryz.underlying64]
theorem KB{us:List T}(h:us.length=4): ∃a b c d,us=[a,b,c,d]:=by
 match us,h with
 |[a,b,c,d],_=>exact ⟨a,b,c,d,rfl⟩
theorem Hv{us:List T}(h:cB Tryz.prog 64 us): ∃e:RE,dn us (uk e)/\e.key.length<aQ us:=by
 cases h with
 |struct h us o f=>
  rw [Tryz.underlying64] at h;cases h;rw [Dv] at o;obtain ⟨a,b,c,d,rfl⟩:=KB o;have j:=f ⟨ "Var",9,0,false, "", "",0⟩ (by simp);have i:=f ⟨ "Key",59,1,false, "", "",16⟩ (by simp);have g:=f ⟨ "N",3,2,false, "", "",40⟩ (by simp);have k:=f ⟨ "At",3,3,false, "", "",48⟩ (by simp);simp only [yN,zH,F5,List.drop,List.take] at j i g k;obtain ⟨v,e0⟩:=yX j;obtain ⟨l,r,s⟩:=I8 i;obtain ⟨n,q,_⟩:=wo g;obtain ⟨m,p,_⟩:=wo k;simp only [List.cons.injEq,and_true] at e0 q p;subst e0;subst q;subst p;refine ⟨⟨v,l,n,m⟩,.cons (Les.refl _) rfl (dn.append (us:=[T.slice 1 (l.map I)]) r (.cons (Les.refl _) rfl (.cons (Les.refl _) rfl .nil))),?_⟩;simp only [aQ,T.bulk] at s ⊢;show l.length<_
  omega
 |int h|bool h|str h|nil h|slice h|array h=>rw [Tryz.underlying64] at h;cases h
theorem aEnts{us:List T}(h:cB Tryz.prog 25 us)(g:aQ us<=1048576): ∃st:List RE,Les (mkT Tryz.prog 25 us) (esT st)/\st.length<=1048576/\ ∀e∈st,kOk e:=by
 have e: ∀t,mkT Tryz.prog 25 [t]=t:=fun t=>by unfold mkT;rw [u9];rfl
 cases h with
 |nil h=>exact ⟨[],by rw [e];exact Les.nil 4,by simp,by simp⟩
 |slice h xs c q=>
  rw [u9] at h;cases h;rw [e,Dv];have n:xs.map (mkT Tryz.prog 64)=xs.map .agg:=List.map_congr_left fun x _=>KM x
  rw [n] at g ⊢;simp only [aQ,T.bulk] at g;have key: ∃l:List RE,l.length=xs.length/\l.length<=aQ (xs.map .agg)/\(∀ r∈l,kOk r)/\ ∀(i:Nat) x (r:RE),xs[i]? =some x->l[i]? =some r->dn x (uk r):=by
   clear q n
   induction xs with
   |nil=>exact ⟨[],rfl,by simp,by simp,by simp⟩
   |cons x xs p=>
    simp only [List.map_cons,aQ,T.bulk] at g;obtain ⟨r,u,v⟩:=Hv (c x (by simp));obtain ⟨l,k1,k2,f,k⟩:=p (fun y a=>c y (by simp [a])) (by omega);refine ⟨r::l,by simp [k1],by simp only [List.map_cons,aQ,T.bulk,List.length_cons];omega,fun s b=>?_,fun i y s a b=>?_⟩
    ·rcases List.mem_cons.1 b with rfl|b
     ·show s.key.length<2^60
      omega
     ·exact f s b
    ·cases i with
     |zero=>simp at a b;subst a;subst b;exact u
     |succ i=>exact k i y s (by simpa using a) (by simpa using b)
  obtain ⟨l,k1,k2,f,k⟩:=key;refine ⟨l,Les.slice (by simp [k1]) fun i x y c a=>?_,by omega,f⟩;rw [List.getElem?_map] at c a;obtain ⟨o,j,rfl⟩:=Option.map_eq_some_iff.1 c;obtain ⟨m,d,rfl⟩:=Option.map_eq_some_iff.1 a;exact ⟨k i o m j d,uo m⟩
 |int h|bool h|str h|array h|struct h=>rw [u9] at h;cases h
theorem aProgS{us:List T}(h:cB Tryz.prog 24 us)(d:aQ us<=1048576): ∃gs:List RG,Les (mkT Tryz.prog 24 us) (.slice 15 (gs.map uE))/\gs.length<=1048576/\ ∀g∈gs,SmG (2^39) g:=by
 obtain ⟨gs,a,e,c⟩:=Ja h;exact ⟨gs,a,by omega,fun g b=>by
  have:=c g b
  exact ⟨this.st.mono (by omega),by have:=this.wt;omega,fun _=>this.names (by omega)⟩⟩
end Go.ST
end
