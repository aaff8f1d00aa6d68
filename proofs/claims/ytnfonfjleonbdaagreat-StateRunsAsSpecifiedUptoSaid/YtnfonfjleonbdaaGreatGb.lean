/- Joined by program: parts of a data level over the model, of the program's functions over it, and of the statement's proof. -/
import Derived.Test.YtnfonfjleonbdaaGreatGa
import Derived.Lib.ConvBytes
import Derived.Laws.BytesArg
import Derived.Laws.CopyRow
import Derived.Laws.IdiomCopy
import Derived.Laws.MakeOwn
import Derived.Lib.AtoiErrMem
import Derived.Deep.AppendSrc
import Derived.Deep.Upon
import Derived.Laws.NewFold
import Derived.Scope
section
namespace Go.DL
open Go.RowKit
section
variable [Glb]{P:Program}{N:Nat}{w0:World}{S0:aa}{o:Oper}{a:Act}{E:Env}{st:St}
def Sx(E:Env)(rd:List Nat):ar:=fun b o=>E.S b o\/ ∃n∈rd,E.live n=true/\b=E.κ n
end
section
variable {P:Program}{N:Nat}{w0:World}{S0:aa}{o:Oper}{a:Act}{E:Env}{st:St}
theorem gy{E:Env}{r c:List Nat}(h: ∀n∈r,n∈c): ∀b o,Sx E r b o->Sx E c b o:=by
 rintro b o (d|⟨n,f,e⟩)
 ·exact .inl d
 ·exact .inr ⟨n,h n f,e⟩
end
section
variable [Glb]{P:Program}{N:Nat}{w0:World}{S0:aa}{o:Oper}{a:Act}{E:Env}{st:St}
theorem SR.rH{b:Array Value}(h:SR N w0 S0 E st b)(rd:List Nat):bH (Sx E rd) E.w:=h.jq.up (fun _ _ c=>.inl c) (Below.refl _ _)
end
section
variable {P:Program}{N:Nat}{w0:World}{S0:aa}{o:Oper}{a:Act}{E:Env}{st:St}
theorem eM: ∀{l:List T},(∀ t∈l,t.one=true)->l.flatMap T.cells=l
 |[],_=>rfl
 |t::l,h=>by rw [List.flatMap_cons,T.cells_one (h t (by simp)),eM (fun u b=>h u (List.mem_cons_of_mem _ b))];rfl
theorem jK: ∀{vs:List V} {ts:List T},eO vs=some ts->vs.length=ts.length/\ ∀(i:Nat) (v:V) (t:T),vs[i]? =some v->ts[i]? =some t->asT v=some t
 |[],ts,h=>by simp [eO] at h;subst h;exact ⟨rfl,fun i v t b=>by simp at b⟩
 |v::vs,ts,h=>by
  unfold eO at h;split at h
  ·rename_i x xs g d;cases h;obtain ⟨e,f⟩:=jK d;refine ⟨by simp [e],fun i v t b c=>?_⟩;cases i with
   |zero=>simp at b c;subst b;subst c;exact g
   |succ i=>simp at b c;exact f i v t b c
  ·cases h
theorem mB{n:Nat}{b:BX}(u:bI E (E.κ n) b)(z:E.live n=true){ts:List T}(f:(∃ m,b= .d m ts)\/ ∃vs,b= .v vs/\eO vs=some ts){rd:List Nat}(A:n∈rd)(off:Nat):
  Rep (Sx E rd) E.w (.pointer (some ⟨E.κ n,off,none⟩)) (.cptr ts off):=by
 have s:b.isM=false:=by rcases f with ⟨m,rfl⟩|⟨vs,rfl,_⟩ <;> rfl
 obtain ⟨cs,e,y,k⟩:=u.cells s;have key:ts.length<=cs.size/\ ∀(i:Nat) (x:Value) (t:T),cs[i]? =some x->ts[i]? =some t->Rep E.S E.w x t/\t.one=true:=by
  rcases f with ⟨m,rfl⟩|⟨vs,rfl,B⟩
  ·cases k with
   |d _ _ q j r=>exact ⟨by omega,r⟩
  ·cases k with
   |v _ q j=>
    obtain ⟨l,p⟩:=jK B;refine ⟨by omega,fun i x t C f=>?_⟩;have c:i<vs.length:=by rw [l];exact (gsZ f).1
    have g:=ggZ c;obtain ⟨k1,k2⟩:=j i x _ C g
    have:=aD k1 (p i _ t g f)
    exact ⟨this,this.kV k2⟩
 have:=Rep.cptr (S:=Sx E rd) (w:=E.w) (E.κ n) 0 off ts (fun i=>cs[i]?.getD undef)
  (fun t f=>by
   obtain ⟨i,hi⟩:=List.mem_iff_getElem?.1 f;have c:i<cs.size:=Nat.lt_of_lt_of_le (gsZ hi).1 key.1;exact (key.2 i cs[i] t (by simp [c]) hi).2)
  (fun i hi=>by
   have c:i<cs.size:=Nat.lt_of_lt_of_le hi key.1;rw [Nat.zero_add,cell_of_row _ _ _ _ _ _ y];exact ⟨by simp [c],.inr ⟨n,A,z,rfl⟩⟩)
  (fun i t f=>by
   have c:i<cs.size:=Nat.lt_of_lt_of_le (gsZ f).1 key.1
   have:=(key.2 i cs[i] t (by simp [c]) f).1
   simp only [c,getElem?_pos,Option.getD_some];exact this.mono (fun b o h=>.inl h) (fun _ _ _=>aC.rfl))
 rwa [Nat.zero_add] at this
theorem eB{bx:Nat->Option BX}(l: ∀n b,bx n=some b->bI E (E.κ n) b){v:Value}{u:V}(h:VR E v u){t:T}{rd:List Nat}(c:aY bx u=some (t,rd)):Rep (Sx E rd) E.w v t:=by
 have up: ∀{v t},Rep E.S E.w v t->Rep (Sx E rd) E.w v t:=fun h=>h.mono (fun b o h=>.inl h) (fun _ _ _=>aC.rfl)
 cases h with
 |t v x h=>simp [aY] at c;rw [<- c.1];exact up h
 |own v r e size xs h=>simp [aY] at c;rw [<- c.1];exact up h.rep
 |full a len size xs h=>simp [aY] at c;rw [<- c.1];exact up h
 |ptr n off B=>
  simp only [aY] at c;split at c
  ·rename_i m ts z;simp only [Option.some.injEq,Prod.mk.injEq] at c;obtain ⟨rfl,rfl⟩:=c;exact mB (l n _ z) B (.inl ⟨m,rfl⟩) (by simp) off
  ·rename_i vs z;split at c
   ·rename_i ts H;simp only [Option.some.injEq,Prod.mk.injEq] at c;obtain ⟨rfl,rfl⟩:=c;exact mB (l n _ z) B (.inr ⟨vs,rfl,H⟩) (by simp) off
   ·cases c
  ·cases c
  ·cases c
  ·cases c
  ·cases c
 |mp n B=>
  simp only [aY] at c;split at c
  ·rename_i I Q J mb z;simp only [Option.some.injEq,Prod.mk.injEq] at c;obtain ⟨rfl,rfl⟩:=c;obtain ⟨q,s,G,y⟩:=(l n _ z).map;have get: ∀(i:Nat) (x:MapEntry),q[i]? =some x-> ∃e,J[i]? =some e/\Rep E.S E.w x.key e.1/\Rep E.S E.w x.val e.2/\aV I Q e.1:=fun i x C=>by
    have f:i<J.length:=by rw [<- y.size];exact (Array.getElem?_eq_some_iff.1 C).1
    exact ⟨_,ggZ f,y.at_ i x _ C (ggZ f)⟩
   refine .mapd (E.κ n) q s I Q _ _ (by simp [y.size]) (by simp) ⟨G,.inr ⟨n,by simp,B,rfl⟩⟩ (fun i x t C g=>?_) (fun i x t C g=>?_) (fun k Y=>?_) y.lt y.apart
   ·obtain ⟨e,D,K,_⟩:=get i x C;rw [List.getElem?_map,D] at g;cases g;exact up K
   ·obtain ⟨e,D,_,L,_⟩:=get i x C;rw [List.getElem?_map,D] at g;cases g;exact up L
   ·obtain ⟨e,D,rfl⟩:=List.mem_map.1 Y;obtain ⟨i,hi⟩:=List.mem_iff_getElem?.1 D;have f:i<q.size:=by rw [y.size];exact (gsZ hi).1
    exact (y.at_ i _ e (Array.getElem?_eq_getElem f) hi).2.2
  ·cases c
 |view n off len size cap B U=>
  simp only [aY] at c;split at c
  ·rename_i m ts z;cases j:(Nat.blt 0 size&&Nat.ble (off+len * size) m) with
   |false=>rw [j] at c;cases c
   |true=>
    rw [j] at c;simp only [cond_true,Option.some.injEq,Prod.mk.injEq] at c;obtain ⟨rfl,rfl⟩:=c;rw [Bool.and_eq_true] at j;have Z:off+len * size<=m:=nlZ j.2;have R:0<size:=Nat.lt_of_lt_of_le (Nat.lt_succ_self 0) (nlZ j.1);obtain ⟨cs,e,G,F⟩:=(l n _ z).cells rfl;cases F with
    |d _ _ K L M=>
     have p: ∀t∈ts.drop off,t.one=true:=fun t g=>by
      have g:=List.mem_of_mem_drop g;obtain ⟨i,hi⟩:=List.mem_iff_getElem?.1 g;have f:i<cs.size:=by have:=(gsZ hi).1;omega
      exact (M i cs[i] t (by simp [f]) hi).2
     obtain ⟨A,W,hu⟩:=di R len (ts.drop off) (by simp;omega) p;have O:((ts.drop off).take (len * size)).length=len * size:=by simp;omega
     refine .slice _ (E.κ n) off len cap size _ (fun i=>cs[off+i]?.getD undef) W U hu (by rw [A];exact fun t g=>p t (List.mem_of_mem_take g)) (fun _=>rfl) (fun i hi=>?_) (fun i t g=>?_)
     ·rw [A,O] at hi;have f:off+i<cs.size:=by omega
      rw [cell_of_row _ _ _ _ _ _ G];exact ⟨by simp [f],.inr ⟨n,by simp,B,rfl⟩⟩
     ·rw [A] at g;have hi:i<len * size:=by rw [<- O];exact (gsZ g).1
      have f:off+i<cs.size:=by omega
      rw [aH,if_pos hi] at g
      have:=(M (off+i) cs[off+i] t (by simp [f]) g).1
      simp only [f,getElem?_pos,Option.getD_some];exact up this
  ·cases c
 |_=>simp [aY] at c
theorem bK{bx:Nat->Option BX}(d: ∀n b,bx n=some b->bI E (E.κ n) b): ∀{us:List V} {ts:List T} {rd:List Nat},cT bx us=some (ts,rd)->us.length=ts.length/\
  ∀(i:Nat) (v:Value) (u:V) (t:T),VR E v u->us[i]? =some u->ts[i]? =some t->Rep (Sx E rd) E.w v t
 |[],ts,rd,h=>by simp [cT] at h;obtain ⟨rfl,rfl⟩:=h;exact ⟨rfl,fun i v u t _ c=>by simp at c⟩
 |u::us,ts,rd,h=>by
  unfold cT at h;split at h
  ·rename_i x r xs rs m g;simp only [Option.some.injEq,Prod.mk.injEq] at h;obtain ⟨rfl,rfl⟩:=h;obtain ⟨k,l⟩:=bK d g;refine ⟨by simp [k],fun i v p t j c e=>?_⟩;cases i with
   |zero=>
    simp at c e;subst c;subst e;exact (eB d j m).mono (gy fun n f=>by simp [f]) (fun _ _ _=>aC.rfl)
   |succ i=>
    simp at c e;exact (l i v p t j c e).mono (gy fun n f=>by simp [f]) (fun _ _ _=>aC.rfl)
  ·cases h
theorem eT{bx:Nat->Option BX}(d: ∀n b,bx n=some b->bI E (E.κ n) b){v:Value}{u:V}(h:VR E v u){t:T}{rd:List Nat}(c:conv bx u=some (t,rd)):Rep (Sx E rd) E.w v t:=by
 cases u with
 |fn f caps=>
  unfold conv at c;simp only at c;split at c
  ·rename_i ts r g;simp only [Option.some.injEq,Prod.mk.injEq] at c;obtain ⟨rfl,rfl⟩:=c;obtain ⟨k,l⟩:=bK d g;cases h with
   |fn _ cs _ q m=>
    refine .clos f cs ts (by omega) (fun i x t p j=>?_);have e:i<caps.length:=by rw [k];exact (gsZ j).1
    exact l i x _ t (m i x _ p (ggZ e)) (ggZ e) j
  ·cases c
 |_=>exact eB d h c
theorem fY{bx:Nat->Option BX}(d: ∀n b,bx n=some b->bI E (E.κ n) b): ∀{us:List V} {ts:List T} {rd:List Nat},bt bx us=some (ts,rd)->us.length=ts.length/\
  ∀(i:Nat) (v:Value) (u:V) (t:T),VR E v u->us[i]? =some u->ts[i]? =some t->Rep (Sx E rd) E.w v t
 |[],ts,rd,h=>by simp [bt] at h;obtain ⟨rfl,rfl⟩:=h;exact ⟨rfl,fun i v u t _ c=>by simp at c⟩
 |u::us,ts,rd,h=>by
  unfold bt at h;split at h
  ·rename_i x r xs rs m g;simp only [Option.some.injEq,Prod.mk.injEq] at h;obtain ⟨rfl,rfl⟩:=h;obtain ⟨k,l⟩:=fY d g;refine ⟨by simp [k],fun i v p t j c e=>?_⟩;cases i with
   |zero=>
    simp at c e;subst c;subst e;exact (eT d j m).mono (gy fun n f=>by simp [f]) (fun _ _ _=>aC.rfl)
   |succ i=>
    simp at c e;exact (l i v p t j c e).mono (gy fun n f=>by simp [f]) (fun _ _ _=>aC.rfl)
  ·cases h
end
section
variable [Glb]{P:Program}{N:Nat}{w0:World}{S0:aa}{o:Oper}{a:Act}{E:Env}{st:St}
end
section
variable {P:Program}{N:Nat}{w0:World}{S0:aa}{o:Oper}{a:Act}{E:Env}{st:St}
theorem fI: ∀{xs:List T},kj xs-> ∀(i:Nat) (t:T),xs[i]? =some t-> ∃n,t= .int .u8 n
 |[],_,i,t,h=>by simp at h
 |.int .u8 n::xs,hx,i,t,h=>by
  cases i with
  |zero=>simp at h;exact ⟨n,h.symm⟩
  |succ i=>exact fI (xs:=xs) hx i t (by simpa using h)
theorem pg{xs:List T}(h:kj xs):xs.flatMap T.cells=xs:=eM fun t b=>by
 obtain ⟨i,hi⟩:=List.mem_iff_getElem?.1 b;obtain ⟨n,rfl⟩:=fI h i t hi;rfl
end
section
variable [Glb]{P:Program}{N:Nat}{w0:World}{S0:aa}{o:Oper}{a:Act}{E:Env}{st:St}
def numOf:T->Int
 |.int _ n=>n
 |_=>0
end
section
variable {P:Program}{N:Nat}{w0:World}{S0:aa}{o:Oper}{a:Act}{E:Env}{st:St}
theorem qd{xs:List T}(h:kj xs):pc xs=strOfNums (xs.map numOf):=by
 unfold pc strOfNums
 congr 1
 rw [List.map_map]
 congr 1
 refine List.map_congr_left fun t b=>?_
 obtain ⟨i,hi⟩:=List.mem_iff_getElem?.1 b;obtain ⟨n,rfl⟩:=fI h i t hi;rfl
end
section
variable [Glb]{P:Program}{N:Nat}{w0:World}{S0:aa}{o:Oper}{a:Act}{E:Env}{st:St}
theorem nY(h:SR N w0 S0 E st a.tmps)(hd:ay N o.dst){s t:TypeId}{X:Operand}(ho:o.op= .convert s t X){x:DOp}(j:ah P o.op=some x):Sound P N w0 S0 o a E st (eff x (st.nm o.dst) st.sl st.bx):=by
 rw [ho] at j;simp only [ah] at j;have I: ∀{v:Value} {w:World},(convert s t (a.eval X)).run P E.w= .ok v w->(execOp a.eval o).run P E.w= .ok (.value v) w:=fun q=>by unfold execOp;simp [ho,q]
 have H: ∀{y:O} {u:T} {rd:List Nat},ak X=some y->aY st.bx (ev st.sl y)=some (u,rd)->Rep (Sx E rd) E.w (a.eval X) u:=fun C F=>eB h.bx (af h.sl C) F
 split at j
 ·rename_i k0 k y z f C;simp only [Option.some.injEq] at j;subst j;have W:=af h.sl C;unfold eff;simp only;split
  ·rename_i k1 n hv;rw [hv] at W;exact aj h hd (v:=.int k (k.wrap n)) (I (by simp [W.aA,convert,run_underlying z,run_underlying f,Conv.intToInt])) (.t _ _ (.int _ _))
  ·trivial
 ·rename_i y z f C;simp only [Option.some.injEq] at j;subst j;unfold eff;simp only;split
  ·rename_i u rd F;have q:=H C F;split
   ·rename_i c r B;cases u <;> simp only [mj,reduceCtorEq] at B
    rename_i l;cases B;intro _;have D:=q.bj;exact aj h hd (v:=.string l) (I (by simp [D,convert,run_underlying z,run_underlying f])) (.t _ _ (.str _))
   ·trivial
  ·trivial
 ·rename_i e y z f C;cases d:lC P e with
  |false=>rw [d] at j;cases j
  |true=>
  rw [d] at j;simp only [cond_true,Option.some.injEq] at j;subst j;have p:P.underlying e=some (.int .u8):=by
   unfold lC at d;split at d
   ·assumption
   ·cases d
  unfold eff;simp only;split
  ·rename_i u rd F;have q:=H C F;split
   ·rename_i c r B;cases u <;> simp only [mj,reduceCtorEq] at B
    ·rename_i n xs;cases B;intro R;generalize D:a.eval X=v at q;cases q with
     |slice A b off len cap _ _ g m cB hun h1 V Y U=>
     subst m;rw [pg R] at V Y U;have cr: ∀i,i<xs.length->E.w.cell? ⟨b,off+i,none⟩=some (.int .u8 ((xs.map numOf).getD i 0)):=fun i hi=>by
      rw [(Y i hi).1];obtain ⟨n,Z⟩:=fI R i xs[i] (ggZ hi)
      have:=U i xs[i] (ggZ hi)
      rw [Z] at this;rw [this.aA];simp [List.getD,hi,Z,numOf]
     refine aj h hd (v:=.string (pc xs)) (I ?_) (.t _ _ (.str _));rw [D,qd R]
     by_cases K:0<xs.length
     ·rw [V K];exact run_convert_bytes_arg E.w s e z p b off xs.length cap (xs.map numOf) (by simp) cr t f
     ·have K:xs=[]:=List.eq_nil_of_length_eq_zero (by omega);subst K;cases A with
      |none=>exact run_convert_bytes_nil E.w s e z p _ _ t f
      |some A=>
       rw [run_convert_bytes_string E.w s t e _ _ _ z p f,run_bytesToString E.w A _ _ [] (by simp [loadCells,loadCellsFrom])];rfl
    ·cases B;intro _;generalize D:a.eval X=v at q;cases q;refine aj h hd (v:=.string ByteArray.empty) (I ?_) (.t _ _ (.str _));rw [D];exact run_convert_bytes_nil E.w s e z p _ _ t f
   ·trivial
  ·trivial
 ·rename_i e y z f C;cases d:lC P e with
  |false=>rw [d] at j;cases j
  |true=>
  rw [d] at j;simp only [cond_true,Option.some.injEq] at j;subst j;have p:P.underlying e=some (.int .u8):=by
   unfold lC at d;split at d
   ·assumption
   ·cases d
  unfold eff;simp only;split
  ·rename_i u rd F;have q:=H C F;split
   ·rename_i c r B;cases u <;> simp only [mj,reduceCtorEq] at B
    ·rename_i l;cases B;intro _;have D:=q.bj;have aK:=Lib.run_convert_string_bytes (P:=P) E.w s t e l z f p;have L:Below E.w.heap.size E.w (Lib.bytesWorld E.w e l):=⟨Lib.bytesWorld_below _ _ _,Nat.le_succ _⟩
     have M:=grownCap_ge E.w l.size 0 e;have h':=h.world L (fun b o=>E.S b o\/(E.w.heap.size<=b/\b<(Lib.bytesWorld E.w e l).heap.size)) (fun b o=>⟨fun Q=>Q.elim .inl fun k=>.inr ⟨.inr k,k⟩,fun Q=>Q.elim .inl fun k=>k.1⟩);have m:(b9 l).length=l.size:=by unfold b9;rw [List.length_map,Array.length_toList];rfl
     have J: ∀t∈b9 l,t.one=true/\t.cells=[t]:=fun t f=>by
      obtain ⟨_,_,rfl⟩:=List.mem_map.1 f;exact ⟨rfl,rfl⟩
     have G:(b9 l).flatMap T.cells=b9 l:=eM fun t f=>(J t f).1
     refine ⟨_,_,{E with w:=Lib.bytesWorld E.w e l,S:=fun b o=>E.S b o\/(E.w.heap.size<=b/\b<(Lib.bytesWorld E.w e l).heap.size)},I (by rw [D];exact aK),.inl rfl,?_⟩;refine h'.cL hd (.t _ _ (.slice _ E.w.heap.size 0 l.size _ 1 _ (fun i=>.int .u8 (l.data.toList.getD i 0).toNat) m M (fun x hx=>by rw [(J x hx).2];rfl) (fun t f=>?_) (fun _=>rfl) (fun i hi=>?_) (fun i t f=>?_)))
     ·rw [G] at f;exact (J t f).1
     ·rw [G,m] at hi;rw [Nat.zero_add];exact ⟨Lib.bytesWorld_cell E.w e l i hi,.inr ⟨Nat.le_refl _,by rw [Lib.bytesWorld_size];omega⟩⟩
     ·rw [G] at f;unfold b9 at f;rw [List.getElem?_map,Option.map_eq_some_iff] at f;obtain ⟨b,L,rfl⟩:=f
      have:l.data.toList.getD i 0=b:=by simp [List.getD,L]
      rw [this];exact .int _ _
   ·trivial
  ·trivial
 ·cases j
theorem qZ(h:SR N w0 S0 E st a.tmps)(hd:ay N o.dst){t e:TypeId}{n:Nat}{X:Operand}{y:O}(u:o.op= .sliceToArrayPointer t X)(z:P.underlying t=some (.array n e))(D:ak X=some y):
  Sound P N w0 S0 o a E st (eff (.arrP n y) (st.nm o.dst) st.sl st.bx):=by
 have i:=af h.sl D;have k: ∀{A:Option Addr} {len cap:Nat},a.eval X= .slice A len cap->n<=len->(execOp a.eval o).run P E.w= .ok (.value (.pointer A)) E.w:=fun c f=>by
  unfold execOp;simp [u,Instr.arrayAt,run_underlying z,c,Nat.not_lt.2 f]
 unfold eff;simp only;split
 ·rename_i b off len sz C;rw [C] at i;obtain ⟨cap,c,_,j⟩:=i.bO;intro f;exact aj h hd (k c f) (.ptr b off j)
 ·split
  ·rename_i sz xs r;have l:=aD i r;rintro ⟨f,x⟩;generalize c:a.eval X=v at l;cases l with
   |slice A b off len cap _ _ g d F B p q s m=>
   subst d;rw [q x] at c;refine aj h hd (k c (by omega)) (.t _ _ ?_)
   have:=Rep.cptr (S:=E.S) (w:=E.w) b off 0 (xs.flatMap T.cells) g p s m
   rwa [Nat.add_zero] at this
  ·trivial
end
section
variable {P:Program}{N:Nat}{w0:World}{S0:aa}{o:Oper}{a:Act}{E:Env}{st:St}
theorem iw(s:ByteArray):(b9 s).flatMap T.cells=b9 s:=eM fun t b=>by
 obtain ⟨_,_,rfl⟩:=List.mem_map.1 b;rfl
theorem dO(s:ByteArray):(b9 s).length=s.size:=by
 unfold b9;rw [List.length_map,Array.length_toList];rfl
end
section
variable [Glb]{P:Program}{N:Nat}{w0:World}{S0:aa}{o:Oper}{a:Act}{E:Env}{st:St}
structure cF (P:Program) (E:Env) (y:Value) (n:Nat) (ys:List T) (news:List Value):Prop where
 len:news.length=(ys.flatMap T.cells).length
 rep: ∀(i:Nat) (x:Value) (t:T),news[i]? =some x->(ys.flatMap T.cells)[i]? =some t->Rep E.S E.w x t
 uni: ∀x∈ys,x.cells.length=n
 one: ∀t∈ys.flatMap T.cells,t.one=true
 src:(∃ (ad:Addr) (c:Nat),y= .slice (some ad) ys.length c/\ ∀j v,news[j]? =some v->E.w.cell? (ad.add j)=some v)\/(∃ A c,y= .slice A 0 c/\ys=[])\/(∃ s,y= .string s/\ys=b9 s/\(n=1\/ys=[])/\news=byteCells s)
end
section
variable {P:Program}{N:Nat}{w0:World}{S0:aa}{o:Oper}{a:Act}{E:Env}{st:St}
theorem cF.et{y:Value}{n:Nat}{ys:List T}{b:List Value}(h:cF P E y n ys b): ∀v∈b,v.oneCell'=true:=fun v d=>by
 obtain ⟨i,hi⟩:=List.mem_iff_getElem?.1 d;have c:i<(ys.flatMap T.cells).length:=by rw [<- h.len];exact (gsZ hi).1
 exact (h.rep i v _ hi (ggZ c)).one (h.one _ (List.mem_of_getElem? (ggZ c)))
theorem n9{y:Value}{n:Nat}{ys:List T}(h:Rep E.S E.w y (.slice n ys))(s:0<n): ∃f,cF P E y n ys f:=by
 cases h with
 |slice A b off len cap _ _ g e C l p q r m=>
 subst e;have get: ∀j v,((List.range (ys.flatMap T.cells).length).map g)[j]? =some v->j<(ys.flatMap T.cells).length/\g j=v:=fun j v d=>by
  have c:j<(ys.flatMap T.cells).length:=by simpa using (gsZ d).1
  rw [List.getElem?_map,List.getElem?_range c] at d;exact ⟨c,by simpa using d⟩
 refine ⟨(List.range (ys.flatMap T.cells).length).map g,by simp,fun i x t B z=>?_,l,p,?_⟩
 ·obtain ⟨_,rfl⟩:=get i x B;exact m i t z
 ·by_cases k:ys=[]
  ·subst k;exact .inr (.inl ⟨A,cap,rfl,rfl⟩)
  ·have u:0<(ys.flatMap T.cells).length:=by rw [aJ l];exact Nat.mul_pos (List.length_pos_iff.2 k) s
   rw [q u];refine .inl ⟨_,cap,rfl,fun j v d=>?_⟩;obtain ⟨c,rfl⟩:=get j v d;rw [bq];exact (r j c).1
end
section
variable [Glb]{P:Program}{N:Nat}{w0:World}{S0:aa}{o:Oper}{a:Act}{E:Env}{st:St}
theorem e9(h:SR N w0 S0 E st a.tmps){y:Value}{u:V}(F:VR E y u){n:Nat}{ys:List T}(p:da st.bx u=some (.slice n ys))(H:0<n): ∃e,cF P E y n ys e:=by
 have q:asT u=some (.slice n ys)-> ∃e,cF P E y n ys e:=fun hd=>n9 (aD F hd) H
 unfold da at p;split at p
 ·rename_i s;cases p;have O:=F.bj;refine ⟨byteCells s,by rw [iw,dO,byteCells_length],fun i x t g c=>?_,fun x g=>?_,fun t c=>?_,.inr (.inr ⟨s,O,rfl,.inl rfl,rfl⟩)⟩
  ·rw [iw] at c;unfold byteCells at g;unfold b9 at c;rw [List.getElem?_map,Option.map_eq_some_iff] at g c;obtain ⟨b,z,rfl⟩:=g;obtain ⟨R,r,rfl⟩:=c;rw [z] at r;cases r;exact .int _ _
  ·obtain ⟨_,_,rfl⟩:=List.mem_map.1 g;rfl
  ·rw [iw] at c;obtain ⟨_,_,rfl⟩:=List.mem_map.1 c;rfl
 ·rename_i k off len size;split at p
  ·rename_i t rd f;cases p;simp only [aY] at f;split at f
   ·rename_i m ts z;cases w:(Nat.blt 0 size&&Nat.ble (off+len * size) m) with
    |false=>rw [w] at f;cases f
    |true=>
    rw [w] at f;simp only [cond_true,Option.some.injEq,Prod.mk.injEq,T.slice.injEq] at f;obtain ⟨⟨rfl,rfl⟩, -⟩:=f;rw [Bool.and_eq_true] at w;have K:=nlZ w.2;obtain ⟨cap,I,S,L⟩:=F.bO;obtain ⟨cs,U,J,A⟩:=(h.bx k _ z).cells rfl;cases A with
    |d _ _ W M B=>
    obtain ⟨k1,k2,Q⟩:=di H len (ts.drop off) (by rw [List.length_drop];omega) (fun t c=>by
     obtain ⟨i,hi⟩:=List.mem_iff_getElem?.1 (List.mem_of_mem_drop c);have l:i<cs.size:=by have:=(gsZ hi).1;omega
     exact (B i cs[i] t (Array.getElem?_eq_getElem l) hi).2)
    have G:((ts.drop off).take (len * size)).length=len * size:=by rw [List.length_take,List.length_drop];omega
    have key: ∀(i:Nat) (t:T),((ts.drop off).take (len * size))[i]? =some t->i<len * size/\ts[off+i]? =some t:=fun i t c=>by
     have hi:i<len * size:=by rw [<- G];exact (gsZ c).1
     rw [aH,if_pos hi] at c;exact ⟨hi,c⟩
    refine ⟨(cs.toList.drop off).take (len * size),?_,fun i x t g c=>?_,Q,fun t c=>?_,?_⟩
    ·rw [k1,G,List.length_take,List.length_drop,Array.length_toList];omega
    ·rw [k1] at c;obtain ⟨hi,c⟩:=key i t c;rw [aH,if_pos hi] at g;exact (B (off+i) x t (by simpa using g) c).1
    ·rw [k1] at c;obtain ⟨i,hi⟩:=List.mem_iff_getElem?.1 c;obtain ⟨hi,c⟩:=key i t hi;have l:off+i<cs.size:=by omega
     exact (B (off+i) cs[off+i] t (Array.getElem?_eq_getElem l) c).2
    ·refine .inl ⟨_,cap,by rw [k2];exact I,fun j v C=>?_⟩;have D:j<len * size:=by
      have:=(gsZ C).1
      rw [List.length_take] at this;omega
     rw [aH,if_pos D] at C;rw [bq,cell_of_row _ _ _ _ _ _ J];simpa using C
   ·cases f
  ·cases p
 ·exact q p
end
section
variable {P:Program}{N:Nat}{w0:World}{S0:aa}{o:Oper}{a:Act}{E:Env}{st:St}
theorem rv{u:V}{t:T}(c:da st.bx u=some t)(h: ∀n ys,t≠ .slice n ys):asT u=some t:=by
 unfold da at c;split at c
 ·cases c;exact absurd rfl (h _ _)
 ·split at c
  ·rename_i d rd b;cases c;simp only [aY] at b;split at b
   ·simp only [cond_eq_ite] at b;split at b
    ·cases b;exact absurd rfl (h _ _)
    ·cases b
   ·cases b
  ·cases c
 ·exact c
end
section
variable [Glb]{P:Program}{N:Nat}{w0:World}{S0:aa}{o:Oper}{a:Act}{E:Env}{st:St}
theorem j9(h:SR N w0 S0 E st a.tmps){y:Value}{u:V}(g:VR E y u)(e:da st.bx u=some .nil){n:Nat}: ∃b,cF P E y n [] b:=by
 have d:=aD g (rv e (fun _ _=>by simp));cases d;exact ⟨[],rfl,fun i x t c=>by simp at c,fun x c=>by simp at c,fun t f=>by simp at f,.inr (.inl ⟨none,0,rfl,rfl⟩)⟩
theorem kZ(h:SR N w0 S0 E st a.tmps){y:Value}{u:V}(p:VR E y u){k:Nat}(d:da st.bx u=some (.slice k [])){n:Nat}: ∃b,cF P E y n [] b:=by
 have g:(∃ A c,y= .slice A 0 c)-> ∃b,cF P E y n [] b:=fun ⟨A,c,w⟩=>⟨[],rfl,fun i x t f=>by simp at f,fun x f=>by simp at f,fun t m=>by simp at m,.inr (.inl ⟨A,c,w,rfl⟩)⟩
 unfold da at d;split at d
 ·rename_i s;simp only [Option.some.injEq,T.slice.injEq] at d;have q:=dO s;rw [d.2] at q;have v:byteCells s=[]:=List.eq_nil_of_length_eq_zero (by rw [byteCells_length, <-q];rfl);exact ⟨[],rfl,fun i x t f=>by simp at f,fun x f=>by simp at f,fun t m=>by simp at m,.inr (.inr ⟨s,p.bj,d.2.symm,.inr rfl,v.symm⟩)⟩
 ·rename_i B r j z;split at d
  ·rename_i t rd e;cases d;obtain ⟨cap,l,_⟩:=p.bO;simp only [aY] at e;split at e
   ·simp only [cond_eq_ite] at e;split at e
    ·simp only [Option.some.injEq,Prod.mk.injEq,T.slice.injEq] at e;cases j with
     |zero=>exact g ⟨_,_,l⟩
     |succ k=>exact absurd e.1.2 (by simp [chunk])
    ·cases e
   ·cases e
  ·cases d
 ·obtain ⟨A,cap,l,_⟩:=ey (aD p d);exact g ⟨A,cap,l⟩
end
section
variable {P:Program}{N:Nat}{w0:World}{S0:aa}{o:Oper}{a:Act}{E:Env}{st:St}
theorem cF.oZ{y:Value}{n:Nat}{ys:List T}{b:List Value}(h:cF P E y n ys b){u:TypeId}(g:(∃ l,P.underlying u=some (.slice l))\/P.underlying u=some .string):Src P n u y ys.length b E.w:=by
 have d:b.length=ys.length * n:=by rw [h.len,aJ h.uni]
 rcases h.src with ⟨i,c,rfl,k⟩|⟨A,c,rfl,rfl⟩|⟨s,rfl,rfl,j,rfl⟩
 ·exact ⟨g,fun _=>rfl,run_firstCells_some E.w n ys.length i ys.length c b d k,run_firstCells_some E.w.drew n ys.length i ys.length c b d (by simpa using k),d,h.et⟩
 ·have f:b=[]:=List.eq_nil_of_length_eq_zero (by simpa using d);subst f;refine ⟨g,fun _=>rfl,?_,?_,d,h.et⟩ <;> cases A with
   |none=>simp [Builtin.firstCells]
   |some i=>simp [Builtin.firstCells,loadCells,loadCellsFrom]
 ·have e:=dO s;rcases j with rfl|f
  ·rw [e];exact ⟨g,fun _=>rfl,firstCells_string s E.w,firstCells_string s E.w.drew,by rw [byteCells_length,Nat.mul_one],h.et⟩
  ·rw [f] at e d;have m:byteCells s=[]:=List.eq_nil_of_length_eq_zero (by simpa using d);have p:s.size=0:=by simpa using e.symm
   rw [f,m];refine ⟨g,fun w'=>?_,?_,?_,by simp,fun _ q=>by cases q⟩
   ·show Sem.run P (pure s.size) w'=_
    rw [p];rfl
   ·simp [Builtin.firstCells]
   ·simp [Builtin.firstCells]
theorem nE{y:Value}{ys:List T}{b:List Value}(h:cF P E y 1 ys b){r sT ty e:TypeId}{i:TypeInfo}(G:P.underlying r=some (.slice e))(hi:P.info? e=some i)(B:i.size=1){g off len cap:Nat}{cs:Array Value}{u:TypeId}
  (C:E.w.heap[g]? =some (.cells cs u (0,0))) (F:off+len<=cs.size):
  (Builtin.copy_ #[r,sT] ty #[.slice (some ⟨g,off,none⟩) len cap,y]).run P E.w= .ok (goInt (Nat.min ys.length len)) (E.w.setRow g (cs.toList.take off++b.take (Nat.min ys.length len)++cs.toList.drop (off+(b.take (Nat.min ys.length len)).length)).toArray):=by
 have I:b.length=ys.length:=by rw [h.len,aJ h.uni,Nat.mul_one]
 generalize q:Nat.min ys.length len=k;have d:k<=ys.length:=by rw [<- q];exact Nat.min_le_left _ _
 have D:k<=len:=by rw [<- q];exact Nat.min_le_right _ _
 have m:(b.take k).length=k:=by rw [List.length_take];omega
 have f:(Builtin.lenOf y).run P E.w= .ok ys.length E.w:=by
  rcases h.src with ⟨p,c,rfl,t⟩|⟨A,c,rfl,rfl⟩|⟨s,rfl,rfl,_,rfl⟩
  ·rfl
  ·rfl
  ·rw [dO];rfl
 have x:(Builtin.firstCells 1 k y).run P E.w= .ok (b.take k).toArray E.w:=by
  rcases h.src with ⟨p,c,rfl,t⟩|⟨A,c,rfl,rfl⟩|⟨s,rfl,rfl,_,rfl⟩
  ·have:=run_loadCells_list (P:=P) E.w p (b.take k) (fun j v n=>t j v (by
    rw [List.getElem?_take] at n;split at n
    ·exact n
    ·cases n))
   rw [m] at this;simp [Builtin.firstCells,this]
  ·have z:k=0:=by simpa using d
   subst z;cases A with
   |none=>simp [Builtin.firstCells]
   |some p=>simp [Builtin.firstCells,loadCells,loadCellsFrom]
  ·simp only [Builtin.firstCells,Sem.run_pure]
   congr 1
   apply Array.ext'
   rw [dO] at d;simp [byteCells,List.map_take]
 have l:=run_storeCells_at (P:=P) g off u (b.take k) 0 cs E.w C (by rw [m];omega) (fun v H=>h.et v (List.mem_of_mem_take H));simp only [Nat.add_zero] at l;simp only [Builtin.copy_,Sem.run_bind,run_underlying G,Result.andThen_ok,f,run_sizeOf hi,B,q,x,l,Sem.run_pure,List.getElem?_toArray,List.getElem?_cons_zero,List.getElem?_cons_succ]
end
section
variable [Glb]{P:Program}{N:Nat}{w0:World}{S0:aa}{o:Oper}{a:Act}{E:Env}{st:St}
theorem re(h:SR N w0 S0 E st a.tmps)(hd:ay N o.dst){X Y:Operand}{t L e:TypeId}{i:TypeInfo}{x y:O}(U:o.op= .call {callee:=.builtin .copy,args:= #[X,Y],argTypes:= #[t,L]})(hx:ak X=some x)(hy:ak Y=some y)
  (W:P.underlying t=some (.slice e)) (hi:P.info? e=some i) (h1:i.size=1):Sound P N w0 S0 o a E st (eff (.copy x y) (st.nm o.dst) st.sl st.bx):=by
 have z:=af h.sl hx;have A:=af h.sl hy;unfold eff;simp only;split
 ·rename_i b off len sz hv;rw [hv] at z;obtain ⟨cap,Q,_,hlv⟩:=z.bO;split
  ·rename_i m ts n ys H r;cases q:(Nat.beq sz 1&&Nat.beq n 1) with
   |false=>trivial
   |true=>
   rw [Bool.and_eq_true] at q;have hn:=Nat.eq_of_beq_eq_true q.2;subst hn;rintro ⟨K,Z⟩;obtain ⟨c,l⟩:=e9 (P:=P) (y:=a.eval Y) h A r (by omega);obtain ⟨cs,e',hg,I⟩:=(h.bx b _ H).cells rfl;cases I with
   |d _ _ hl hsz R=>
   have p:=nE (ty:=o.type) (sT:=L) (cap:=cap) l W hi h1 hg (show off+len<=cs.size by omega);have hlN:c.length=ys.length:=by rw [l.len,aJ l.uni,Nat.mul_one]
   have J:ys.flatMap T.cells=ys:=eM fun t ht=>List.all_eq_true.1 Z t ht
   generalize S:Nat.min ys.length len=k at p ⊢;have hk1:k<=ys.length:=by rw [<- S];exact Nat.min_le_left _ _
   have hk2:k<=len:=by rw [<- S];exact Nat.min_le_right _ _
   have B:(c.take k).length=k:=by rw [List.length_take];omega
   have D:(ys.take k).length=k:=by rw [List.length_take];omega
   have F:(execOp a.eval o).run P E.w= .ok (.value (goInt k)) (E.w.setRow (E.κ b) (cs.toList.take off++c.take k++cs.toList.drop (off+(c.take k).length)).toArray):=by
    refine aG U ?_;have u:=p;rw [<- Q] at u;simp [builtin,u]
   refine ⟨_,_,{E with w:=E.w.setRow (E.κ b) (cs.toList.take off++c.take k++cs.toList.drop (off+(c.take k).length)).toArray },F,.inl rfl,?_⟩;rw [gC];refine (h.write H rfl _ _ fun E' g=>?_).cL hd (.t _ _ (.int _ _));refine .d m _ (by rw [bP _ _ _ _ D (by omega)];exact hl) (by simp;omega) (fun j v w f s=>?_);rw [List.getElem?_toArray,bC _ _ _ (by simp;omega)] at f;rw [bG _ _ _ _ D (by omega)] at s
   by_cases M:j<off
   ·rw [if_pos M] at f s
    have:=R j v w (by simpa using f) s
    exact ⟨g.rep this.1,this.2⟩
   ·rw [if_neg M] at f s
    by_cases G:j<off+k
    ·rw [if_pos (by rw [B];exact G)] at f;rw [if_pos G] at s;rw [List.getElem?_take,if_pos (by omega)] at f s;have C:(ys.flatMap T.cells)[j - off]? =some w:=by rw [J];exact s
     exact ⟨g.rep (l.rep _ v w f C),l.one w (List.mem_of_getElem? C)⟩
    ·rw [if_neg (by rw [B];exact G)] at f;rw [if_neg G] at s
     have:=R j v w (by simpa using f) s
     exact ⟨g.rep this.1,this.2⟩
  ·rename_i m ts H r;intro K;have hY:a.eval Y= .slice none 0 0:=by
    have:asT (ev st.sl y)=some .nil:=by
     unfold da at r;split at r
     ·cases r
     ·split at r
      ·rename_i t rd q;cases r;simp only [aY] at q;split at q
       ·simp only [cond_eq_ite] at q;split at q <;> cases q
       ·cases q
      ·cases r
     ·exact r
    have V:=aD A this;generalize a.eval Y=v at V;cases V;rfl
   have p:=run_copy_nil (P:=P) E.w t L o.type e ⟨E.κ b,off,none⟩ len cap W (by rw [hi];rfl);refine aj h hd (aG U ?_) (.t _ _ (.int _ _));rw [<- Q, <-hY] at p;simp [builtin,p];rfl
  ·trivial
 ·trivial
theorem n5(h:SR N w0 S0 E st a.tmps)(hd:ay N o.dst){t e:TypeId}{L C:Operand}{l c:O}{j:TypeInfo}{v:List T}(U:o.op= .makeSlice t L C)(M:ak L=some l)(K:ak C=some c)(V:P.underlying t=some (.slice e))(B:P.info? e=some j)(W:cz P e=some v)(aI:0<j.size):
  Sound P N w0 S0 o a E st (eff (.mkslice j.size j.bytes v l c) (st.nm o.dst) st.sl st.bx):=by
 have f:=af h.sl M;have b:=af h.sl K;obtain ⟨i,z,hi,r,A,Y,G,_⟩:=dw W;rw [B] at hi;cases hi;unfold eff;cases q:o.dst with
 |none=>trivial
 |some d=>
  rw [q] at hd;simp only [St.nm];split
  ·rename_i k1 n k2 k S s Q;rw [s] at f;rw [Q] at b;rintro ⟨H,rfl,I,J⟩;have y:=run_make (P:=P) E.w t e j z V B r k1 k2 n n H (Int.le_refl _) I J;rw [<- f.aA, <-b.aA] at y;show Did P N w0 S0 o a E (st.app o.dst _)
   rw [q];refine ⟨.value (.slice (some ⟨E.w.heap.size,0,none⟩) n.toNat n.toNat),_,{E with w:=E.w.alloc (.cells (madeCells z.cells (n.toNat * j.size)) e),κ:=upd E.κ (d+st.off) E.w.heap.size,live:=upd E.live (d+st.off) true },?_,.inl rfl,?_⟩
   ·unfold execOp;simp [U,y]
   ·rw [q];refine h.ki S _ _ (fun F g=>.cells _ e _ ?_) _ _ (fun F R s=>by rw [<- R];exact .view _ _ _ _ _ s (Nat.le_refl _)) hd;have m:(List.replicate n.toNat v).flatten.length=n.toNat * j.size:=by simp [A]
    refine .d _ _ m (by rw [size_madeCells];exact Nat.le_refl _) (fun i x t D u=>?_);have hi:i<n.toNat * j.size:=by rw [<- m];exact (gsZ u).1
    rw [eE (by omega) _ _ (by rw [<- A];exact hi)] at u;have Z:i % z.cells.size<z.cells.size:=Nat.mod_lt _ (by omega);have p:z.cells[i % z.cells.size]? =some x:=by
     have:(madeCells z.cells (n.toNat * j.size))[i]? =some (z.cells[i % z.cells.size]!):=by simp [madeCells,hi]
     rw [this] at D;rw [<- D];simp [Z]
    rw [Y] at p;exact G _ _ _ _ _ p u
  ·trivial
end
section
variable {P:Program}{N:Nat}{w0:World}{S0:aa}{o:Oper}{a:Act}{E:Env}{st:St}
theorem qU{S:ar}{w:World}{A:Option Addr}{len cap n:Nat}{xs:List T}(h:Rep S w (.slice A len cap) (.slice n xs)):Rep S w (.slice A len len) (.slice n xs):=by
 cases h with
 |slice _ b off _ _ _ _ g c k j e f i d=>exact .slice A b off _ _ _ _ g c (Nat.le_refl _) j e f i d
theorem qy{t e:TypeId}(c:P.underlying t=some (.pointer e))(n:Nat)(w:World)(b:Addr):(Op.equalIn (n+1) t (.pointer (some b)) (.pointer none)).run P w= .ok false w:=by simp [Op.equalIn,run_underlying c]
theorem pr{t e:TypeId}(b:P.underlying t=some (.pointer e))(n:Nat)(w:World):(Op.equalIn (n+1) t (.pointer none) (.pointer none)).run P w= .ok true w:=by simp [Op.equalIn,run_underlying b]
theorem rX{t e:TypeId}(d:P.underlying t=some (.slice e))(n:Nat)(w:World)(b:Addr)(l c:Nat):(Op.equalIn (n+1) t (.slice (some b) l c) (.slice none 0 0)).run P w= .ok false w:=by simp [Op.equalIn,run_underlying d]
theorem qz{t e:TypeId}(b:P.underlying t=some (.slice e))(n:Nat)(w:World):(Op.equalIn (n+1) t (.slice none 0 0) (.slice none 0 0)).run P w= .ok true w:=by simp [Op.equalIn,run_underlying b]
theorem rW{t k e:TypeId}(b:P.underlying t=some (.map k e))(n:Nat)(w:World)(g:Nat):(Op.equalIn (n+1) t (.map (some g)) (.map none)).run P w= .ok false w:=by simp [Op.equalIn,run_underlying b]
theorem qx{t k e:TypeId}(b:P.underlying t=some (.map k e))(n:Nat)(w:World):(Op.equalIn (n+1) t (.map none) (.map none)).run P w= .ok true w:=by simp [Op.equalIn,run_underlying b]
theorem rV{t:TypeId}{a b c}(d:P.underlying t=some (.func a b c))(n:Nat)(w:World)(f:Fn)(x y:Array Value):(Op.equalIn (n+1) t (.func f x y) .nilFunc).run P w= .ok false w:=by simp [Op.equalIn,run_underlying d]
theorem qw{t:TypeId}{a b c}(d:P.underlying t=some (.func a b c))(n:Nat)(w:World):(Op.equalIn (n+1) t .nilFunc .nilFunc).run P w= .ok true w:=by simp [Op.equalIn,run_underlying d]
end
section
variable [Glb]{P:Program}{N:Nat}{w0:World}{S0:aa}{o:Oper}{a:Act}{E:Env}{st:St}
theorem oY(h:SR N w0 S0 E st a.tmps)(hd:ay N o.dst){t:TypeId}{X:Operand}{lo hi:Option Operand}{mx:Operand}(C:o.op= .slice t X lo hi (some mx)){x:DOp}(c:ah P o.op=some x):Sound P N w0 S0 o a E st (eff x (st.nm o.dst) st.sl st.bx):=by
 rw [C] at c;cases lo with
 |some lo=>simp [ah] at c
 |none=>
 cases hi with
 |none=>simp [ah] at c
 |some hi=>
 simp only [ah] at c;split at c
 ·rename_i e y S Z Q R n L;split at c
  ·rename_i j K;simp only [cond_eq_ite] at c;split at c
   ·rename_i z;cases c;have B:=af h.sl R;have l:=af h.sl n;have m:=af h.sl L;unfold eff;simp only;split
    ·rename_i k1 b k2 U H I;rw [H] at l;rw [I] at m;have p: ∀{A:Option Addr} {len cap:Nat},a.eval X= .slice A len cap->0<=b->b=U->b<=cap->(execOp a.eval o).run P E.w= .ok (.value (.slice (if b.toNat=0 then A else A.map (·.add (0 * j.size))) b.toNat b.toNat)) E.w:=fun k k1 k2 T=>by
      subst k2;have W:((b.toNat:Nat):Int)=b:=Int.toNat_of_nonneg k1;have G:b<=((b.toNat:Nat):Int):=by omega
      unfold execOp;simp [C,l.aA,m.aA,k,Instr.sliceAt,Instr.slice,run_underlying Q,Instr.sliceBounds,Instr.sliceBound,asIntOf,k1,T,G,run_sizeOf K];intro Y;omega
     split
     ·rename_i sz xs s;have f:=aD B s;cases J:Nat.beq j.size sz with
      |false=>trivial
      |true=>
      have O:j.size=sz:=Nat.eq_of_beq_eq_true J;subst O;have z:0<j.size:=Nat.lt_of_lt_of_le (Nat.lt_succ_self 0) (nlZ z);rintro ⟨D,F,q3⟩;generalize k:a.eval X=v at f;have M:=f;obtain ⟨A,cap,rfl,V⟩:=ey f;have d:=p k D F (by omega)
      by_cases q:b.toNat=0
      ·rw [if_pos q,q] at d;rw [q,List.take_zero];exact aj h hd d (.full A 0 j.size [] (.slice A 0 0 0 0 j.size [] (fun _=>undef) rfl (Nat.le_refl _) (fun x u=>by simp at u) (fun t g=>by simp at g) (fun n=>by simp at n) (fun i hi=>by simp at hi) (fun i t g=>by simp at g)))
      ·rw [if_neg q] at d;have r:=iE f 0 b.toNat (Nat.zero_le _) (by omega);rw [if_neg (by omega)] at r;simp only [Nat.sub_zero,List.drop_zero] at r;refine aj h hd d (.full _ _ _ _ ?_);exact qU r
     ·rename_i s;have f:=aD B s;rintro ⟨D,F⟩;have k:a.eval X= .slice none 0 0:=by
       generalize a.eval X=v at f;cases f;rfl
      have d:=p k (by omega) (by omega) (by omega);rw [if_pos (by omega)] at d;have e0:b.toNat=0:=by omega
      rw [e0] at d;clear e0;exact aj h hd d (.full none 0 j.size [] (.slice none 0 0 0 0 j.size [] (fun _=>undef) rfl (Nat.le_refl _) (fun x u=>by simp at u) (fun t g=>by simp at g) (fun n=>by simp at n) (fun i hi=>by simp at hi) (fun i t g=>by simp at g)))
     ·trivial
    ·trivial
   ·cases c
  ·cases c
 ·cases c
theorem r8(h:SR N w0 S0 E st a.tmps)(hd:ay N o.dst){t:TypeId}{X:Operand}{y:O}(c:o.op= .unOp .xor t X)(e:ak X=some y):Sound P N w0 S0 o a E st (eff (.cpl y) (st.nm o.dst) st.sl st.bx):=by
 have b:=af h.sl e;unfold eff;simp only;split
 ·rename_i k n d;rw [d] at b;exact aj h hd (v:=.int k (jl .xor k (if k.signed then -1 else k.max) n)) (by unfold execOp;simp [c,b.aA,Op.unary];rfl) (.t _ _ (.int _ _))
 ·trivial
theorem pW(h:SR N w0 S0 E st a.tmps)(hd:ay N o.dst){i:BinOp}{t ty:TypeId}{X Y:Operand}{x y:O}(m:i= .eql\/i= .neq)(ho:o.op= .binOp i t X Y ty)(hx:ak X=some x)(hy:ak Y=some y)
  {k:Nat} (D:kQ P t y=some k):Sound P N w0 S0 o a E st (eff (.isnil k (aM i) x) (st.nm o.dst) st.sl st.bx):=by
 have l:=af h.sl hx;have C:=af h.sl hy;have p: ∀{s z:Value} {b:Bool},a.eval X=s->a.eval Y=z->(binOp i t s z).run P E.w= .ok (.bool (cond (aM i) (!b) b)) E.w->eqGuard i t X Y s z=pure ()->
   Did P N w0 S0 o a E (st.app o.dst {val:=.t (.bool (cond (aM i) (!b) b))}):=fun {s z b} K L hb W=>by
  refine aj h hd (v:=.bool (cond (aM i) (!b) b)) ?_ (.t _ _ (.bool _));unfold execOp;simp [ho,K,L,W,hb]
 have d: ∀{s z:Value} {b:Bool},(binOp .eql t s z=do pure (.bool (<- Op.equal t s z)))->(binOp .neq t s z=do pure (.bool (!(<- Op.equal t s z))))->(Op.equal t s z).run P E.w= .ok b E.w->(binOp i t s z).run P E.w= .ok (.bool (cond (aM i) (!b) b)) E.w:=fun {s z b} h0 K L=>by
  rcases m with rfl|rfl
  ·rw [h0];simp [L,aM]
  ·rw [K];simp [L,aM]
 have F: ∀{r:cA},r= .no->Sound P N w0 S0 o a E st r:=fun j=>by rw [j];trivial
 have e0:cond (aM i) (!false) false=aM i:=by cases aM i <;> rfl
 have J:cond (aM i) (!true) true= !aM i:=by cases aM i <;> rfl
 unfold kQ at D;split at D
 ·
  rename_i U q;cases D;have B:a.eval Y= .pointer none:=by
   have:=C.ax
   generalize a.eval Y=v at this;cases this;rfl
  have ne: ∀{G:Addr},a.eval X= .pointer (some G)->Did P N w0 S0 o a E (st.app o.dst {val:=.t (.bool (aM i))}):=fun {G} e=>by
   rw [<- e0];refine p e B ?_ (by unfold eqGuard;rcases m with rfl|rfl <;> rfl);exact d rfl rfl (qy q 9999 _ _)
  have nil:a.eval X= .pointer none->Did P N w0 S0 o a E (st.app o.dst {val:=.t (.bool (!aM i))}):=fun e=>by
   rw [<- J];refine p e B ?_ (by unfold eqGuard;rcases m with rfl|rfl <;> rfl);exact d rfl rfl (pr q 9999 _)
  cases c:ev st.sl x with
  |ptr b off=>
   rw [c] at l;simp only [eff,c];exact ne l.bh.1
  |t u=>
   rw [c] at l;have j:=l.ax;cases u with
   |cptr cs off=>
    simp only [eff,c];generalize e:a.eval X=v at j;cases j;exact ne e
   |glob g off=>
    simp only [eff,c];generalize e:a.eval X=v at j;cases j;exact ne e
   |nilptr=>
    simp only [eff,c];generalize e:a.eval X=v at j;cases j;exact nil e
   |_=>exact F (by simp only [eff,c])
  |_=>exact F (by simp only [eff,c])
 ·
  rename_i U q;cases D;have B:a.eval Y= .slice none 0 0:=by
   have:=C.ax
   generalize a.eval Y=v at this;cases this;rfl
  have ne: ∀{G:Addr} {len cap:Nat},a.eval X= .slice (some G) len cap->Did P N w0 S0 o a E (st.app o.dst {val:=.t (.bool (aM i))}):=fun {G len cap} e=>by
   rw [<- e0];refine p e B ?_ (by unfold eqGuard;rcases m with rfl|rfl <;> rfl);exact d rfl rfl (rX q 9999 _ _ _ _)
  have H: ∀{v:V} {n:Nat} {xs:List T},VR E (a.eval X) v->asT v=some (.slice n xs)->0<(xs.flatMap T.cells).length->Did P N w0 S0 o a E (st.app o.dst {val:=.t (.bool (aM i))}):=fun c M Q=>by
   have j:=aD c M;generalize e:a.eval X=v at j;cases j with
   |slice A b off len cap _ _ g Z hc q K hA W aq=>
   rw [hA Q] at e;exact ne e
  have I: ∀{v:V},VR E (a.eval X) v->Sound P N w0 S0 o a E st (match asT v with
   |some (.slice _ xs)=>.need (0<(xs.flatMap T.cells).length) {val:=.t (.bool (aM i))}
   |_=>.no):=fun {v} c=>by
   split
   ·rename_i n xs M;intro Q;exact H c M Q
   ·trivial
  cases c:ev st.sl x with
  |view b off len sz=>
   rw [c] at l;simp only [eff,c];obtain ⟨cap,e,_⟩:=l.bO;exact ne e
  |t u=>
   rw [c] at l;cases u with
   |nil=>
    simp only [eff,c];have j:=l.ax;generalize e:a.eval X=v at j;cases j;show Did P N w0 S0 o a E (st.app o.dst {val:=.t (.bool (!aM i))})
    rw [<- J];refine p e B ?_ (by unfold eqGuard;rcases m with rfl|rfl <;> rfl);exact d rfl rfl (qz q 9999 _)
   |_=>simp only [eff,c];exact I l
  |_=>rw [c] at l;simp only [eff,c];exact I l
 ·
  rename_i kt U q;cases D;have B:a.eval Y= .map none:=by
   have:=C.ax
   generalize a.eval Y=v at this;cases this;rfl
  have ne: ∀{g:Nat},a.eval X= .map (some g)->Did P N w0 S0 o a E (st.app o.dst {val:=.t (.bool (aM i))}):=fun {g} e=>by
   rw [<- e0];refine p e B ?_ (by unfold eqGuard;rcases m with rfl|rfl <;> rfl);exact d rfl rfl (rW q 9999 _ _)
  cases c:ev st.sl x with
  |mp b=>
   rw [c] at l;simp only [eff,c];exact ne l.eN.1
  |t u=>
   rw [c] at l;have j:=l.ax;cases u with
   |mapd ag sh ks vs=>
    simp only [eff,c];generalize e:a.eval X=v at j;cases j;exact ne e
   |nilmap=>
    simp only [eff,c];generalize e:a.eval X=v at j;cases j;show Did P N w0 S0 o a E (st.app o.dst {val:=.t (.bool (!aM i))})
    rw [<- J];refine p e B ?_ (by unfold eqGuard;rcases m with rfl|rfl <;> rfl);exact d rfl rfl (qx q 9999 _)
   |_=>exact F (by simp only [eff,c])
  |_=>exact F (by simp only [eff,c])
 ·
  rename_i p1 p2 p3 q;cases D;have B:a.eval Y= .nilFunc:=by
   have:=C.ax
   generalize a.eval Y=v at this;cases this;rfl
  have ne: ∀{f:Fn} {R S:Array Value},a.eval X= .func f R S->Did P N w0 S0 o a E (st.app o.dst {val:=.t (.bool (aM i))}):=fun {f R S} e=>by
   rw [<- e0];refine p e B ?_ (by unfold eqGuard;rcases m with rfl|rfl <;> rfl);exact d rfl rfl (rV q 9999 _ _ _ _)
  cases c:ev st.sl x with
  |fn f caps=>
   rw [c] at l;simp only [eff,c];generalize e:a.eval X=v at l;cases l;exact ne e
  |t u=>
   rw [c] at l;have j:=l.ax;cases u with
   |clos f caps=>
    simp only [eff,c];generalize e:a.eval X=v at j;cases j;exact ne e
   |nilfn=>
    simp only [eff,c];generalize e:a.eval X=v at j;cases j;show Did P N w0 S0 o a E (st.app o.dst {val:=.t (.bool (!aM i))})
    rw [<- J];refine p e B ?_ (by unfold eqGuard;rcases m with rfl|rfl <;> rfl);exact d rfl rfl (qw q 9999 _)
   |_=>exact F (by simp only [eff,c])
  |_=>exact F (by simp only [eff,c])
 ·cases D
end
end Go.DL
end
section
namespace Go.DL
open Go.RowKit
section
variable [Glb]{P:Program}{N:Nat}{w0:World}{S0:aa}{o:Oper}{a:Act}{E:Env}{st:St}
theorem lM(h:SR N w0 S0 E st a.tmps)(hd:ay N o.dst){x:DOp}(d:ah P o.op=some x):Sound P N w0 S0 o a E st (eff x (st.nm o.dst) st.sl st.bx):=by
 cases g:o.op with
 |move X=>
  rw [g] at d;simp only [ah,Option.map_eq_some_iff] at d;obtain ⟨y,u,rfl⟩:=d;exact ox h hd (.inl g) u
 |assign X=>
  rw [g] at d;simp only [ah,Option.map_eq_some_iff] at d;obtain ⟨y,u,rfl⟩:=d;exact ox h hd (.inr g) u
 |pick c p q=>
  rw [g] at d;simp only [ah] at d;split at d
  ·rename_i H O h3;cases d;exact ru h hd g H O h3
  ·cases d
 |alloc t=>exact pR h hd g d
 |box t X=>exact r7 h hd g d
 |load t A=>exact rh h hd g d
 |store t A X=>exact qc h hd g d
 |fieldAddr s X f=>exact rq h hd g d
 |field s X f=>exact pU h hd g d
 |indexAddr t X I=>exact ma h hd g d
 |index t X I=>exact pV h hd g d
 |build t ps=>exact pS h hd g d
 |extract X i=>
  rw [g] at d;simp only [ah,Option.map_eq_some_iff] at d;obtain ⟨y,u,rfl⟩:=d;exact nZ h hd g u
 |makeMap t r=>
  rw [g] at d;simp only [ah] at d;split at d
  ·split at d
   ·cases d;exact pX h hd g _ _
   ·cases d
  ·cases d
 |range t M=>
  rw [g] at d;simp only [ah] at d;split at d
  ·cases d;trivial
  ·cases d
 |next X b=>
  rw [g] at d;cases b with
  |true=>cases d
  |false=>
   simp only [ah,cond_false,Option.map_eq_some_iff] at d;obtain ⟨y,u,rfl⟩:=d;trivial
 |entry X=>
  rw [g] at d;simp only [ah,Option.map_eq_some_iff] at d;obtain ⟨y,u,rfl⟩:=d;exact rm h hd g u
 |lookup t M K ok=>
  rw [g] at d;simp only [ah] at d;split at d
  ·rename_i kt e m k D B hk;split at d
   ·rename_i sh z hs hz;cases d;exact pY h hd g B hk D hs hz
   ·cases d
  ·cases d
 |mapUpdate t M K V=>
  rw [g] at d;simp only [ah] at d;split at d
  ·rename_i kt e m k v D B hk hv;split at d
   ·rename_i sh hs;cases d;exact nJ h hd (.inl g) B hk hv D hs
   ·cases d
  ·cases d
 |insert t M K V=>
  rw [g] at d;simp only [ah] at d;split at d
  ·rename_i kt e m k v D B hk hv;split at d
   ·rename_i sh hs;cases d;exact nJ h hd (.inr g) B hk hv D hs
   ·cases d
  ·cases d
 |makeSlice t L C=>
  rw [g] at d;simp only [ah] at d;split at d
  ·rename_i e l c D hL hC;split at d
   ·rename_i j zs hj hz;simp only [cond_eq_ite] at d;split at d
    ·rename_i hp;cases d;exact n5 h hd g hL hC D hj hz (Nat.lt_of_lt_of_le (Nat.lt_succ_self 0) (nlZ hp))
    ·cases d
   ·cases d
  ·cases d
 |sliceToArrayPointer t X=>
  rw [g] at d;simp only [ah] at d;split at d
  ·rename_i D u;cases d;exact qZ h hd g D u
  ·cases d
 |nilCheck X=>
  rw [g] at d;simp only [ah,Option.map_eq_some_iff] at d;obtain ⟨y,u,rfl⟩:=d;exact pZ h hd g u
 |convert s t X=>exact nY h hd g d
 |unOp G t X=>
  rw [g] at d;cases G with
  |not=>
   simp only [ah,Option.map_eq_some_iff] at d;obtain ⟨y,u,rfl⟩:=d;exact su h hd g u
  |xor=>
   simp only [ah,Option.map_eq_some_iff] at d;obtain ⟨y,u,rfl⟩:=d;exact r8 h hd g u
  |neg=>
   simp only [ah,Option.map_eq_some_iff] at d;obtain ⟨y,u,rfl⟩:=d;exact sq h hd g u
  |_=>cases d
 |makeFunc fn first caps=>
  rw [g] at d;simp only [ah] at d;split at d
  ·rename_i f cs hcs;cases hb:Nat.beq first.size 0 with
   |false=>rw [hb] at d;cases d
   |true=>
    rw [hb] at d;simp only [cond_true,Option.some.injEq] at d;subst d
    have:first= #[]:=Array.eq_empty_of_size_eq_zero (Nat.eq_of_beq_eq_true hb)
    subst this;exact nI h hd g hcs
  ·cases d
 |slice t X lo hi mx=>
  cases mx with
  |none=>exact qa h hd g d
  |some m=>exact oY h hd g d
 |binOp G t X Y ty=>
  rw [g] at d;simp only [ah] at d;split at d
  ·rename_i Q J T u;have U:=af h.sl T;have W:=af h.sl u;have bin:Sound P N w0 S0 o a E st (eff (.bin G Q J) (st.nm o.dst) st.sl st.bx):=by
    unfold eff;simp only;split
    ·rename_i k m k' n H O;rw [H] at U;rw [O] at W;exact qW G k k' m n t ty h hd X Y g U.aA W.aA
    ·rename_i s s' H O;rw [H] at U;rw [O] at W;exact qX G s s' t ty h hd X Y g U.bj W.bj
    ·trivial
   have eqs:G= .eql\/G= .neq->(match P.underlying t with
     |some (.int _)=>some (DOp.bin G Q J)
     |some .string=>some (.bin G Q J)
     |some .bool=>some (.eqB (aM G) Q J)
     |_=>match shapeOf P 100 t with
      |some sh=>cond (P.eqGuardType P.depth t|| !au P t) none (some (.eqv (aM G) sh Q J))
      |none=>none)=some x->Sound P N w0 S0 o a E st (eff x (st.nm o.dst) st.sl st.bx):=by
    intro S B;split at B
    ·cases B;exact bin
    ·cases B;exact bin
    ·rename_i D;cases B;exact r9 h hd S g T u D
    ·split at B
     ·rename_i sh hsh;cases hc:(P.eqGuardType P.depth t|| !au P t) with
      |true=>rw [hc] at B;cases B
      |false=>
       rw [hc] at B;simp only [cond_false,Option.some.injEq] at B;subst B;rw [Bool.or_eq_false_iff] at hc;exact sd h hd S g T u hsh hc.1 (by simpa using hc.2)
     ·cases B
   have Z:G= .eql\/G= .neq->(match kQ P t J with
     |some k=>some (DOp.isnil k (aM G) Q)
     |none=>match P.underlying t with
     |some (.int _)=>some (DOp.bin G Q J)
     |some .string=>some (.bin G Q J)
     |some .bool=>some (.eqB (aM G) Q J)
     |_=>match shapeOf P 100 t with
      |some sh=>cond (P.eqGuardType P.depth t|| !au P t) none (some (.eqv (aM G) sh Q J))
      |none=>none)=some x->Sound P N w0 S0 o a E st (eff x (st.nm o.dst) st.sl st.bx):=by
    intro S B;cases mU:kQ P t J with
    |some k=>
     rw [mU] at B;simp only [Option.some.injEq] at B;subst B;exact pW h hd S g T u mU
    |none=>
     rw [mU] at B;exact eqs S B
   cases G with
   |eql=>exact Z (.inl rfl) d
   |neq=>exact Z (.inr rfl) d
   |_=>cases d;exact bin
  ·cases d
 |call c=>
  rw [g] at d;obtain ⟨callee,F,w⟩:=c;simp only [ah,bL] at d;split at d
  ·split at d
   ·rename_i fn az hf has;cases hc:(fn.body.isSome&&fn.name != "runtime.NumGoroutine") with
    |false=>rw [hc] at d;cases d
    |true=>rw [hc] at d;cases d;trivial
   ·cases d
  ·split at d
   ·cases d;trivial
   ·cases d
  ·split at d
   ·rename_i X t H O;have R:F= #[X]:=Array.toList_inj.1 (by simpa using H);have e2:w= #[t]:=Array.toList_inj.1 (by simpa using O);subst R;subst e2;split at d
    ·rename_i e y D u;cases d;exact se h hd g u D
    ·rename_i y D u;cases d;exact rf h hd g u D
    ·rename_i y D u;cases d;exact rp h hd g u D
    ·cases d
   ·cases d
  ·split at d
   ·rename_i X Y H;have R:F= #[X,Y]:=Array.toList_inj.1 (by simpa using H);subst R;split at d
    ·rename_i Q J T u;cases d;exact si h hd g T u
    ·cases d
   ·cases d
  ·split at d
   ·rename_i X Y H;have R:F= #[X,Y]:=Array.toList_inj.1 (by simpa using H);subst R;split at d
    ·rename_i Q J T u;cases d;exact sj h hd g T u
    ·cases d
   ·cases d
  ·split at d
   ·split at d
    ·split at d
     ·simp only [cond_eq_ite] at d;split at d
      ·cases d;trivial
      ·cases d
     ·cases d
    ·cases d
   ·cases d
  ·split at d
   ·rename_i X t H O;have R:F= #[X]:=Array.toList_inj.1 (by simpa using H);have e2:w= #[t]:=Array.toList_inj.1 (by simpa using O);subst R;subst e2;split at d
    ·rename_i e y D u;split at d
     ·rename_i j zs hj hz;simp only [cond_eq_ite] at d;split at d
      ·rename_i hp;cases d;exact pT h hd g u D hj hz (Nat.lt_of_lt_of_le (Nat.lt_succ_self 0) (nlZ hp))
      ·cases d
     ·cases d
    ·rename_i y D u;cases d;exact rj h hd g u D
    ·cases d
   ·cases d
  ·split at d
   ·rename_i X Y t t2 H O;have R:F= #[X,Y]:=Array.toList_inj.1 (by simpa using H);have e2:w= #[t,t2]:=Array.toList_inj.1 (by simpa using O);subst R;subst e2;split at d
    ·rename_i e Q J D T u;split at d
     ·rename_i j hj;simp only [cond_eq_ite] at d;split at d
      ·rename_i hp;cases d;exact re h hd g T u D hj (Nat.eq_of_beq_eq_true hp)
      ·cases d
     ·cases d
    ·cases d
   ·cases d
  ·split at d
   ·rename_i X K t t2 H O;have R:F= #[X,K]:=Array.toList_inj.1 (by simpa using H);have e2:w= #[t,t2]:=Array.toList_inj.1 (by simpa using O);subst R;subst e2;split at d
    ·rename_i kt e m k D B hk;split at d
     ·rename_i sh hs;cases d;exact rl h hd g B hk D hs
     ·cases d
    ·cases d
   ·cases d
  ·cases d
 |buildSlice t n ps=>
  rw [g] at d;simp only [ah] at d;split at d
  ·split at d
   ·split at d
    ·simp only [cond_eq_ite] at d;split at d
     ·cases d;trivial
     ·cases d
    ·cases d
   ·cases d
  ·cases d
 |panic X=>rw [g] at d;simp only [ah] at d;cases d;trivial
 |makeInterface t X=>rw [g] at d;simp only [ah] at d;cases d;trivial
 |_=>rw [g] at d;simp [ah] at d
end
end Go.DL
end
section
namespace Go.DL
open Go.RowKit
section
variable [Glb]{P:Program}{N:Nat}{w0:World}{S0:aa}{o:Oper}{a:Act}{E:Env}{st:St}
def bB(N:Nat)(w0:World)(S0:aa)(a:Act)(b:St)(d:Act)(w':World):Prop:= ∃c:Env,c.w=w'/\SR N w0 S0 c b d.tmps/\d.defers=a.defers
theorem od(h:SR N w0 S0 E st a.tmps)(hd:ay N o.dst){f:FuncId}{vs:Array Value}{us:List V}(l:(execOp a.eval o).run P E.w= .ok (.enter f vs) E.w)(B:vs.size=us.length)
  (M: ∀(i:Nat) (v:Value) (u:V),vs[i]? =some v->us[i]? =some u->VR E v u) {ts:List T} {rd:List Nat} (I:bt st.bx us=some (ts,rd)) {r:T} (L:DCalls P f ts r) (m:rd=[]\/r.flat=true)
  {Q:Exit->Act->World->Prop} {s:List Nat}:o.wp P a E.w (bB N w0 S0 a (st.app o.dst {val:=.t r,rd:=s })) Q:=by
 obtain ⟨F,G⟩:=fY h.bx I;have p: ∀b x,Sx E rd b x->b<E.w.heap.size:=by
  rintro b x (d|⟨n,_,A,rfl⟩)
  ·exact h.lt b x d
  ·rw [h.live] at A;obtain ⟨D,j⟩:=Option.isSome_iff_exists.1 A;obtain ⟨_,J,_⟩:=(h.bx n D j).at_;exact (Array.getElem?_eq_some_iff.1 J).1
 have H:=L.2 (Sx E rd) E.w vs.toList p (h.rH rd) (by simp;omega) (fun i v t q C=>by
  have hi:i<us.length:=by rw [F];exact (gsZ C).1
  exact G i v _ t (M i v _ (by simpa using q) (ggZ hi)) (ggZ hi) C)
 unfold Oper.wp;rw [l];show Calls P f vs E.w _
 refine Calls.mono (by simpa using H) ?_;rintro e w' ⟨v,rfl,z,y⟩;rcases m with rfl|m
 ·have g:=h.world z (fun b o=>E.S b o\/(E.w.heap.size<=b/\b<w'.heap.size)) (fun b o=>⟨fun c=>c.elim .inl fun k=>.inr ⟨.inr k,k⟩,fun c=>c.elim .inl fun k=>k.1⟩);refine ⟨_,rfl,g.cL hd (.t _ _ (y.mono (fun b o c=>?_) (fun _ _ _=>aC.rfl))),by cases o.dst <;> rfl⟩;rcases c with (d|⟨n,K,_⟩)|d
  ·exact .inl d
  ·simp at K
  ·exact .inr d
 ·have g:=h.world z E.S (fun b o=>⟨.inl,fun c=>c.elim id fun k=>k.1⟩);exact ⟨_,rfl,g.cL hd (.t _ _ (y.of_flat m)),by cases o.dst <;> rfl⟩
def inR:cA->Eff->Prop
 |.no,_=>False
 |.yes e0,e=>e=e0
 |.need c e0,e=>c/\e=e0
 |.alt c b f,e=>c/\e=f b
 |.eq c t f,e=>c/\e=f t
def jS:V->Option (FuncId×List V)
 |.t (.clos f caps)=>some (f,caps.map .t)
 |.fn f caps=>some (f,caps)
 |_=>none
def cR(P:Program)(g:DOp)(d:Option Nat)(st:St)(e:Eff):Prop:=
 match g with
 |.call f args=> ∃ts rd r,bt st.bx (args.map (ev st.sl))=some (ts,rd)/\DCalls P f ts r/\(rd=[]\/r.flat=true)/\e={val:=.t r,rd:=rd }
 |.cd x args=> ∃f caps,jS (ev st.sl x)=some (f,caps)/\ ∃ts rd r,bt st.bx (args.map (ev st.sl)++caps)=some (ts,rd)/\DCalls P f ts r/\(rd=[]\/r.flat=true)/\e={val:=.t r,rd:=rd }
 |.mcall ms f args=> ∃(c:List (Nat×BX)) (h:List Nat) (m:Nat) (b:BX) (r:T),MC P f (args.map (ev st.sl)) c h m b r/\(∀ p∈c,st.bx p.1=some p.2)/\(∀ n∈h,st.bx n=none)/\m∈ms/\(st.bx m).isSome=true/\e={val:=.t r,wr:=some (m,b)}
 |g=>inR (eff g d st.sl st.bx) e
def cH(P:Program)(i:DI)(st:St)(e:Eff):Prop:=
 match i.guard with
 |none=>cR P i.op (st.nm i.dst) st e
 |some (g,want)=>(∃ b,st.sl g= .t (.bool b)/\((b=want/\cR P i.op (st.nm i.dst) st e)\/(b≠want/\e={val:=bJ })))\/(st.sl g=bJ/\e={val:=bJ })
def DOp.plain:DOp->Bool
 |.append _ _ _ _ _ _=>false
 |.appV _ _ _ _=>false
 |.buildS _ _ _ _ _=>false
 |.inl _ _=>false
 |.fcall _ _=>false
 |.mrng _=>false
 |.mnext _=>false
 |_=>true
end
section
variable {P:Program}{N:Nat}{w0:World}{S0:aa}{o:Oper}{a:Act}{E:Env}{st:St}
theorem fC{f:FuncId}{args:Array Operand}{ts:Array TypeId}{X:Operand}{caps:Array Value}(d:o.op= .call {callee:=.value X,args:=args,argTypes:=ts })(b:a.eval X= .func (.func f) #[] caps)(c:bM P f):
  (execOp a.eval o).run P E.w= .ok (.enter f (args.map a.eval++caps)) E.w:=by
 unfold execOp;simp [d,resolve,b,Deferred.ofValue,invoke,c _ _]
theorem gD(j: ∀m,VR E (a.tmps.getD m undef) (st.sl m)){b:Array Operand}{ys:List O}(c:dW b.toList=some ys):
  b.size=ys.length/\ ∀(i:Nat) (v:Value) (u:V),(b.map a.eval)[i]? =some v->(ys.map (ev st.sl))[i]? =some u->VR E v u:=by
 obtain ⟨f,g⟩:=iv _ _ _ c;refine ⟨by simpa using f,fun i v u e d=>?_⟩;simp only [Array.getElem?_map,Option.map_eq_some_iff] at e;simp only [List.getElem?_map,Option.map_eq_some_iff] at d;obtain ⟨X,h,rfl⟩:=e;obtain ⟨y,c,rfl⟩:=d;exact af j (g i X y (by simpa using h) c)
theorem eF{callee:Callee}{az:Array Operand}{argTypes:Array TypeId}{x:DOp}(b:bL P {callee:=callee,args:=az,argTypes:=argTypes }=some x):
  (∀ f args,x= .call f args->callee= .value (.func f)/\dW az.toList=some args)/\(∀ y args,x= .cd y args-> ∃X,callee= .value X/\ak X=some y/\dW az.toList=some args):=by
 simp only [bL] at b;split at b
 ·split at b
  ·rename_i fn c d has;simp only [cond_eq_ite] at b;split at b
   ·cases b;exact ⟨(fun f args e=>by cases e;exact ⟨rfl,has⟩),(fun y args e=>by cases e)⟩
   ·cases b
  ·cases b
 ·rename_i X _;split at b
  ·rename_i h c g has;cases b;exact ⟨(fun f args e=>by cases e),fun y args e=>by cases e;exact ⟨X,rfl,g,has⟩⟩
  ·cases b
 all_goals (repeat (first|(split at b)|(simp only [cond_eq_ite] at b))) <;> cases b <;> exact ⟨(fun f args e=>by cases e),fun y args e=>by cases e⟩
end
section
variable [Glb]{P:Program}{N:Nat}{w0:World}{S0:aa}{o:Oper}{a:Act}{E:Env}{st:St}
def DOp.aO:DOp->Bool
 |.call _ _=>true
 |.cd _ _=>true
 |_=>false
end
section
variable {P:Program}{N:Nat}{w0:World}{S0:aa}{o:Oper}{a:Act}{E:Env}{st:St}
theorem eY{d:Op}{x:DOp}(b:ah P d=some x)(e:x.aO=true): ∃c,d= .call c/\bL P c=some x:=by
 have f: ∀{y:DOp},some y=some x->y.aO=false->False:=fun h g=>by cases h;rw [e] at g;cases g
 cases d with
 |call c=>exact ⟨c,rfl,b⟩
 |unOp d t X=>
  exfalso;cases d <;> simp only [ah,Option.map_eq_some_iff] at b <;> first|(obtain ⟨_,_,rfl⟩:=b;cases e)|cases b
 |slice t X lo hi mx=>
  exfalso;cases lo <;> cases hi <;> cases mx <;> simp only [ah] at b <;> repeat' (first|exact f b rfl|(split at b)|(simp only [cond_eq_ite] at b)|(cases b;done))
 |binOp d t X Y ty=>
  exfalso;cases d <;> simp only [ah] at b <;> repeat' (first|exact f b rfl|(split at b)|(simp only [cond_eq_ite] at b)|(cases b;done))
 |_=>
  exfalso;simp only [ah] at b
  repeat' (first|exact f b rfl|(split at b)|(simp only [cond_eq_ite] at b)|(simp only [Option.map_eq_some_iff] at b;obtain ⟨_,_,rfl⟩:=b;cases e)|(cases b;done))
theorem lQ{g:Op}{ms:List Nat}{f:FuncId}{d:List O}(b:ah P g=some (.mcall ms f d)):False:=by
 have i: ∀{y:DOp},some y=some (DOp.mcall ms f d)->(match y with|.mcall _ _ _=>true|_=>false)=false->False:=fun j k=>by cases j;cases k
 cases g with
 |call c=>
  obtain ⟨h,az,e⟩:=c;simp only [ah,bL] at b
  repeat' (first|exact i b rfl|(split at b)|(simp only [cond_eq_ite] at b)|(cases b;done))
 |unOp g t X=>
  cases g <;> simp only [ah,Option.map_eq_some_iff] at b <;> first|(obtain ⟨_,_,b⟩:=b;cases b)|cases b
 |slice t X lo hi mx=>
  cases lo <;> cases hi <;> cases mx <;> simp only [ah] at b <;> repeat' (first|exact i b rfl|(split at b)|(simp only [cond_eq_ite] at b)|(cases b;done))
 |binOp g t X Y ty=>
  cases g <;> simp only [ah] at b <;> repeat' (first|exact i b rfl|(split at b)|(simp only [cond_eq_ite] at b)|(cases b;done))
 |_=>
  simp only [ah] at b
  repeat' (first|exact i b rfl|(split at b)|(simp only [cond_eq_ite] at b)|(simp only [Option.map_eq_some_iff] at b;obtain ⟨_,_,b⟩:=b;cases b;done)|(cases b;done))
end
section
variable [Glb]{P:Program}{N:Nat}{w0:World}{S0:aa}{o:Oper}{a:Act}{E:Env}{st:St}
theorem rU(h:SR N w0 S0 E st a.tmps)(hd:ay N o.dst){x:DOp}(G:ah P o.op=some x){e:Eff}(K:cR P x (st.nm o.dst) st e){Q:Exit->Act->World->Prop}:o.wp P a E.w (bB N w0 S0 a (st.app o.dst e)) Q:=by
 have q:Did P N w0 S0 o a E (st.app o.dst e)->o.wp P a E.w (bB N w0 S0 a (st.app o.dst e)) Q:=by
  rintro ⟨nx,v,T,l,O,C⟩;unfold Oper.wp;rw [l];rcases O with rfl|⟨rfl,rfl⟩
  ·exact ⟨T,rfl,C,by cases o.dst <;> rfl⟩
  ·exact ⟨T,rfl,C,by cases o.dst <;> rfl⟩
 have plain:inR (eff x (st.nm o.dst) st.sl st.bx) e->o.wp P a E.w (bB N w0 S0 a (st.app o.dst e)) Q:=fun hi=>by
  have m:=lM h hd G;cases l:eff x (st.nm o.dst) st.sl st.bx with
  |no=>rw [l] at hi;exact hi.elim
  |yes e0=>rw [l] at hi m;cases hi;exact q m
  |need c e0=>rw [l] at hi m;obtain ⟨s,rfl⟩:=hi;exact q (m s)
  |alt c b f=>rw [l] at hi m;obtain ⟨s,rfl⟩:=hi;exact q (m s)
  |eq c t f=>rw [l] at hi m;obtain ⟨s,rfl⟩:=hi;exact q (m s)
 cases x with
 |call f j=>
  obtain ⟨ts,rd,r,s,l,L,rfl⟩:=K;obtain ⟨⟨p,az,k⟩,R,B⟩:=eY G rfl;obtain ⟨rfl,has⟩:=(eF B).1 f j rfl;obtain ⟨F,H⟩:=gD h.sl has;have y:=fC (E:=E) (a:=a) (caps:= #[]) R rfl l.1;rw [Array.append_empty] at y;exact od h hd y (by simp [F]) H s l L
 |cd x j=>
  obtain ⟨f,caps,d,ts,rd,r,s,l,L,rfl⟩:=K;obtain ⟨⟨p,az,k⟩,R,B⟩:=eY G rfl;obtain ⟨X,rfl,W,has⟩:=(eF B).2 x j rfl;obtain ⟨F,H⟩:=gD h.sl has;have D:=af h.sl W;have key: ∃A:Array Value,a.eval X= .func (.func f) #[] A/\A.size=caps.length/\ ∀(i:Nat) (v:Value) (u:V),A[i]? =some v->caps[i]? =some u->VR E v u:=by
   unfold jS at d;split at d
   ·rename_i g cs n;simp only [Option.some.injEq,Prod.mk.injEq] at d;obtain ⟨rfl,rfl⟩:=d;rw [n] at D;have U:=D.ax;generalize a.eval X=v at U;cases U with
    |clos _ A _ m M=>
     refine ⟨A,rfl,by simpa using m,fun i v u n z=>?_⟩;simp only [List.getElem?_map,Option.map_eq_some_iff] at z;obtain ⟨t,Y,rfl⟩:=z;exact .t _ _ (M i v t n Y)
   ·rename_i g cs n;simp only [Option.some.injEq,Prod.mk.injEq] at d;obtain ⟨rfl,rfl⟩:=d;rw [n] at D;generalize a.eval X=v at D;cases D with
    |fn _ A _ m M=>exact ⟨A,rfl,m,M⟩
   ·cases d
  obtain ⟨A,I,S,J⟩:=key;have y:=fC (E:=E) (a:=a) R I l.1;refine od h hd y (by simp [F,S]) (fun i v u n z=>?_) s l L
  by_cases hi:i<az.size
  ·rw [Array.getElem?_append_left (by simpa using hi)] at n;rw [List.getElem?_append_left (by simp;omega)] at z;exact H i v u n z
  ·rw [Array.getElem?_append_right (by simp;omega)] at n;rw [List.getElem?_append_right (by simp;omega)] at z;simp only [Array.size_map,List.length_map] at n z;rw [<- F] at z;exact J _ v u n z
 |mcall ms f j=>exact (lQ G).elim
 |_=>exact plain K
end
end Go.DL
end
section
namespace Go.DL
open Go.RowKit
section
variable [Glb]{P:Program}{N:Nat}{w0:World}{S0:aa}{o:Oper}{a:Act}{E:Env}{st:St}
theorem SR.step{c:Env}{b:Array Value}(h:SR N w0 S0 E st b)(g:Grow E c)(d:c.κ=E.κ)(l:c.live=E.live)(e: ∀n,E.live n=true->c.w.heap[E.κ n]? =E.w.heap[E.κ n]? /\ ∀o, ¬c.S (E.κ n) o)
  (A: ∀r g,c.ρ r=some g->c.B<=g/\g<c.w.heap.size/\ ∀n,c.live n=true->c.κ n≠g) (z: ∀r q g,c.ρ r=some g->c.ρ q=some g->r=q) (f: ∀b o,c.S b o->b<c.w.heap.size)
  (v:Below w0.heap.size w0 c.w) (j: ∀b o,c.S b o->S0.S b o\/w0.heap.size<=b) (i: ∀(k:Nat) (o:Obj),bY o=true->E.w.heap[k]? =some o->c.w.heap[k]? =some o):SR N w0 S0 c st b:=by
 refine ⟨h.size,g.B.trans h.base,h.glob,fun m=>(h.sl m).grow g,fun k m=>(h.gh k m).grow g,fun n s p=>?_,fun n=>by rw [l];exact h.live n,by rw [d,l];exact h.inj,A,z,f,v,fun b o x=>g.S b o (h.s0 b o x),j,fun k o d=>⟨(h.obj k o d).1,i k o (h.obj k o d).1 (h.obj k o d).2⟩,h.cx⟩;have y:E.live n=true:=by rw [h.live,p];rfl
 obtain ⟨t,u⟩:=e n y;rw [d];exact (h.bx n s p).grow g t u
end
section
variable {P:Program}{N:Nat}{w0:World}{S0:aa}{o:Oper}{a:Act}{E:Env}{st:St}
mutual
theorem VR.dg{b:Nat->Option Nat}{r d:Nat}(i: ∀q,q≠r->q≠d->b q=E.ρ q): ∀{u:V} {v:Value},VR E v u->VR {E with ρ:=b } v (DL.dg r d u)
 |.top,v,_=>.top v
 |.raw x,v,h=>by
  cases h with
  |raw _ c=>exact .raw _ c
 |.t x,v,h=>.t v x h.ax
 |.ptr n off,v,h=>by
  obtain ⟨rfl,p⟩:=h.bh;exact .ptr (E:={E with ρ:=b }) n off p
 |.mp n,v,h=>by
  obtain ⟨rfl,p⟩:=h.eN;exact .mp (E:={E with ρ:=b }) n p
 |.view n off len size,v,h=>by
  obtain ⟨cap,rfl,j,p⟩:=h.bO;exact .view (E:={E with ρ:=b }) n off len size cap p j
 |.own q e n xs,v,h=>by
  have k:=h.fl;unfold DL.dg;cases j:(Nat.beq q r||Nat.beq q d) with
  |true=>exact .t _ _ k.rep
  |false=>
   rw [Bool.or_eq_false_iff] at j;have c:q≠r:=fun e=>by rw [e,cG] at j;cases j.1
   have l:q≠d:=fun e=>by rw [e,cG] at j;cases j.2
   exact .own _ _ _ _ _ ⟨k.ex,k.uni,k.one,fun g w=>⟨(i q c l).trans (k.row g w).1,(k.row g w).2⟩⟩
 |.full size xs,v,h=>by
  cases h with
  |full a len _ _ y=>exact .full (E:={E with ρ:=b }) a len size xs y
 |.fn f caps,v,h=>by
  cases h with
  |fn _ cs _ s m=>
   obtain ⟨c,l⟩:=VR.dgs i (cs:=cs) (us:=caps) s m;exact .fn f cs _ c l
 |.tup vs,v,h=>by
  cases h with
  |tup cs _ s m=>
   obtain ⟨c,l⟩:=VR.dgs i (cs:=cs) (us:=vs) s m;exact .tup cs _ c l
 |.agv vs,v,h=>by
  cases h with
  |agv cs _ s c m=>
   obtain ⟨k1,k2⟩:=VR.dgs i (cs:=cs) (us:=vs) s m;exact .agv cs _ k1 c k2
theorem VR.dgs{f:Nat->Option Nat}{r d:Nat}(e: ∀q,q≠r->q≠d->f q=E.ρ q): ∀{us:List V} {cs:Array Value},cs.size=us.length->(∀ (i:Nat) (x:Value) (u:V),cs[i]? =some x->us[i]? =some u->VR E x u)->
  cs.size=(DL.dgs r d us).length/\ ∀(i:Nat) (x:Value) (u:V),cs[i]? =some x->(DL.dgs r d us)[i]? =some u->VR {E with ρ:=f } x u
 |[],cs,hs,_=>⟨hs,fun i x u _ c=>by simp [DL.dgs] at c⟩
 |u0::us,cs,hs,h=>by
  have g:0<cs.size:=by simp at hs;omega
  have j:=VR.dg e (h 0 cs[0] u0 (by simp [g]) rfl);obtain ⟨k,l⟩:=VR.dgs e (us:=us) (cs:=cs.extract 1 cs.size) (by simp at hs ⊢;omega) (fun i x u b c=>h (i+1) x u (by
   rw [Array.getElem?_extract] at b;split at b
   ·rwa [Nat.add_comm] at b
   ·cases b) (by simpa using c))
  refine ⟨by simp [DL.dgs] at k ⊢;omega,fun i x u b c=>?_⟩;cases i with
  |zero=>
   simp [DL.dgs,g] at b c;subst b;subst c;exact j
  |succ i=>
   have m:i+1<cs.size:=(Array.getElem?_eq_some_iff.1 b).1;exact l i x u (by rw [Array.getElem?_extract,if_pos (by omega),Nat.add_comm];exact b) (by simpa [DL.dgs] using c)
end
theorem lq(r d:Nat): ∀vs:List V,DL.dgs r d vs=vs.map (DL.dg r d)
 |[]=>rfl
 |v::vs=>by unfold DL.dgs;rw [lq r d vs];rfl
end
section
variable [Glb]{P:Program}{N:Nat}{w0:World}{S0:aa}{o:Oper}{a:Act}{E:Env}{st:St}
theorem SR.dg{b:Array Value}(h:SR N w0 S0 E st b)(r d:Nat):SR N w0 S0 {E with ρ:=fun q=>if q=r\/q=d then none else E.ρ q } (st.dg r d) b:=by
 have l: ∀q,q≠r->q≠d->(fun q=>if q=r\/q=d then none else E.ρ q) q=E.ρ q:=fun q p s=>by simp [p,s]
 have L: ∀q g,(if q=r\/q=d then none else E.ρ q)=some g->E.ρ q=some g:=fun q g y=>by
  split at y
  ·cases y
  ·exact y
 refine ⟨h.size,h.base,h.glob,fun m=>(h.sl m).dg l,fun k m=>(h.gh k m).dg l,fun n R z=>?_,fun n=>?_,h.inj,fun q g y=>h.rows q g (L q g y),fun q Q g p s=>h.rinj q Q g (L q g p) (L Q g s),h.lt,h.below,h.s0,h.s1,h.obj,h.cx⟩
 ·have z:(st.bx n).map (dgB r d)=some R:=z;simp only [Option.map_eq_some_iff] at z;obtain ⟨S,D,rfl⟩:=z;have C:=h.bx n S D;obtain ⟨Z,V,I⟩:=C.at_;refine ⟨C.old,C.free,Z,V,?_⟩;cases I with
  |map f j A M B Y w=>exact .map f j A M B Y ⟨w.size,w.at_,w.lt,w.apart,w.mb⟩
  |itd k f c A M B ix F T t=>exact bS.itd (E:={E with ρ:=fun q=>if q=r\/q=d then none else E.ρ q }) k f c A M B ix F T ⟨t.size,t.at_,t.lt,t.apart,t.mb⟩
  |it m bs c ix H=>exact bS.it (E:={E with ρ:=fun q=>if q=r\/q=d then none else E.ρ q }) m bs c ix H
  |cells cs e _ U=>
  refine .cells cs e _ ?_;cases U with
  |d m ts H J G=>exact .d m ts H J G
  |v vs J G=>
   refine .v _ (by rw [lq,List.length_map];exact J) (fun i x u W O=>?_);rw [lq,List.getElem?_map,Option.map_eq_some_iff] at O;obtain ⟨u0,K,rfl⟩:=O;obtain ⟨p,s⟩:=G i x u0 W K;exact ⟨p.dg l,s⟩
 ·show E.live n=((st.bx n).map (dgB r d)).isSome
  rw [h.live,Option.isSome_map]
structure fW (E:Env) (size:Nat) (ys:List T) (news:List Value):Prop where
 len:news.length=(ys.flatMap T.cells).length
 rep: ∀(i:Nat) (x:Value) (t:T),news[i]? =some x->(ys.flatMap T.cells)[i]? =some t->Rep E.S E.w x t
 uni: ∀x∈ys,x.cells.length=size
 one: ∀t∈ys.flatMap T.cells,t.one=true
theorem SR.newRow(h:SR N w0 S0 E st a.tmps){d q:Nat}(hd:d<N){e:TypeId}{size:Nat}{xs:List T}{cells:List Value}{rest:Array Value}{cap:Nat}(y:fW E size xs cells)(U:E.ρ q=none){w':World}(Q:w'=E.w\/w'=E.w.drew)
  (R:xs.length<=cap) (Z:cap<=maxLen) (M:(cells.toArray++rest).size=cap * size):
  ∃v:Env,v.w=w'.alloc (.cells (cells.toArray++rest) e)/\SR N w0 S0 v (st.put d (.own q e size xs)) (a.tmps.setIfInBounds d (.slice (some ⟨w'.heap.size,0,none⟩) xs.length cap)):=by
 have A:w'.heap.size=E.w.heap.size:=by rcases Q with rfl|rfl <;> rfl
 have O:Below E.w.heap.size E.w w':=by rcases Q with rfl|rfl;exact Below.refl _ _;exact (Below.refl _ _).drew
 let cs:Array Value:=cells.toArray++rest
 let v:Env:={E with w:=w'.alloc (.cells cs e),S:=fun b o=>E.S b o\/(b=E.w.heap.size/\o<cells.length),ρ:=upd E.ρ q (some E.w.heap.size)}
 have D:Below E.w.heap.size E.w (w'.alloc (.cells cs e)):=O.trans ((Below.refl _ _).alloc (by omega) _);have u: ∀b o,E.S b o->b≠E.w.heap.size:=fun b o c e=>by have:=h.lt b o c;omega
 have g:Grow E v:=by
  refine ⟨rfl,fun n p=>⟨p,rfl⟩,fun r k l=>?_,fun b o c=>.inl c,fun b o c=>aC.cY D (h.lt b o c)⟩;have s:r≠q:=fun e=>by rw [e,U] at l;cases l
  have z:=(h.rows r k l).2.1;refine ⟨(ae _ _ _ _ s).trans l,D.block k z,fun o=>⟨fun c=>c.elim id fun G=>absurd G.1 (by omega),.inl⟩⟩
 have L:SR N w0 S0 v st a.tmps:=by
  refine h.step g rfl rfl (fun n p=>?_) (fun r k l=>?_) (fun r J k f m=>?_) (fun b o c=>?_) ?_ (fun b o c=>?_) (fun k o _ z=>(D.block k (Array.getElem?_eq_some_iff.1 z).1).trans z)
  ·have K:E.κ n<E.w.heap.size:=by
    rw [h.live] at p;obtain ⟨C,j⟩:=Option.isSome_iff_exists.1 p;obtain ⟨_,f,_⟩:=(h.bx n C j).at_;exact (Array.getElem?_eq_some_iff.1 f).1
   refine ⟨D.block _ K,fun o c=>?_⟩;rcases c with c|⟨c,_⟩
   ·rw [h.live] at p;obtain ⟨C,j⟩:=Option.isSome_iff_exists.1 p;exact (h.bx n C j).free o c
   ·omega
  ·have l:upd E.ρ q (some E.w.heap.size) r=some k:=l
   by_cases s:r=q
   ·subst s;rw [ai] at l;cases l;refine ⟨by show E.B<=_;rw [h.base];exact h.below.size,by show _<(w'.alloc _).heap.size;simp;omega,fun n p=>?_⟩;rw [show v.live n=E.live n from rfl,h.live] at p;obtain ⟨C,j⟩:=Option.isSome_iff_exists.1 p;obtain ⟨_,f,_⟩:=(h.bx n C j).at_
    have:=(Array.getElem?_eq_some_iff.1 f).1
    show E.κ n≠_
    omega
   ·rw [ae _ _ _ _ s] at l;obtain ⟨f,m,Y⟩:=h.rows r k l;exact ⟨f,by show k<(w'.alloc _).heap.size;simp;omega,Y⟩
  ·have f:upd E.ρ q (some E.w.heap.size) r=some k:=f;have m:upd E.ρ q (some E.w.heap.size) J=some k:=m
   by_cases H:r=q <;> by_cases I:J=q
   ·rw [H,I]
   ·subst H;rw [ai] at f;rw [ae _ _ _ _ I] at m;cases f
    have:=(h.rows J _ m).2.1;omega
   ·subst I;rw [ai] at m;rw [ae _ _ _ _ H] at f;cases m
    have:=(h.rows r _ f).2.1;omega
   ·rw [ae _ _ _ _ H] at f;rw [ae _ _ _ _ I] at m;exact h.rinj r J k f m
  ·show b<(w'.alloc _).heap.size
   rcases c with c|⟨c,_⟩
   ·have:=h.lt b o c;simp;omega
   ·simp;omega
  ·exact h.below.trans (D.mono h.below.size)
  ·rcases c with c|⟨c,_⟩
   ·exact h.s1 b o c
   ·right;have:=h.below.size;omega
 have V:(w'.alloc (.cells cs e)).heap[w'.heap.size]? =some (.cells cs e (0,0)):=heap_alloc_new _ _;have F:=aJ y.uni;have W:cs.toList.take (xs.length * size)=cells:=by
  show (cells.toArray++rest).toList.take _=_
  rw [Array.toList_append,List.toList_toArray, <-F, <-y.len];exact List.take_left
 have iX:bU v (.slice (some ⟨w'.heap.size,0,none⟩) xs.length cap) q e size xs:=by
  refine ⟨⟨cells,⟨by rw [y.len,F],.inr ⟨w'.heap.size,cap,cs,rfl,?_,V,R,Z,M,W⟩⟩,y.len,fun i x t hx ht=>g.rep (y.rep i x t hx ht)⟩,y.uni,y.one,fun k z=>?_⟩
  ·show E.B<=_
   rw [A,h.base];exact h.below.size
  ·simp only [Value.ownBlock,Option.some.injEq] at z;subst z;refine ⟨by show upd E.ρ q _ q=_;rw [ai,A],fun o=>?_⟩;show (E.S w'.heap.size o\/(w'.heap.size=E.w.heap.size/\o<cells.length))↔_
   rw [<- y.len,A];exact ⟨fun G=>G.elim (fun c=>absurd rfl (u _ _ c)) (·.2),fun G=>.inr ⟨rfl,G⟩⟩
 exact ⟨v,rfl,L.put hd (.own _ _ _ _ _ iX)⟩
theorem SR.rO(h:SR N w0 S0 E st a.tmps){d q f:Nat}(hd:d<N){e:TypeId}{size:Nat}{xs:List T}{cells:List Value}{rest:Array Value}{cap k:Nat}(y:fW E size xs cells)(cK:E.ρ q=none)
  {D:Array Value} (F:E.w.heap[f]? =some (.cells D e (0,0))) (m:E.B<=f) (Y: ∀n,E.live n=true->E.κ n≠f) (R: ∀r,E.ρ r≠some f) (Z: ∀o,E.S f o↔o<k) (A:k<=cells.length)
  (qJ: ∀o,o<k->(cells.toArray++rest)[o]? =D[o]?) (cB:xs.length<=cap) (hm:cap<=maxLen) (W:(cells.toArray++rest).size=cap * size):
  ∃z:Env,z.w=E.w.setRow f (cells.toArray++rest)/\SR N w0 S0 z (st.put d (.own q e size xs)) (a.tmps.setIfInBounds d (.slice (some ⟨f,0,none⟩) xs.length cap)):=by
 let cs:Array Value:=cells.toArray++rest
 let z:Env:={E with w:=E.w.setRow f cs,S:=fun b o=>E.S b o\/(b=f/\o<cells.length),ρ:=upd E.ρ q (some f)}
 have ug:f<E.w.heap.size:=(Array.getElem?_eq_some_iff.1 F).1;have l: ∀k,k≠f->(E.w.setRow f cs).heap[k]? =E.w.heap[k]? :=fun k A=>setRow_other _ _ _ _ A
 have O:(E.w.setRow f cs).heap.size=E.w.heap.size:=by simp
 have iW:(E.w.setRow f cs).heap[f]? =some (.cells cs e (0,0)):=setRow_heap _ _ _ _ _ _ F;have g:Grow E z:=by
  refine ⟨rfl,fun n C=>⟨C,rfl⟩,fun r k p=>?_,fun b o j=>.inl j,fun b o j=>?_⟩
  ·have v:r≠q:=fun e=>by rw [e,cK] at p;cases p
   have K:k≠f:=fun e=>R r (e▸p)
   exact ⟨(ae _ _ _ _ v).trans p,l k K,fun o=>⟨fun j=>j.elim id fun I=>absurd I.1 K,.inl⟩⟩
  ·by_cases G:b=f
   ·subst G;refine ⟨?_,fun arr c hg=>by rw [F] at hg;cases hg⟩;show (E.w.setRow b cs).cell? _=_
    rw [cell_of_row _ _ _ _ _ _ iW,cell_of_row _ _ _ _ _ _ F];exact qJ o ((Z o).1 j)
   ·exact aC.dG (l b G)
 have V:SR N w0 S0 z st a.tmps:=by
  refine h.step g rfl rfl (fun n C=>⟨l _ (Y n C),fun o j=>?_⟩) (fun r k p=>?_) (fun r Q k s u=>?_) (fun b o j=>?_) ?_ (fun b o j=>?_) (fun k o hc A=>(l k fun e=>by rw [e,F] at A;cases A;cases hc).trans A)
  ·rcases j with j|⟨j,_⟩
   ·rw [h.live] at C;obtain ⟨b',U⟩:=Option.isSome_iff_exists.1 C;exact (h.bx n b' U).free o j
   ·exact Y n C j
  ·have p:upd E.ρ q (some f) r=some k:=p
   by_cases v:r=q
   ·subst v;rw [ai] at p;cases p;exact ⟨m,by show _<(E.w.setRow _ _).heap.size;rw [O];exact ug,Y⟩
   ·rw [ae _ _ _ _ v] at p;obtain ⟨s,u,h3⟩:=h.rows r k p;exact ⟨s,by show _<(E.w.setRow _ _).heap.size;rw [O];exact u,h3⟩
  ·have s:upd E.ρ q (some f) r=some k:=s;have u:upd E.ρ q (some f) Q=some k:=u
   by_cases L:r=q <;> by_cases M:Q=q
   ·rw [L,M]
   ·subst L;rw [ai] at s;rw [ae _ _ _ _ M] at u;cases s;exact absurd u (R Q)
   ·subst M;rw [ai] at u;rw [ae _ _ _ _ L] at s;cases u;exact absurd s (R r)
   ·rw [ae _ _ _ _ L] at s;rw [ae _ _ _ _ M] at u;exact h.rinj r Q k s u
  ·show b<(E.w.setRow _ _).heap.size
   rw [O];rcases j with j|⟨j,_⟩
   ·exact h.lt b o j
   ·omega
  ·refine h.below.trans (.of rfl rfl rfl (by show _<=(E.w.setRow _ _).heap.size;rw [O];exact Nat.le_refl _) (fun k A=>l k ?_) (Nat.le_refl _))
   have:=m
   rw [h.base] at this;omega
  ·rcases j with j|⟨j,_⟩
   ·exact h.s1 b o j
   ·right;rw [<- h.base];omega
 have H:=aJ y.uni;have fM:cs.toList.take (xs.length * size)=cells:=by
  show (cells.toArray++rest).toList.take _=_
  rw [Array.toList_append,List.toList_toArray, <-H, <-y.len];exact List.take_left
 have iX:bU z (.slice (some ⟨f,0,none⟩) xs.length cap) q e size xs:=by
  refine ⟨⟨cells,⟨by rw [y.len,H],.inr ⟨f,cap,cs,rfl,m,iW,cB,hm,W,fM⟩⟩,y.len,fun i x t hx ht=>g.rep (y.rep i x t hx ht)⟩,y.uni,y.one,fun k' J=>?_⟩;simp only [Value.ownBlock,Option.some.injEq] at J;subst J;refine ⟨by show upd E.ρ q _ q=_;rw [ai],fun o=>?_⟩;show (E.S f o\/(f=f/\o<cells.length))↔_
  rw [<- y.len];exact ⟨fun I=>I.elim (fun j=>by have:=(Z o).1 j;omega) (·.2),fun I=>.inr ⟨rfl,I⟩⟩
 exact ⟨z,rfl,V.put hd (.own _ _ _ _ _ iX)⟩
end
end Go.DL
end
section
namespace Go.DL
open Go.RowKit
section
variable [Glb]{P:Program}{N:Nat}{w0:World}{S0:aa}{o:Oper}{a:Act}{E:Env}{st:St}
end
section
variable {P:Program}{N:Nat}{w0:World}{S0:aa}{o:Oper}{a:Act}{E:Env}{st:St}
theorem fW.append{size:Nat}{xs ys:List T}{f g:List Value}(c:fW E size xs f)(e:fW E size ys g):fW E size (xs++ys) (f++g):=by
 refine ⟨by simp [c.len,e.len],fun i x t d b=>?_,fun x d=>?_,fun t b=>?_⟩
 ·rw [List.flatMap_append] at b
  by_cases hi:i<f.length
  ·rw [List.getElem?_append_left hi] at d;rw [List.getElem?_append_left (by rw [<- c.len];exact hi)] at b;exact c.rep i x t d b
  ·rw [List.getElem?_append_right (by omega)] at d;rw [List.getElem?_append_right (by rw [<- c.len];omega), <-c.len] at b;exact e.rep _ x t d b
 ·rcases List.mem_append.1 d with h|h
  ·exact c.uni x h
  ·exact e.uni x h
 ·rw [List.flatMap_append] at b;rcases List.mem_append.1 b with h|h
  ·exact c.one t h
  ·exact e.one t h
theorem j8{t u ty e:TypeId}{i:TypeInfo}(p:P.underlying t=some (.slice e))(hi:P.info? e=some i){g b cap:Nat}{d:Array Value}{k:TypeId}(m:E.w.heap[g]? =some (.cells d k (0,0))){y:Value}{n:Nat}{c:List Value}(h:Src P i.size u y n c E.w)
  (l:b+n<=cap) (r:b * i.size+c.length<=d.size):
  (Builtin.append_ #[t,u] ty #[.slice (some ⟨g,0,none⟩) b cap,y]).run P E.w= .ok (.slice (some ⟨g,0,none⟩) (b+n) cap) (E.w.setRow g (d.toList.take (b * i.size)++c++d.toList.drop (b * i.size+c.length)).toArray):=by
 have f:=run_storeCells_at (P:=P) g (b * i.size) k c 0 d E.w m (by omega) h.one;simp only [Nat.add_zero] at f;have q:(⟨g,0,none⟩:Addr).add (b * i.size)=⟨g,b * i.size,none⟩:=by rw [bq,Nat.zero_add]
 rcases h.kind with ⟨s,j⟩|j <;> simp [Builtin.append_,run_underlying p,run_underlying j,sizeOf,typeInfo,hi,h.len,l,h.cells,q,f]
end
section
variable [Glb]{P:Program}{N:Nat}{w0:World}{S0:aa}{o:Oper}{a:Act}{E:Env}{st:St}
theorem oC(h:SR N w0 S0 E st a.tmps){d q:Nat}(hd:d<N){t ty e:TypeId}{i:TypeInfo}{z:Value}(ht:P.underlying t=some (.slice e))(hi:P.info? e=some i)(hz:i.zero=some z)(hzs:z.cells.size=i.size)(hsz:0<i.size)(hby:0<i.bytes)
  {v:Value} {r:Nat} {xs:List T} (H:bU E v r e i.size xs) {y:Value} {u:TypeId} {ys:List T} {b:List Value} (p:cF P E y i.size ys b) (hk:(∃ e',P.underlying u=some (.slice e'))\/P.underlying u=some .string) (bA:(xs.length+ys.length) * i.bytes<=140737488355328):
  ∃(v':Value) (s:Env),(Builtin.append_ #[t,u] ty #[v,y]).run P E.w= .ok v' s.w/\SR N w0 S0 s ((st.dg r q).put d (.own q e i.size (xs++ys))) (a.tmps.setIfInBounds d v'):=by
 have h1:=h.dg r q;have cK:(fun x=>if x=r\/x=q then none else E.ρ x) q=none:=by simp
 obtain ⟨cells,iX,m,V⟩:=H.ex;have U:fW {E with ρ:=fun x=>if x=r\/x=q then none else E.ρ x } i.size xs cells:=⟨m,V,H.uni,H.one⟩
 have hle:xs.length+ys.length<=140737488355328:=Nat.le_trans (Nat.le_mul_of_pos_right _ hby) bA;have hml:xs.length+ys.length<=maxLen:=by unfold maxLen;omega
 by_cases hm:ys.length=0
 ·
  have hy0:ys=[]:=List.eq_nil_of_length_eq_zero hm;subst hy0;have F:b=[]:=List.eq_nil_of_length_eq_zero (by simpa using p.len);subst F;have Z:=p.oZ hk;have j: ∀{A:Option Addr} {n cap:Nat},n<=cap->(Builtin.append_ #[t,u] ty #[.slice A n cap,y]).run P E.w= .ok (.slice A n cap) E.w:=fun {A n cap} hn=>Go.run_append_nothing E.w t u ty e i ht hi A n cap hn y Z
  rw [List.append_nil];rcases iX.2 with ⟨rfl,F⟩|⟨g,cap,c,rfl,J,L,M,C,K,fM⟩
  ·refine ⟨.slice none 0 0,{E with ρ:=fun x=>if x=r\/x=q then none else E.ρ x },j (Nat.le_refl _),h1.put hd (.own _ _ _ _ _ ⟨⟨cells,iX,m,V⟩,H.uni,H.one,fun g L=>by simp [Value.ownBlock] at L⟩)⟩
  ·obtain ⟨mW,oU⟩:=H.row g rfl;have R:cells.toArray++(c.toList.drop (xs.length * i.size)).toArray=c:=by
    apply Array.ext'
    simp only [Array.toList_append,List.toList_toArray];rw [<- fM,List.take_append_drop]
   obtain ⟨s,I,f⟩:=h1.rO (rest:=(c.toList.drop (xs.length * i.size)).toArray) (cap:=cap) (k:=(xs.flatMap T.cells).length) hd U cK L J (h.rows r g mW).2.2 (fun q G=>by
     dsimp only at G;split at G
     ·cases G
     ·rename_i O;exact O (.inl (h.rinj q r g G mW))) (fun o=>oU o) (by rw [m];exact Nat.le_refl _) (fun o _=>by rw [R]) M C (by rw [R];exact K)
   refine ⟨_,s,?_,f⟩;rw [I,R,setRow_self _ _ _ _ _ L];exact j M
 ·have B:fW E i.size ys b:=⟨p.len,p.rep,p.uni,p.one⟩
  have Z:=p.oZ hk;have tW:fW {E with ρ:=fun x=>if x=r\/x=q then none else E.ρ x } i.size ys b:=⟨B.len,B.rep,B.uni,B.one⟩
  have hN:=U.append tW;have Y:b.length=ys.length * i.size:=by rw [B.len,aJ B.uni]
  have W:cells.length=xs.length * i.size:=by rw [m,aJ H.uni]
  have S:((xs.length+ys.length:Nat):Int)<=9223372036854775807:=by omega
  have D: ∀l,l<xs.length+ys.length-> ∃s:Env,s.w=E.w.drew.alloc (.cells ((cells++b).toArray++Builtin.zeroCells z.cells (grownCap E.w (xs.length+ys.length) l e - (xs.length+ys.length))) e)/\
    SR N w0 S0 s ((st.dg r q).put d (.own q e i.size (xs++ys))) (a.tmps.setIfInBounds d (.slice (some ⟨E.w.heap.size,0,none⟩) (xs++ys).length (grownCap E.w (xs.length+ys.length) l e))):=fun l hold=>by
   have hge:=grownCap_ge E.w (xs.length+ys.length) l e;have C:=grownCap_le_maxLen E.w (xs.length+ys.length) l e hml
   have:=h1.newRow (e:=e) (rest:=Builtin.zeroCells z.cells (grownCap E.w (xs.length+ys.length) l e - (xs.length+ys.length))) (cap:=grownCap E.w (xs.length+ys.length) l e) hd hN cK (w':=E.w.drew) (.inr rfl) (by simpa using hge) C (by
    simp only [Array.size_append,List.size_toArray,List.length_append,size_zeroCells,hzs,W,Y, <-Nat.add_mul]
    congr 1;omega)
   exact this
  rcases iX.2 with ⟨rfl,F⟩|⟨g,cap,c,rfl,J,L,M,C,K,fM⟩
  ·have hx:xs=[]:=List.eq_nil_of_length_eq_zero F;subst hx;have hc0:cells=[]:=List.eq_nil_of_length_eq_zero (by simpa using m);subst hc0;obtain ⟨s,I,f⟩:=D 0 (by simp;omega);have Q:=run_append_grow_src (P:=P) E.w t u ty e i z ht hi hz none 0 0 [] (by simp [Builtin.firstCells]) y ys.length b Z (by omega) (by simpa using S) (growslice_fits (by omega) (by simpa using bA));simp only [List.length_nil,Nat.zero_add,List.nil_append] at I f Q ⊢;exact ⟨_,s,by rw [I];exact Q,f⟩
  ·by_cases gk:xs.length+ys.length<=cap
   ·have sU:xs.length * i.size+b.length<=c.size:=by rw [Y,K, <-Nat.add_mul];exact Nat.mul_le_mul_right _ gk
    have Q:=j8 (E:=E) (ty:=ty) ht hi L Z gk sU;obtain ⟨mW,oU⟩:=H.row g rfl;have R:(c.toList.take (xs.length * i.size)++b++c.toList.drop (xs.length * i.size+b.length)).toArray=(cells++b).toArray++(c.toList.drop (xs.length * i.size+b.length)).toArray:=by
     rw [fM];simp
    rw [R] at Q;obtain ⟨s,I,f⟩:=h1.rO (rest:=(c.toList.drop (xs.length * i.size+b.length)).toArray) (cap:=cap) (k:=(xs.flatMap T.cells).length) hd hN cK L J (h.rows r g mW).2.2 (fun q G=>by
      dsimp only at G;split at G
      ·cases G
      ·rename_i O;exact O (.inl (h.rinj q r g G mW))) (fun o=>oU o) (by rw [List.length_append,m];exact Nat.le_add_right _ _) (fun o ho=>by
      rw [<- m] at ho;rw [Array.getElem?_append_left (by simp;omega),List.getElem?_toArray,List.getElem?_append_left ho, <-fM,List.getElem?_take,if_pos (by omega)]
      simp) (by simpa using gk) C (by simp only [Array.size_append,List.size_toArray,List.length_append,List.length_drop,Array.length_toList];omega)
    refine ⟨_,s,?_,f⟩;rw [I,List.length_append];exact Q
   ·have holds:=iX.cells (g:=g) rfl;have Q:=run_append_grow_src (P:=P) E.w t u ty e i z ht hi hz (some ⟨g,0,none⟩) xs.length cap cells (run_firstCells_some E.w.drew i.size xs.length ⟨g,0,none⟩ xs.length cap cells W (by simpa using holds)) y ys.length b Z (by omega) S (growslice_fits (by omega) bA);obtain ⟨s,I,f⟩:=D cap (by omega);refine ⟨_,s,?_,f⟩;rw [I,List.length_append];exact Q
theorem qk{b:Array Value}(h:SR N w0 S0 E st b){t ty u e:TypeId}{i:TypeInfo}{z:Value}(l:P.underlying t=some (.slice e))(hi:P.info? e=some i)(hz:i.zero=some z)(hzs:z.cells.size=i.size)(O:0<i.size)(G:0<i.bytes)
  {A:Option Addr} {len:Nat} {xs:List T} (Q:Rep E.S E.w (.slice A len len) (.slice i.size xs)) {y:Value} {ys:List T} {d:List Value} (f:cF P E y i.size ys d) (hk:(∃ e',P.underlying u=some (.slice e'))\/P.underlying u=some .string) (U:(xs.length+ys.length) * i.bytes<=140737488355328):
  ∃(v':Value) (D:Env),(Builtin.append_ #[t,u] ty #[.slice A len len,y]).run P E.w= .ok v' D.w/\SR N w0 S0 D st b/\Rep D.S D.w v' (.slice i.size (xs++ys)):=by
 have r:=f.oZ hk;have hl2:d.length=ys.length * i.size:=by rw [f.len,aJ f.uni]
 by_cases hm:ys.length=0
 ·have R:ys=[]:=List.eq_nil_of_length_eq_zero hm;subst R;have L:d=[]:=List.eq_nil_of_length_eq_zero (by simpa using f.len);subst L;exact ⟨_,E,Go.run_append_nothing E.w t u ty e i l hi A len len (Nat.le_refl _) y r,h,by rw [List.append_nil];exact Q⟩
 ·have hle:xs.length+ys.length<=140737488355328:=Nat.le_trans (Nat.le_mul_of_pos_right _ G) U;have hv0:=Q;cases Q with
  |slice _ b0 off _ _ _ _ g s hc Y h1 ha hg aq=>
  subst s;have p:=aJ Y;have get: ∀j v,((List.range (xs.flatMap T.cells).length).map g)[j]? =some v->j<(xs.flatMap T.cells).length/\g j=v:=fun j v n=>by
   have m:j<(xs.flatMap T.cells).length:=by simpa using (gsZ n).1
   rw [List.getElem?_map,List.getElem?_range m] at n;exact ⟨m,by simpa using n⟩
  let c:List Value:=(List.range (xs.flatMap T.cells).length).map g
  have q:c.length=xs.length * i.size:=by simp [c,p]
  have B:(Builtin.firstCells i.size xs.length (.slice A xs.length xs.length)).run P E.w.drew= .ok c.toArray E.w.drew:=by
   by_cases V:xs.length=0
   ·have M:c=[]:=List.eq_nil_of_length_eq_zero (by rw [q,V,Nat.zero_mul]);rw [M,V];cases A with
    |none=>simp [Builtin.firstCells]
    |some ad=>simp [Builtin.firstCells,loadCells,loadCellsFrom]
   ·rw [ha (by rw [p];exact Nat.mul_pos (by omega) O)];refine run_firstCells_some E.w.drew i.size xs.length ⟨b0,off,none⟩ xs.length xs.length c q (fun j v n=>?_);obtain ⟨m,rfl⟩:=get j v n;rw [bq];simpa using (hg j m).1
  have F:=run_append_grow_src (P:=P) E.w t u ty e i z l hi hz A xs.length xs.length c B y ys.length d r (by omega) (by omega) (growslice_fits (by omega) U);have I:=grownCap_ge E.w (xs.length+ys.length) xs.length e;generalize H:(c++d).toArray++Builtin.zeroCells z.cells (grownCap E.w (xs.length+ys.length) xs.length e - (xs.length+ys.length))=cs at F;have W:Below E.w.heap.size E.w (E.w.drew.alloc (.cells cs e)):=((Below.refl _ _).drew).alloc (Nat.le_refl _) _;have h':=h.world W (fun b o=>E.S b o\/(E.w.heap.size<=b/\b<(E.w.drew.alloc (.cells cs e)).heap.size)) (fun b o=>⟨fun J=>J.elim .inl fun k=>.inr ⟨.inr k,k⟩,fun J=>J.elim .inl fun k=>k.1⟩);refine ⟨_,{E with w:=E.w.drew.alloc (.cells cs e),S:=fun b o=>E.S b o\/(E.w.heap.size<=b/\b<(E.w.drew.alloc (.cells cs e)).heap.size)},F,h',?_⟩;have iW:(E.w.drew.alloc (.cells cs e)).heap[E.w.heap.size]? =some (.cells cs e (0,0)):=heap_alloc_new E.w.drew _;have Z:((xs++ys).flatMap T.cells).length=(c++d).length:=by
   rw [List.flatMap_append,List.length_append,List.length_append,p,q,f.len]
  have up: ∀{v:Value} {t:T},Rep E.S E.w v t->Rep (fun b o=>E.S b o\/(E.w.heap.size<=b/\b<(E.w.drew.alloc (.cells cs e)).heap.size)) (E.w.drew.alloc (.cells cs e)) v t:=fun F=>F.mono (fun b o r=>.inl r) (fun b o r=>aC.cY W (h.lt b o r))
  refine .slice _ E.w.heap.size 0 _ _ _ _ (fun j=>(c++d)[j]?.getD undef) (by simp) I (fun x C=>?_) (fun t l=>?_) (fun _=>rfl) (fun j n=>?_) (fun j t l=>?_)
  ·rcases List.mem_append.1 C with C|C
   ·exact Y x C
   ·exact f.uni x C
  ·rw [List.flatMap_append] at l;rcases List.mem_append.1 l with l|l
   ·exact h1 t l
   ·exact f.one t l
  ·rw [Z] at n;refine ⟨?_,.inr ⟨Nat.le_refl _,by simp⟩⟩;rw [Nat.zero_add,cell_of_row _ _ _ _ _ _ iW, <-H,Array.getElem?_append_left (by simpa using n)];simp [ggZ n]
  ·have n:j<(c++d).length:=by rw [<- Z];exact (gsZ l).1
   rw [List.flatMap_append] at l;show Rep _ _ ((c++d)[j]?.getD undef) t
   by_cases h2:j<c.length
   ·rw [List.getElem?_append_left (by omega)] at l;rw [List.getElem?_append_left h2];have K:j<(xs.flatMap T.cells).length:=by omega
    have:c[j]? =some (g j):=by show ((List.range _).map g)[j]? =_;rw [List.getElem?_map,List.getElem?_range K];rfl
    rw [this];exact up (aq j t l)
   ·rw [List.getElem?_append_right (by omega)] at l;rw [List.getElem?_append_right (by omega)];have e1:j - (xs.flatMap T.cells).length=j - c.length:=by omega
    rw [e1] at l;have m:j - c.length<d.length:=by rw [List.length_append] at n;omega
    rw [ggZ m];exact up (f.rep _ _ t (ggZ m) l)
theorem SR.mr{b:Array Value}(h:SR N w0 S0 E st b){q g:Nat}(z:st.bx q=none)(x: ∀m,E.live m=true->E.κ m≠g)(v: ∀r,E.ρ r≠some g){bx:BX}(w:bI E g bx):
  SR N w0 S0 {E with κ:=upd E.κ q g,live:=upd E.live q true } {st with bx:=upd st.bx q (some bx)} b:=by
 have B:E.live q=false:=by rw [h.live,z];rfl
 have ne: ∀m,E.live m=true->m≠q:=fun m c e=>by rw [e,B] at c;cases c
 have s:Grow E {E with κ:=upd E.κ q g,live:=upd E.live q true }:=
  ⟨rfl,fun m c=>⟨by show upd E.live q true m=true;rw [ae _ _ _ _ (ne m c)];exact c,ae _ _ _ _ (ne m c)⟩,fun r k t=>⟨t,rfl,fun _=>Iff.rfl⟩,fun _ _ A=>A,fun _ _ _=>aC.rfl⟩
 refine ⟨h.size,h.base,h.glob,fun m=>(h.sl m).grow s,fun k m=>(h.gh k m).grow s,fun m n c=>?_,fun m=>?_,fun m p c f i=>?_,fun r k t=>?_,h.rinj,h.lt,h.below,h.s0,h.s1,h.obj,h.cx⟩
 ·by_cases d:m=q
  ·subst d;have u:bx=n:=by
    have:upd st.bx m (some bx) m=some n:=c
    rw [ai] at this;exact Option.some.inj this
   subst u;show bI _ (upd E.κ m g m) bx
   rw [ai];exact w.grow s rfl w.free
  ·have f:st.bx m=some n:=by
    have:upd st.bx q (some bx) m=some n:=c
    rwa [ae _ _ _ _ d] at this
   show bI _ (upd E.κ q g m) n
   rw [ae _ _ _ _ d]
   have:=h.bx m n f
   exact this.grow s rfl this.free
 ·show upd E.live q true m=(upd st.bx q (some bx) m).isSome
  by_cases d:m=q
  ·subst d;rw [ai,ai];rfl
  ·rw [ae _ _ _ _ d,ae _ _ _ _ d];exact h.live m
 ·have c:upd E.live q true m=true:=c;have f:upd E.live q true p=true:=f;have i:upd E.κ q g m=upd E.κ q g p:=i
  by_cases j:m=q <;> by_cases l:p=q
  ·rw [j,l]
  ·subst j;rw [ae _ _ _ _ l] at f;rw [ai,ae _ _ _ _ l] at i;exact absurd i.symm (x p f)
  ·subst l;rw [ae _ _ _ _ j] at c;rw [ai,ae _ _ _ _ j] at i;exact absurd i (x m c)
  ·rw [ae _ _ _ _ j] at c i;rw [ae _ _ _ _ l] at f i;exact h.inj m p c f i
 ·obtain ⟨j,l,y⟩:=h.rows r k t;refine ⟨j,l,fun m c=>?_⟩;have c:upd E.live q true m=true:=c;show upd E.κ q g m≠k
  by_cases d:m=q
  ·subst d;rw [ai];exact fun e=>v r (e▸t)
  ·rw [ae _ _ _ _ d] at c ⊢;exact y m c
end
section
variable {P:Program}{N:Nat}{w0:World}{S0:aa}{o:Oper}{a:Act}{E:Env}{st:St}
theorem VR.tS{E:Env}(n off len size cap:Nat){g:Nat}(d:E.live n=true)(c:E.κ n=g)(b:len<=cap):VR E (.slice (some ⟨g,off,none⟩) len cap) (.view n off len size):=by
 subst c;exact .view n off len size cap d b
end
section
variable [Glb]{P:Program}{N:Nat}{w0:World}{S0:aa}{o:Oper}{a:Act}{E:Env}{st:St}
theorem ql{b:Array Value}(h:SR N w0 S0 E st b){t ty u e:TypeId}{i:TypeInfo}{z:Value}(v:P.underlying t=some (.slice e))(hi:P.info? e=some i)(hz:i.zero=some z)(H:0<i.bytes)
  {A:Option Addr} {y:Value} {ys:List T} {c:List Value} (f:cF P E y i.size ys c) (hk:(∃ Q,P.underlying u=some (.slice Q))\/P.underlying u=some .string) (aI:0<ys.length) (J:ys.length * i.bytes<=140737488355328) {q:Nat} (hq:st.bx q=none):
  ∃(M:Value) (F:Env),(Builtin.append_ #[t,u] ty #[.slice A 0 0,y]).run P E.w= .ok M F.w/\SR N w0 S0 F {st with bx:=upd st.bx q (some (.d (ys.length * i.size) (ys.flatMap T.cells)))} b/\VR F M (.view q 0 ys.length i.size):=by
 have s:=f.oZ hk;have n:c.length=ys.length * i.size:=by rw [f.len,aJ f.uni]
 have hle:ys.length<=140737488355328:=Nat.le_trans (Nat.le_mul_of_pos_right _ H) J;have p:(Builtin.firstCells i.size 0 (.slice A 0 0)).run P E.w.drew= .ok ([]:List Value).toArray E.w.drew:=by
  cases A with
  |none=>simp [Builtin.firstCells]
  |some ad=>simp [Builtin.firstCells,loadCells,loadCellsFrom]
 have D:=run_append_grow_src (P:=P) E.w t u ty e i z v hi hz A 0 0 [] p y ys.length c s (by omega) (by omega) (growslice_fits (by omega) (by simpa using J));have l:=grownCap_ge E.w (0+ys.length) 0 e;generalize k:(([]:List Value)++c).toArray++Builtin.zeroCells z.cells (grownCap E.w (0+ys.length) 0 e - (0+ys.length))=cs at D;have K:Below E.w.heap.size E.w (E.w.drew.alloc (.cells cs e)):=((Below.refl _ _).drew).alloc (Nat.le_refl _) _;have R:=h.world K E.S (fun b o=>⟨.inl,fun Y=>Y.elim id (·.1)⟩)
 have iW:(E.w.drew.alloc (.cells cs e)).heap[E.w.heap.size]? =some (.cells cs e (0,0)):=heap_alloc_new E.w.drew _;have V:bI {E with w:=E.w.drew.alloc (.cells cs e),S:=E.S } E.w.heap.size (.d (ys.length * i.size) (ys.flatMap T.cells)):=by
  refine ⟨?_,fun o W=>absurd (h.lt _ o W) (Nat.lt_irrefl _),_,iW,.cells cs e _ (.d _ _ (by rw [<- f.len,n]) ?_ fun j x t L v=>?_)⟩
  ·show E.B<=_;rw [h.base];exact h.below.size
  ·rw [<- k];simp [n]
  ·have Z:j<c.length:=by rw [f.len];exact (gsZ v).1
   rw [<- k,List.nil_append,Array.getElem?_append_left (by simpa using Z),List.getElem?_toArray] at L;exact ⟨(f.rep j x t L v).mono (fun b o s=>s) (fun b o s=>aC.cY K (h.lt b o s)),f.one t (List.mem_of_getElem? v)⟩
 have I: ∀m,E.live m=true->E.κ m<E.w.heap.size:=fun m C=>by
  rw [h.live] at C;obtain ⟨O,G⟩:=Option.isSome_iff_exists.1 C;exact (h.bx m O G).lt
 have U:=R.mr (q:=q) (g:=E.w.heap.size) hq (fun m C=>by have:=I m C;show E.κ m≠_;omega) (fun r D=>by
  have:=(h.rows r _ D).2.1;omega) V
 refine ⟨_,_,D,U,?_⟩;rw [Nat.zero_add];rw [Nat.zero_add] at l;exact VR.tS q 0 ys.length i.size _ (ai _ _ _) (ai _ _ _) l
end
end Go.DL
end
section
namespace Go.DL
open Go.RowKit
section
variable [Glb]{P:Program}{N:Nat}{w0:World}{S0:aa}{o:Oper}{a:Act}{E:Env}{st:St}
end
section
variable {P:Program}{N:Nat}{w0:World}{S0:aa}{o:Oper}{a:Act}{E:Env}{st:St}
theorem iR{g:Nat->V}{size:Nat}: ∀{f:List (Nat×O)} {d ts:List T} {c b:Prop},aZ g size d c f=some (ts,b)->b->c
 |[],d,ts,c,b,h,hc=>by simp [aZ] at h;rw [h.2];exact hc
 |(i,x)::rest,d,ts,c,b,h,hc=>by
  unfold aZ at h;split at h
  ·cases h
  ·exact (iR h hc).1
  ·cases e:Nat.beq size 1 with
   |false=>rw [e] at h;cases h
   |true=>rw [e] at h;exact iR h hc
  ·cases h
theorem nX{α:Type}(A B:List α)(k n:Nat)(v:List α):aP (A++B) (A.length+k) n v=A++aP B k n v:=by
 unfold aP;rw [List.take_length_add_append,Nat.add_assoc,List.drop_length_add_append,List.append_assoc]
theorem mN{size:Nat}: ∀{b:List T} (_: ∀x∈b,x.cells.length=size) (i:Nat) (t:T) (_:t.cells.length=size) (_:i<b.length),(b.set i t).flatMap T.cells=aP (b.flatMap T.cells) (i * size) size t.cells
 |[],_,i,t,_,hi=>by simp at hi
 |x::b,hu,i,t,ht,hi=>by
  have e:=hu x (by simp);have c: ∀y∈b,y.cells.length=size:=fun y f=>hu y (List.mem_cons_of_mem _ f)
  cases i with
  |zero=>
   simp only [List.set_cons_zero,List.flatMap_cons,Nat.zero_mul];unfold aP;simp only [List.take_zero,List.nil_append,Nat.zero_add];rw [<- e,List.drop_left]
  |succ i=>
   have d:i<b.length:=by simpa using hi
   have g:=mN c i t ht d;simp only [List.set_cons_succ,List.flatMap_cons,g];rw [<- nX,e]
   congr 1
   rw [Nat.add_mul];omega
theorem jB(V: ∀m,VR E (a.tmps.getD m undef) (st.sl m)){size:Nat}: ∀(f:List (Nat×Operand)) (B:List (Nat×Nat×O)) (cells:Array Value) (d ts:List T) (c z:Prop),ba (fun i=>some (i,0)) f=some B->
   bu E.S E.w cells.toList (d.flatMap T.cells)->(∀ x∈d,x.cells.length=size)->(∀ p∈B,p.1<d.length)->aZ st.sl size d c (B.map fun p=>(p.1,p.2.2))=some (ts,z)->z->
   ∃b,Instr.fill (fun i=>some (i * size,size)) cells (f.map fun (i,x)=>(i,a.eval x))=some b/\bu E.S E.w b.toList (ts.flatMap T.cells)/\(∀ x∈ts,x.cells.length=size)/\ts.length=d.length
 |[],B,cells,d,ts,c,z,hl,hc,g,_,hf,_=>by
  simp [ba] at hl;subst hl;simp [aZ] at hf;exact ⟨cells,rfl,hf.1▸hc,hf.1▸g,by rw [hf.1]⟩
 |(i,X)::rest,B,cells,d,ts,c,z,hl,hc,g,hb,hf,hc'=>by
  obtain ⟨off,sz,y,r,k,h2,h3,rfl⟩:=fB rfl hl;simp only [Option.some.injEq,Prod.mk.injEq] at k;obtain ⟨rfl,rfl⟩:=k;have U:=af V h2;have hi:i<d.length:=hb (i,0,y) (by simp);have H: ∀p∈r,p.1<d.length:=fun p M=>hb p (List.mem_cons_of_mem _ M)
  have L:=aJ g;have hle:i * size+size<=(d.flatMap T.cells).length:=by
   rw [L]
   have:(i+1) * size<=d.length * size:=Nat.mul_le_mul_right _ hi
   rw [Nat.add_mul] at this;omega
  have step: ∀(t:T),bu E.S E.w (a.eval X).cells.toList t.cells->t.cells.length=size-> ∀C,aZ st.sl size (d.set i t) C (r.map fun p=>(p.1,p.2.2))=some (ts,z)->
    ∃b,Instr.fill (fun i=>some (i * size,size)) cells (((i,X)::rest).map fun (i,x)=>(i,a.eval x))=some b/\bu E.S E.w b.toList (ts.flatMap T.cells)/\(∀ x∈ts,x.cells.length=size)/\ts.length=d.length:=fun t n l C K=>by
   have s:(a.eval X).cells.size=size:=by have:=n.1;simp at this;omega
   have hcl:cells.size=(d.flatMap T.cells).length:=by have:=hc.1;simpa using this
   have W:bu E.S E.w ((a.eval X).cells.zipIdx.foldl (fun (cs:Array Value) (p:Value×Nat)=>cs.setIfInBounds (i * size+p.2) p.1) cells).toList ((d.set i t).flatMap T.cells):=by
    rw [jM _ _ _ (by omega),s,mN g i t l hi];exact hc.put n (by simpa using s) (by rw [Array.length_toList];omega)
   have R: ∀x∈d.set i t,x.cells.length=size:=fun x v=>by
    rcases List.mem_or_eq_of_mem_set v with h|h
    ·exact g x h
    ·rw [h];exact l
   obtain ⟨b,Y,Z,g3,g4⟩:=jB V rest r _ (d.set i t) ts C z h3 W R (fun p M=>by rw [List.length_set];exact H p M) K hc';refine ⟨b,?_,Z,g3,by rw [g4,List.length_set]⟩;simp only [List.map_cons,Instr.fill];rw [if_neg (by simp [s];omega)];exact Y
  simp only [List.map_cons] at hf;unfold aZ at hf;split at hf
  ·cases hf
  ·rename_i cs G;have n:=aD U G;obtain ⟨I,J⟩:=n.cells (fun ts e=>by cases e);have A:=iR hf hc';exact step (.agg cs) ⟨by simpa using I,fun j x t v ht=>J j x t (by simpa using v) ht⟩ A.2 _ hf
  ·rename_i t D F G;cases q:Nat.beq size 1 with
   |false=>rw [q] at hf;cases hf
   |true=>
    rw [q] at hf;have Q:size=1:=Nat.eq_of_beq_eq_true q;subst Q;have n:=aD U G;have k:t.one=true:=by
     cases t with
     |agg cs=>exact absurd rfl (F cs)
     |tup ts=>exact absurd rfl (D ts)
     |_=>rfl
    refine step t ⟨by rw [n.cells_one k,T.cells_one k];rfl,fun j x u v g=>?_⟩ (by rw [T.cells_one k];rfl) _ hf;rw [n.cells_one k] at v;rw [T.cells_one k] at g;cases j with
    |zero=>simp at v g;subst v;subst g;exact ⟨n,k⟩
    |succ j=>simp at g
  ·cases hf
theorem tF{b:List T}{size:Nat}(c:b.length=size)(d: ∀t∈b,t.one=true):(cond (Nat.beq size 1) (b.headD .nil) (.agg b)).cells=b:=by
 cases e:Nat.beq size 1 with
 |false=>rfl
 |true=>
  have f:size=1:=Nat.eq_of_beq_eq_true e
  match b,c with
  |[z],_=>exact T.cells_one (d z (by simp))
  |[],c=>simp at c;omega
  |_::_::_,c=>simp at c;omega
theorem gH{e:T}{b:List T}(h:e.cells=b): ∀n,(List.replicate n e).flatMap T.cells=(List.replicate n b).flatten
 |0=>rfl
 |n+1=>by rw [List.replicate_succ,List.flatMap_cons,h,List.replicate_succ,List.flatten_cons,gH h n]
end
section
variable [Glb]{P:Program}{N:Nat}{w0:World}{S0:aa}{o:Oper}{a:Act}{E:Env}{st:St}
theorem kl(h:SR N w0 S0 E st a.tmps){d q:Nat}(hd:d<N){t e:TypeId}{j:TypeInfo}{n:Nat}{g:Array (Nat×Operand)}(ho:o.op= .buildSlice t n g)(ht:P.underlying t=some (.slice e))(Y:P.info? e=some j){m:List T}(hz:cz P e=some m)
  (hsz:0<j.size) (iV:n * j.size<=16777216) {Q:List (Nat×Nat×O)} (hps:ba (fun i=>some (i,0)) g.toList=some Q) (V: ∀p∈Q,p.1<n) {B:List T} {c:Prop}
  (hf:aZ st.sl j.size (List.replicate n (cond (Nat.beq j.size 1) (m.headD .nil) (.agg m))) True (Q.map fun p=>(p.1,p.2.2))=some (B,c)) (hc:c):
  ∃(v':Value) (L:Env),(∃ A,v'= .slice A B.length B.length)/\(execOp a.eval o).run P E.w= .ok (.value v') L.w/\SR N w0 S0 L ((st.dg q q).put d (.own q e j.size B)) (a.tmps.setIfInBounds d v'):=by
 obtain ⟨i,z,hi,W,M,jW,aq,tt,htt,htc⟩:=dw hz;rw [Y] at hi;cases hi;have hzl:0<m.length:=by omega
 have tL: ∀u∈m,u.one=true:=fun u s=>by
  obtain ⟨k,v⟩:=List.mem_iff_getElem?.1 s;have C:k<z.cells.size:=by have:=(gsZ v).1;omega
  exact (aq E.S E.w k z.cells[k] u (by simp [C]) v).2
 have I:=tF M.symm tL;have tI:=gH I n
 let b:Array Value:=(Array.range (n * j.size)).map (z.cells[· % z.cells.size]!)
 have R:bu E.S E.w b.toList ((List.replicate n (cond (Nat.beq j.size 1) (m.headD .nil) (.agg m))).flatMap T.cells):=by
  rw [tI];have y:(List.replicate n m).flatten.length=n * j.size:=by simp [M]
  refine ⟨by rw [y];simp [b],fun k x u G s=>?_⟩;have v:k<n * j.size:=by rw [<- y];exact (gsZ s).1
  rw [eE hzl n k (by rw [<- M];exact v)] at s;have mS:k % z.cells.size<z.cells.size:=Nat.mod_lt _ (by omega);have J:z.cells[k % z.cells.size]? =some x:=by
   have:b.toList[k]? =some (z.cells[k % z.cells.size]!):=by simp [b,v]
   rw [this] at G;rw [<- G];simp [mS]
  rw [jW] at J;exact aq E.S E.w _ x u J s
 have hu0: ∀x∈List.replicate n (cond (Nat.beq j.size 1) (m.headD .nil) (.agg m)),x.cells.length=j.size:=fun x G=>by
  rw [List.eq_of_mem_replicate G,I];exact M.symm
 obtain ⟨l,g1,H,g3,F⟩:=jB h.sl g.toList Q b _ B True c hps R hu0 (fun p hp=>by rw [List.length_replicate];exact V p hp) hf hc;rw [List.length_replicate] at F;have h1:=h.dg q q;have cK:(fun x=>if x=q\/x=q then none else E.ρ x) q=none:=by simp
 have sS: ∀t∈B.flatMap T.cells,t.one=true:=fun u s=>by
  obtain ⟨k,v⟩:=List.mem_iff_getElem?.1 s;have C:k<l.toList.length:=by rw [H.1];exact (gsZ v).1
  exact (H.2 k _ u (ggZ C) v).2
 have hN:fW {E with ρ:=fun x=>if x=q\/x=q then none else E.ρ x } j.size B l.toList:=⟨H.1,fun k x u G s=>(H.2 k x u G s).1,g3,sS⟩
 have U:l.size=n * j.size:=by
  have:=H.1
  rw [aJ g3,F] at this;simpa using this
 obtain ⟨L,hw,hsr⟩:=h1.newRow (e:=e) (rest:= #[]) (cap:=n) hd hN cK (w':=E.w) (.inl rfl) (by rw [F];exact Nat.le_refl _) (by unfold maxLen;have:n<=n * j.size:=Nat.le_mul_of_pos_right _ hsz;omega) (by simpa using U);refine ⟨_,L,⟨some ⟨E.w.heap.size,0,none⟩,by rw [F]⟩,?_,hsr⟩;rw [hw];have K:(g.map fun (i,x)=>(i,a.eval x)).toList=g.toList.map fun (i,x)=>(i,a.eval x):=by simp
 have r:Instr.fill (fun i=>some (i * j.size,j.size)) ((Array.range (n * j.size)).map (z.cells[· % z.cells.size]!)) (g.toList.map fun (i,x)=>(i,a.eval x))=some l:=g1
 unfold execOp;simp only [ho,Instr.buildSlice,Sem.run_bind,run_underlying ht,Result.andThen_ok,run_sizeOf Y];have Z: ¬n * j.size>2^24:=by simp;omega
 rw [if_neg Z]
 by_cases D:n * j.size=0
 ·rw [D] at r;simp only [D,if_true,Sem.run_bind,Result.andThen_ok,Sem.run_pure,K];have e0: ∀f:Nat->Value,(Array.range 0).map f= #[]:=fun f=>by simp
  rw [e0] at r;simp only [e0,r,newRow,Sem.run_bind,run_newObj,Result.andThen_ok,Sem.run_pure,World.alloc_eq,F];simp
 ·simp only [zeroValue,typeInfo,D,if_false,Sem.run_bind,run_program,Result.andThen_ok,Y,Sem.run_pure,W,K];simp only [r,newRow,Sem.run_bind,run_newObj,Result.andThen_ok,Sem.run_pure,World.alloc_eq,F];simp
def ku(st:St):St:={sl:=fun m=>match asT (st.sl m) with|some x=>.t x|none=>.top,bx:=fun _=>none }
theorem rT(h:SR N w0 S0 E st a.tmps):SR N E.w {S:=E.S } {S:=E.S,w:=E.w,B:=E.w.heap.size,κ:=fun _=>0,ρ:=fun _=>none,live:=fun _=>false } (ku st) a.tmps:=by
 refine ⟨h.size,rfl,h.jq,fun m=>?_,fun k m=>.top _,fun n b d=>(by cases d),fun n=>rfl,fun n m f=>(by cases f),fun r g c=>(by cases c),fun r j g c=>(by cases c),h.lt,Below.refl _ _,fun b o h=>h,fun b o h=>.inl h,fun g o e=>(by cases e),trivial⟩;show VR _ _ (match asT (st.sl m) with|some x=>V.t x|none=>.top)
 cases i:asT (st.sl m) with
 |none=>exact .top _
 |some x=>
  have c:Rep E.S E.w (a.tmps.getD m undef) x:=aD (h.sl m) i;exact .t _ _ c
end
section
variable {P:Program}{N:Nat}{w0:World}{S0:aa}{o:Oper}{a:Act}{E:Env}{st:St}
theorem qt(x:O):asT (ev (ku st).sl x)=asT (ev st.sl x):=by
 cases x with
 |const t=>rfl
 |tmp m=>
  show asT (match asT (st.sl m) with|some x=>V.t x|none=>.top)=asT (st.sl m)
  cases b:asT (st.sl m) with
  |none=>rfl
  |some x=>rfl
theorem gX{size:Nat}: ∀{d:List (Nat×O)} {b:List T} {c:Prop},aZ (ku st).sl size b c d=aZ st.sl size b c d
 |[],_,_=>rfl
 |(i,x)::d,b,c=>by
  unfold aZ;rw [qt];split
  ·rfl
  ·rw [gX]
  ·rw [gX]
  ·rfl
end
section
variable [Glb]{P:Program}{N:Nat}{w0:World}{S0:aa}{o:Oper}{a:Act}{E:Env}{st:St}
theorem oI(h:SR N w0 S0 E st a.tmps){d:Nat}(hd:d<N){t e:TypeId}{j:TypeInfo}{n:Nat}{f:Array (Nat×Operand)}(U:o.op= .buildSlice t n f)(V:P.underlying t=some (.slice e))(R:P.info? e=some j){D:List T}(W:cz P e=some D)
  (z:0<j.size) (Y:n * j.size<=16777216) {C:List (Nat×Nat×O)} (x:ba (fun i=>some (i,0)) f.toList=some C) (u: ∀p∈C,p.1<n) {m:List T} {c:Prop}
  (Q:aZ st.sl j.size (List.replicate n (cond (Nat.beq j.size 1) (D.headD .nil) (.agg D))) True (C.map fun p=>(p.1,p.2.2))=some (m,c)) (M:c) (G:o.dst=some d):
  Did P N w0 S0 o a E (st.app (some d) {val:=.t (.slice j.size m)})/\Did P N w0 S0 o a E (st.app (some d) {val:=.full j.size m }):=by
 obtain ⟨r,l,⟨A,K⟩,I,g⟩:=kl (d:=d) (q:=0) (rT h) hd U V R W z Y x u (by rw [gX];exact Q) M;have B:=g.sl d;have Z:(a.tmps.setIfInBounds d r).getD d undef=r:=by
  have:d<a.tmps.size:=by rw [h.size];exact hd
  simp [this]
 rw [Z] at B;have y:(((ku st).dg 0 0).put d (.own 0 e j.size m)).sl d= .own 0 e j.size m:=ai _ _ _;rw [y] at B;have F:Rep (fun b o=>E.S b o\/(E.w.heap.size<=b/\b<l.w.heap.size)) l.w r (.slice j.size m):=B.fl.rep.mono (fun b o J=>(g.s1 b o J).imp id fun v=>⟨v,g.lt b o J⟩) (fun _ _ _=>aC.rfl);have L:Below E.w.heap.size E.w l.w:=g.below;have H:=h.world L (fun b o=>E.S b o\/(E.w.heap.size<=b/\b<l.w.heap.size)) (fun b o=>⟨fun s=>s.elim .inl fun k=>.inr ⟨.inr k,k⟩,fun s=>s.elim .inl fun k=>k.1⟩);refine ⟨⟨_,r,{E with w:=l.w,S:=fun b o=>E.S b o\/(E.w.heap.size<=b/\b<l.w.heap.size)},I,.inl rfl,?_⟩,⟨_,r,{E with w:=l.w,S:=fun b o=>E.S b o\/(E.w.heap.size<=b/\b<l.w.heap.size)},I,.inl rfl,?_⟩⟩
 ·rw [G];exact H.cL (d:=some d) hd (.t _ _ F)
 ·rw [G];subst K;exact H.cL (d:=some d) hd (.full A m.length j.size m F)
end
end Go.DL
end
section
namespace Go.DL
open Go.RowKit
section
variable [Glb]{P:Program}{N:Nat}{w0:World}{S0:aa}{o:Oper}{a:Act}{E:Env}{st:St}
end
section
variable {P:Program}{N:Nat}{w0:World}{S0:aa}{o:Oper}{a:Act}{E:Env}{st:St}
theorem jj{d:Option Nat}{v:V}{rd:List Nat}:st.app d {val:=v,rd:=rd }=st.set d v:=by cases d <;> rfl
theorem ta{r:cA}{d:Option Nat}{K:St->Prop}(h:wpR r d st K): ∃e,inR r e/\K (st.app d e):=by
 cases r with
 |no=>exact h.elim
 |yes e=>exact ⟨e,rfl,h⟩
 |need c e=>exact ⟨e,⟨h.1,rfl⟩,h.2⟩
 |alt c b f=>exact ⟨f b,⟨h.1,rfl⟩,h.2 b rfl⟩
 |eq c t f=>exact ⟨f t,⟨h.1,rfl⟩,h.2 t rfl⟩
end
section
variable [Glb]{P:Program}{N:Nat}{w0:World}{S0:aa}{o:Oper}{a:Act}{E:Env}{st:St}
theorem je{f:FuncId}{b:List V}{d:Option Nat}{K:St->Prop}(h:cO P f b d st K): ∃ts rd r,bt st.bx b=some (ts,rd)/\DCalls P f ts r/\(rd=[]\/r.flat=true)/\K (st.set d (.t r)):=by
 unfold cO at h;split at h
 ·rename_i ts g;obtain ⟨r,c,e⟩:=h;exact ⟨ts,[],r,g,c,.inl rfl,e⟩
 ·rename_i ts x xs g;obtain ⟨r,c,e,i⟩:=h;exact ⟨ts,_,r,g,c,.inr e,i⟩
 ·exact h.elim
end
section
variable {P:Program}{N:Nat}{w0:World}{S0:aa}{o:Oper}{a:Act}{E:Env}{st:St}
theorem rE{st:St}{d:Option Nat}{v:V}{m:Nat}{b:BX}:st.app d {val:=v,wr:=some (m,b)}=({st with bx:=upd st.bx m (some b)}:St).set d v:=by cases d <;> rfl
end
section
variable [Glb]{P:Program}{N:Nat}{w0:World}{S0:aa}{o:Oper}{a:Act}{E:Env}{st:St}
theorem jw{x:DOp}(l:x.plain=true){d:Option Nat}{K:St->Prop}(h:wpO P x d st K): ∃e,cR P x (st.nm d) st e/\K (st.app d e):=by
 have p: ∀x:DOp,(wpO P x d st K->wpR (eff x (st.nm d) st.sl st.bx) d st K)->(∀ e,inR (eff x (st.nm d) st.sl st.bx) e->cR P x (st.nm d) st e)->wpO P x d st K-> ∃e,cR P x (st.nm d) st e/\K (st.app d e):=fun x c g h=>by
  obtain ⟨e,w,y⟩:=ta (c h);exact ⟨e,g e w,y⟩
 cases x with
 |append=>cases l
 |appV=>cases l
 |buildS=>cases l
 |inl=>cases l
 |fcall=>cases l
 |mrng=>cases l
 |mnext=>cases l
 |call f i=>
  obtain ⟨ts,rd,r,c,g,j,k⟩:=je h;exact ⟨_,⟨ts,rd,r,c,g,j,rfl⟩,by rw [jj];exact k⟩
 |cd x i=>
  unfold wpO at h;simp only at h;split at h
  ·rename_i f caps q;obtain ⟨ts,rd,r,c,g,j,k⟩:=je h;exact ⟨_,⟨f,caps.map .t,by rw [q];rfl,ts,rd,r,c,g,j,rfl⟩,by rw [jj];exact k⟩
  ·rename_i f caps q;obtain ⟨ts,rd,r,c,g,j,k⟩:=je h;exact ⟨_,⟨f,caps,by rw [q];rfl,ts,rd,r,c,g,j,rfl⟩,by rw [jj];exact k⟩
  ·exact h.elim
 |mcall ms f i=>
  obtain ⟨n,s,m,b,r,c,g,j,k,u,v⟩:=h;exact ⟨_,⟨n,s,m,b,r,c,g,j,k,u,rfl⟩,by rw [rE];exact v⟩
 |_=>exact p _ id (fun _ h=>h) h
end
section
variable {P:Program}{N:Nat}{w0:World}{S0:aa}{o:Oper}{a:Act}{E:Env}{st:St}
theorem jh{e:TypeId}{j:TypeInfo}(c:P.info? e=some j){f:List T}(d:cz P e=some f): ∃z,j.zero=some z/\z.cells.size=j.size:=by
 obtain ⟨i,z,hi,b,g,h,_⟩:=dw d;rw [c] at hi;cases hi;exact ⟨z,b,by omega⟩
theorem bU.nil(r:Nat)(e:TypeId)(size:Nat):bU E (.slice none 0 0) r e size []:=
 ⟨⟨[],World.ownsRow_nil _ _ _ _,rfl,fun i x t b=>by simp at b⟩,fun x b=>by simp at b,fun t d=>by simp at d,fun g c=>by simp [Value.ownBlock] at c⟩
theorem nV{g:Op}{f:FuncId}{d:List O}(b:ah P g=some (.inl f d)):False:=by
 have i: ∀{y:DOp},some y=some (DOp.inl f d)->(match y with|.inl _ _=>true|_=>false)=false->False:=fun j k=>by cases j;cases k
 cases g with
 |call c=>
  obtain ⟨h,az,e⟩:=c;simp only [ah,bL] at b
  repeat' (first|exact i b rfl|(split at b)|(simp only [cond_eq_ite] at b)|(cases b;done))
 |unOp g t X=>
  cases g <;> simp only [ah,Option.map_eq_some_iff] at b <;> first|(obtain ⟨_,_,b⟩:=b;cases b)|cases b
 |slice t X lo hi mx=>
  cases lo <;> cases hi <;> cases mx <;> simp only [ah] at b <;> repeat' (first|exact i b rfl|(split at b)|(simp only [cond_eq_ite] at b)|(cases b;done))
 |binOp g t X Y ty=>
  cases g <;> simp only [ah] at b <;> repeat' (first|exact i b rfl|(split at b)|(simp only [cond_eq_ite] at b)|(cases b;done))
 |_=>
  simp only [ah] at b
  repeat' (first|exact i b rfl|(split at b)|(simp only [cond_eq_ite] at b)|(simp only [Option.map_eq_some_iff] at b;obtain ⟨_,_,b⟩:=b;cases b;done)|(cases b;done))
theorem pD{g:Op}{f:FuncId}{d:List O}(b:ah P g=some (.fcall f d)):False:=by
 have i: ∀{y:DOp},some y=some (DOp.fcall f d)->(match y with|.fcall _ _=>true|_=>false)=false->False:=fun j k=>by cases j;cases k
 cases g with
 |call c=>
  obtain ⟨h,az,e⟩:=c;simp only [ah,bL] at b
  repeat' (first|exact i b rfl|(split at b)|(simp only [cond_eq_ite] at b)|(cases b;done))
 |unOp g t X=>
  cases g <;> simp only [ah,Option.map_eq_some_iff] at b <;> first|(obtain ⟨_,_,b⟩:=b;cases b)|cases b
 |slice t X lo hi mx=>
  cases lo <;> cases hi <;> cases mx <;> simp only [ah] at b <;> repeat' (first|exact i b rfl|(split at b)|(simp only [cond_eq_ite] at b)|(cases b;done))
 |binOp g t X Y ty=>
  cases g <;> simp only [ah] at b <;> repeat' (first|exact i b rfl|(split at b)|(simp only [cond_eq_ite] at b)|(cases b;done))
 |_=>
  simp only [ah] at b
  repeat' (first|exact i b rfl|(split at b)|(simp only [cond_eq_ite] at b)|(simp only [Option.map_eq_some_iff] at b;obtain ⟨_,_,b⟩:=b;cases b;done)|(cases b;done))
theorem pE{f:Op}{size d:Nat}{s x:O}(b:ah P f=some (.appV size d s x)):False:=by
 have h: ∀{y:DOp},some y=some (DOp.appV size d s x)->(match y with|.appV _ _ _ _=>true|_=>false)=false->False:=fun i j=>by cases i;cases j
 cases f with
 |call c=>
  obtain ⟨g,az,e⟩:=c;simp only [ah,bL] at b
  repeat' (first|exact h b rfl|(split at b)|(simp only [cond_eq_ite] at b)|(cases b;done))
 |unOp f t X=>
  cases f <;> simp only [ah,Option.map_eq_some_iff] at b <;> first|(obtain ⟨_,_,b⟩:=b;cases b)|cases b
 |slice t X lo hi mx=>
  cases lo <;> cases hi <;> cases mx <;> simp only [ah] at b <;> repeat' (first|exact h b rfl|(split at b)|(simp only [cond_eq_ite] at b)|(cases b;done))
 |binOp f t X Y ty=>
  cases f <;> simp only [ah] at b <;> repeat' (first|exact h b rfl|(split at b)|(simp only [cond_eq_ite] at b)|(cases b;done))
 |_=>
  simp only [ah] at b
  repeat' (first|exact h b rfl|(split at b)|(simp only [cond_eq_ite] at b)|(simp only [Option.map_eq_some_iff] at b;obtain ⟨_,_,b⟩:=b;cases b;done)|(cases b;done))
theorem ja{e:TypeId}{size n:Nat}{r:List T}{f:List (Nat×O)}(d:ah P o.op=some (.buildS e size n r f)): ∃t q j,o.op= .buildSlice t n q/\P.underlying t=some (.slice e)/\P.info? e=some j/\cz P e=some r/\size=j.size/\0<j.size/\n * j.size<=16777216/\ ∃k,ba (fun i=>some (i,0)) q.toList=some k/\(∀ p∈k,p.1<n)/\f=k.map fun p=>(p.1,p.2.2):=by
 have m: ∀{y:DOp},some y=some (DOp.buildS e size n r f)->y.plain=true->False:=fun u A=>by cases u;cases A
 have v: ∀{t x s b X Y},some (DOp.append t x s b X Y)=some (DOp.buildS e size n r f)->False:=fun u=>by cases u
 cases g:o.op with
 |buildSlice t K q=>
  rw [g] at d;simp only [ah] at d;split at d
  ·rename_i x F;split at d
   ·rename_i j I J B H G;split at d
    ·rename_i k D;simp only [cond_eq_ite] at d;split at d
     ·rename_i l;simp only [Bool.and_eq_true,List.all_eq_true] at l;cases d;have lt: ∀{n},Nat.blt 0 n=true->0<n:=fun h=>Nat.lt_of_lt_of_le (Nat.lt_succ_self 0) (nlZ h)
      exact ⟨t,q,j,rfl,F,B,H,rfl,lt l.1.1.2,nlZ l.1.1.1,k,D,fun p C=>nlZ (l.2 p C),rfl⟩
     ·cases d
    ·cases d
   ·cases d
  ·cases d
 |call c=>
  exfalso;rw [g] at d;simp only [ah,bL] at d
  repeat' (first|exact m d rfl|exact v d|(split at d)|(simp only [cond_eq_ite] at d)|(cases d;done))
 |unOp w z X=>
  exfalso;rw [g] at d;cases w <;> simp only [ah,Option.map_eq_some_iff] at d <;> first|(obtain ⟨_,_,d⟩:=d;cases d)|cases d
 |slice z X lo hi mx=>
  exfalso;rw [g] at d;cases lo <;> cases hi <;> cases mx <;> simp only [ah] at d <;> repeat' (first|exact m d rfl|(split at d)|(simp only [cond_eq_ite] at d)|(cases d;done))
 |binOp w z X Y ty=>
  exfalso;rw [g] at d;cases w <;> simp only [ah] at d <;> repeat' (first|exact m d rfl|(split at d)|(simp only [cond_eq_ite] at d)|(cases d;done))
 |_=>
  exfalso;rw [g] at d;simp only [ah] at d
  repeat' (first|exact m d rfl|(split at d)|(simp only [cond_eq_ite] at d)|(simp only [Option.map_eq_some_iff] at d;obtain ⟨_,_,d⟩:=d;cases d;done)|(cases d;done))
end
section
variable [Glb]{P:Program}{N:Nat}{w0:World}{S0:aa}{o:Oper}{a:Act}{E:Env}{st:St}
theorem qv(h:SR N w0 S0 E st a.tmps)(hd:ay N o.dst){x:DOp}(k:ah P o.op=some x)(l:x.aO=false){e:Eff}(m:cR P x (st.nm o.dst) st e):Did P N w0 S0 o a E (st.app o.dst e):=by
 have plain:inR (eff x (st.nm o.dst) st.sl st.bx) e->Did P N w0 S0 o a E (st.app o.dst e):=fun hi=>by
  have g:=lM h hd k;cases j:eff x (st.nm o.dst) st.sl st.bx with
  |no=>rw [j] at hi;exact hi.elim
  |yes e0=>rw [j] at hi g;cases hi;exact g
  |need c e0=>rw [j] at hi g;obtain ⟨i,rfl⟩:=hi;exact g i
  |alt c b f=>rw [j] at hi g;obtain ⟨i,rfl⟩:=hi;exact g i
  |eq c t f=>rw [j] at hi g;obtain ⟨i,rfl⟩:=hi;exact g i
 cases x with
 |call f d=>cases l
 |cd y d=>cases l
 |mcall ms f d=>exact (lQ k).elim
 |_=>exact plain m
end
section
variable {P:Program}{N:Nat}{w0:World}{S0:aa}{o:Oper}{a:Act}{E:Env}{st:St}
theorem oV{f:Op}{m:O}(d:ah P f=some (.mrng m)): ∃t i e X,f= .range t X/\P.underlying t=some (.map i e)/\ak X=some m:=by
 cases f with
 |range t X=>
  simp only [ah] at d;split at d
  ·rename_i i e y k l;cases d;exact ⟨t,i,e,X,rfl,k,l⟩
  ·cases d
 |next X b=>cases b <;> simp only [ah,cond_false,cond_true,Option.map_eq_some_iff] at d <;> first|(cases d;done)|(obtain ⟨_,_,d⟩:=d;cases d)
 |call c=>
  exfalso;obtain ⟨h,az,g⟩:=c;simp only [ah,bL] at d
  repeat' (first|(split at d)|(simp only [cond_eq_ite] at d)|(cases d;done))
 |unOp f j X=>
  exfalso;cases f <;> simp only [ah,Option.map_eq_some_iff] at d <;> first|(obtain ⟨_,_,d⟩:=d;cases d)|cases d
 |slice j X lo hi mx=>
  exfalso;cases lo <;> cases hi <;> cases mx <;> simp only [ah] at d <;> repeat' (first|(split at d)|(simp only [cond_eq_ite] at d)|(cases d;done))
 |binOp f j X Y ty=>
  exfalso;cases f <;> simp only [ah] at d <;> repeat' (first|(split at d)|(simp only [cond_eq_ite] at d)|(cases d;done))
 |_=>
  exfalso;simp only [ah] at d
  repeat' (first|(split at d)|(simp only [cond_eq_ite] at d)|(simp only [Option.map_eq_some_iff] at d;obtain ⟨_,_,d⟩:=d;cases d;done)|(cases d;done))
theorem nU{e:Op}{m:O}(d:ah P e=some (.mnext m)): ∃X,e= .next X false/\ak X=some m:=by
 cases e with
 |next X b=>
  cases b with
  |true=>cases d
  |false=>
   simp only [ah,cond_false,Option.map_eq_some_iff] at d;obtain ⟨y,i,d⟩:=d;cases d;exact ⟨X,rfl,i⟩
 |call c=>
  exfalso;obtain ⟨g,az,f⟩:=c;simp only [ah,bL] at d
  repeat' (first|(split at d)|(simp only [cond_eq_ite] at d)|(cases d;done))
 |unOp e h X=>
  exfalso;cases e <;> simp only [ah,Option.map_eq_some_iff] at d <;> first|(obtain ⟨_,_,d⟩:=d;cases d)|cases d
 |slice h X lo hi mx=>
  exfalso;cases lo <;> cases hi <;> cases mx <;> simp only [ah] at d <;> repeat' (first|(split at d)|(simp only [cond_eq_ite] at d)|(cases d;done))
 |binOp e h X Y ty=>
  exfalso;cases e <;> simp only [ah] at d <;> repeat' (first|(split at d)|(simp only [cond_eq_ite] at d)|(cases d;done))
 |_=>
  exfalso;simp only [ah] at d
  repeat' (first|(split at d)|(simp only [cond_eq_ite] at d)|(simp only [Option.map_eq_some_iff] at d;obtain ⟨_,_,d⟩:=d;cases d;done)|(cases d;done))
end
section
variable [Glb]{P:Program}{N:Nat}{w0:World}{S0:aa}{o:Oper}{a:Act}{E:Env}{st:St}
theorem qO(h:SR N w0 S0 E st a.tmps)(hd:ay N o.dst){m:O}(C:ah P o.op=some (.mrng m)){K:St->Prop}(k:wpO P (.mrng m) o.dst st K): ∃D,K D/\Did P N w0 S0 o a E D:=by
 obtain ⟨t,kt,e,X,ho,hu,hX⟩:=oV C;have I:=af h.sl hX;unfold wpO at k;cases F:o.dst with
 |none=>rw [F] at k;exact k.elim
 |some d=>
  rw [F] at k hd;simp only at k;cases T:ev st.sl m with
  |mp b=>
   rw [T] at k I;simp only at k;obtain ⟨Q,R⟩:=I.eN;split at k
   ·rename_i r u B mb G s;obtain ⟨j,f,z,q⟩:=(h.bx b _ G).map;have A:=k (j.toList.map (·.born)) f (by simp [q.size]) q.apart (fun x J=>by
     obtain ⟨y,hy,rfl⟩:=List.mem_map.1 J;exact q.lt y hy)
    refine ⟨_,A,?_⟩;have h1:SR N w0 S0 E {st with bx:=upd st.bx b (some (.m r u B (some (j.toList.map (·.born),f))))} a.tmps:=by
     refine {h with bx:=fun n c s=>?_,live:=fun n=>?_ }
     ·by_cases l:n=b
      ·subst l
       have:upd st.bx n (some (BX.m r u B (some (j.toList.map (·.born),f)))) n=some c:=s
       rw [ai] at this;cases this;have Z:=h.bx n _ G;exact ⟨Z.old,Z.free,_,z,.map j f r u B _ ⟨q.size,q.at_,q.lt,q.apart,fun p V=>by cases V;rfl⟩⟩
      ·have:upd st.bx b (some (BX.m r u B (some (j.toList.map (·.born),f)))) n=some c:=s
       rw [ae _ _ _ _ l] at this;exact h.bx n c this
     ·show E.live n=(upd st.bx b _ n).isSome
      by_cases l:n=b
      ·subst l;rw [ai,h.live,G];rfl
      ·rw [ae _ _ _ _ l];exact h.live n
    have l:d+st.off≠b:=fun e=>by rw [e,G] at s;cases s
    have U:(upd st.bx b (some (BX.m r u B (some (j.toList.map (·.born),f))))) (d+st.off)=none:=by rw [ae _ _ _ _ l];exact s
    have h2:=h1.ki (n:=d+st.off) U (.mapIter (some (E.κ b)) f #[] f) (.it b (j.toList.map (·.born)) f []) (fun L g=>by
      obtain ⟨l1,l2⟩:=g.κ b R;rw [<- l2];exact bS.it b _ f [] l1) (.pointer (some ⟨E.w.heap.size,0,none⟩)) (.ptr (d+st.off) 0) (fun L A C=>by rw [<- A];exact .ptr _ _ C) hd
    refine ⟨.value (.pointer (some ⟨E.w.heap.size,0,none⟩)),.pointer (some ⟨E.w.heap.size,0,none⟩),{E with w:=E.w.alloc (.mapIter (some (E.κ b)) f #[] f),κ:=upd E.κ (d+st.off) E.w.heap.size,live:=upd E.live (d+st.off) true },?_,.inl rfl,?_⟩
    ·unfold execOp;simp [ho,Instr.range,Q,run_underlying hu,Go.MapKept.run_getObj_map z]
    ·rw [F];exact h2
   ·exact k.elim
  |t x=>
   rw [T] at k I;cases x with
   |mapd r u ks vs=>
    simp only at k;split at k
    ·rename_i s;have Y:=I.ax;generalize Q:a.eval X=v at Y;cases Y with
     |mapd g j f _ _ _ _ A W z r1 r2 ok lt apart=>
     have q:bN E j f r u (ks.zip vs) none:=⟨by rw [List.length_zip,A,W];simp,fun i x e J H=>by
      rw [List.getElem?_zip_eq_some] at H;exact ⟨r1 i x e.1 J H.1,r2 i x e.2 J H.2,ok _ (List.mem_of_getElem? H.1)⟩,lt,apart,fun p V=>by cases V⟩
     refine ⟨_,k,.value (.pointer (some ⟨E.w.heap.size,0,none⟩)),.pointer (some ⟨E.w.heap.size,0,none⟩),{E with w:=E.w.alloc (.mapIter (some g) f #[] f),κ:=upd E.κ (d+st.off) E.w.heap.size,live:=upd E.live (d+st.off) true },?_,.inl rfl,?_⟩
     ·unfold execOp;simp [ho,Instr.range,Q,run_underlying hu,Go.MapKept.run_getObj_map z.1]
     ·rw [F];exact h.ki (n:=d+st.off) s (.mapIter (some g) f #[] f) (.itd (ks.zip vs) []) (fun L M=>bS.itd g j f r u _ [] ((M.cell g 0 z.2).map _ _ z.1) (M.S _ _ z.2) (q.grow M)) (.pointer (some ⟨E.w.heap.size,0,none⟩)) (.ptr (d+st.off) 0) (fun L A C=>by rw [<- A];exact .ptr _ _ C) hd
    ·exact k.elim
   |_=>exact k.elim
  |_=>rw [T] at k;exact k.elim
end
section
variable {P:Program}{N:Nat}{w0:World}{S0:aa}{o:Oper}{a:Act}{E:Env}{st:St}
theorem nF{n:Nat}(b:0<n)(w:World): ∃i w',i<n/\(choose (.mapNext n)).run P w= .ok i w'/\(w'=w\/w'=w.drew):=by
 rw [run_choose_drew];cases c:(Question.mapNext n).forced with
 |true=>exact ⟨0,w,b,rfl,.inl rfl⟩
 |false=>exact ⟨_,w.drew,Nat.mod_lt _ b,rfl,.inr rfl⟩
theorem lR{X:Operand}(ho:o.op= .next X false){g k:Nat}(W:a.eval X= .pointer (some ⟨k,0,none⟩)){b:Array MapEntry}{c:Nat}{bs:List Nat}(m:bs=b.toList.map (·.born))(Q:bs.Nodup){ix:List Nat}(K: ∀j∈ix,j<b.size)
  (r: ∀x∈b,x.born<c) (hg:E.w.heap[g]? =some (.map b c)) (q:E.w.heap[k]? =some (.mapIter (some g) c (ix.map fun j=>bs.getD j 0).toArray c)):
  ∃w',(w'=E.w\/w'=E.w.drew)/\(((∀ j,j<b.size->j∈ix)/\(execOp a.eval o).run P E.w= .ok (.value (.tuple #[.bool false])) w')\/
   ∃(j:Nat) (x:MapEntry),b[j]? =some x/\ ¬j∈ix/\(execOp a.eval o).run P E.w= .ok (.value (.tuple #[.bool true,x.key,x.val])) {w' with heap:=w'.heap.setIfInBounds k (.mapIter (some g) c ((ix++[j]).map fun j=>bs.getD j 0).toArray c)}):=by
 have y:bs.length=b.size:=by rw [m];simp
 have S: ∀(j:Nat) (x:MapEntry),b[j]? =some x->((ix.map fun j=>bs.getD j 0).toArray.contains x.born=true↔j∈ix):=fun j x f=>by
  have l:bs[j]? =some x.born:=by rw [m];simp [f]
  have M:j<bs.length:=(gsZ l).1;simp only [List.contains_toArray,List.contains_iff_mem,List.mem_map];constructor
  ·rintro ⟨i,hi,s⟩;have J:i<bs.length:=by rw [y];exact K i hi
   rw [List.getD_eq_getElem?_getD,ggZ J,Option.getD_some] at s;have L:bs[j]=x.born:=by rw [ggZ M] at l;exact Option.some.inj l
   have:=(List.getElem_inj Q).1 (s.trans L.symm)
   exact this▸hi
  ·intro hi;exact ⟨j,hi,by rw [List.getD_eq_getElem?_getD,l];rfl⟩
 generalize Y:(ix.map fun j=>bs.getD j 0).toArray=seen at S q;generalize G:(b.filter fun e=> !seen.contains e.born)=left;have D: ∀x∈left,x∈b/\seen.contains x.born=false:=fun x f=>by
  rw [<- G,Array.mem_filter] at f;exact ⟨f.1,by simpa using f.2⟩
 have z:(left.filter fun x=>decide (x.born<c))=left:=Array.filter_eq_self.2 fun x f=>by simpa using r x (D x f).1
 have iW:(left.filter fun x=>decide (x.born>=c))= #[]:=Array.filter_eq_empty_iff.2 fun x f=>by
  have:=r x (D x f).1
  simp;omega
 have tJ:(!seen.isEmpty&& !b.isEmpty&&b.all fun x=>decide (x.born>=c))=false:=by
  cases s:b.isEmpty with
  |true=>simp
  |false=>
   have A:0<b.size:=by
    rw [Array.isEmpty_eq_false_iff] at s;exact Array.size_pos_iff.2 s
   have:(b.all fun x=>decide (x.born>=c))=false:=by
    rw [Bool.eq_false_iff];intro U;rw [Array.all_eq_true] at U;have F:=U 0 A;have V:=r b[0] (Array.getElem_mem A);simp at F;omega
   simp [this]
 have h:(execOp a.eval o).run P E.w=((choose (.mapNext ((if left.isEmpty then #[none] else #[])++left.map some).size)).run P E.w).andThen fun i w'=>
   ((match ((if left.isEmpty then #[none] else #[])++left.map some)[i]? with
   |some (some e)=>(do setObj k (.mapIter (some g) c (seen.push e.born) c);pure (.tuple #[.bool true,e.key,e.val]))
   |some none=>pure (.tuple #[.bool false])
   |none=>stuck "Next: no such candidate" :Sem Value).run P w').andThen fun v T=>.ok (.value v) T:=by
  unfold execOp;simp only [ho,W,Instr.next,Sem.run_bind,fS q,Result.andThen_ok,Go.MapKept.run_getObj_map hg,tJ,G,z,iW];simp only [Bool.false_eq_true,if_false,Array.append_empty,Sem.run_bind,Sem.run_pure,Result.andThen_ok];cases (choose (.mapNext ((if left.isEmpty=true then #[none] else #[])++left.map some).size)).run P E.w <;> rfl
 have kJ: ∀w',(w'=E.w\/w'=E.w.drew)->w'.heap=E.w.heap:=fun w' d=>by
  rcases d with rfl|rfl <;> rfl
 cases B:left.isEmpty with
 |true=>
  have C:left= #[]:=Array.isEmpty_iff.1 B;rw [B] at h;simp only [if_true] at h;obtain ⟨i,w',hi,p,d⟩:=nF (P:=P) (n:=(#[none]++left.map some).size) (by rw [C];simp) E.w;have I:i=0:=by rw [C] at hi;simpa using hi
  subst I;rw [p,C] at h;refine ⟨w',d,.inl ⟨fun j u=>?_,by rw [h];simp⟩⟩
  by_cases t:j∈ix
  ·exact t
  ·exfalso;have f:=Array.getElem?_eq_getElem u;have R:seen.contains (b[j]).born=false:=by
    rw [Bool.eq_false_iff];intro Z;exact t ((S j _ f).1 Z)
   have:b[j]∈left:=by
    rw [<- G,Array.mem_filter];exact ⟨Array.getElem_mem u,by rw [R];rfl⟩
   rw [C] at this;simp at this
 |false=>
  rw [B] at h;simp only [Bool.false_eq_true,if_false,Array.empty_append] at h;have A:0<left.size:=Array.size_pos_iff.2 (Array.isEmpty_eq_false_iff.1 B);obtain ⟨i,w',hi,p,d⟩:=nF (P:=P) (n:=(left.map some).size) (by simpa using A) E.w;have hi:i<left.size:=by simpa using hi
  have O:(left.map some)[i]? =some (some left[i]):=by simp [hi]
  rw [p] at h;simp only [Result.andThen_ok,O] at h;obtain ⟨F,V⟩:=D left[i] (Array.getElem_mem hi);obtain ⟨j,l⟩:=Array.mem_iff_getElem?.1 F;have mQ: ¬j∈ix:=fun hh=>by
   have:=(S j _ l).2 hh
   rw [V] at this;cases this
  have H:bs.getD j 0=left[i].born:=by
   rw [List.getD_eq_getElem?_getD,m];simp [l]
  have tM:seen.push left[i].born=((ix++[j]).map fun j=>bs.getD j 0).toArray:=by
   rw [<- Y, <-H];simp
  refine ⟨w',d,.inr ⟨j,left[i],l,mQ,?_⟩⟩;have uo:(setObj k (.mapIter (some g) c (seen.push left[i].born) c)).run P w'= .ok () {w' with heap:=w'.heap.setIfInBounds k (.mapIter (some g) c (seen.push left[i].born) c)}:=by
   have:w'.heap[k]? =some (.mapIter (some g) c seen c):=by rw [kJ w' d];exact q
   simp [setObj,Sem.run,this]
  rw [h, <-tM];simp [uo]
end
section
variable [Glb]{P:Program}{N:Nat}{w0:World}{S0:aa}{o:Oper}{a:Act}{E:Env}{st:St}
theorem np(h:SR N w0 S0 E st a.tmps){d k:Nat}(hd:d<N)(F:o.dst=some d){B:BX}(i:st.bx k=some B){C:Obj}(p:E.w.heap[E.κ k]? =some C){w':World}(r:w'=E.w\/w'=E.w.drew)(b:Obj)(l:BX)
  (G: ∀y:Env,Grow {E with w:=w' } y->bS y b l) {x:MapEntry} {e:T×T} (j:Rep E.S E.w x.key e.1/\Rep E.S E.w x.val e.2)
  (D:(execOp a.eval o).run P E.w= .ok (.value (.tuple #[.bool true,x.key,x.val])) {w' with heap:=w'.heap.setIfInBounds (E.κ k) b }) (H: ∀m c,C≠ .map m c):
  Did P N w0 S0 o a E {st with sl:=upd st.sl d (.t (.tup [.bool true,e.1,e.2])),bx:=upd st.bx k (some l)}:=by
 have world:SR N w0 S0 {E with w:=w' } st a.tmps/\w'.heap=E.w.heap:=by
  rcases r with rfl|rfl
  ·exact ⟨h,rfl⟩
  ·exact ⟨h.drew,rfl⟩
 refine ⟨.value (.tuple #[.bool true,x.key,x.val]),.tuple #[.bool true,x.key,x.val],{E with w:={w' with heap:=w'.heap.setIfInBounds (E.κ k) b }},D,.inl rfl,?_⟩;rw [F];have s:=world.1.qf i b l G;refine s.put hd (.t _ _ (.tup _ _ rfl fun A z u f g=>?_));have up: ∀{v:Value} {t:T},Rep E.S E.w v t->Rep E.S {w' with heap:=w'.heap.setIfInBounds (E.κ k) b } v t:=fun j=>j.mono (fun _ _ h=>h) (fun n J I=>by
  refine aC.dG ?_;have q:n≠E.κ k:=fun e=>(h.bx k _ i).free J (e▸I)
  show (w'.heap.setIfInBounds (E.κ k) b)[n]? =_
  rw [world.2];exact (Go.MapKept.heap_set p).2 n q)
 match A,f,g with
 |0,f,g=>simp at f g;subst f;subst g;exact .bool _
 |1,f,g=>simp at f g;subst f;subst g;exact up j.1
 |2,f,g=>simp at f g;subst f;subst g;exact up j.2
 |A+3,f,g=>simp at f
theorem pH(h:SR N w0 S0 E st a.tmps)(hd:ay N o.dst){y:O}(hl:ah P o.op=some (.mnext y)){K:St->Prop}(n:wpO P (.mnext y) o.dst st K): ∃J,K J/\Did P N w0 S0 o a E J:=by
 obtain ⟨X,ho,hX⟩:=nU hl;have hv:=af h.sl hX;unfold wpO at n;cases G:o.dst with
 |none=>rw [G] at n;exact n.elim
 |some d=>
  rw [G] at n hd;simp only at n;have over: ∀{w':World},(w'=E.w\/w'=E.w.drew)->(execOp a.eval o).run P E.w= .ok (.value (.tuple #[.bool false])) w'->Did P N w0 S0 o a E (st.put d (.t (.tup [.bool false]))):=fun {w'} f v=>by
   have world:SR N w0 S0 {E with w:=w' } st a.tmps:=by
    rcases f with rfl|rfl
    ·exact h
    ·exact h.drew
   refine ⟨.value (.tuple #[.bool false]),.tuple #[.bool false],{E with w:=w' },v,.inl rfl,?_⟩;rw [G];exact world.put hd (.t _ _ (.tup _ _ rfl fun i x u F hu=>by
    cases i with
    |zero=>simp at F hu;subst F;subst hu;exact .bool _
    |succ i=>simp at F))
  split at n
  ·rename_i k hk;rw [hk] at hv;obtain ⟨hP,hlk⟩:=hv.bh;split at n
   ·rename_i b bs c ix p;split at n
    ·rename_i ag sh L q V;obtain ⟨hq,hnd,hlt,hlen,A,il,Q⟩:=n;obtain ⟨z,R,M,l⟩:=(h.bx b _ V).map;have C:=l.mb q rfl;rw [hq] at C;simp only [Prod.mk.injEq] at C;obtain ⟨W,rfl⟩:=C;obtain ⟨ob,s,D⟩:=(h.bx k _ p).at_;cases D with
     |cells _ _ _ Y=>cases Y
     |it _ _ _ _ hlb=>
     obtain ⟨w',f,⟨U,v⟩|⟨j,x,m,mQ,v⟩⟩:=lR (P:=P) (a:=a) (E:=E) ho hP W hnd (fun j m=>by rw [l.size];exact A j m) (fun x F=>l.lt x (by simpa using F)) M s
     ·exact ⟨_,Q fun j m=>U j (by rw [l.size];exact m),over f v⟩
     ·have B:j<L.length:=by rw [<- l.size];exact (Array.getElem?_eq_some_iff.1 m).1
      have I:=ggZ B;have H:=l.at_ j _ _ m I;exact ⟨_,il j _ I mQ,np h hd G p s f _ _ (fun E' g=>by
       obtain ⟨l1,l2⟩:=g.κ b hlb;have l2:E'.κ b=E.κ b:=l2;rw [<- l2];exact bS.it b bs c (ix++[j]) l1) ⟨H.1,H.2.1⟩ v (fun _ _ e=>by cases e)⟩
    ·exact n.elim
   ·rename_i L ix p;obtain ⟨A,il,Q⟩:=n;obtain ⟨ob,s,D⟩:=(h.bx k _ p).at_;cases D with
    |cells _ _ _ Y=>cases Y
    |itd g z c ag sh _ _ M hS l=>
    obtain ⟨w',f,⟨U,v⟩|⟨j,x,m,mQ,v⟩⟩:=lR (P:=P) (a:=a) (E:=E) ho hP rfl l.apart (fun j m=>by rw [l.size];exact A j m) (fun x F=>l.lt x (by simpa using F)) M s
    ·exact ⟨_,Q fun j m=>U j (by rw [l.size];exact m),over f v⟩
    ·have B:j<L.length:=by rw [<- l.size];exact (Array.getElem?_eq_some_iff.1 m).1
     have I:=ggZ B;have H:=l.at_ j _ _ m I;have kJ:w'.heap=E.w.heap:=by rcases f with rfl|rfl <;> rfl
     exact ⟨_,il j _ I mQ,np h hd G p s f _ _ (fun E' T=>by
      have g0:Grow E {E with w:=w' }:=⟨rfl,fun _ hl=>⟨hl,rfl⟩,fun r k hr=>⟨hr,by show w'.heap[_]? =_;rw [kJ],fun _=>Iff.rfl⟩,fun _ _ hs=>hs,fun b o hs=>aC.dG (by show w'.heap[_]? =_;rw [kJ])⟩
      have Z:({E with w:=w' }:Env).w.heap[g]? =some (.map z c):=by show w'.heap[g]? =_;rw [kJ];exact M
      exact bS.itd g z c ag sh L (ix++[j]) ((T.cell g 0 hS).map _ _ Z) (T.S _ _ hS) ((l.grow g0).grow T)) ⟨H.1,H.2.1⟩ v (fun _ _ e=>by cases e)⟩
   ·exact n.elim
  ·exact n.elim
end
section
variable {P:Program}{N:Nat}{w0:World}{S0:aa}{o:Oper}{a:Act}{E:Env}{st:St}
theorem fA{t e:TypeId}{size d:Nat}{s x:O}(b:ah P o.op=some (.append t e size d s x)):
  ∃X Y u j z,o.op= .call {callee:=.builtin .append,args:= #[X,Y],argTypes:= #[t,u]}/\((∃ i,P.underlying u=some (.slice i))\/P.underlying u=some .string)/\P.underlying t=some (.slice e)/\P.info? e=some j/\cz P e=some z/\size=j.size/\d=j.bytes/\0<j.size/\0<j.bytes/\ak X=some s/\ak Y=some x:=by
 have f: ∀{y:DOp},some y=some (DOp.append t e size d s x)->y.plain=true->False:=fun l m=>by cases l;cases m
 cases g:o.op with
 |call c=>
  rw [g] at b;obtain ⟨callee,az,argTypes⟩:=c;simp only [ah,bL] at b;split at b
  ·repeat' (first|exact (f b rfl).elim|(split at b)|(simp only [cond_eq_ite] at b)|(cases b;done))
  ·repeat' (first|exact (f b rfl).elim|(split at b)|(simp only [cond_eq_ite] at b)|(cases b;done))
  ·repeat' (first|exact (f b rfl).elim|(split at b)|(simp only [cond_eq_ite] at b)|(cases b;done))
  ·repeat' (first|exact (f b rfl).elim|(split at b)|(simp only [cond_eq_ite] at b)|(cases b;done))
  ·repeat' (first|exact (f b rfl).elim|(split at b)|(simp only [cond_eq_ite] at b)|(cases b;done))
  ·split at b
   ·rename_i X Y q u l m;split at b
    ·rename_i i s' G r D n;split at b
     ·rename_i j z B F;simp only [cond_eq_ite] at b;split at b
      ·rename_i k;simp only [Bool.and_eq_true] at k;cases b;have v:az= #[X,Y]:=Array.toList_inj.1 (by simpa using l);have C:(∃ i,P.underlying u=some (.slice i))\/P.underlying u=some .string:=by
        rcases Bool.or_eq_true _ _▸k.1.1 with h|h
        ·have w:t=u:=Nat.eq_of_beq_eq_true h;exact .inl ⟨_,w▸r⟩
        ·unfold pA at h;split at h
         ·exact .inr (by assumption)
         ·cases h
       have A:argTypes= #[t,u]:=Array.toList_inj.1 (by simpa using m);subst v;subst A;exact ⟨X,Y,u,j,z,rfl,C,r,B,F,rfl,rfl,Nat.lt_of_lt_of_le (Nat.lt_succ_self 0) (nlZ k.1.2),Nat.lt_of_lt_of_le (Nat.lt_succ_self 0) (nlZ k.2),D,n⟩
      ·cases b
     ·cases b
    ·cases b
   ·cases b
  ·repeat' (first|exact (f b rfl).elim|(split at b)|(simp only [cond_eq_ite] at b)|(cases b;done))
  ·repeat' (first|exact (f b rfl).elim|(split at b)|(simp only [cond_eq_ite] at b)|(cases b;done))
  ·repeat' (first|exact (f b rfl).elim|(split at b)|(simp only [cond_eq_ite] at b)|(cases b;done))
  ·cases b
 |unOp p q X=>
  exfalso;rw [g] at b;cases p <;> simp only [ah,Option.map_eq_some_iff] at b <;> first|(obtain ⟨_,_,b⟩:=b;cases b)|cases b
 |slice q X lo hi mx=>
  exfalso;rw [g] at b;cases lo <;> cases hi <;> cases mx <;> simp only [ah] at b <;> repeat' (first|exact f b rfl|(split at b)|(simp only [cond_eq_ite] at b)|(cases b;done))
 |binOp p q X Y ty=>
  exfalso;rw [g] at b;cases p <;> simp only [ah] at b <;> repeat' (first|exact f b rfl|(split at b)|(simp only [cond_eq_ite] at b)|(cases b;done))
 |_=>
  exfalso;rw [g] at b;simp only [ah] at b
  repeat' (first|exact f b rfl|(split at b)|(simp only [cond_eq_ite] at b)|(simp only [Option.map_eq_some_iff] at b;obtain ⟨_,_,b⟩:=b;cases b;done)|(cases b;done))
end
section
variable [Glb]{P:Program}{N:Nat}{w0:World}{S0:aa}{o:Oper}{a:Act}{E:Env}{st:St}
theorem oz(h:SR N w0 S0 E st a.tmps)(hd:ay N o.dst){x:DOp}(C:ah P o.op=some x)(cU:x.aO=false){K:St->Prop}(b:wpO P x o.dst st K): ∃i,K i/\Did P N w0 S0 o a E i:=by
 by_cases hx:x.plain=true
 ·obtain ⟨e,he,hk⟩:=jw hx b;exact ⟨_,hk,qv h hd C cU he⟩
 ·have R: ∀(d:Nat) (i:St),o.dst=some d->(∃ (q:Value) (L:Env),(execOp a.eval o).run P E.w= .ok (.value q) L.w/\SR N w0 S0 L i (a.tmps.setIfInBounds d q))->Did P N w0 S0 o a E i:=by
   rintro d i A ⟨q,L,V,H⟩;exact ⟨_,q,L,V,.inl rfl,by rw [A];exact H⟩
  cases x with
  |append t e size bytes s x=>
   have J:=fA C;obtain ⟨X,Y,u,j,zs,ho,hku,hu,Z,hz,rfl,rfl,B,hby,hX,hY⟩:=J;obtain ⟨z,hjz,hzs⟩:=jh Z hz;have k:=af h.sl hX;have I:=af h.sl hY;have Q: ∀(v y q:Value) (w':World),a.eval X=v->a.eval Y=y->(Builtin.append_ #[t,u] o.type #[v,y]).run P E.w= .ok q w'->(execOp a.eval o).run P E.w= .ok (.value q) w':=fun v y q w' S U V=>
    aG ho (by simp [builtin,S,U,V])
   unfold wpO at b;cases A:o.dst with
   |none=>rw [A] at b;exact b.elim
   |some d=>
    rw [A] at b hd;simp only at b;have W: ∀(r:Nat) (xs ys:List T),bU E (a.eval X) r e j.size xs->(∃ g,cF P E (a.eval Y) j.size ys g)->(xs.length+ys.length) * j.bytes<=140737488355328->K ((st.dg r (d+st.off)).put d (.own (d+st.off) e j.size (xs++ys)))->
      ∃i,K i/\Did P N w0 S0 o a E i:=fun r xs ys hv ⟨g,M⟩ bA hk=>by
     obtain ⟨q,L,V,H⟩:=oC (ty:=o.type) h hd hu Z hjz hzs B hby hv M hku bA;exact ⟨_,hk,R d _ A ⟨q,L,Q _ _ _ _ rfl rfl V,H⟩⟩
    unfold fG at b;split at b
    ·rename_i n ys M;obtain ⟨hn,b⟩:=b;have p: ∃g,cF P E (a.eval Y) j.size ys g:=by
      rcases hn with rfl|rfl
      ·exact e9 h I M B
      ·exact kZ h I M
     split at b
     ·rename_i G;rw [G] at k;have D:a.eval X= .slice none 0 0:=by
       have:=k.ax
       generalize a.eval X=v at this;cases this;rfl
      exact W (d+st.off) [] ys (by rw [D];exact bU.nil (d+st.off) e j.size) p (by simpa using b.1) (by simpa using b.2)
     ·rename_i r e' l xs G;rw [G] at k;simp only [cond_eq_ite] at b;split at b
      ·rename_i F;rw [Bool.and_eq_true] at F;have S:e'=e:=Nat.eq_of_beq_eq_true F.1;have U:l=j.size:=Nat.eq_of_beq_eq_true F.2;subst S;subst U;exact W r xs ys k.fl p b.1 b.2
      ·exact b.elim
     ·exact b.elim
    ·rename_i M;have p: ∃g,cF P E (a.eval Y) j.size [] g:=j9 h I M;split at b
     ·rename_i G;rw [G] at k;have D:a.eval X= .slice none 0 0:=by
       have:=k.ax
       generalize a.eval X=v at this;cases this;rfl
      exact W (d+st.off) [] [] (by rw [D];exact bU.nil (d+st.off) e j.size) p (by simp) (by simpa using b)
     ·rename_i r e' l xs G;rw [G] at k;simp only [cond_eq_ite] at b;split at b
      ·rename_i F;rw [Bool.and_eq_true] at F;have S:e'=e:=Nat.eq_of_beq_eq_true F.1;have U:l=j.size:=Nat.eq_of_beq_eq_true F.2;subst S;subst U;exact W r xs [] k.fl p (by simpa using b.1) (by simpa using b.2)
      ·exact b.elim
     ·exact b.elim
    ·exact b.elim
  |buildS e size n zs parts=>
   have J:=ja C;obtain ⟨t,ps,j,ho,hu,Z,hz,rfl,B,iV,qs,hqs,hin,rfl⟩:=J;unfold wpO at b;cases A:o.dst with
   |none=>rw [A] at b;exact b.elim
   |some d=>
    rw [A] at b hd;simp only at b;split at b
    ·rename_i es c hf;exact ⟨_,b.2,R d _ A (by obtain ⟨v2,E2,_,q1,q2⟩:=kl h hd ho hu Z hz B iV hqs hin hf b.1;exact ⟨v2,E2,q1,q2⟩)⟩
    ·exact b.elim
  |inl f O=>exact (nV C).elim
  |appV=>exact (pE C).elim
  |fcall f O=>exact (pD C).elim
  |mrng m=>exact qO h hd C b
  |mnext y=>exact pH h hd C b
  |_=>exact absurd rfl hx
theorem nO(h:SR N w0 S0 E st a.tmps)(hd:ay N o.dst){x:DOp}(j:ah P o.op=some x){K:St->Prop}(k:wpO P x o.dst st K){Q:Exit->Act->World->Prop}: ∃b,K b/\o.wp P a E.w (bB N w0 S0 a b) Q:=by
 cases i:x.aO with
 |true=>
  have n:x.plain=true:=by cases x <;> first|rfl|cases i
  obtain ⟨e,l,d⟩:=jw n k;exact ⟨_,d,rU h hd j l⟩
 |false=>
  obtain ⟨b,d,nx,v,g,m,f,c⟩:=oz h hd j i k;refine ⟨b,d,?_⟩;unfold Oper.wp;rw [m];rcases f with rfl|⟨rfl,rfl⟩
  ·exact ⟨g,rfl,c,by cases o.dst <;> rfl⟩
  ·exact ⟨g,rfl,c,by cases o.dst <;> rfl⟩
end
end Go.DL
end
section
namespace Go.DL
open Go.RowKit
section
variable [Glb]{P:Program}{X:List FuncId}{N:Nat}{w0:World}{S0:aa}{o:Oper}{a:Act}{E:Env}{st:St}
end
section
variable {P:Program}{X:List FuncId}{N:Nat}{w0:World}{S0:aa}{o:Oper}{a:Act}{E:Env}{st:St}
theorem fz{l:Array Oper}{i:DI}(b:jY P N X l o=some i):(∃ x,ah P o.op=some x/\i.op=dt X o.dst x)/\i.dst=o.dst/\ay N o.dst/\i.after=(o.after.toList.filter fun e=>Region.binds .any e).map (·.on)/\
  ((o.guard=none/\i.guard=none)\/ ∃j c g,o.guard=some (j,c)/\(l[j]?).bind (·.dst)=some g/\i.guard=some (g,c)/\g<N):=by
 have k: ∀{d:Option Nat},okB N d=true->ay N d:=fun {d} h=>by
  cases d with
  |none=>trivial
  |some n=>exact nlZ h
 unfold jY at b;split at b
 ·rename_i d hd;simp only at b;split at b
  ·rename_i m;simp only [cond_eq_ite] at b;split at b
   ·rename_i f;cases b;exact ⟨⟨d,hd,rfl⟩,rfl,k f,rfl,.inl ⟨m,rfl⟩⟩
   ·cases b
  ·rename_i j c m;split at b
   ·rename_i g p;simp only [cond_eq_ite] at b;split at b
    ·rename_i f;cases b;rw [Bool.and_eq_true] at f;exact ⟨⟨d,hd,rfl⟩,rfl,k f.1,rfl,.inr ⟨j,c,g,m,p,rfl,nlZ f.2⟩⟩
    ·cases b
   ·cases b
 ·cases b
end
section
variable [Glb]{P:Program}{X:List FuncId}{N:Nat}{w0:World}{S0:aa}{o:Oper}{a:Act}{E:Env}{st:St}
theorem kL(h:SR N w0 S0 E st a.tmps){n:Nat}(c:E.live n=true):E.κ n<E.w.heap.size:=by
 rw [h.live] at c;obtain ⟨d,b⟩:=Option.isSome_iff_exists.1 c;obtain ⟨_,e,_⟩:=(h.bx n d b).at_;exact (Array.getElem?_eq_some_iff.1 e).1
end
section
variable {P:Program}{X:List FuncId}{N:Nat}{w0:World}{S0:aa}{o:Oper}{a:Act}{E:Env}{st:St}
theorem pL: ∀(n:Nat) (g:Nat->Nat),(∀ i,i<=n->g i<n)-> ∃i j,i<j/\j<=n/\g i=g j
 |0,g,h=>absurd (h 0 (Nat.le_refl 0)) (Nat.not_lt_zero _)
 |n+1,g,h=>by
  by_cases d: ∃i,i<=n/\g i=g (n+1)
  ·obtain ⟨i,hi,m⟩:=d;exact ⟨i,n+1,by omega,Nat.le_refl _,m⟩
  ·obtain ⟨i,j,k,l,f⟩:=pL n (fun i=>if g (n+1)<g i then g i - 1 else g i) (fun i hi=>by
    have a:=h i (by omega);have b:=h (n+1) (Nat.le_refl _);have c:g i≠g (n+1):=fun e=>d ⟨i,hi,e⟩
    split <;> omega)
   refine ⟨i,j,k,by omega,?_⟩;have p:g i≠g (n+1):=fun e=>d ⟨i,by omega,e⟩
   have q:g j≠g (n+1):=fun e=>d ⟨j,l,e⟩
   split at f <;> split at f <;> omega
end
section
variable [Glb]{P:Program}{X:List FuncId}{N:Nat}{w0:World}{S0:aa}{o:Oper}{a:Act}{E:Env}{st:St}
theorem SR.spare{b:Array Value}(h:SR N w0 S0 E st b): ∃q,E.ρ q=none:=by
 apply Classical.byContradiction
 intro e;have c: ∀q,E.ρ q=some ((E.ρ q).getD 0):=fun q=>by
  cases f:E.ρ q with
  |none=>exact absurd ⟨q,f⟩ e
  |some g=>rfl
 obtain ⟨i,j,k,_,d⟩:=pL E.w.heap.size (fun q=>(E.ρ q).getD 0) (fun i _=>(h.rows i _ (c i)).2.1)
 have:=h.rinj i j _ (c i) (by rw [d];exact c j)
 omega
theorem SR.mu{b:Array Value}(h:SR N w0 S0 E st b){q g k:Nat}(D:E.ρ q=none)(A: ∀m,E.live m=true->E.κ m≠g)(p: ∀r,E.ρ r≠some g)(t:g<E.w.heap.size)(l:E.B<=g):
  SR N w0 S0 {E with S:=fun b o=>E.S b o\/(b=g/\o<k),ρ:=upd E.ρ q (some g)} st b:=by
 have F:Grow E {E with S:=fun b o=>E.S b o\/(b=g/\o<k),ρ:=upd E.ρ q (some g)}:=by
  refine ⟨rfl,fun m I=>⟨I,rfl⟩,fun r s d=>?_,fun b o c=>.inl c,fun _ _ _=>aC.rfl⟩;have f:r≠q:=fun e=>by rw [e,D] at d;cases d
  refine ⟨(ae _ _ _ _ f).trans d,rfl,fun o=>⟨fun c=>c.elim id fun G=>absurd (G.1▸d) (p r),.inl⟩⟩
 refine h.step F rfl rfl (fun n z=>⟨rfl,fun o c=>?_⟩) (fun r s d=>?_) (fun r x s i j=>?_) (fun b o c=>?_) h.below (fun b o c=>?_) (fun k o _ H=>H)
 ·rcases c with c|⟨c,_⟩
  ·rw [h.live] at z;obtain ⟨C,y⟩:=Option.isSome_iff_exists.1 z;exact (h.bx n C y).free o c
  ·exact A n z c
 ·have d:upd E.ρ q (some g) r=some s:=d
  by_cases f:r=q
  ·subst f;rw [ai] at d;cases d;exact ⟨l,t,A⟩
  ·rw [ae _ _ _ _ f] at d;exact h.rows r s d
 ·have i:upd E.ρ q (some g) r=some s:=i;have j:upd E.ρ q (some g) x=some s:=j
  by_cases u:r=q <;> by_cases v:x=q
  ·rw [u,v]
  ·subst u;rw [ai] at i;rw [ae _ _ _ _ v] at j;cases i;exact absurd j (p x)
  ·subst v;rw [ai] at j;rw [ae _ _ _ _ u] at i;cases j;exact absurd i (p r)
  ·rw [ae _ _ _ _ u] at i;rw [ae _ _ _ _ v] at j;exact h.rinj r x s i j
 ·rcases c with c|⟨rfl,_⟩
  ·exact h.lt b o c
  ·exact t
 ·rcases c with c|⟨rfl,_⟩
  ·exact h.s1 b o c
  ·right;rw [<- h.base];exact l
theorem fZ{f:FuncId}{us:List V}{ts:List T}{rd:List Nat}{e:TypeId}{size:Nat}{xs rest:List T}(C:bt st.bx us=some (ts,rd))(F:dA P f ts e size xs rest)
  (h:SR N w0 S0 E st a.tmps) {vs:Array Value} (q:vs.size=us.length) (G: ∀(i:Nat) (v:Value) (u:V),vs[i]? =some v->us[i]? =some u->VR E v u):
  Calls P f vs E.w fun m w'=> ∃(v:Value) (us:List Value),m= .returned (gR v us)/\Below E.w.heap.size E.w w'/\fH E.w w' v e size xs/\
   us.length=rest.length/\(∀ (i:Nat) (u:Value) (t:T),us[i]? =some u->rest[i]? =some t->t.flat=true/\Rep (fun _ _=>False) w' u t)/\SR N w0 S0 {E with w:=w' } st a.tmps:=by
 obtain ⟨s,y⟩:=fY h.bx C;have g: ∀b x,Sx E rd b x->b<E.w.heap.size:=by
  rintro b x (B|⟨n,_,d,rfl⟩)
  ·exact h.lt b x B
  ·exact kL h d
 have z:=F.2 (Sx E rd) E.w vs.toList g (h.rH rd) (by simp;omega) (fun i v t j r=>by
  have hi:i<us.length:=by rw [s];exact (gsZ r).1
  exact y i v _ t (G i v _ (by simpa using j) (ggZ hi)) (ggZ hi) r)
 refine Calls.mono (by simpa using z) ?_;rintro m w' ⟨v,l,rfl,p,c,d,A⟩;exact ⟨v,l,rfl,p,c,d,A,h.world p E.S (fun b o=>⟨.inl,fun D=>D.elim id fun k=>k.1⟩)⟩
end
section
variable {P:Program}{X:List FuncId}{N:Nat}{w0:World}{S0:aa}{o:Oper}{a:Act}{E:Env}{st:St}
theorem Rep.narrow{S:ar}{w:World}{v:Value}{cs:List T}(h:Rep S w v (.cptr cs 0))(n:Nat):Rep S w v (.cptr (cs.take n) 0):=by
 cases h with
 |cptr b j _ _ g d e f=>
  refine .cptr b j 0 _ g (fun t c=>d t (List.mem_of_mem_take c)) (fun i hi=>e i (by rw [List.length_take] at hi;omega)) fun i t c=>f i t ?_
  rw [List.getElem?_take] at c;split at c
  ·exact c
  ·cases c
end
section
variable [Glb]{P:Program}{X:List FuncId}{N:Nat}{w0:World}{S0:aa}{o:Oper}{a:Act}{E:Env}{st:St}
theorem SR.narrow{b:Array Value}{d n:Nat}{cs:List T}(h:SR N w0 S0 E (st.set (some d) (.t (.cptr cs 0))) b):SR N w0 S0 E (st.set (some d) (.t (.cptr (cs.take n) 0))) b:=by
 refine ⟨h.size,h.base,h.glob,fun m=>?_,h.gh,h.bx,h.live,h.inj,h.rows,h.rinj,h.lt,h.below,h.s0,h.s1,h.obj,h.cx⟩;have c:=h.sl m;show VR E _ (upd st.sl d (.t (.cptr (cs.take n) 0)) m)
 have c:VR E (b.getD m undef) (upd st.sl d (.t (.cptr cs 0)) m):=c
 by_cases e:m=d
 ·subst e;rw [ai] at c ⊢;exact .t _ _ (c.ax.narrow n)
 ·rw [ae _ _ _ _ e] at c ⊢;exact c
theorem tc(h:SR N w0 S0 E st a.tmps)(hd:ay N o.dst){x:DOp}(hl:ah P o.op=some x){K:St->Prop}(l:wpO P (dt X o.dst x) o.dst st K){Q:Exit->Act->World->Prop}:
  o.wp P a E.w (fun M w'=> ∃C,K C/\bB N w0 S0 a C M w') Q:=by
 have plain:wpO P x o.dst st K->o.wp P a E.w (fun M w'=> ∃C,K C/\bB N w0 S0 a C M w') Q:=fun l=>by
  obtain ⟨C,H,hh⟩:=nO h hd hl l (Q:=Q);exact Oper.wp_mono (fun M w' W=>⟨C,H,W⟩) hh
 have did: ∀{C:St},K C->Did P N w0 S0 o a E C->o.wp P a E.w (fun M w'=> ∃C,K C/\bB N w0 S0 a C M w') Q:=by
  rintro C H ⟨nx,v,E',hr,hnx,J⟩;unfold Oper.wp;rw [hr];rcases hnx with rfl|⟨rfl,rfl⟩
  ·exact ⟨_,H,E',rfl,J,by cases o.dst <;> rfl⟩
  ·exact ⟨_,H,E',rfl,J,by cases o.dst <;> rfl⟩
 cases x with
 |call f F=>
  have inl:WC P f (F.map (ev st.sl)) o.dst st K->o.wp P a E.w (fun M w'=> ∃C,K C/\bB N w0 S0 a C M w') Q:=fun l=>by
   obtain ⟨hc,l⟩:=l;obtain ⟨⟨callee,az,argTypes⟩,ho,hl'⟩:=eY hl rfl;obtain ⟨rfl,has⟩:=(eF hl').1 f F rfl;obtain ⟨h1,h2⟩:=gD h.sl has;have hex:=fC (E:=E) (a:=a) (caps:= #[]) ho rfl hc;rw [Array.append_empty] at hex
   have:=l N w0 S0 E a.tmps (az.map a.eval) h (by simp [h1]) h2 (fun n W=>by rw [W] at hd;exact hd)
   unfold Oper.wp;rw [hex];refine Calls.mono this ?_;rintro e w' ⟨v,rfl,E',C,rfl,H,J⟩;refine ⟨C,H,E',rfl,?_,by cases o.dst <;> rfl⟩;cases G:o.dst with
   |none=>rw [G] at J;exact J
   |some n=>rw [G] at J;exact J
  have low:wpO P (fN X (.call f F)) o.dst st K->o.wp P a E.w (fun M w'=> ∃C,K C/\bB N w0 S0 a C M w') Q:=fun l=>by
   have l:wpO P (cond (X.contains f) (.inl f F) (.call f F)) o.dst st K:=l;cases L:X.contains f with
   |false=>rw [L] at l;exact plain l
   |true=>rw [L] at l;exact inl l
  cases G:o.dst with
  |none=>
   rw [G] at l;exact low (by rw [G];exact l)
  |some d=>
   have D:wpO P (cond (X.contains (3000000+d)) (.fcall f F) (match qP X d with
     |[]=>fN X (.call f F)
     |n::ns=>.mcall (n::ns) f F)) o.dst st K:=by
    rw [G] at l ⊢;exact l
   cases L:X.contains (3000000+d) with
   |false=>
    rw [L] at D;cases hM:qP X d with
    |nil=>rw [hM] at D;exact low D
    |cons n ns=>
     rw [hM] at D;obtain ⟨need,fr,m,b,r,h1,h2,h3,_,_,h6⟩:=D;exact inl (h1 o.dst st K h2 h3 h6)
   |true=>
    rw [L] at D;have l:dK P f (F.map (ev st.sl)) o.dst st K:=D;rw [G] at l;unfold dK at l;simp only at l;split at l
    ·rename_i ts rd hc;obtain ⟨e,size,xs,hF,H⟩:=l;obtain ⟨q,hq⟩:=h.spare;obtain ⟨⟨callee,az,argTypes⟩,ho,hl'⟩:=eY hl rfl;obtain ⟨rfl,has⟩:=(eF hl').1 f F rfl;obtain ⟨h1,h2⟩:=gD h.sl has;have hex:=fC (E:=E) (a:=a) (caps:= #[]) ho rfl hF.1;rw [Array.append_empty] at hex;have hd':ay N (some d):=by rw [G] at hd;exact hd
     have klt: ∀m,E.live m=true->E.κ m<E.w.heap.size:=fun m hm=>kL h hm
     have H:=H q;unfold Oper.wp;rw [hex];refine Calls.mono (fZ (a:=a) hc hF h (by simp [h1]) h2) ?_;rintro en w' ⟨v,us,rfl,hb,hfr,hul,_,h'⟩;have hus:us=[]:=List.eq_nil_of_length_eq_zero hul;subst hus;obtain ⟨cells,k1,k2,k3⟩:=hfr.ex;rcases k1.2 with ⟨rfl,W⟩|⟨g,cap,cur,rfl,hbg,hg,cB,hm,Z,htk⟩
     ·have hx:xs=[]:=List.eq_nil_of_length_eq_zero W;subst hx;refine ⟨_,H,{E with w:=w' },rfl,?_,by cases o.dst <;> rfl⟩;rw [G];exact h'.cL (d:=some d) hd' (.own _ _ _ _ _ (bU.nil _ _ _))
     ·have hlt:g<w'.heap.size:=(Array.getElem?_eq_some_iff.1 hg).1;have h2:=h'.mu (q:=q) (g:=g) (k:=(xs.flatMap T.cells).length) hq (fun m hm=>by have:=klt m hm;show E.κ m≠g;omega) (fun r hr=>by
       have:=(h.rows r g hr).2.1;omega) hlt (by show E.B<=g;rw [h.base];have:=h.below.size;omega)
      refine ⟨_,H,{({E with w:=w' }:Env) with S:=fun b o=>E.S b o\/(b=g/\o<(xs.flatMap T.cells).length),ρ:=upd E.ρ q (some g)},rfl,?_,by cases o.dst <;> rfl⟩;rw [G];refine h2.cL (d:=some d) hd' (.own _ _ _ _ _ ⟨⟨cells,⟨k1.1,.inr ⟨g,cap,cur,rfl,?_,hg,cB,hm,Z,htk⟩⟩,k2,fun i x t hx ht=>(k3 i x t hx ht).of_flat (hfr.flat t (List.mem_of_getElem? ht))⟩,hfr.uni,hfr.one,fun g' hg'=>?_⟩)
      ·show E.B<=g;rw [h.base];have:=h.below.size;omega
      ·have hg2:g=g':=Option.some.inj (show some g=some g' from hg');subst hg2;refine ⟨ai _ _ _,fun o=>?_⟩;show (E.S g o\/(g=g/\o<_))↔_
       exact ⟨fun hh=>hh.elim (fun Z=>absurd (h.lt g o Z) (by omega)) (·.2),fun hh=>.inr ⟨rfl,hh⟩⟩
    ·exact l.elim
 |append t e size R s x=>
  cases s with
  |const c=>exact plain (by unfold dt at l;exact l)
  |tmp k=>
   have l:wpO P (cond (X.contains (8000000+k)) (cond (X.contains (9000000+k)) (.appV size R (.tmp k) x) (.appT size R (.tmp k) x)) (.append t e size R (.tmp k) x)) o.dst st K:=by
    unfold dt at l;exact l
   cases L:X.contains (8000000+k) with
   |false=>rw [L] at l;exact plain l
   |true=>
   cases hX9:X.contains (9000000+k) with
   |true=>
    rw [L,hX9] at l;obtain ⟨Xo,Y,u,j,V,ho,hku,hu,hj,hz,rfl,rfl,hsz,hby,hXo,hY⟩:=fA hl;obtain ⟨z,hjz,hzs⟩:=jh hj hz;have I:=af h.sl hXo;have hvY:=af h.sl hY;have l:wpO P (.appV j.size j.bytes (.tmp k) x) o.dst st K:=l;cases G:o.dst with
    |none=>rw [G] at l;exact l.elim
    |some d=>
     rw [G] at l;have l:lf j.size j.bytes d (d+st.off) (ev st.sl (.tmp k)) (ev st.sl x) st K:=l;unfold lf at l;split at l
     ·rename_i n ys Z hq;simp only [cond_eq_ite] at l;split at l
      ·rename_i hnr;obtain ⟨⟨rfl,aI,bA⟩,H⟩:=l;obtain ⟨O,hsy⟩:=e9 h hvY Z hsz;have hA: ∃A,a.eval Xo= .slice A 0 0:=by
        cases U:ev st.sl (.tmp k) with
        |t y=>
         rw [U] at hnr I;cases y <;> first|exact absurd hnr Bool.false_ne_true|skip
         have:=I.ax
         generalize a.eval Xo=v at this;cases this;exact ⟨none,rfl⟩
        |full sz xs=>
         rw [U] at hnr I;cases xs with
         |cons x xs=>exact absurd hnr Bool.false_ne_true
         |nil=>
          generalize a.eval Xo=v at I;cases I with
          |full A len _ _ hr=>
           cases hr with
           |slice _ _ _ _ _ _ _ _ hlen=>cases hlen;exact ⟨A,rfl⟩
        |_=>rw [U] at hnr;exact absurd hnr Bool.false_ne_true
       obtain ⟨A,hA⟩:=hA;obtain ⟨v',E',aK,J,hvr⟩:=ql (ty:=o.type) (t:=t) (e:=e) (u:=u) (A:=A) h hu hj hjz hby hsy hku aI bA hq;refine did H ⟨.value v',v',E',aG ho ?_,.inl rfl,?_⟩
       ·simp [builtin,hA,aK]
       ·rw [G] at hd ⊢;exact J.cL (d:=some d) hd hvr
      ·exact l.elim
     ·exact l.elim
   |false=>
    rw [L,hX9] at l;obtain ⟨Xo,Y,u,j,V,ho,hku,hu,hj,hz,rfl,rfl,hsz,hby,hXo,hY⟩:=fA hl;obtain ⟨z,hjz,hzs⟩:=jh hj hz;have I:=af h.sl hXo;have hvY:=af h.sl hY;have l:wpR (eff (.appT j.size j.bytes (.tmp k) x) (st.nm o.dst) st.sl st.bx) o.dst st K:=l;have go: ∀{A:Option Addr} {len:Nat} {xs ys:List T},a.eval Xo= .slice A len len->Rep E.S E.w (.slice A len len) (.slice j.size xs)->(∃ O,cF P E (a.eval Y) j.size ys O)->(xs.length+ys.length) * j.bytes<=140737488355328->
      K (st.app o.dst {val:=.t (.slice j.size (xs++ys))})->o.wp P a E.w (fun M w'=> ∃C,K C/\bB N w0 S0 a C M w') Q:=fun L hr ⟨O,hsy⟩ bA H=>by
     obtain ⟨v',E',aK,J,aq⟩:=qk (ty:=o.type) (t:=t) (e:=e) (u:=u) h hu hj hjz hzs hsz hby hr hsy hku bA;refine did H ⟨.value v',v',E',aG ho ?_,.inl rfl,?_⟩
     ·simp [builtin,L,aK]
     ·rw [jj];exact J.cL hd (.t _ _ aq)
    have src: ∀{n:Nat} {ys:List T},da st.bx (ev st.sl x)=some (.slice n ys)->(n=j.size\/ys=[])-> ∃O,cF P E (a.eval Y) j.size ys O:=fun Z W=>by
     rcases W with rfl|rfl
     ·exact e9 h hvY Z hsz
     ·exact kZ h hvY Z
    have nilX:ev st.sl (.tmp k)= .t .nil->a.eval Xo= .slice none 0 0:=fun U=>by
     rw [U] at I
     have:=I.ax
     generalize a.eval Xo=v at this;cases this;rfl
    have nilR:Rep E.S E.w (.slice none 0 0) (.slice j.size []):=
     .slice none 0 0 0 0 j.size [] (fun _=>undef) rfl (Nat.le_refl _) (fun x hx=>by simp at hx) (fun t ht=>by simp at ht) (fun hh=>by simp at hh) (fun i hi=>by simp at hi) (fun i t ht=>by simp at ht)
    unfold eff at l;simp only at l;split at l
    ·rename_i n ys Z;split at l
     ·rename_i sz xs U;simp only [cond_eq_ite] at l;split at l
      ·rename_i hb;have hb:=Nat.eq_of_beq_eq_true hb;subst hb;obtain ⟨⟨W,bA⟩,H⟩:=l;rw [U] at I;generalize hXv:a.eval Xo=vX at I;cases I with
       |full A len _ _ hr=>exact go hXv hr (src Z W) bA H
      ·exact l.elim
     ·rename_i U;obtain ⟨⟨W,bA⟩,H⟩:=l;exact go (nilX U) nilR (src Z W) (by simpa using bA) (by simpa using H)
     ·exact l.elim
    ·rename_i Z;split at l
     ·rename_i sz xs U;simp only [cond_eq_ite] at l;split at l
      ·rename_i hb;have hb:=Nat.eq_of_beq_eq_true hb;subst hb;obtain ⟨bA,H⟩:=l;rw [U] at I;generalize hXv:a.eval Xo=vX at I;cases I with
       |full A len _ _ hr=>exact go (ys:=[]) hXv hr (j9 h hvY Z) (by simpa using bA) (by simpa using H)
      ·exact l.elim
     ·rename_i U;obtain ⟨_,H⟩:=l;exact go (ys:=[]) (nilX U) nilR (j9 h hvY Z) (by simp) (by simpa using H)
     ·exact l.elim
    ·exact l.elim
 |buildS e size n V parts=>
  obtain ⟨t,ps,j,ho,hu,hj,hz,rfl,hsz,iV,qs,hqs,hin,rfl⟩:=ja hl;have mk: ∀{es:List T} {c:Prop} {d:Nat},o.dst=some d->aZ st.sl j.size (List.replicate n (cond (Nat.beq j.size 1) (V.headD .nil) (.agg V))) True (qs.map fun p=>(p.1,p.2.2))=some (es,c)->c->
    Did P N w0 S0 o a E (st.app (some d) {val:=.t (.slice j.size es)})/\Did P N w0 S0 o a E (st.app (some d) {val:=.full j.size es }):=fun G hf hc=>
   oI h (by rw [G] at hd;exact hd) ho hu hj hz hsz iV hqs hin hf hc G
  have low:wpO P (fN X (.buildS e j.size n V (qs.map fun p=>(p.1,p.2.2)))) o.dst st K->o.wp P a E.w (fun M w'=> ∃C,K C/\bB N w0 S0 a C M w') Q:=fun l=>by
   have l:wpO P (cond (X.contains 2000000) (.buildT j.size n V (qs.map fun p=>(p.1,p.2.2))) (.buildS e j.size n V (qs.map fun p=>(p.1,p.2.2)))) o.dst st K:=l;cases L:X.contains 2000000 with
   |false=>rw [L] at l;exact plain l
   |true=>
    rw [L] at l;have l:wpR (eff (.buildT j.size n V (qs.map fun p=>(p.1,p.2.2))) (st.nm o.dst) st.sl st.bx) o.dst st K:=l;cases G:o.dst with
    |none=>rw [G] at l;exact l.elim
    |some d=>
     rw [G] at l;simp only [eff,St.nm] at l;cases hf:aZ st.sl j.size (List.replicate n (cond (Nat.beq j.size 1) (V.headD .nil) (.agg V))) True (qs.map fun p=>(p.1,p.2.2)) with
     |none=>rw [hf] at l;exact l.elim
     |some ec=>
      obtain ⟨es,c⟩:=ec;rw [hf] at l;obtain ⟨hc,H⟩:=l;exact did H (mk G hf hc).1
  cases G:o.dst with
  |none=>
   rw [G] at l low;unfold dt at l;exact low l
  |some d=>
   have D:wpO P (cond (X.contains (8000000+d)) (.buildF j.size n V (qs.map fun p=>(p.1,p.2.2))) (fN X (.buildS e j.size n V (qs.map fun p=>(p.1,p.2.2))))) o.dst st K:=by
    rw [G] at l ⊢;unfold dt at l;exact l
   cases L:X.contains (8000000+d) with
   |false=>rw [L] at D;exact low D
   |true=>
    rw [L] at D;have l:wpR (eff (.buildF j.size n V (qs.map fun p=>(p.1,p.2.2))) (st.nm o.dst) st.sl st.bx) o.dst st K:=D;rw [G] at l;simp only [eff,St.nm] at l;cases hf:aZ st.sl j.size (List.replicate n (cond (Nat.beq j.size 1) (V.headD .nil) (.agg V))) True (qs.map fun p=>(p.1,p.2.2)) with
    |none=>rw [hf] at l;exact l.elim
    |some ec=>
     obtain ⟨es,c⟩:=ec;rw [hf] at l;obtain ⟨hc,H⟩:=l;exact did H (mk G hf hc).2
 |offA k y=>
  have base: ∀{k},wpO P (.offA k y) o.dst st K->ah P o.op=some (.offA k y)->o.wp P a E.w (fun M w'=> ∃C,K C/\bB N w0 S0 a C M w') Q:=fun l hl=>by
   obtain ⟨C,H,hh⟩:=nO h hd hl l (Q:=Q);exact Oper.wp_mono (fun M w' W=>⟨C,H,W⟩) hh
  cases k with
  |succ k=>exact base (by unfold dt at l;exact l) hl
  |zero=>
   cases G:o.dst with
   |none=>
    rw [G] at l;exact base (by rw [G];unfold dt at l;exact l) hl
   |some d=>
    have D:wpO P (match qQ X d with
      |[]=>.offA 0 y
      |n::_=>.nar n y) o.dst st K:=by
     rw [G] at l ⊢;unfold dt at l;exact l
    cases L:qQ X d with
    |nil=>rw [L] at D;exact base D hl
    |cons n ns=>
     rw [L] at D;have l:wpR (eff (.nar n y) (st.nm o.dst) st.sl st.bx) o.dst st K:=D;unfold eff at l;simp only at l;split at l
     ·rename_i cs U;obtain ⟨W,H⟩:=l;have hw0:wpO P (.offA 0 y) o.dst st (fun C=>C=st.app o.dst {val:=.t (.cptr cs 0)}):=by
       have e:wpR (eff (.offA 0 y) (st.nm o.dst) st.sl st.bx) o.dst st (fun C=>C=st.app o.dst {val:=.t (.cptr cs 0)}):=by
        unfold eff;simp only [U];exact rfl
       exact e
      obtain ⟨C,rfl,hh⟩:=nO h hd hl hw0 (Q:=Q);rw [G] at hh H;rw [G] at hd;refine Oper.wp_mono (fun M w' hn'=>⟨_,H,?_⟩) hh;obtain ⟨E',h1,h2,h3⟩:=hn';exact ⟨E',h1,h2.narrow,h3⟩
     ·exact l.elim
 |_=>exact plain (by unfold dt at l;exact l)
end
section
variable {P:Program}{X:List FuncId}{N:Nat}{w0:World}{S0:aa}{o:Oper}{a:Act}{E:Env}{st:St}
theorem ov(E:Env):VR E undef bJ:=.t _ _ (.tup #[] [] rfl (fun i x t b _=>by simp at b))
theorem nG{v:Value}(h:VR E v bJ):v= .tuple #[]:=by
 cases h with
 |t _ _ h=>
  cases h with
  |tup cs ts b _=>
   have:cs= #[]:=by
    cases cs with
    |mk l=>cases l with
     |nil=>rfl
     |cons a r=>simp at b
   rw [this]
end
section
variable [Glb]{P:Program}{X:List FuncId}{N:Nat}{w0:World}{S0:aa}{o:Oper}{a:Act}{E:Env}{st:St}
theorem qe(h:SR N w0 S0 E st a.tmps){c:Array Oper}{k:Nat}(B:c[k]? =some o){i:DI}(G:jY P N X c o=some i){K:St->Prop}(e:wpI P i st K){Q:Exit->Act->World->Prop}:
  wpOp P c Q k (fun r w'=> ∃d,K d/\bB N w0 S0 a d r w') a E.w:=by
 obtain ⟨⟨x,C,H⟩,y,z,_,D⟩:=fz G;have p:wpO P i.op i.dst st K->Region.wanted o (yielded c a.tmps)=true->wpOp P c Q k (fun r w'=> ∃d,K d/\bB N w0 S0 a d r w') a E.w:=fun e v=>by
  rw [y,H] at e;unfold wpOp;simp only [B,v,if_true];exact .inl (tc h z C e)
 have skip:K (st.set i.dst bJ)->Region.wanted o (yielded c a.tmps)=false->wpOp P c Q k (fun r w'=> ∃d,K d/\bB N w0 S0 a d r w') a E.w:=fun F v=>by
  unfold wpOp;simp only [B,v,Bool.false_eq_true,if_false];refine ⟨_,F,?_⟩;rw [y];exact ⟨E,rfl,h.cL z (ov E),by cases o.dst <;> rfl⟩
 unfold wpI at e;rcases D with ⟨u,hi⟩|⟨j,l,g,u,A,hi,s⟩
 ·rw [hi] at e;exact p e (by unfold Region.wanted;rw [u])
 ·rw [hi] at e;simp only at e;have J: ∀b,st.sl g= .t (.bool b)->yielded c a.tmps j=some b:=fun b n=>by
   have q:=h.sl g;rw [n] at q;have q:=q.aT;have f:g<a.tmps.size:=by rw [h.size];exact s
   have:a.tmps[g]? =some (.bool b):=by
    rw [Array.getElem?_eq_getElem f];simpa [f] using q
   unfold yielded;rw [A];simp [this]
  have I: ∀b,st.sl g= .t (.bool b)->Region.wanted o (yielded c a.tmps)=(b==l):=fun b n=>by
   unfold Region.wanted;rw [u];simp only [J b n];cases b <;> cases l <;> rfl
  split at e
  ·rename_i b n;have m:=I b n;cases b <;> cases l <;> simp only at e
   ·exact p e m
   ·exact skip e m
   ·exact skip e m
   ·exact p e m
  ·rename_i n;refine skip e ?_;have q:=nG (n▸h.sl g);unfold Region.wanted;rw [u]
   have:yielded c a.tmps j=none:=by
    have f:g<a.tmps.size:=by rw [h.size];exact s
    have:a.tmps[g]? =some (.tuple #[]):=by
     rw [Array.getElem?_eq_getElem f];simpa [f] using q
    unfold yielded;rw [A];simp [this]
   simp only [this];rfl
  ·exact e.elim
end
section
variable {P:Program}{X:List FuncId}{N:Nat}{w0:World}{S0:aa}{o:Oper}{a:Act}{E:Env}{st:St}
theorem bk{c:Array Oper}: ∀{l:List Oper} {is:List DI},bQ P N X c l=some is->l.length=is.length/\ ∀(k:Nat) (o:Oper),l[k]? =some o-> ∃i,is[k]? =some i/\jY P N X c o=some i
 |[],is,h=>by simp [bQ] at h;subst h;exact ⟨rfl,fun k o b=>by simp at b⟩
 |o::l,is,h=>by
  unfold bQ at h;split at h
  ·rename_i d ds hd e;cases h;obtain ⟨f,g⟩:=bk e;refine ⟨by simp [f],fun k j b=>?_⟩;cases k with
   |zero=>simp at b;subst b;exact ⟨d,rfl,hd⟩
   |succ k=>simp at b;simpa using g k j b
  ·cases h
end
section
variable [Glb]{P:Program}{X:List FuncId}{N:Nat}{w0:World}{S0:aa}{o:Oper}{a:Act}{E:Env}{st:St}
def fQ(is:List DI)(ks:List Nat):List DI:=ks.map fun k=>is[k]?.getD default
theorem lG{b:Array Oper}{is:List DI}(n:bQ P N X b b.toList=some is){Q:Exit->Act->World->Prop}{K:St->Prop}{ds:List Deferred}(m: ∀a w,bz N w0 S0 ds K a w->Q .normal a w):
  ∀(ks:List Nat) (_: ∀k∈ks,k<b.size) {a:Act} {E:Env} {st:St} (_:SR N w0 S0 E st a.tmps) (_:a.defers=ds) (_:bp P (fQ is ks) st K),wpOps P b Q ks a E.w
 |[],_,a,E,st,h,hd,hw=>m a E.w ⟨E,st,rfl,h,hd,hw⟩
 |k::ks,hk,a,E,st,h,hd,hw=>by
  have g:=hk k (by simp);have p:b[k]? =some b[k]:=Array.getElem?_eq_getElem g;obtain ⟨i,hi,f⟩:=(bk n).2 k _ (Array.getElem?_toList.trans p);have l:wpI P i st fun d=>bp P (fQ is ks) d K:=by
   have:=hw
   unfold fQ at this;rw [List.map_cons,hi] at this;exact this
  rw [wpOps_cons];refine wpOp_mono ?_ (qe h p f l (Q:=Q));rintro r w' ⟨d,c,q,rfl,j,e⟩;exact lG n m ks (fun k c=>hk k (List.mem_cons_of_mem _ c)) j (e.trans hd) c
end
section
variable {P:Program}{X:List FuncId}{N:Nat}{w0:World}{S0:aa}{o:Oper}{a:Act}{E:Env}{st:St}
theorem iA(is:List DI):fQ is (List.range is.length)=is:=by
 apply List.ext_getElem?
 intro k;unfold fQ
 by_cases b:k<is.length
 ·simp [b]
 ·simp [b]
end
section
variable [Glb]{P:Program}{X:List FuncId}{N:Nat}{w0:World}{S0:aa}{o:Oper}{a:Act}{E:Env}{st:St}
theorem pO(h:SR N w0 S0 E st a.tmps){b:Array Oper}{is:List DI}(d:bQ P N X b b.toList=some is){Q:Exit->Act->World->Prop}{K:St->Prop}(e: ∀c w,bz N w0 S0 a.defers K c w->Q .normal c w)
  (g:bp P is st K) {id:Nat}:(Code.region id b false).wp P Q a E.w:=by
 refine wp_region (lG d e _ (fun k f=>by simpa using f) h rfl ?_)
 have:b.size=is.length:=by simpa using (bk d).1
 rw [this,iA];exact g
end
end Go.DL
end
section
namespace Go.DL
open Go.RowKit
section
variable [Glb]{P:Program}
end
section
variable {P:Program}
theorem iK{v:V}{n:Nat}(h:n∈bx1 v):n∈bx2 v:=by
 cases v with
 |fn f caps=>simp [bx1] at h
 |_=>exact h
theorem iL{v:V}{n:Nat}(h:n∈bx2 v):n∈bxs v:=by
 cases v with
 |fn f caps=>
  obtain ⟨c,b,d⟩:=List.mem_flatMap.1 h;exact List.mem_flatMap.2 ⟨c,b,iK d⟩
 |_=>exact h
theorem aR{e f:Nat->Option BX}{v:V}(h: ∀n∈bx1 v, ∀b,e n=some b->f n=some b){r:T×List Nat}(c:aY e v=some r):aY f v=some r:=by
 cases v with
 |ptr n off=>
  simp only [aY] at c ⊢;cases d:e n with
  |none=>rw [d] at c;cases c
  |some b=>rw [d] at c;rw [h n (by simp [bx1]) b d];exact c
 |view n off len size=>
  simp only [aY] at c ⊢;cases d:e n with
  |none=>rw [d] at c;cases c
  |some b=>rw [d] at c;rw [h n (by simp [bx1]) b d];exact c
 |mp n=>
  simp only [aY] at c ⊢;cases d:e n with
  |none=>rw [d] at c;cases c
  |some b=>rw [d] at c;rw [h n (by simp [bx1]) b d];exact c
 |_=>exact c
theorem jx{e f:Nat->Option BX}: ∀{vs:List V},(∀ n∈vs.flatMap bx1, ∀b,e n=some b->f n=some b)-> ∀{r:List T×List Nat},cT e vs=some r->cT f vs=some r
 |[],_,r,hc=>hc
 |v::vs,h,r,hc=>by
  unfold cT at hc ⊢;split at hc
  ·rename_i x i xs rs g d;rw [aR (fun n c=>h n (by simp [c])) g,jx (fun n c=>h n (by simp only [List.flatMap_cons,List.mem_append];exact .inr c)) d];exact hc
  ·cases hc
theorem oK{g i:Nat->Option BX}{v:V}(h: ∀n∈bx2 v, ∀b,g n=some b->i n=some b){r:T×List Nat}(c:conv g v=some r):conv i v=some r:=by
 cases v with
 |fn f caps=>
  unfold conv at c ⊢;simp only at c ⊢;split at c
  ·rename_i ts rd d;rw [jx h d];exact c
  ·cases c
 |top=>exact aR (v:=.top) h c
 |t x=>exact aR (v:=.t x) h c
 |ptr n off=>exact aR (v:=.ptr n off) h c
 |view n off len size=>exact aR (v:=.view n off len size) h c
 |own r e n xs=>exact aR (v:=.own r e n xs) h c
 |full n xs=>exact aR (v:=.full n xs) h c
 |tup vs=>exact aR (v:=.tup vs) h c
 |agv vs=>exact aR (v:=.agv vs) h c
 |raw x=>exact aR (v:=.raw x) h c
 |mp n=>exact aR (v:=.mp n) h c
theorem eC{e f:Nat->Option BX}: ∀{vs:List V},(∀ n∈vs.flatMap bx2, ∀b,e n=some b->f n=some b)-> ∀{r:List T×List Nat},bt e vs=some r->bt f vs=some r
 |[],_,r,hc=>hc
 |v::vs,h,r,hc=>by
  unfold bt at hc ⊢;split at hc
  ·rename_i x i xs rs g d;rw [oK (fun n c=>h n (by simp [c])) g,eC (fun n c=>h n (by simp only [List.flatMap_cons,List.mem_append];exact .inr c)) d];exact hc
  ·cases hc
theorem av{s1 s2:Nat->V}{x:O}(h: ∀m∈x.reads,s2 m=s1 m):ev s2 x=ev s1 x:=by
 cases x with
 |tmp n=>exact h n (by simp [O.reads])
 |const t=>rfl
theorem dQ{s1 s2:Nat->V}: ∀{xs:List O},(∀ m∈aN xs,s2 m=s1 m)->xs.map (ev s2)=xs.map (ev s1)
 |[],_=>rfl
 |x::xs,h=>by
  rw [List.map_cons,List.map_cons,av (fun m b=>h m (by simp [aN,b])),dQ (fun m b=>h m (by simp [aN,b]))]
theorem gG{s1 s2:Nat->V}{x:Option O}(h: ∀m∈qS x,s2 m=s1 m):x.map (ev s2)=x.map (ev s1):=by
 cases x with
 |none=>rfl
 |some x=>rw [Option.map_some,Option.map_some,av h]
theorem jP{s1 s2:Nat->V}: ∀{d:List (Nat×Nat×O)} {e:List T} {c:Prop},(∀ m∈aN (d.map (·.2.2)),s2 m=s1 m)->dm s2 e c d=dm s1 e c d
 |[],_,_,_=>rfl
 |(off,size,x)::d,e,c,h=>by
  unfold dm;rw [av (s1:=s1) (fun m b=>h m (by simp [aN,b]))];split
  ·rfl
  ·rw [jP fun m b=>h m (by simp [aN,b])]
  ·rw [jP fun m b=>h m (by simp [aN,b])]
  ·rfl
theorem jQ{s1 s2:Nat->V}: ∀{e:List (Nat×Nat×O)} {b:List V} {c:Prop},(∀ m∈aN (e.map (·.2.2)),s2 m=s1 m)->dn s2 b c e=dn s1 b c e
 |[],b,c,_=>rfl
 |(off,size,x)::rest,b,c,h=>by
  unfold dn;rw [av (s1:=s1) (fun m d=>h m (by simp [aN,d]))];have f: ∀m∈aN (rest.map (·.2.2)),s2 m=s1 m:=fun m d=>h m (by simp [aN,d])
  split
  ·rfl
  ·rw [jQ f]
  ·rfl
  ·rfl
  ·rfl
  ·rw [jQ f]
theorem gZ{s1 s2:Nat->V}{size:Nat}: ∀{d:List (Nat×O)} {e:List T} {c:Prop},(∀ m∈aN (d.map (·.2)),s2 m=s1 m)->aZ s2 size e c d=aZ s1 size e c d
 |[],_,_,_=>rfl
 |(i,x)::d,e,c,h=>by
  unfold aZ;rw [av (s1:=s1) (fun m b=>h m (by simp [aN,b]))];split
  ·rfl
  ·rw [gZ fun m b=>h m (by simp [aN,b])]
  ·rw [gZ fun m b=>h m (by simp [aN,b])]
  ·rfl
theorem kP{b:Nat->V}{x:O}{n:Nat}(h:n∈bxs (ev b x)): ∃m∈x.reads,n∈bxs (b m):=by
 cases x with
 |tmp m=>exact ⟨m,by simp [O.reads],h⟩
 |const t=>simp [ev,bxs,bx1] at h
theorem jF{d:Nat->V}: ∀{xs:List O} {n:Nat},n∈(xs.map (ev d)).flatMap bx2-> ∃m∈aN xs,n∈bxs (d m)
 |[],n,h=>by simp at h
 |x::xs,n,h=>by
  simp only [List.map_cons,List.flatMap_cons,List.mem_append] at h;rcases h with h|h
  ·obtain ⟨m,b,c⟩:=kP (iL h);exact ⟨m,by simp [aN,b],c⟩
  ·obtain ⟨m,b,c⟩:=jF h;exact ⟨m,by simp [aN,b],c⟩
theorem o9{d e:Nat->Option BX}{v:V}(h: ∀n∈bx1 v, ∀b,d n=some b->e n=some b){r:T}(c:da d v=some r):da e v=some r:=by
 unfold da at c ⊢;split at c
 ·exact c
 ·split at c
  ·rename_i t rd f;rw [aR h f];exact c
  ·cases c
 ·exact c
end
section
variable [Glb]{P:Program}
theorem oM{x:DOp}(hx:x.cls.std=true){d:Option Nat}{s1 s2:St}(u: ∀m∈x.reads,s2.sl m=s1.sl m)(I: ∀n∈x.tch s1.sl, ∀b,s1.bx n=some b->s2.bx n=some b)
  (hd:x.cls= .make-> ∀n,d=some n->s1.bx n=none->s2.bx n=none) (hM:x.cls= .mut->s2.bx=s1.bx) {e:Eff} (h:cR P x d s1 e):cR P x d s2 e:=by
 have j:eff x d s2.sl s2.bx=eff x d s1.sl s1.bx->inR (eff x d s1.sl s1.bx) e->inR (eff x d s2.sl s2.bx) e:=fun O Q=>by rw [O];exact Q
 cases x with
 |append|appV|bad|buildS|inl|fcall|clr|cS|mclr|mrng|mnext|ment|copy=>exact absurd hx Bool.false_ne_true
 |mov x=>exact j (by simp only [eff,av u]) h
 |pick c a b=>
  refine j ?_ h;simp only [DOp.reads,List.mem_append] at u;simp only [eff];rw [av fun m w=>u m (.inl (.inl w)),av fun m w=>u m (.inl (.inr w)),av fun m w=>u m (.inr w)]
 |alloc H=>
  cases d with
  |none=>exact h
  |some n=>
   have h:inR (eff (.alloc H) (some n) s1.sl s1.bx) e:=h;show inR (eff (.alloc H) (some n) s2.sl s2.bx) e
   simp only [eff] at h ⊢;cases B:s1.bx n with
   |some c=>rw [B] at h;exact h.elim
   |none=>rw [hd rfl n rfl B];rw [B] at h;exact h
 |mkmap J M=>
  cases d with
  |none=>exact h
  |some n=>
   have h:inR (eff (.mkmap J M) (some n) s1.sl s1.bx) e:=h;show inR (eff (.mkmap J M) (some n) s2.sl s2.bx) e
   simp only [eff] at h ⊢;cases B:s1.bx n with
   |some c=>rw [B] at h;exact h.elim
   |none=>rw [hd rfl n rfl B];rw [B] at h;exact h
 |mkslice size C H l c=>
  simp only [DOp.reads,List.mem_append] at u;have Y:=av (s1:=s1.sl) (s2:=s2.sl) (x:=l) fun q G=>u q (.inl G)
  have W:=av (s1:=s1.sl) (s2:=s2.sl) (x:=c) fun q G=>u q (.inr G)
  cases d with
  |none=>exact h
  |some n=>
   have h:inR (eff (.mkslice size C H l c) (some n) s1.sl s1.bx) e:=h;show inR (eff (.mkslice size C H l c) (some n) s2.sl s2.bx) e
   simp only [eff] at h ⊢;rw [Y,W];cases B:s1.bx n with
   |some c=>rw [B] at h;exact h.elim
   |none=>rw [hd rfl n rfl B];rw [B] at h;exact h
 |mlook J M z ok m k=>
  simp only [DOp.reads,List.mem_append] at u;have D:=av (s1:=s1.sl) (s2:=s2.sl) (x:=m) fun q G=>u q (.inl G)
  have R:=av (s1:=s1.sl) (s2:=s2.sl) (x:=k) fun q G=>u q (.inr G)
  have h:inR (eff (.mlook J M z ok m k) d s1.sl s1.bx) e:=h;show inR (eff (.mlook J M z ok m k) d s2.sl s2.bx) e
  simp only [eff] at h ⊢;rw [D,R];cases A:ev s1.sl m with
  |mp b=>
   rw [A] at h;simp only at h ⊢;cases y:s1.bx b with
   |none=>rw [y] at h;exact h.elim
   |some c=>
    rw [I b (by show b∈bx1 (ev s1.sl m);rw [A];simp [bx1]) c y];rw [y] at h;exact h
  |t x=>rw [A] at h;cases x <;> exact h
  |_=>rw [A] at h;exact h
 |bF J M m k v=>
  simp only [DOp.reads,List.mem_append] at u;have D:=av (s1:=s1.sl) (s2:=s2.sl) (x:=m) fun q G=>u q (.inl (.inl G))
  have R:=av (s1:=s1.sl) (s2:=s2.sl) (x:=k) fun q G=>u q (.inl (.inr G))
  have hew:=av (s1:=s1.sl) (s2:=s2.sl) (x:=v) fun q G=>u q (.inr G)
  have h:inR (eff (.bF J M m k v) d s1.sl s1.bx) e:=h;show inR (eff (.bF J M m k v) d s2.sl s2.bx) e
  simp only [eff] at h ⊢;rw [D,R,hew];cases A:ev s1.sl m with
  |mp b=>
   rw [A] at h;simp only at h ⊢;cases y:s1.bx b with
   |none=>rw [y] at h;exact h.elim
   |some c=>
    rw [I b (by show b∈bx1 (ev s1.sl m);rw [A];simp [bx1]) c y];rw [y] at h;exact h
  |_=>rw [A] at h;exact h
 |mlen m=>
  have D:=av u;have h:inR (eff (.mlen m) d s1.sl s1.bx) e:=h;show inR (eff (.mlen m) d s2.sl s2.bx) e
  simp only [eff] at h ⊢;rw [D];cases A:ev s1.sl m with
  |mp b=>
   rw [A] at h;simp only at h ⊢;cases y:s1.bx b with
   |none=>rw [y] at h;exact h.elim
   |some c=>
    rw [I b (by show b∈bx1 (ev s1.sl m);rw [A];simp [bx1]) c y];rw [y] at h;exact h
  |t x=>rw [A] at h;cases x <;> exact h
  |_=>rw [A] at h;exact h
 |box m x=>
  cases d with
  |none=>exact h
  |some n=>
   have h:inR (eff (.box m x) (some n) s1.sl s1.bx) e:=h;show inR (eff (.box m x) (some n) s2.sl s2.bx) e
   simp only [eff] at h ⊢;rw [av u];cases B:s1.bx n with
   |some c=>
    rw [B] at h;cases U:oH m (ev s1.sl x) with
    |none=>rw [U] at h;exact h.elim
    |some q=>rw [U] at h;exact h.elim
   |none=>rw [hd rfl n rfl B];rw [B] at h;exact h
 |load n agg a=>
  have D:=av u;have h:inR (eff (.load n agg a) d s1.sl s1.bx) e:=h;show inR (eff (.load n agg a) d s2.sl s2.bx) e
  simp only [eff] at h ⊢;rw [D];cases A:ev s1.sl a with
  |ptr b off=>
   rw [A] at h;simp only at h ⊢;cases y:s1.bx b with
   |none=>rw [y] at h;exact h.elim
   |some c=>
    rw [I b (by show b∈bx1 (ev s1.sl a);rw [A];simp [bx1]) c y];rw [y] at h;exact h
  |t x=>rw [A] at h;cases x <;> exact h
  |_=>rw [A] at h;exact h
 |store n a x=>
  simp only [DOp.reads,List.mem_append] at u;have D:=av (s1:=s1.sl) (s2:=s2.sl) (x:=a) fun m w=>u m (.inl w)
  have S:=av (s1:=s1.sl) (s2:=s2.sl) (x:=x) fun m w=>u m (.inr w)
  have h:inR (eff (.store n a x) d s1.sl s1.bx) e:=h;show inR (eff (.store n a x) d s2.sl s2.bx) e
  simp only [eff] at h ⊢;rw [D,S];cases A:ev s1.sl a with
  |ptr b off=>
   rw [A] at h;simp only at h ⊢;cases y:s1.bx b with
   |none=>rw [y] at h;exact h.elim
   |some c=>
    rw [I b (by show b∈bx1 (ev s1.sl a);rw [A];simp [bx1]) c y];rw [y] at h;exact h
  |_=>rw [A] at h;exact h
 |offA k x=>exact j (by simp only [eff,av u]) h
 |nar k x=>exact j (by simp only [eff,av u]) h
 |fld off size agg x=>exact j (by simp only [eff,av u]) h
 |not x=>exact j (by simp only [eff,av u]) h
 |neg x=>exact j (by simp only [eff,av u]) h
 |conv k x=>exact j (by simp only [eff,av u]) h
 |len x=>exact j (by simp only [eff,av u]) h
 |lenS x=>exact j (by simp only [eff,av u]) h
 |ext x i=>exact j (by simp only [eff,av u]) h
 |nilck x=>exact j (by simp only [eff,av u]) h
 |arrP n x=>exact j (by simp only [eff,av u]) h
 |isnil k n x=>exact j (by simp only [eff,av u]) h
 |cpl x=>exact j (by simp only [eff,av u]) h
 |slice3 size x hi mx=>
  simp only [DOp.reads,List.mem_append] at u;exact j (by simp only [eff];rw [av fun m w=>u m (.inl (.inl w)),av fun m w=>u m (.inl (.inr w)),av fun m w=>u m (.inr w)]) h
 |buildF size n H T=>
  have:aZ s2.sl size (List.replicate n (cond (Nat.beq size 1) (H.headD .nil) (.agg H))) True T=aZ s1.sl size (List.replicate n (cond (Nat.beq size 1) (H.headD .nil) (.agg H))) True T:=gZ u
  exact j (by simp only [eff];rw [this]) h
 |appT size C s x=>
  simp only [DOp.reads,List.mem_append] at u;have Z:=av (s1:=s1.sl) (s2:=s2.sl) (x:=s) fun q G=>u q (.inl G)
  have S:=av (s1:=s1.sl) (s2:=s2.sl) (x:=x) fun q G=>u q (.inr G)
  have h:inR (eff (.appT size C s x) d s1.sl s1.bx) e:=h;show inR (eff (.appT size C s x) d s2.sl s2.bx) e
  simp only [eff] at h ⊢;rw [Z,S];cases A:da s1.bx (ev s1.sl x) with
  |none=>rw [A] at h;exact h.elim
  |some r=>
   rw [o9 (fun n F=>I n F) A];rw [A] at h;exact h
 |prim p x=>
  have D:=av u;have h:inR (eff (.prim p x) d s1.sl s1.bx) e:=h;show inR (eff (.prim p x) d s2.sl s2.bx) e
  simp only [eff] at h ⊢;rw [D];cases A:aY s1.bx (ev s1.sl x) with
  |none=>rw [A] at h;exact h.elim
  |some r=>
   rw [aR (fun n F=>I n F) A];rw [A] at h;exact h
 |idxA _ _ a x=>
  simp only [DOp.reads,List.mem_append] at u;exact j (by simp only [eff];rw [av fun m w=>u m (.inl w),av fun m w=>u m (.inr w)]) h
 |idxL _ a x=>
  simp only [DOp.reads,List.mem_append] at u;exact j (by simp only [eff];rw [av fun m w=>u m (.inl w),av fun m w=>u m (.inr w)]) h
 |idxV _ _ _ a x=>
  simp only [DOp.reads,List.mem_append] at u;exact j (by simp only [eff];rw [av fun m w=>u m (.inl w),av fun m w=>u m (.inr w)]) h
 |idxS a x=>
  simp only [DOp.reads,List.mem_append] at u;exact j (by simp only [eff];rw [av fun m w=>u m (.inl w),av fun m w=>u m (.inr w)]) h
 |bin _ a x=>
  simp only [DOp.reads,List.mem_append] at u;exact j (by simp only [eff];rw [av fun m w=>u m (.inl w),av fun m w=>u m (.inr w)]) h
 |eqv _ _ a x=>
  simp only [DOp.reads,List.mem_append] at u;exact j (by simp only [eff];rw [av fun m w=>u m (.inl w),av fun m w=>u m (.inr w)]) h
 |eqB _ a x=>
  simp only [DOp.reads,List.mem_append] at u;exact j (by simp only [eff];rw [av fun m w=>u m (.inl w),av fun m w=>u m (.inr w)]) h
 |maxI a x=>
  simp only [DOp.reads,List.mem_append] at u;exact j (by simp only [eff];rw [av fun m w=>u m (.inl w),av fun m w=>u m (.inr w)]) h
 |minI a x=>
  simp only [DOp.reads,List.mem_append] at u;exact j (by simp only [eff];rw [av fun m w=>u m (.inl w),av fun m w=>u m (.inr w)]) h
 |slice _ x lo hi=>
  simp only [DOp.reads,List.mem_append] at u;exact j (by simp only [eff];rw [av fun m w=>u m (.inl (.inl w)),gG fun m w=>u m (.inl (.inr w)),gG fun m w=>u m (.inr w)]) h
 |sliceS x lo hi=>
  simp only [DOp.reads,List.mem_append] at u;exact j (by simp only [eff];rw [av fun m w=>u m (.inl (.inl w)),gG fun m w=>u m (.inl (.inr w)),gG fun m w=>u m (.inr w)]) h
 |sliceA _ _ x lo hi=>
  simp only [DOp.reads,List.mem_append] at u;exact j (by simp only [eff];rw [av fun m w=>u m (.inl (.inl w)),gG fun m w=>u m (.inl (.inr w)),gG fun m w=>u m (.inr w)]) h
 |build H T=>exact j (by simp only [eff];rw [jP u,jQ u]) h
 |buildT size n H T=>
  have:aZ s2.sl size (List.replicate n (cond (Nat.beq size 1) (H.headD .nil) (.agg H))) True T=aZ s1.sl size (List.replicate n (cond (Nat.beq size 1) (H.headD .nil) (.agg H))) True T:=gZ u
  exact j (by simp only [eff];rw [this]) h
 |mkfn f xs=>exact j (by simp only [eff];rw [dQ u]) h
 |call f K=>
  obtain ⟨ts,rd,r,O,Q⟩:=h;refine ⟨ts,rd,r,?_,Q⟩;rw [dQ (s1:=s1.sl) u];exact eC (fun n F=>I n F) O
 |mcall ms f K=>
  have y:=hM rfl;obtain ⟨V,fr,m,b,r,O,Q,h3,h4,h5,h6⟩:=h;refine ⟨V,fr,m,b,r,?_,fun p hp=>by rw [y];exact Q p hp,fun n F=>by rw [y];exact h3 n F,h4,by rw [y];exact h5,h6⟩;rw [dQ (s1:=s1.sl) u];exact O
 |cd x K=>
  simp only [DOp.reads,List.mem_append] at u;simp only [DOp.tch,List.mem_append] at I;obtain ⟨f,caps,L,ts,rd,r,O,Q⟩:=h;refine ⟨f,caps,?_,ts,rd,r,?_,Q⟩
  ·rw [av (s1:=s1.sl) fun m w=>u m (.inl w)];exact L
  ·rw [dQ (s1:=s1.sl) fun m w=>u m (.inr w)];refine eC (fun n F=>?_) O;rw [List.flatMap_append,List.mem_append] at F;rcases F with F|F
   ·exact I n (.inr F)
   ·have:n∈bxs (ev s1.sl x):=by
     unfold jS at L;split at L
     ·simp only [Option.some.injEq,Prod.mk.injEq] at L;obtain ⟨-,rfl⟩:=L;obtain ⟨c,hc,F⟩:=List.mem_flatMap.1 F;obtain ⟨t,_,rfl⟩:=List.mem_map.1 hc;cases F
     ·rename_i g cs A;simp only [Option.some.injEq,Prod.mk.injEq] at L;obtain ⟨-,rfl⟩:=L;rw [A];exact F
     ·cases L
    exact I n (.inl this)
theorem oh{x:DOp}(F:x.cls.std=true){d:Option Nat}{st:St}{e:Eff}(h:cR P x d st e):e.wr=none\/(∃ n b,x.cls= .make/\d=some n/\st.bx n=none/\e.wr=some (n,b))\/(∃ n b,x.cls.wr=true/\n∈x.tch st.sl/\(st.bx n).isSome=true/\e.wr=some (n,b)):=by
 cases x with
 |append|appV|bad|buildS|inl|fcall|clr|cS|mclr|mrng|mnext|ment|copy=>exact absurd F Bool.false_ne_true
 |call f j=>obtain ⟨ts,rd,r,_,_,_,rfl⟩:=h;exact .inl rfl
 |cd x j=>obtain ⟨_,_,_,ts,rd,r,_,_,_,rfl⟩:=h;exact .inl rfl
 |mcall ms f j=>obtain ⟨G,K,m,b,r,_,_,_,H,I,rfl⟩:=h;exact .inr (.inr ⟨m,b,rfl,H,I,rfl⟩)
 |alloc B=>
  have h:inR (eff (.alloc B) d st.sl st.bx) e:=h;cases d with
  |none=>exact h.elim
  |some n=>
   simp only [eff] at h;cases g:st.bx n with
   |none=>rw [g] at h;cases h;exact .inr (.inl ⟨n,_,rfl,rfl,g,rfl⟩)
   |some b=>rw [g] at h;exact h.elim
 |mkmap u w=>
  have h:inR (eff (.mkmap u w) d st.sl st.bx) e:=h;cases d with
  |none=>exact h.elim
  |some n=>
   simp only [eff] at h;cases g:st.bx n with
   |none=>rw [g] at h;cases h;exact .inr (.inl ⟨n,_,rfl,rfl,g,rfl⟩)
   |some b=>rw [g] at h;exact h.elim
 |mkslice size s B l c=>
  have h:inR (eff (.mkslice size s B l c) d st.sl st.bx) e:=h;cases d with
  |none=>exact h.elim
  |some n=>
   simp only [eff] at h;split at h
   ·rename_i g _ _;obtain ⟨_,rfl⟩:=h;exact .inr (.inl ⟨n,_,rfl,rfl,g,rfl⟩)
   ·exact h.elim
 |bF u w m k v=>
  have h:inR (eff (.bF u w m k v) d st.sl st.bx) e:=h;simp only [eff] at h;split at h
  ·rename_i b t;split at h
   ·rename_i y A J _ i;split at h
    ·rename_i key x L F;cases D:cC u w y A with
     |false=>rw [D] at h;exact h.elim
     |true=>
      rw [D] at h;obtain ⟨_,rfl⟩:=h;exact .inr (.inr ⟨b,_,rfl,by show b∈bx1 (ev st.sl m);rw [t];simp [bx1],by rw [i];rfl,rfl⟩)
    ·exact h.elim
   ·exact h.elim
  ·exact h.elim
 |box m x=>
  have h:inR (eff (.box m x) d st.sl st.bx) e:=h;cases d with
  |none=>exact h.elim
  |some n=>
   simp only [eff] at h;cases g:st.bx n with
   |none=>
    rw [g] at h;cases C:oH m (ev st.sl x) with
    |none=>rw [C] at h;exact h.elim
    |some p=>rw [C] at h;obtain ⟨_,rfl⟩:=h;exact .inr (.inl ⟨n,_,rfl,rfl,g,rfl⟩)
   |some b=>rw [g] at h;exact h.elim
 |store k a x=>
  have h:inR (eff (.store k a x) d st.sl st.bx) e:=h;simp only [eff] at h;cases t:ev st.sl a with
  |ptr b off=>
   rw [t] at h;simp only at h;cases i:st.bx b with
   |none=>rw [i] at h;exact h.elim
   |some c=>
    rw [i] at h;have z: ∃q,e.wr=some (b,q):=by
     simp only [gP,cond_eq_ite] at h
     repeat' (first|exact h.elim|(obtain ⟨_,rfl⟩:=h;exact ⟨_,rfl⟩)|(split at h)|(unfold inR at h;simp only at h;first|exact h.elim|(obtain ⟨_,rfl⟩:=h;exact ⟨_,rfl⟩)))
    obtain ⟨q,z⟩:=z;exact .inr (.inr ⟨b,q,rfl,by show b∈bx1 (ev st.sl a);rw [t];simp [bx1],by rw [i];rfl,z⟩)
  |_=>rw [t] at h;exact h.elim
 |_=>
  refine .inl ?_;simp only [cR,eff,eX,mi,oE,oG,val,aL,aW,cond_eq_ite] at h
  repeat' (first|exact h.elim|(subst h;rfl)|(obtain ⟨_,rfl⟩:=h;rfl)|(split at h)|(unfold inR at h;simp only at h;first|exact h.elim|(subst h;rfl)|(obtain ⟨_,rfl⟩:=h;rfl)))
end
end Go.DL
end
section
namespace Go.DL
open Go.RowKit
section
variable [Glb]{P:Program}{X:List FuncId}{N:Nat}{w0:World}{S0:aa}{o:Oper}{a:Act}{E:Env}{st:St}
end
section
variable {P:Program}{X:List FuncId}{N:Nat}{w0:World}{S0:aa}{o:Oper}{a:Act}{E:Env}{st:St}
theorem sZ{r:cA}{d:Option Nat}{K:St->Prop}{e:Eff}(h:inR r e)(i:K (st.app d e)):wpR r d st K:=by
 cases r with
 |no=>exact h
 |yes e0=>cases h;exact i
 |need c e0=>obtain ⟨g,rfl⟩:=h;exact ⟨g,i⟩
 |alt c b f=>obtain ⟨g,rfl⟩:=h;exact ⟨g,fun k j=>j▸i⟩
 |eq c t f=>obtain ⟨g,rfl⟩:=h;exact ⟨g,fun k j=>j▸i⟩
end
section
variable [Glb]{P:Program}{X:List FuncId}{N:Nat}{w0:World}{S0:aa}{o:Oper}{a:Act}{E:Env}{st:St}
theorem iY{f:FuncId}{b:List V}{d:Option Nat}{K:St->Prop}{ts:List T}{rd:List Nat}{r:T}(h:bt st.bx b=some (ts,rd))(e:DCalls P f ts r)(c:rd=[]\/r.flat=true)(g:K (st.set d (.t r))):cO P f b d st K:=by
 unfold cO;rw [h];cases rd with
 |nil=>exact ⟨r,e,g⟩
 |cons x xs=>
  rcases c with c|c
  ·cases c
  ·exact ⟨r,e,c,g⟩
theorem oi{x:DOp}(w:x.cls.std=true){d:Option Nat}{K:St->Prop}{e:Eff}(h:cR P x (st.nm d) st e)(k:K (st.app d e)):wpO P x d st K:=by
 have q: ∀x:DOp,(wpR (eff x (st.nm d) st.sl st.bx) d st K->wpO P x d st K)->(cR P x (st.nm d) st e->inR (eff x (st.nm d) st.sl st.bx) e)->cR P x (st.nm d) st e->wpO P x d st K:=fun x i j h=>i (sZ (j h) k)
 cases x with
 |append|appV|bad|buildS|inl|fcall|clr|cS|mclr|mrng|mnext|ment|copy=>exact absurd w Bool.false_ne_true
 |call f c=>
  obtain ⟨ts,rd,r,i,j,n,rfl⟩:=h;rw [jj] at k;exact iY i j n k
 |mcall ms f c=>
  obtain ⟨p,t,m,b,r,i,j,n,u,v,rfl⟩:=h;rw [rE] at k;exact ⟨p,t,m,b,r,i,j,n,u,v,k⟩
 |cd x c=>
  obtain ⟨f,caps,l,ts,rd,r,i,j,n,rfl⟩:=h;rw [jj] at k;unfold jS at l;unfold wpO;simp only;split at l
  ·rename_i g cs s;simp only [Option.some.injEq,Prod.mk.injEq] at l;obtain ⟨rfl,rfl⟩:=l
   try rw [s]
   exact iY i j n k
  ·rename_i g cs s;simp only [Option.some.injEq,Prod.mk.injEq] at l;obtain ⟨rfl,rfl⟩:=l
   try rw [s]
   exact iY i j n k
  ·cases l
 |_=>exact q _ id id h
end
section
variable {P:Program}{X:List FuncId}{N:Nat}{w0:World}{S0:aa}{o:Oper}{a:Act}{E:Env}{st:St}
theorem DOp.nA{x:DOp}(h:x.cls.std=true):x.plain=true:=by cases x <;> first|rfl|exact absurd h Bool.false_ne_true
end
section
variable [Glb]{P:Program}{X:List FuncId}{N:Nat}{w0:World}{S0:aa}{o:Oper}{a:Act}{E:Env}{st:St}
theorem gS{i:DI}(n:i.op.cls.std=true){K:St->Prop}(h:wpI P i st K): ∃e,cH P i st e/\K (st.app i.dst e):=by
 unfold wpI at h;cases d:i.guard with
 |none=>
  rw [d] at h;obtain ⟨e,k,l⟩:=jw (DOp.nA n) h;exact ⟨e,by unfold cH;rw [d];exact k,l⟩
 |some p=>
  obtain ⟨g,c⟩:=p;rw [d] at h;simp only at h;split at h
  ·rename_i b j;have f:b=c->wpO P i.op i.dst st K-> ∃e,cH P i st e/\K (st.app i.dst e):=fun m h=>by
    obtain ⟨e,k,l⟩:=jw (DOp.nA n) h;exact ⟨e,by unfold cH;rw [d];exact .inl ⟨b,j,.inl ⟨m,k⟩⟩,l⟩
   have skip:b≠c->K (st.set i.dst bJ)-> ∃e,cH P i st e/\K (st.app i.dst e):=fun m h=>⟨{val:=bJ },by unfold cH;rw [d];exact .inl ⟨b,j,.inr ⟨m,rfl⟩⟩,h⟩
   cases b <;> cases c <;> simp only at h
   ·exact f rfl h
   ·exact skip (by decide) h
   ·exact skip (by decide) h
   ·exact f rfl h
  ·rename_i j;exact ⟨{val:=bJ },by unfold cH;rw [d];exact .inr ⟨j,rfl⟩,h⟩
  ·exact h.elim
theorem jo{i:DI}(l:i.op.cls.std=true){K:St->Prop}{e:Eff}(h:cH P i st e)(d:K (st.app i.dst e)):wpI P i st K:=by
 unfold cH at h;unfold wpI;cases k:i.guard with
 |none=>rw [k] at h;exact oi l h d
 |some m=>
  obtain ⟨g,c⟩:=m;rw [k] at h;rcases h with ⟨b,f,h⟩|⟨f,rfl⟩
  ·simp only [f];rcases h with ⟨rfl,n⟩|⟨j,rfl⟩
   ·cases b <;> exact oi l n d
   ·cases b <;> cases c <;> simp only <;> first|exact absurd rfl j|exact d
  ·simp only [f];exact d
def kg(j:DI)(st:St):Prop:=j.op.cls≠ .mut-> ∀n∈j.op.tch st.sl,(st.bx n).isSome=true
theorem eU{i:DI}(u:i.op.cls.std=true){s1 s2:St}(j: ∀m∈i.reads,s2.sl m=s1.sl m)(r: ∀n∈i.op.tch s1.sl, ∀b,s1.bx n=some b->s2.bx n=some b)
  (t:s2.off=s1.off) (hd: ∀n,s1.nm i.dst=some n->s1.bx n=none->s2.bx n=none) (q:i.op.cls= .mut->s2.bx=s1.bx) {e:Eff} (h:cH P i s1 e):cH P i s2 e:=by
 have f:s2.nm i.dst=s1.nm i.dst:=by unfold St.nm;rw [t]
 have k:cR P i.op (s1.nm i.dst) s1 e->cR P i.op (s2.nm i.dst) s2 e:=by
  rw [f];exact oM u (fun m s=>j m (by unfold DI.reads;simp [s])) r (fun _=>hd) q
 unfold cH at h ⊢;cases d:i.guard with
 |none=>rw [d] at h;exact k h
 |some p=>
  obtain ⟨g,l⟩:=p;rw [d] at h;rcases h with ⟨b,c,h⟩|⟨c,h⟩
  ·exact .inl ⟨b,(j g (by unfold DI.reads;rw [d];simp)).trans c,h.imp (fun h=>⟨h.1,k h.2⟩) id⟩
  ·exact .inr ⟨(j g (by unfold DI.reads;rw [d];simp)).trans c,h⟩
def rD(i:DI)(st:St)(e:Eff):Prop:=e.wr=none\/(∃ n b,i.op.cls= .make/\st.nm i.dst=some n/\st.bx n=none/\e.wr=some (n,b))\/ ∃n b,i.op.cls.wr=true/\n∈i.op.tch st.sl/\(st.bx n).isSome=true/\e.wr=some (n,b)
theorem jn{i:DI}(c:i.op.cls.std=true){e:Eff}(h:cH P i st e):rD i st e:=by
 unfold cH at h;split at h
 ·exact oh c h
 ·obtain ⟨b,_,⟨_,h⟩|⟨_,rfl⟩⟩|⟨_,rfl⟩:=h
  ·exact oh c h
  ·exact .inl rfl
  ·exact .inl rfl
end
section
variable {P:Program}{X:List FuncId}{N:Nat}{w0:World}{S0:aa}{o:Oper}{a:Act}{E:Env}{st:St}
theorem dB(d:Option Nat)(e:Eff)(m:Nat)(h:d≠some m):(st.app d e).sl m=st.sl m:=by
 unfold St.app;cases d with
 |none=>split <;> rfl
 |some n=>
  have b:m≠n:=fun c=>h (by rw [c])
  split <;> exact ae _ _ _ _ b
theorem gA(d:Option Nat)(e:Eff)(n:Nat)(h: ∀b,e.wr≠some (n,b)):(st.app d e).bx n=st.bx n:=by
 unfold St.app;simp only;split
 ·rename_i k c i;have f:n≠k:=fun g=>h c (by rw [g];exact i)
  show upd (st.set d e.val).bx k (some c) n=_
  rw [ae _ _ _ _ f];cases d <;> rfl
 ·cases d <;> rfl
theorem nK{α:Type}(f:Nat->α){n m:Nat}(h:n≠m)(x y:α):upd (upd f n x) m y=upd (upd f m y) n x:=by
 funext k
 by_cases b:k=m
 ·subst b;rw [ai,ae _ _ _ _ (fun d=>h d.symm),ai]
 ·rw [ae _ _ _ _ b]
  by_cases c:k=n
  ·subst c;rw [ai,ai]
  ·rw [ae _ _ _ _ c,ae _ _ _ _ c,ae _ _ _ _ b]
theorem St.ext'{s1 s2:St}(b:s1.sl=s2.sl)(c:s1.bx=s2.bx)(d:s1.gh=s2.gh)(e:s1.off=s2.off)(f:s1.cx=s2.cx):s1=s2:=by cases s1;cases s2;cases b;cases c;cases d;cases e;cases f;rfl
theorem s8(s:St)(d:Option Nat)(v:V):(s.set d v).gh=s.gh:=by cases d <;> rfl
theorem r6(s:St)(d:Option Nat)(v:V):(s.set d v).off=s.off:=by cases d <;> rfl
theorem sI(s:St)(d:Option Nat)(e:Eff):(s.app d e).gh=s.gh:=by unfold St.app;simp only;split <;> exact s8 _ _ _
theorem gB(s:St)(d:Option Nat)(e:Eff):(s.app d e).off=s.off:=by unfold St.app;simp only;split <;> exact r6 _ _ _
theorem sH(s:St)(d:Option Nat)(e:Eff):(s.app d e).cx=s.cx:=by
 have: ∀(s:St) (d:Option Nat) (v:V),(s.set d v).cx=s.cx:=fun s d v=>by cases d <;> rfl
 unfold St.app;simp only;split <;> exact this _ _ _
theorem rN{s s':St}(f:s'.off=s.off){b c:Option Nat}(hd: ∀n,b=some n->c≠some n){n:Nat}(e:s.nm b=some n)(d:s'.nm c=some n):False:=by
 cases b with
 |none=>cases e
 |some m=>
  cases c with
  |none=>cases d
  |some k=>
   simp only [St.nm,Option.some.injEq] at e d;exact hd m rfl (by rw [f] at d;have:k=m:=(by omega);rw [this])
theorem jL{i h:Option Nat}(hd: ∀n,i=some n->h≠some n){j k:Eff}(u: ∀n b m c,j.wr=some (n,b)->k.wr=some (m,c)->n≠m):
  (st.app i j).app h k=(st.app h k).app i j:=by
 have f: ∀(s:St) d e,(s.app d e).sl=(s.set d e.val).sl:=fun s d e=>by unfold St.app;simp only;split <;> rfl
 have g: ∀(s:St) d e,(s.app d e).bx=match e.wr with|some (n,c)=>upd s.bx n (some c)|none=>s.bx:=fun s d e=>by
  unfold St.app;simp only;cases e.wr with
  |none=>cases d <;> rfl
  |some p=>cases d <;> rfl
 refine St.ext' ?_ ?_ (by simp only [sI]) (by simp only [gB]) (by simp only [sH])
 ·rw [f,f];cases i with
  |none=>cases h <;> simp only [St.set,f]
  |some v=>
   cases h with
   |none=>simp only [St.set,f]
   |some w=>
    simp only [St.set,f];exact nK _ (fun e=>hd v rfl (by rw [e])) _ _
 ·rw [g,g,g,g];cases r:j.wr with
  |none=>rfl
  |some l=>
   cases t:k.wr with
   |none=>rfl
   |some q=>exact nK _ (u l.1 l.2 q.1 q.2 r t) _ _
theorem jZ{n:Nat}: ∀{l:List Nat},lD n l=true↔n∈l
 |[]=>by simp [lD]
 |m::l=>by
  unfold lD;cases h:Nat.beq n m with
  |true=>simp [Nat.eq_of_beq_eq_true h]
  |false=>
   have:n≠m:=fun e=>by rw [e,cG] at h;cases h
   simp [jZ,this]
end
section
variable [Glb]{P:Program}{X:List FuncId}{N:Nat}{w0:World}{S0:aa}{o:Oper}{a:Act}{E:Env}{st:St}
def Cls.det:Cls->Bool
 |.pure=>true
 |.load=>true
 |.make=>true
 |_=>false
end
section
variable {P:Program}{X:List FuncId}{N:Nat}{w0:World}{S0:aa}{o:Oper}{a:Act}{E:Env}{st:St}
theorem kK{i j:DI}(h:i.indep j=true):((i.op.cls.std=true/\j.op.cls.std=true)\/(i.op.cls= .fresh/\j.op.cls.det=true)\/(i.op.cls.det=true/\j.op.cls= .fresh))/\(∀ d,i.dst=some d->d ∉ j.reads)/\(∀ d,i.dst=some d->j.dst≠some d)/\(∀ d,j.dst=some d->d ∉ i.reads)/\
  (aX i.op.cls j.op.cls=some false\/aX i.op.cls j.op.cls=some true)/\(i.op.cls= .mut->j.op.cls.rdo=true)/\(j.op.cls= .mut->i.op.cls.rdo=true):=by
 unfold DI.indep at h;rw [Bool.and_eq_true] at h;obtain ⟨c,e⟩:=h;unfold DI.apart at c;rw [Bool.and_eq_true] at c;refine ⟨?_,fun d hd f=>?_,fun d hd k=>?_,fun d hd f=>?_,?_,?_,?_⟩
 ·revert e
  cases i.op.cls <;> cases j.op.cls <;> simp [aX,Cls.std,Cls.det]
 ·have:=c.1;rw [hd] at this;simp [jZ.2 f] at this
 ·have:=c.1;rw [hd] at this;simp [k,isD,cG] at this
 ·have:=c.2;rw [hd] at this;simp [jZ.2 f] at this
 ·cases g:aX i.op.cls j.op.cls with
  |none=>rw [g] at e;cases e
  |some b=>cases b <;> simp
 ·revert e
  cases i.op.cls <;> cases j.op.cls <;> simp [aX,Cls.rdo]
 ·revert e
  cases i.op.cls <;> cases j.op.cls <;> simp [aX,Cls.rdo]
theorem Cls.dj{c:Cls}(h:c.det=true):c.std=true:=by cases c <;> first|rfl|cases h
end
section
variable [Glb]{P:Program}{X:List FuncId}{N:Nat}{w0:World}{S0:aa}{o:Oper}{a:Act}{E:Env}{st:St}
def gI(P:Program)(b:DOp)(d:Option Nat)(st:St)(vs:Nat->V):Prop:=
 match b with
 |.fcall f args=>d.isSome=true/\ ∃ts rd e size xs,bt st.bx (args.map (ev st.sl))=some (ts,rd)/\dA P f ts e size xs []/\vs=fun q=>.own q e size xs
 |_=>False
def cN(P:Program)(i:DI)(st:St)(vs:Nat->V):Prop:=
 match i.guard with
 |none=>gI P i.op i.dst st vs
 |some (g,want)=>(∃ b,st.sl g= .t (.bool b)/\((b=want/\gI P i.op i.dst st vs)\/(b≠want/\vs=fun _=>bJ)))\/(st.sl g=bJ/\vs=fun _=>bJ)
end
section
variable {P:Program}{X:List FuncId}{N:Nat}{w0:World}{S0:aa}{o:Oper}{a:Act}{E:Env}{st:St}
theorem lK{x:DOp}(h:x.cls= .fresh): ∃f b,x= .fcall f b:=by
 cases x <;> first|exact ⟨_,_,rfl⟩|cases h
end
section
variable [Glb]{P:Program}{X:List FuncId}{N:Nat}{w0:World}{S0:aa}{o:Oper}{a:Act}{E:Env}{st:St}
theorem fV{x:DOp}(i:x.cls= .fresh){d:Option Nat}{K:St->Prop}:wpO P x d st K↔ ∃vs,gI P x d st vs/\ ∀q,K (st.set d (vs q)):=by
 obtain ⟨f,b,rfl⟩:=lK i;show dK P f (b.map (ev st.sl)) d st K↔_
 unfold dK gI;cases d with
 |none=>simp
 |some n=>
  simp only [Option.isSome_some,true_and];cases l:bt st.bx (b.map (ev st.sl)) with
  |none=>exact ⟨False.elim,fun ⟨vs,⟨ts,rd,e,size,xs,h,_⟩,_⟩=>by cases h⟩
  |some p=>
   obtain ⟨ts,rd⟩:=p;refine ⟨fun ⟨e,size,xs,c,g⟩=>⟨_,⟨ts,rd,e,size,xs,rfl,c,rfl⟩,g⟩,?_⟩;rintro ⟨vs,⟨k,j,e,size,xs,h,c,rfl⟩,g⟩;cases h;exact ⟨e,size,xs,c,g⟩
theorem jf{i:DI}(m:i.op.cls= .fresh){K:St->Prop}(h:wpI P i st K): ∃vs,cN P i st vs/\ ∀q,K (st.app i.dst {val:=vs q }):=by
 unfold wpI at h;cases d:i.guard with
 |none=>
  rw [d] at h;obtain ⟨vs,j,k⟩:=(fV m).1 h;exact ⟨vs,by unfold cN;rw [d];exact j,k⟩
 |some n=>
  obtain ⟨g,c⟩:=n;rw [d] at h;simp only at h;split at h
  ·rename_i b f;have e:b=c->wpO P i.op i.dst st K-> ∃vs,cN P i st vs/\ ∀q,K (st.app i.dst {val:=vs q }):=fun l h=>by
    obtain ⟨vs,j,k⟩:=(fV m).1 h;exact ⟨vs,by unfold cN;rw [d];exact .inl ⟨b,f,.inl ⟨l,j⟩⟩,k⟩
   have skip:b≠c->K (st.set i.dst bJ)-> ∃vs,cN P i st vs/\ ∀q,K (st.app i.dst {val:=vs q }):=fun l h=>⟨fun _=>bJ,by unfold cN;rw [d];exact .inl ⟨b,f,.inr ⟨l,rfl⟩⟩,fun _=>h⟩
   cases b <;> cases c <;> simp only at h
   ·exact e rfl h
   ·exact skip (by decide) h
   ·exact skip (by decide) h
   ·exact e rfl h
  ·rename_i f;exact ⟨fun _=>bJ,by unfold cN;rw [d];exact .inr ⟨f,rfl⟩,fun _=>h⟩
  ·exact h.elim
theorem lO{i:DI}(k:i.op.cls= .fresh){K:St->Prop}{vs:Nat->V}(h:cN P i st vs)(d: ∀q,K (st.app i.dst {val:=vs q })):wpI P i st K:=by
 unfold cN at h;unfold wpI;cases j:i.guard with
 |none=>rw [j] at h;exact (fV k).2 ⟨vs,h,d⟩
 |some l=>
  obtain ⟨g,c⟩:=l;rw [j] at h;rcases h with ⟨b,e,h⟩|⟨e,rfl⟩
  ·simp only [e];rcases h with ⟨rfl,m⟩|⟨f,rfl⟩
   ·cases b <;> exact (fV k).2 ⟨vs,m,d⟩
   ·cases b <;> cases c <;> simp only <;> first|exact absurd rfl f|exact d 0
  ·simp only [e];exact d 0
theorem iU{i:DI}(x:i.op.cls= .fresh){s1 s2:St}(k: ∀m∈i.reads,s2.sl m=s1.sl m)(p: ∀n∈i.op.tch s1.sl, ∀b,s1.bx n=some b->s2.bx n=some b){vs:Nat->V}(h:cN P i s1 vs):cN P i s2 vs:=by
 obtain ⟨f,l,d⟩:=lK x;have q:gI P i.op i.dst s1 vs->gI P i.op i.dst s2 vs:=by
  rw [d] at p ⊢;rintro ⟨hd,ts,rd,e,size,xs,t,u⟩;refine ⟨hd,ts,rd,e,size,xs,?_,u⟩;rw [dQ (s1:=s1.sl) (fun m v=>k m (by unfold DI.reads;rw [d];exact List.mem_append_left _ v))];exact eC (fun n w=>p n w) t
 unfold cN at h ⊢;cases j:i.guard with
 |none=>rw [j] at h;exact q h
 |some s=>
  obtain ⟨g,r⟩:=s;rw [j] at h;rcases h with ⟨b,c,h⟩|⟨c,h⟩
  ·exact .inl ⟨b,(k g (by unfold DI.reads;rw [j];simp)).trans c,h.imp (fun h=>⟨h.1,q h.2⟩) id⟩
  ·exact .inr ⟨(k g (by unfold DI.reads;rw [j];simp)).trans c,h⟩
end
section
variable {P:Program}{X:List FuncId}{N:Nat}{w0:World}{S0:aa}{o:Oper}{a:Act}{E:Env}{st:St}
theorem lu{r:cA}{e g:Eff}(h:inR r e)(d:inR r g):e=g:=by
 cases r with
 |no=>exact h.elim
 |yes e0=>cases h;cases d;rfl
 |need c e0=>obtain ⟨_,rfl⟩:=h;obtain ⟨_,rfl⟩:=d;rfl
 |alt c b f=>obtain ⟨_,rfl⟩:=h;obtain ⟨_,rfl⟩:=d;rfl
 |eq c t f=>obtain ⟨_,rfl⟩:=h;obtain ⟨_,rfl⟩:=d;rfl
end
section
variable [Glb]{P:Program}{X:List FuncId}{N:Nat}{w0:World}{S0:aa}{o:Oper}{a:Act}{E:Env}{st:St}
theorem qu{i:DI}(q:i.op.cls.det=true){e l:Eff}(h:cH P i st e)(j:cH P i st l):e=l:=by
 have s:cR P i.op (st.nm i.dst) st e->cR P i.op (st.nm i.dst) st l->e=l:=by
  generalize i.op=x at q;intro a b;cases x with
  |mov y=>exact lu (r:=eff (.mov y) (st.nm i.dst) st.sl st.bx) a b
  |mkfn f c=>exact lu (r:=eff (.mkfn f c) (st.nm i.dst) st.sl st.bx) a b
  |_=>first|exact absurd q Bool.false_ne_true|exact lu (r:=eff _ (st.nm i.dst) st.sl st.bx) a b
 unfold cH at h j;cases p:i.guard with
 |none=>rw [p] at h j;exact s h j
 |some u=>
  obtain ⟨g,t⟩:=u;rw [p] at h j;rcases h with ⟨b,m,h⟩|⟨m,rfl⟩ <;> rcases j with ⟨v,d,j⟩|⟨d,rfl⟩
  ·rw [m] at d;cases d;rcases h with ⟨n,h⟩|⟨n,rfl⟩ <;> rcases j with ⟨k,j⟩|⟨k,rfl⟩
   ·exact s h j
   ·exact absurd n k
   ·exact absurd k n
   ·rfl
  ·rw [m] at d;cases d
  ·rw [m] at d;cases d
  ·rfl
theorem ry{i:DI}(b:i.op.cls.std=true\/i.op.cls= .fresh){K:St->Prop}(h:wpI P i st K): ∃e,K (st.app i.dst e):=by
 rcases b with b|b
 ·obtain ⟨e,_,h⟩:=gS b h;exact ⟨e,h⟩
 ·obtain ⟨vs,_,h⟩:=jf b h;exact ⟨_,h 0⟩
end
section
variable {P:Program}{X:List FuncId}{N:Nat}{w0:World}{S0:aa}{o:Oper}{a:Act}{E:Env}{st:St}
theorem og{a b:List Nat}(h:mK a b=true){n:Nat}(c:n∈a)(d:n∈b):False:=by
 unfold mK at h;rw [List.all_eq_true] at h
 have:=h n c
 rw [List.contains_iff_mem.2 d] at this;cases this
theorem iz{i j:DI}(e:aX i.op.cls j.op.cls=some false\/mK (i.op.tch st.sl) (j.op.tch st.sl)=true){n:Nat}:
  (i.op.cls.wr=true->n∈i.op.tch st.sl->n∈j.op.tch st.sl->False)/\(j.op.cls.wr=true->n∈i.op.tch st.sl->n∈j.op.tch st.sl->False):=by
 rcases e with e|hd
 ·have key: ∀x y:DOp,x.cls.wr=true->(aX x.cls y.cls=some false\/aX y.cls x.cls=some false)-> ∀h,y.tch h=[]:=fun x y g f h=>by
   generalize x.cls=c at g f;cases c <;> first|(cases g;done)|(cases y <;> first|rfl|(simp [DOp.cls,aX] at f;done))
  refine ⟨fun hi _ d=>?_,fun k b _=>?_⟩
  ·rw [key i.op j.op hi (.inl e)] at d;cases d
  ·rw [key j.op i.op k (.inr e)] at b;cases b
 ·exact ⟨fun _ b d=>og hd b d,fun _ b d=>og hd b d⟩
theorem gQ{x:DOp}{s1 s2:Nat->V}(h: ∀m∈x.reads,s2 m=s1 m):x.tch s2=x.tch s1:=by
 cases x with
 |load n agg a=>show bx1 _=bx1 _;rw [av h]
 |store n a y=>show bx1 _=bx1 _;rw [av fun m b=>h m (by simp [DOp.reads,b])]
 |mlook e g z ok a k=>show bx1 _=bx1 _;rw [av fun m b=>h m (by simp [DOp.reads,b])]
 |bF e g a k v=>show bx1 _=bx1 _;rw [av fun m b=>h m (by simp [DOp.reads,b])]
 |mlen a=>show bx1 _=bx1 _;rw [av h]
 |prim p a=>show bx1 _=bx1 _;rw [av h]
 |appT size d s a=>show bx1 _=bx1 _;rw [av fun m b=>h m (by simp [DOp.reads,b])]
 |call f c=>show List.flatMap _ _=List.flatMap _ _;rw [dQ h]
 |fcall f c=>show List.flatMap _ _=List.flatMap _ _;rw [dQ h]
 |cd y c=>show bxs _++List.flatMap _ _=bxs _++List.flatMap _ _;rw [av fun m b=>h m (by simp [DOp.reads,b]),dQ fun m b=>h m (by simp [DOp.reads,b])]
 |_=>rfl
theorem rS{l:List Nat}{acc b:Nat->List Nat}{t:List Nat}(h: ∀k,b k=acc k\/b k=[])(c:chk l acc t=true):chk l b t=true:=by
 unfold chk at c ⊢;rw [List.all_eq_true] at c ⊢;intro i hi;rcases h i with e|e
 ·rw [e];exact c i hi
 ·rw [e];rfl
theorem rA{r:cA}{d:Option Nat}{K i:St->Prop}(g: ∀s,K s->i s)(h:wpR r d st K):wpR r d st i:=by
 cases r with
 |no=>exact h
 |yes e=>exact g _ h
 |need c e=>exact ⟨h.1,g _ h.2⟩
 |alt c b f=>exact ⟨h.1,fun j e=>g _ (h.2 j e)⟩
 |eq c t f=>exact ⟨h.1,fun k e=>g _ (h.2 k e)⟩
end
section
variable [Glb]{P:Program}{X:List FuncId}{N:Nat}{w0:World}{S0:aa}{o:Oper}{a:Act}{E:Env}{st:St}
theorem gu{f:FuncId}{b:List V}{d:Option Nat}{K g:St->Prop}(i: ∀s,K s->g s)(h:cO P f b d st K):cO P f b d st g:=by
 unfold cO at h ⊢;split at h
 ·obtain ⟨r,c,e⟩:=h;exact ⟨r,c,i _ e⟩
 ·obtain ⟨r,c,e,j⟩:=h;exact ⟨r,c,e,i _ j⟩
 ·exact h
theorem rQ{f:FuncId}{us:List V}{d:Option Nat}{K c:St->Prop}(n: ∀s,K s->c s)(h:WC P f us d st K):WC P f us d st c:=
 ⟨h.1,fun N w0 S0 E a vs i j k l=>(h.2 N w0 S0 E a vs i j k l).mono fun e w' ⟨v,q,g,b,r,m,p⟩=>⟨v,q,g,b,r,n _ m,p⟩⟩
end
section
variable {P:Program}{X:List FuncId}{N:Nat}{w0:World}{S0:aa}{o:Oper}{a:Act}{E:Env}{st:St}
theorem lL{b:Bool}{A B C:Prop}(h:A->B):(cond b A C)->cond b B C:=by cases b <;> simp;exact h
theorem mc{e:TypeId}{size b d q:Nat}{s x:V}{K f:St->Prop}(c: ∀s,K s->f s)(h:fG e size b d q s x st K):fG e size b d q s x st f:=by
 unfold fG at h ⊢;split at h
 ·refine ⟨h.1,?_⟩;have h:=h.2;split at h
  ·exact ⟨h.1,c _ h.2⟩
  ·exact lL (fun h=>⟨h.1,c _ h.2⟩) h
  ·exact h
 ·split at h
  ·exact c _ h
  ·exact lL (fun h=>⟨h.1,c _ h.2⟩) h
  ·exact h
 ·exact h
end
section
variable [Glb]{P:Program}{X:List FuncId}{N:Nat}{w0:World}{S0:aa}{o:Oper}{a:Act}{E:Env}{st:St}
theorem nM{f:FuncId}{us:List V}{d:Option Nat}{K b:St->Prop}(i: ∀s,K s->b s)(h:dK P f us d st K):dK P f us d st b:=by
 unfold dK at h ⊢;cases d with
 |none=>exact h
 |some n=>
  revert h
  simp only;split
  ·exact fun ⟨e,size,xs,c,g⟩=>⟨e,size,xs,c,fun q=>i _ (g q)⟩
  ·exact id
theorem ke{o:DOp}{d:Option Nat}{K y:St->Prop}(f: ∀s,K s->y s)(h:wpO P o d st K):wpO P o d st y:=by
 unfold wpO at h ⊢;split at h
 ·cases d with
  |none=>exact h
  |some n=>exact mc f h
 ·cases d with
  |none=>exact h
  |some n=>
   revert h
   simp only [lf];split
   ·simp only [cond_eq_ite];split
    ·exact fun h=>⟨h.1,f _ h.2⟩
    ·exact fun h=>h
   ·exact fun h=>h
 ·cases d with
  |none=>exact h
  |some n=>
   revert h
   simp only;split
   ·exact fun h=>⟨h.1,f _ h.2⟩
   ·exact fun h=>h
 ·cases d with
  |none=>exact h
  |some n=>
   revert h
   simp only;split
   ·split
    ·exact fun h bs c g i k=>f _ (h bs c g i k)
    ·exact fun h=>h
   ·split
    ·exact f _
    ·exact fun h=>h
   ·exact fun h=>h
 ·cases d with
  |none=>exact h
  |some n=>
   revert h
   simp only;split
   ·split
    ·split
     ·exact fun ⟨g,i,k,t,l,p,u⟩=>⟨g,i,k,t,l,fun j e v x=>f _ (p j e v x),fun w=>f _ (u w)⟩
     ·exact fun h=>h
    ·exact fun ⟨l,p,u⟩=>⟨l,fun j e v x=>f _ (p j e v x),fun w=>f _ (u w)⟩
    ·exact fun h=>h
   ·exact fun h=>h
 ·exact gu f h
 ·exact rQ f h
 ·exact nM f h
 ·obtain ⟨q,z,m,b,r,g,i,k,t,l,p⟩:=h;exact ⟨q,z,m,b,r,g,i,k,t,l,f _ p⟩
 ·revert h
  split
  ·exact gu f
  ·exact gu f
  ·exact fun h=>h
 ·exact rA f h
theorem df{i:DI}{K c:St->Prop}(b: ∀s,K s->c s)(h:wpI P i st K):wpI P i st c:=by
 unfold wpI at h ⊢;split at h
 ·exact ke b h
 ·revert h
  split
  ·split
   ·exact ke b
   ·exact ke b
   ·exact b _
   ·exact b _
  ·exact b _
  ·exact fun h=>h
theorem lW{d:List (List Nat)}{K:St->Prop}: ∀{l:List (Nat×DI)} {acc b:Nat->List Nat} {st:St},(∀ k,b k=acc k\/b k=[])->bR P d acc l st K->bR P d b l st K
 |[],_,_,_,_,h=>h
 |(j,i)::l,acc,b,st,ha,h=>by
  refine ⟨rS ha h.1,df (fun s e=>?_) h.2⟩;refine lW (fun k=>?_) e
  by_cases c:k=j
  ·subst c;rw [ai,ai];exact .inl rfl
  ·rw [ae _ _ _ _ c,ae _ _ _ _ c];exact ha k
theorem lX{f:List (List Nat)}{g:Nat}{j:DI}{d:List (Nat×DI)}{K:St->Prop}: ∀{pre:List (Nat×DI)} {acc:Nat->List Nat} {st:St},(∀ p∈pre,p.2.indep j=true)->
  bR P f acc (pre++(g,j)::d) st K-> ∃b,(∀ k,k ∉ pre.map (·.1)->b k=acc k)/\chk (f[g]?.getD []) b (j.op.tch st.sl)=true
 |[],acc,st,_,h=>⟨acc,fun _ _=>rfl,h.1⟩
 |(ik,i)::pre,acc,st,hp,h=>by
  obtain ⟨n,l,v,w,s,_⟩:=kK (hp (ik,i) (by simp));obtain ⟨x,c⟩:=ry (n.elim (fun h=>.inl h.1) fun h=>h.elim (fun h=>.inr h.1) fun h=>.inl (Cls.dj h.1)) h.2;obtain ⟨b,q,r⟩:=lX (fun p e=>hp p (List.mem_cons_of_mem _ e)) c;refine ⟨b,fun k c=>?_,?_⟩
  ·simp only [List.map_cons,List.mem_cons,not_or] at c;rw [q k c.2,ae _ _ _ _ c.1]
  ·rwa [gQ fun m u=>dB _ _ _ fun t=>l m t (by unfold DI.reads;simp [u])] at r
theorem gx{ck:List (List Nat)}{jk:Nat}{j:DI}{D:List (Nat×DI)}{K:St->Prop}: ∀{pre:List (Nat×DI)} {acc:Nat->List Nat} {st:St},
  (∀ p∈pre,p.2.indep j=true/\(aX p.2.op.cls j.op.cls=some true->p.1∈ck[jk]?.getD []))->((pre.map (·.1)).Nodup)->(∀ p∈pre,p.1≠jk)->(∀ p∈pre,acc p.1=[])->acc jk=[]->kg j st->
  bR P ck acc (pre++(jk,j)::D) st K->wpI P j st fun S=>bR P ck acc (pre++D) S K
 |[],acc,st,_,_,_,_,L,_,h=>df (fun s hs=>lW (fun k=>(by
   by_cases u:k=jk
   ·exact .inr (u▸L)
   ·exact .inl (ae _ _ _ _ u).symm)) hs) h.2
 |(ik,i)::pre,acc,st,hp,hnd,hne,jU,L,hl,h=>by
  obtain ⟨hij,hik⟩:=hp (ik,i) (by simp);obtain ⟨cc,a1,a2,a3,U,am1,am2⟩:=kK hij;have O: ∀{k:DI} {s:St} {e:Eff},k.op.cls.rdo=true->rD k s e->e.wr=none:=fun u l=>by
   rcases l with l|⟨n,b,L,_⟩|⟨n,b,L,_⟩
   ·exact l
   ·rw [L] at u;cases u
   ·revert u L;generalize (DI.op _).cls=c;cases c <;> simp [Cls.rdo,Cls.wr]
  have wr_bx: ∀{s:St} {d:Option Nat} {e:Eff},e.wr=none->(s.app d e).bx=s.bx:=fun {s d e} A=>by unfold St.app;rw [A];cases d <;> rfl
  obtain ⟨qD,h⟩:=h;have nd:(ik ∉ pre.map (·.1))/\(pre.map (·.1)).Nodup:=List.nodup_cons.1 hnd
  have hp': ∀p∈pre,p.2.indep j=true/\(aX p.2.op.cls j.op.cls=some true->p.1∈ck[jk]?.getD []):=fun p t=>hp p (List.mem_cons_of_mem _ t)
  have rest: ∀S,kg j S->bR P ck (upd acc ik (i.op.tch st.sl)) (pre++(jk,j)::D) S K->wpI P j S fun st''=>bR P ck (upd acc ik (i.op.tch st.sl)) (pre++D) st'' K:=fun S hl' hk'=>
   gx hp' nd.2 (fun p t=>hne p (List.mem_cons_of_mem _ t)) (fun p t=>by
    by_cases u:p.1=ik
    ·exact absurd (u▸List.mem_map_of_mem t) nd.1
    ·rw [ae _ _ _ _ u];exact jU p (List.mem_cons_of_mem _ t)) (by
    by_cases u:jk=ik
    ·exact absurd u.symm (hne (ik,i) (by simp))
    ·rw [ae _ _ _ _ u];exact L) hl' hk'
  have f: ∀(d:Option Nat) (v:V) (s:St),(s.app d {val:=v }).bx=s.bx:=fun d v s=>by cases d <;> rfl
  have tchj: ∀v,j.op.tch (st.app i.dst {val:=v }).sl=j.op.tch st.sl:=fun v=>gQ fun m w=>dB _ _ _ fun A=>a1 m A (by unfold DI.reads;simp [w])
  have Q: ∀e:Eff,i.op.tch (st.app j.dst e).sl=i.op.tch st.sl:=fun e=>gQ fun m w=>dB _ _ _ fun A=>a3 m A (by unfold DI.reads;simp [w])
  rcases cc with ⟨J,G⟩|⟨J,G⟩|⟨J,G⟩
  case inr.inl=>
   obtain ⟨vs,hvs,u⟩:=jf J h;have one: ∀q, ∃ej,cH P j st ej/\bR P ck (upd acc ik (i.op.tch st.sl)) (pre++D) ((st.app i.dst {val:=vs q }).app j.dst ej) K:=fun q=>by
    obtain ⟨ej,z,x⟩:=gS (Cls.dj G) (rest _ (fun y n g=>by rw [tchj] at g;rw [f];exact hl y n g) (u q));refine ⟨ej,eU (Cls.dj G) (fun m w=>(dB _ _ _ fun A=>a1 m A w).symm) (fun n _ b H=>by rw [f] at H;exact H) (gB _ _ _).symm (fun n _ g=>by rw [f] at g;exact g) (fun _=>(f _ _ _).symm) z,x⟩
   obtain ⟨ej,Y,_⟩:=one 0;have F:=jn (Cls.dj G) Y;refine jo (Cls.dj G) Y ⟨by rw [Q];exact qD,?_⟩;refine lO J (iU J (fun m w=>dB _ _ _ fun A=>a3 m A w) (fun n g b H=>?_) hvs) fun q=>?_
   ·rw [gA];exact H;intro b' l;rcases F with F|⟨n',I,L,z,x,M⟩|⟨n',I,z,_⟩
    ·rw [F] at l;cases l
    ·rw [M] at l;cases l;rw [x] at H;cases H
    ·revert G z;generalize j.op.cls=c;cases c <;> simp [Cls.det,Cls.wr]
   ·obtain ⟨ej',ue,Z⟩:=one q
    have:=qu G Y ue
    subst this;rw [Q,jL (fun n z x=>a2 n x z) (fun n b m c _ C=>by cases C)];exact Z
  case inr.inr=>
   obtain ⟨T,W,u⟩:=gS (Cls.dj J) h;have wi:=jn (Cls.dj J) W;have mX: ∀m∈j.reads,(st.app i.dst T).sl m=st.sl m:=fun m w=>dB _ _ _ fun A=>a1 m A w
   have R:j.op.tch (st.app i.dst T).sl=j.op.tch st.sl:=gQ fun m w=>mX m (by unfold DI.reads;simp [w])
   have B: ∀n∈j.op.tch st.sl,(st.app i.dst T).bx n=st.bx n:=fun n g=>by
    refine gA _ _ _ fun b' l=>?_
    rcases wi with wi|⟨n',I,L,z,x,M⟩|⟨n',I,z,_⟩
    ·rw [wi] at l;cases l
    ·rw [M] at l;cases l
     have:=hl (by rw [G];simp) n g
     rw [x] at this;cases this
    ·revert J z;generalize i.op.cls=c;cases c <;> simp [Cls.det,Cls.wr]
   obtain ⟨vs,hvs,Z⟩:=jf G (rest _ (fun y n g=>by rw [R] at g;rw [B n g];exact hl y n g) u);refine lO G (iU G (fun m w=>(mX m w).symm) (fun n g b H=>by rw [R] at g;rw [<- B n g];exact H) hvs) fun q=>⟨by rw [Q];exact qD,?_⟩
   refine jo (e:=T) (Cls.dj J) (eU (Cls.dj J) (fun m w=>dB _ _ _ fun A=>a3 m A w) (fun n _ b H=>by rw [f];exact H) (gB _ _ _) (fun n _ g=>by rw [f];exact g) (fun _=>f _ _ _) W) ?_;rw [Q,jL (fun n z x=>a2 n x z) (fun n b m c r _=>by cases r)];exact Z q
  obtain ⟨T,W,u⟩:=gS J h;have wi:=jn J W;have mX: ∀m∈j.reads,(st.app i.dst T).sl m=st.sl m:=fun m w=>dB _ _ _ fun A=>a1 m A w
  have R:j.op.tch (st.app i.dst T).sl=j.op.tch st.sl:=gQ fun m w=>mX m (by unfold DI.reads;simp [w])
  have qE:aX i.op.cls j.op.cls=some false\/mK (i.op.tch st.sl) (j.op.tch st.sl)=true:=by
   rcases U with U|U
   ·exact .inl U
   ·refine .inr ?_;obtain ⟨acc',q1,q2⟩:=lX (fun p t=>(hp' p t).1) u;rw [R] at q2;unfold chk at q2;rw [List.all_eq_true] at q2;have x:=q2 ik (hik U);rwa [q1 ik nd.1,ai] at x
  have B: ∀n∈j.op.tch st.sl,(st.app i.dst T).bx n=st.bx n:=fun n g=>by
   refine gA _ _ _ fun b' l=>?_
   rcases wi with wi|⟨n',I,L,z,x,M⟩|⟨n',I,z,x,M,h4⟩
   ·rw [wi] at l;cases l
   ·rw [M] at l;cases l
    have:=hl (fun y=>by have:=am2 y;rw [L] at this;cases this) n g
    rw [x] at this;cases this
   ·rw [h4] at l;cases l;exact (iz qE).1 z x g
  have none_i: ∀n,(st.app i.dst T).bx n=none->st.bx n=none:=fun n g=>by
   rw [<- g];refine (gA _ _ _ fun b' l=>?_).symm
   have:(st.app i.dst T).bx n=some b':=by
    unfold St.app;simp only [l];exact ai _ _ _
   rw [this] at g;cases g
  have hl':kg j (st.app i.dst T):=fun y n g=>by
   rw [R] at g;rw [B n g];exact hl y n g
  have um:=gx hp' nd.2 (fun p t=>hne p (List.mem_cons_of_mem _ t)) (fun p t=>by
    by_cases u:p.1=ik
    ·exact absurd (u▸List.mem_map_of_mem t) nd.1
    ·rw [ae _ _ _ _ u];exact jU p (List.mem_cons_of_mem _ t)) (by
    by_cases u:jk=ik
    ·exact absurd u.symm (hne (ik,i) (by simp))
    ·rw [ae _ _ _ _ u];exact L) hl' u
  obtain ⟨ej,Y,Z⟩:=gS G um;have sO:cH P j st ej:=by
   refine eU G (fun m w=>(mX m w).symm) (fun n g b H=>?_) (gB _ _ _).symm (fun n _ g=>none_i n g) (fun y=>(wr_bx (O (am2 y) wi)).symm) Y;rw [R] at g;rw [<- B n g];exact H
  have F:=jn G sO;refine jo G sO ?_;have hti:i.op.tch (st.app j.dst ej).sl=i.op.tch st.sl:=gQ fun m w=>dB _ _ _ fun A=>a3 m A (by unfold DI.reads;simp [w])
  refine ⟨by rw [hti];exact qD,?_⟩;refine jo (e:=T) J (eU J (fun m w=>dB _ _ _ fun A=>a3 m A w) (fun n g b H=>?_) (gB _ _ _) (fun n g hbn=>?_) (fun y=>wr_bx (O (am1 y) F)) W) ?_
  ·rw [gA];exact H;intro b' l;rcases F with F|⟨n',I,L,z,x,M⟩|⟨n',I,z,x,M,h4⟩
   ·rw [F] at l;cases l
   ·rw [M] at l;cases l;rw [x] at H;cases H
   ·rw [h4] at l;cases l;exact (iz qE).2 z g x
  ·rw [gA];exact hbn;intro b l;rcases F with F|⟨n',b',L,z,x,M⟩|⟨n',b',z,x,M,h4⟩
   ·rw [F] at l;cases l
   ·rw [M] at l;cases l;exact rN (s:=st) (s':=st) rfl a2 g z
   ·rw [h4] at l;cases l;rw [hbn] at M;cases M
  ·rw [hti,jL (fun n z x=>a2 n x z) (fun n b m c r C hnm=>?_)]
   ·exact Z
   ·subst hnm;rcases wi with wi|⟨n1,b1,k0,k1,k2,k3⟩|⟨n1,b1,k1,k2,k3,k4⟩
    ·rw [wi] at C;cases C
    ·rw [k3] at C;cases C;rcases F with F|⟨n2,b2,l0,l1,l2,l3⟩|⟨n2,b2,l1,l2,l3,l4⟩
     ·rw [F] at r;cases r
     ·rw [l3] at r;cases r;exact rN (s:=st) (s':=st) rfl a2 k1 l1
     ·rw [l4] at r;cases r;rw [k2] at l3;cases l3
    ·rw [k4] at C;cases C;rcases F with F|⟨n2,b2,l0,l1,l2,l3⟩|⟨n2,b2,l1,l2,l3,l4⟩
     ·rw [F] at r;cases r
     ·rw [l3] at r;cases r;rw [l2] at k3;cases k3
     ·rw [l4] at r;cases r;exact (iz qE).1 k1 k2 l2
theorem kd{K:St->Prop}: ∀{l:List (Nat×DI)} {acc:Nat->List Nat} {st:St},bp P (l.map (·.2)) st K->bR P [] acc l st K
 |[],_,_,h=>h
 |(j,i)::l,acc,st,h=>⟨rfl,df (fun _ b=>kd b) h⟩
end
section
variable {P:Program}{X:List FuncId}{N:Nat}{w0:World}{S0:aa}{o:Oper}{a:Act}{E:Env}{st:St}
theorem dF{v:Value}{u:V}(h:VR E v u)(n:Nat)(b:n∈bx1 u):E.live n=true:=by
 cases h <;> simp [bx1] at b <;> subst b <;> assumption
theorem qm{v:Value}{u:V}(h:VR E v u)(n:Nat)(b:n∈bx2 u):E.live n=true:=by
 cases u with
 |fn f vs=>
  cases h with
  |fn _ cs _ g j=>
   obtain ⟨c,e,b⟩:=List.mem_flatMap.1 b;obtain ⟨i,hi⟩:=List.mem_iff_getElem?.1 e;have d:i<cs.size:=by rw [g];exact (gsZ hi).1
   exact dF (j i _ c (Array.getElem?_eq_getElem d) hi) n b
 |ptr k off=>exact dF h n b
 |view k off len size=>exact dF h n b
 |mp k=>exact dF h n b
 |_=>cases b
theorem mC{v:Value}{u:V}(h:VR E v u)(n:Nat)(b:n∈bxs u):E.live n=true:=by
 cases u with
 |fn f vs=>
  cases h with
  |fn _ cs _ g j=>
   obtain ⟨c,e,b⟩:=List.mem_flatMap.1 b;obtain ⟨i,hi⟩:=List.mem_iff_getElem?.1 e;have d:i<cs.size:=by rw [g];exact (gsZ hi).1
   exact qm (j i _ c (Array.getElem?_eq_getElem d) hi) n b
 |ptr k off=>exact dF h n b
 |view k off len size=>exact dF h n b
 |mp k=>exact dF h n b
 |_=>cases b
end
section
variable [Glb]{P:Program}{X:List FuncId}{N:Nat}{w0:World}{S0:aa}{o:Oper}{a:Act}{E:Env}{st:St}
theorem SR.s7{t:Array Value}(h:SR N w0 S0 E st t)(j:DI):kg j st:=fun e n d=>by
 have b: ∀(x:O),n∈bxs (ev st.sl x)->(st.bx n).isSome=true:=fun x i=>by
  obtain ⟨m,_,f⟩:=kP i;rw [<- h.live];exact mC (h.sl m) n f
 have c: ∀(xs:List O),n∈(xs.map (ev st.sl)).flatMap bx2->(st.bx n).isSome=true:=fun xs i=>by
  obtain ⟨m,_,f⟩:=jF i;rw [<- h.live];exact mC (h.sl m) n f
 unfold DOp.tch at d;split at d
 ·exact b _ (iL (iK d))
 ·exact b _ (iL (iK d))
 ·exact b _ (iL (iK d))
 ·exact b _ (iL (iK d))
 ·exact b _ (iL (iK d))
 ·exact b _ (iL (iK d))
 ·exact b _ (iL (iK d))
 ·exact c _ d
 ·exact c _ d
 ·rename_i g;rw [g] at e;exact absurd rfl e
 ·rcases List.mem_append.1 d with d|d
  ·exact b _ d
  ·exact c _ d
 ·cases d
end
end Go.DL
end
section
namespace Go.DL
open Go.RowKit
section
variable [Glb]{P:Program}{X:List FuncId}{N:Nat}{w0:World}{S0:aa}{a:Act}{E:Env}{st:St}
def aft(is:List DI)(k:Nat):List Nat:=(is[k]?.getD default).after
end
section
variable {P:Program}{X:List FuncId}{N:Nat}{w0:World}{S0:aa}{a:Act}{E:Env}{st:St}
theorem fk{m k:Nat}:has m k=true↔m.testBit k=true:=by
 unfold has Nat.testBit;have h:Nat.land (Nat.shiftRight m k) 1=1 &&& (m >>> k):=Nat.and_comm _ _;rw [h];have b:(1 &&& (m >>> k))=(m >>> k) % 2:=by rw [Nat.and_comm];exact Nat.and_one_is_mod _
 rw [b];rcases Nat.mod_two_eq_zero_or_one (m >>> k) with e|e <;> rw [e] <;> simp
theorem mO{acc:List Nat}: ∀{l:List Nat} {i:Nat},has (gL acc l) i=true->i∈l\/ ∃k∈l,has (acc[k]?.getD 0) i=true
 |[],i,h=>by
  rw [fk] at h;simp [gL] at h
 |k::ks,i,h=>by
  rw [fk] at h;have e:gL acc (k::ks)=((1 <<< k) ||| (acc[k]?.getD 0)) ||| gL acc ks:=rfl
  rw [e,Nat.testBit_or,Nat.testBit_or,Bool.or_eq_true,Bool.or_eq_true] at h;rcases h with (h|h)|h
  ·left;rw [Nat.testBit_shiftLeft] at h;simp only [Bool.and_eq_true,decide_eq_true_eq] at h
   have:i - k=0:=by
    rcases Nat.eq_zero_or_pos (i - k) with b|b
    ·exact b
    ·exfalso
     have:=h.2
     rw [Nat.testBit_lt_two_pow (x:=1) (by exact Nat.one_lt_two_pow (by omega))] at this;cases this
   have:i=k:=by omega
   simp [this]
  ·exact .inr ⟨k,by simp,fk.2 h⟩
  ·rcases mO (fk.2 h) with h|⟨f,c,d⟩
   ·exact .inl (List.mem_cons_of_mem _ h)
   ·exact .inr ⟨f,List.mem_cons_of_mem _ c,d⟩
theorem jy{L:Nat->Prop}{is0:List DI}(b: ∀k,L k-> ∀e∈aft is0 k,L e): ∀(is:List DI) (acc:List Nat),(∀ k,is0[acc.length+k]? =is[k]?)->
  (∀ k,(∀ e∈aft is0 k,L e)-> ∀i,has (acc[k]?.getD 0) i=true->L i)-> ∀k,(∀ e∈aft is0 k,L e)-> ∀i,has ((cX acc is)[k]?.getD 0) i=true->L i
 |[],acc,_,jU=>jU
 |d::is,acc,his,jU=>by
  unfold cX;refine jy b is _ (fun k=>?_) (fun k c i hi=>?_)
  ·have:=his (k+1)
   simp only [List.length_append,List.length_cons,List.length_nil];rw [show acc.length+(0+1)+k=acc.length+(k+1) by omega,this];simp
  ·rcases Nat.lt_trichotomy k acc.length with h|h|h
   ·rw [List.getElem?_append_left h] at hi;exact jU k c i hi
   ·subst h;have hd:is0[acc.length]? =some d:=by simpa using his 0
    have j:aft is0 acc.length=d.after:=by unfold aft;rw [hd];rfl
    rw [List.getElem?_append_right (Nat.le_refl _)] at hi;simp only [Nat.sub_self,List.getElem?_cons_zero,Option.getD_some] at hi;rw [j] at c;rcases mO hi with hi|⟨g,f,hi⟩
    ·exact c i hi
    ·exact jU g (b g (c g f)) i hi
   ·rw [List.getElem?_eq_none (by simp;omega)] at hi;rw [fk] at hi;simp at hi
theorem kU{m:Nat}{j:DI}: ∀{c k:Nat} {is:List DI},fO m j k c is=true-> ∀x i,x<c->is[x]? =some i->has m (k+x)=true\/i.indep j=true
 |0,_,_,_,x,_,hx,_=>absurd hx (by omega)
 |c+1,k,[],_,x,i,_,hi=>by simp at hi
 |c+1,k,i0::is,h,x,i,hx,hi=>by
  unfold fO at h;simp only [cond_eq_ite,ite_eq_left_iff,Bool.not_eq_true,Bool.if_true_left,Bool.decide_eq_true,Bool.or_eq_true,if_false_right,Bool.and_eq_true] at h;cases x with
  |zero=>
   simp at hi;subst hi
   revert h
   cases has m k <;> cases i0.indep j <;> simp_all
  |succ x=>
   have b:fO m j (k+1) c is=true:=by
    revert h
    cases has m k <;> cases i0.indep j <;> simp_all
   have:=kU b x i (by omega) (by simpa using hi)
   rwa [show k+1+x=k+(x+1) by omega] at this
theorem kR{is:List DI}: ∀{rest:List DI} {n:Nat} {ms:List Nat},jv is n rest ms=true-> ∀x j,rest[x]? =some j->(∀ e∈j.after,e<n+x)/\fO (ms[x]?.getD 0) j 0 (n+x) is=true
 |[],n,ms,_,x,j,hj=>by simp at hj
 |j0::rest,n,[],h,x,j,hj=>by simp [jv] at h
 |j0::rest,n,m::ms,h,x,j,hj=>by
  unfold jv at h;have b:(j0.after.all fun i=>Nat.blt i n)=true/\fO m j0 0 n is=true/\jv is (n+1) rest ms=true:=by
   revert h
   cases (j0.after.all fun i=>Nat.blt i n) <;> cases fO m j0 0 n is <;> simp
  cases x with
  |zero=>
   simp at hj;subst hj;refine ⟨fun e c=>?_,b.2.1⟩;exact nlZ (List.all_eq_true.1 b.1 e c)
  |succ x=>
   have:=kR b.2.2 x j (by simpa using hj)
   rw [show n+1+x=n+(x+1) by omega] at this;simpa using this
theorem jz{is:List DI}(h:iQ is=true){j:Nat}(f:j<is.length):(∀ e∈aft is j,e<j)/\ ∀i,i<j->has ((cX [] is)[j]?.getD 0) i=true\/(is[i]?.getD default).indep (is[j]?.getD default)=true:=by
 have c:=kR h j _ (ggZ f);rw [Nat.zero_add] at c;refine ⟨fun e d=>?_,fun i hi=>?_⟩
 ·unfold aft at d;rw [ggZ f] at d;exact c.1 e d
 ·have b:i<is.length:=by omega
  have:=kU c.2 i _ hi (ggZ b)
  rw [Nat.zero_add] at this;rw [ggZ f,ggZ b];exact this
theorem kp{m:Nat}{j:DI}: ∀{c k:Nat} {is:List DI} (x:Nat) (i:DI),x<c->is[x]? =some i->has m (k+x)=false->aX i.op.cls j.op.cls=some true->k+x∈jm m j k c is
 |0,_,_,x,_,hx,_,_,_=>absurd hx (by omega)
 |c+1,k,[],x,i,_,hi,_,_=>by simp at hi
 |c+1,k,i0::is,x,i,hx,hi,hn,hc=>by
  unfold jm;cases x with
  |zero=>
   simp at hi;subst hi;rw [Nat.add_zero] at hn;rw [hn,hc];simp [isTrue]
  |succ x=>
   have h:=kp (m:=m) (j:=j) (c:=c) (k:=k+1) (is:=is) x i (by omega) (by simpa using hi) (by rwa [show k+1+x=k+(x+1) by omega]) hc;rw [show k+1+x=k+(x+1) by omega] at h;cases (bif has m k then false else isTrue (aX i0.op.cls j.op.cls)) with
   |true=>exact List.mem_cons_of_mem _ h
   |false=>exact h
theorem kn{is:List DI}: ∀{rest:List DI} {n:Nat} {ms:List Nat},rest.length<=ms.length-> ∀x j,rest[x]? =some j->(me is n rest ms)[x]?.getD []=jm (ms[x]?.getD 0) j 0 (n+x) is
 |[],n,ms,_,x,j,hj=>by simp at hj
 |j0::rest,n,[],h,x,j,hj=>by simp at h
 |j0::rest,n,m::ms,h,x,j,hj=>by
  unfold me;cases x with
  |zero=>simp at hj;subst hj;simp
  |succ x=>
   have:=kn (is:=is) (rest:=rest) (n:=n+1) (ms:=ms) (by simpa using h) x j (by simpa using hj)
   rw [show n+1+x=n+(x+1) by omega] at this;simpa using this
theorem kC: ∀(is:List DI) (acc:List Nat),(cX acc is).length=acc.length+is.length
 |[],acc=>by simp [cX]
 |i::is,acc=>by unfold cX;rw [kC is];simp;omega
end
section
variable [Glb]{P:Program}{X:List FuncId}{N:Nat}{w0:World}{S0:aa}{a:Act}{E:Env}{st:St}
def fR(is:List DI)(ks:List Nat):List (Nat×DI):=ks.map fun k=>(k,is[k]?.getD default)
def qh(is:List DI)(b:List (List Nat)):Prop:= ∀j,j<is.length-> ∀i,i<j->has ((cX [] is)[j]?.getD 0) i=false->aX (is[i]?.getD default).op.cls (is[j]?.getD default).op.cls=some true->i∈b[j]?.getD []
end
section
variable {P:Program}{X:List FuncId}{N:Nat}{w0:World}{S0:aa}{a:Act}{E:Env}{st:St}
theorem ko(is:List DI):qh is (fi is):=fun j d i hi e c=>by
 unfold fi;have b:i<is.length:=by omega
 rw [kn (by rw [kC];simp) j _ (ggZ d),Nat.zero_add];rw [ggZ d,ggZ b] at c
 have:=kp (k:=0) (is:=is) i _ hi (ggZ b) (by rwa [Nat.zero_add]) c
 rwa [Nat.zero_add] at this
theorem oe(is:List DI):qh is (eP is):=by
 unfold eP;cases h:(fi is).all (·.isEmpty) with
 |false=>exact ko is
 |true=>
  intro j e i hi f d;exfalso
  have:=ko is j e i hi f d
  rw [List.all_eq_true] at h;cases b:(fi is)[j]? with
  |none=>rw [b] at this;simp at this
  |some l=>
   rw [b,Option.getD_some] at this
   have:=h l (List.mem_of_getElem? b)
   cases l with
   |nil=>rename_i c;cases c
   |cons a r=>cases this
theorem jb{is:List DI}: ∀(l:List DI) (k:Nat),(∀ m,is[k+m]? =l[m]?)->eQ k l=(List.range' k l.length).map fun k=>(k,is[k]?.getD default)
 |[],k,_=>rfl
 |i::l,k,h=>by
  have b:is[k]? =some i:=by simpa using h 0
  show (k,i)::eQ (k+1) l=_
  rw [jb l (k+1) fun m=>by have:=h (m+1);simp at this;rw [<- this];congr 1;omega];rw [List.length_cons,List.range'_succ,List.map_cons,b];rfl
end
section
variable [Glb]{P:Program}{X:List FuncId}{N:Nat}{w0:World}{S0:aa}{a:Act}{E:Env}{st:St}
theorem nL{Z:List (List Nat)}{c:Array Oper}{is:List DI}(hl:bQ P N X c c.toList=some is)(T:iQ is=true)(hck:qh is Z){Q:Exit->Act->World->Prop}{K:St->Prop}{ds:List Deferred}(hQ: ∀a w,bz N w0 S0 ds K a w->Q .normal a w):
  ∀(g:Nat) (b:Array Bool) (d:List Nat) {a:Act} {E:Env} {st:St} (_:SR N w0 S0 E st a.tmps) (_:a.defers=ds) (_:b.size=c.size) (_:d=(List.range c.size).filter (fun k=> !b.getD k true)) (_:d.length=g)
   (_: ∀k,b.getD k false=true-> ∀e∈aft is k,b.getD e false=true) (_:bR P Z (fun _=>[]) (fR is d) st K),wpAny P .any c Q g b a E.w:=by
 have hlen:c.size=is.length:=by simpa using (bk hl).1
 have V: ∀(b:Array Bool) (j:Nat),j∈Region.ready .any c b->j<c.size/\b.getD j true=false/\ ∀e∈aft is j,b.getD e false=true:=fun b j hj=>by
  obtain ⟨M,o,C,I⟩:=mem_ready.1 hj;refine ⟨(Array.getElem?_eq_some_iff.1 C).1,M,fun e m=>?_⟩;obtain ⟨i,hi,r⟩:=(bk hl).2 j o (Array.getElem?_toList.trans C);obtain ⟨_,_,_,ha,_⟩:=fz r;unfold aft at m;rw [hi,Option.getD_some,ha,List.mem_map] at m;obtain ⟨x,f,rfl⟩:=m;rw [List.mem_filter] at f;exact I x (by simpa using f.1) f.2
 have W: ∀(b:Array Bool) (j:Nat),j<c.size->b.getD j true=false->(∀ e∈aft is j,b.getD e false=true)->j∈Region.ready .any c b:=fun b j s M I=>by
  have C:c[j]? =some c[j]:=Array.getElem?_eq_getElem s;refine mem_ready.2 ⟨M,_,C,fun e m hb=>?_⟩;obtain ⟨i,hi,r⟩:=(bk hl).2 j _ (Array.getElem?_toList.trans C);obtain ⟨_,_,_,ha,_⟩:=fz r;refine I _ ?_;unfold aft;rw [hi,Option.getD_some,ha,List.mem_map];exact ⟨e,List.mem_filter.2 ⟨by simpa using m,hb⟩,rfl⟩
 have u: ∀(b:Array Bool) (j:Nat),j∈(List.range c.size).filter (fun k=> !b.getD k true)↔j<c.size/\b.getD j true=false:=fun b j=>by
  rw [List.mem_filter,List.mem_range];simp
 have B: ∀(b:Array Bool) (j:Nat),j<b.size->(b.getD j true=b.getD j false):=fun b j h=>by simp [h]
 intro g
 induction g with
 |zero=>
  intro b d a E st h hd U A n D G;have h0:d=[]:=List.eq_nil_of_length_eq_zero n;refine ⟨?_,?_⟩
  ·cases hr:Region.ready .any c b with
   |nil=>rfl
   |cons x xs=>
    have f:=V b x (by rw [hr];simp)
    have:x∈d:=by rw [A];exact (u b x).2 ⟨f.1,f.2.1⟩
    rw [h0] at this;cases this
  ·rw [h0] at G;exact hQ a E.w ⟨E,st,rfl,h,hd,G⟩
 |succ g ih=>
  intro b d a E st h hd U A n D G;refine ⟨fun hr=>?_,fun j hj=>?_⟩
  ·exfalso;cases hm:d with
   |nil=>rw [hm] at n;cases n
   |cons k rest=>
    have J:k<c.size/\b.getD k true=false:=(u b k).1 (by rw [<- A,hm];simp);have H:d.Pairwise (· < ·):=by rw [A];exact List.Pairwise.filter _ List.pairwise_lt_range
    have:k∈Region.ready .any c b:=by
     refine W b k J.1 J.2 fun e m=>?_
     have s:=(jz T (by omega)).1 e m;cases hle:b.getD e false with
     |true=>rfl
     |false=>
      exfalso;have y:e∈d:=by rw [A];exact (u b e).2 ⟨by omega,by rw [B _ _ (by omega)];exact hle⟩
      rw [hm] at y H;rcases List.mem_cons.1 y with rfl|y
      ·omega
      ·have:=(List.pairwise_cons.1 H).1 e y;omega
    rw [hr] at this;cases this
  ·obtain ⟨O,hj2,R⟩:=V b j hj;have hjr:j∈d:=by rw [A];exact (u b j).2 ⟨O,hj2⟩
   obtain ⟨pre,v,l⟩:=List.append_of_mem hjr;have H:d.Pairwise (· < ·):=by rw [A];exact List.Pairwise.filter _ List.pairwise_lt_range
   have C:c[j]? =some c[j]:=Array.getElem?_eq_getElem O;obtain ⟨i,hi,r⟩:=(bk hl).2 j _ (Array.getElem?_toList.trans C);have z: ∀p∈pre,p<j/\b.getD p true=false:=fun p t=>by
    rw [l] at H;exact ⟨(List.pairwise_append.1 H).2.2 p t j (by simp),((u b p).1 (by rw [<- A,l];simp [t])).2⟩
   have sR: ∀p∈pre,has ((cX [] is)[j]?.getD 0) p=false:=fun p t=>by
    refine Bool.eq_false_iff.2 fun oQ=>?_
    have:=jy (L:=fun k=>b.getD k false=true) (is0:=is) D is [] (by simp) (fun k _ i hi=>by rw [fk] at hi;simp at hi) j R p oQ
    have I:=(z p t).2;rw [B _ _ (by have:=(z p t).1;omega)] at I;rw [I] at this;cases this
   have qJ: ∀x∈fR is pre,x.2.indep i=true/\(aX x.2.op.cls i.op.cls=some true->x.1∈Z[j]?.getD []):=fun x f=>by
    obtain ⟨p,t,rfl⟩:=List.mem_map.1 f;have s:=(z p t).1;refine ⟨?_,fun hc=>?_⟩
    ·rcases (jz T (by omega)).2 p s with oQ|sQ
     ·rw [sR p t] at oQ;cases oQ
     ·rw [hi,Option.getD_some] at sQ;exact sQ
    ·refine hck j (by omega) p s (sR p t) ?_;rw [hi,Option.getD_some];exact hc
   have py:d.Nodup:=H.imp (fun h=>Nat.ne_of_lt h);have uj:pre.Nodup:=by rw [l] at py;exact (List.nodup_append.1 py).1
   have uf:(fR is pre).map (·.1)=pre:=by unfold fR;rw [List.map_map];exact List.map_id' _
   have hw1:wpI P i st fun Y=>bR P Z (fun _=>[]) (fR is pre++fR is v) Y K:=by
    refine gx qJ (by rw [uf];exact uj) (fun x f=>?_) (fun _ _=>rfl) rfl (h.s7 i) ?_
    ·obtain ⟨p,t,rfl⟩:=List.mem_map.1 f;exact Nat.ne_of_lt (z p t).1
    ·rw [l] at G;unfold fR at G ⊢;rw [List.map_append,List.map_cons,hi] at G;exact G
   refine wpOp_mono ?_ (qe h C r hw1 (Q:=Q));rintro a' w' ⟨Y,S,E',rfl,hsr,hdf⟩;refine ih _ (pre++v) hsr (hdf.trans hd) (by simp [U]) ?_ ?_ (fun k J e m=>?_) ?_
   ·have F:d.Nodup:=H.imp (fun h=>Nat.ne_of_lt h);have M:(List.range c.size).filter (fun k=> !(b.setIfInBounds j true).getD k true)=d.filter (fun k=>decide (k≠j)):=by
     rw [A,List.filter_filter];refine List.filter_congr fun k J=>?_
     by_cases q:j=k
     ·subst q
      have:j<b.size:=by omega
      simp [this]
     ·rw [getD_set_ne _ q]
      have:(k≠j):=fun e=>q e.symm
      simp [this]
    rw [M,l,List.filter_append,List.filter_cons];rw [l] at F;have hn1: ∀x∈pre,x≠j:=fun x f m=>(List.nodup_append.1 F).2.2 x f j (by simp) m
    have hn2: ∀x∈v,x≠j:=fun x f m=>(List.nodup_cons.1 (List.nodup_append.1 F).2.1).1 (m▸f)
    rw [List.filter_eq_self.2 (fun x f=>by simpa using hn1 x f),List.filter_eq_self.2 (fun x f=>by simpa using hn2 x f)];simp
   ·rw [l] at n;simp at n ⊢;omega
   ·by_cases q:j=k
    ·subst q;exact getD_set_true (R e m)
    ·rw [getD_set_ne _ q] at J;exact getD_set_true (D k J e m)
   ·unfold fR at S ⊢;rw [List.map_append];exact S
theorem nC(l:P.follows .mixedOrders=true)(h:SR N w0 S0 E st a.tmps){b:Array Oper}{is:List DI}(i:bQ P N X b b.toList=some is)(e:iQ is=true){Q:Exit->Act->World->Prop}{K:St->Prop}
  (j: ∀g w,bz N w0 S0 a.defers K g w->Q .normal g w) (f:bR P (eP is) (fun _=>[]) (eQ 0 is) st K) {id:Nat}:(Code.region id b true).wp P Q a E.w:=by
 refine wp_region_any l (nL (E:={E with w:=E.w.drew }) i e (oe is) j _ _ _ h.drew rfl (by simp) rfl ?_ ?_ ?_)
 ·rw [List.filter_eq_self.2]
  ·simp
  ·intro k c;rw [List.mem_range] at c;simp [c]
 ·intro k c;exfalso
  by_cases d:k<b.size
  ·simp [d] at c
  ·simp [d] at c
 ·rw [List.filter_eq_self.2]
  ·have:b.size=is.length:=by simpa using (bk i).1
   rw [this];rw [jb (is:=is) is 0 (fun m=>by simp)] at f;rw [<- List.range_eq_range'] at f;exact f
  ·intro k c;rw [List.mem_range] at c;simp [c]
end
end Go.DL
end
section
namespace Go.DL
open Go.RowKit
section
variable [Glb]{P:Program}{X:List FuncId}{N:Nat}{w0:World}{S0:aa}{a:Act}{E:Env}{st:St}
end
section
variable {P:Program}{X:List FuncId}{N:Nat}{w0:World}{S0:aa}{a:Act}{E:Env}{st:St}
theorem iZ{α:Type}{d:α}: ∀{l:List (Nat×α)} {n:Nat},lk d l n=d\/(n,lk d l n)∈l
 |[],n=>.inl rfl
 |(k,v)::r,n=>by
  unfold lk
  by_cases h:n=k
  ·subst h;rw [cG];exact .inr (by simp)
  ·rw [iI h];rcases iZ (d:=d) (l:=r) (n:=n) with h|h
   ·exact .inl h
   ·exact .inr (List.mem_cons_of_mem _ h)
theorem jX{ks:List Nat}{bx:Nat->Option BX}: ∀{l:List (Nat×V)} {c:Nat->V},nk ks bx l c-> ∀p∈l,LeV ks bx p.2 (c p.1)
 |[],_,_,p,b=>by simp at b
 |(n,v)::r,c,h,p,b=>by
  rcases List.mem_cons.1 b with rfl|b
  ·exact h.1
  ·exact jX h.2 p b
theorem nh{ks:List Nat}{bx:Nat->Option BX}: ∀{l:List (Nat×List (Nat×V))} {c:Nat->Nat->V},qL ks bx l c-> ∀p∈l,nk ks bx p.2 (c p.1)
 |[],_,_,p,b=>by simp at b
 |(n,v)::r,sl,h,p,b=>by
  rcases List.mem_cons.1 b with rfl|b
  ·exact h.1
  ·exact nh h.2 p b
theorem nf{ks:List Nat}{bx:Nat->Option BX}: ∀{l:List (Nat×BX)},qK ks bx l-> ∀p∈l,LeB ks bx p.2 (bx p.1)
 |[],_,p,b=>by simp at b
 |(n,v)::r,h,p,b=>by
  rcases List.mem_cons.1 b with rfl|b
  ·exact h.1
  ·exact nf h.2 p b
theorem iu{ks:List Nat}: ∀{vs:List V},ir.go ks vs=true-> ∀v∈vs,ir ks v=true
 |[],_,v,b=>by simp at b
 |u::us,h,v,b=>by
  simp only [ir.go,Bool.and_eq_true] at h;rcases List.mem_cons.1 b with rfl|b
  ·exact h.1
  ·exact iu h.2 v b
end
section
variable [Glb]{P:Program}{X:List FuncId}{N:Nat}{w0:World}{S0:aa}{a:Act}{E:Env}{st:St}
def Env.cW(E:Env)(live:Nat->Bool):Env:={E with live:=live,S:=fun b o=>E.S b o\/ ∃n,E.live n=true/\live n=false/\b=E.κ n }
end
section
variable {P:Program}{X:List FuncId}{N:Nat}{w0:World}{S0:aa}{a:Act}{E:Env}{st:St}
theorem VR.live{v:Value}{u:V}(h:VR E v u): ∀{ks:List Nat} {live:Nat->Bool},(∀ n,ks.contains n=true->live n=true)->(∀ r g,E.ρ r=some g-> ∀n,E.live n=true->E.κ n≠g)->ir ks u=true->VR (E.cW live) v u:=by
 have up: ∀{live:Nat->Bool} {v:Value} {t:T},Rep E.S E.w v t->Rep (E.cW live).S (E.cW live).w v t:=fun h=>h.mono (fun b o h=>.inl h) (fun _ _ _=>aC.rfl)
 induction h with
 |top v=>intro _ _ _ _ _;exact .top v
 |t v x h=>intro _ _ _ _ _;exact .t v x (up h)
 |ptr n off _=>intro ks live c _ hi;exact VR.ptr (E:=E.cW live) n off (c n hi)
 |view n off len size cap _ z=>intro ks live c _ hi;exact VR.view (E:=E.cW live) n off len size cap (c n hi) z
 |own v r e size xs h=>
  intro _ live _ j _;obtain ⟨cells,m,s,y⟩:=h.ex;refine .own v r e size xs ⟨⟨cells,m,s,fun i x t l D=>up (y i x t l D)⟩,h.uni,h.one,fun g q=>⟨(h.row g q).1,fun o=>⟨?_,fun C=>.inl (((h.row g q).2 o).2 C)⟩⟩⟩;rintro (k|⟨n,B,_,A⟩)
  ·exact ((h.row g q).2 o).1 k
  ·exact absurd A.symm (j r g (h.row g q).1 n B)
 |full a len size xs h=>intro _ _ _ _ _;exact .full a len size xs (up h)
 |fn f cs vs k _ p=>intro ks live c j hi;exact .fn f cs vs k fun i x u l d=>p i x u l d c j (iu hi u (List.mem_of_getElem? d))
 |raw v m=>intro _ _ _ _ _;exact .raw v m
 |mp n _=>intro ks live c _ hi;exact VR.mp (E:=E.cW live) n (c n hi)
 |tup cs vs k _ p=>intro ks live c j hi;exact .tup cs vs k fun i x u l d=>p i x u l d c j (iu hi u (List.mem_of_getElem? d))
 |agv cs vs k m _ p=>intro ks live c j hi;exact .agv cs vs k m fun i x u l d=>p i x u l d c j (iu hi u (List.mem_of_getElem? d))
theorem gm{ks:List Nat}{bx:Nat->Option BX}: ∀{us vs:List V},ju ks bx us vs->us.length=vs.length/\ ∀(i:Nat) (u v:V),us[i]? =some u->vs[i]? =some v->LeV ks bx u v
 |[],[],_=>⟨rfl,fun i u v f=>by simp at f⟩
 |u::us,v::vs,h=>by
  obtain ⟨d,e⟩:=gm h.2;refine ⟨by simp [d],fun i x y b c=>?_⟩;cases i with
  |zero=>simp at b c;subst b;subst c;exact h.1
  |succ i=>simp at b c;exact e i x y b c
 |[],_::_,h=>h.elim
 |_::_,[],h=>h.elim
theorem jN{cs:Array Value}{A B:List V}{v:V}(r:cs.size=(A++v::B).length)(h: ∀(i:Nat) (x:Value) (u:V),cs[i]? =some x->(A++v::B)[i]? =some u->VR E x u):
  ∃(c d:Array Value) (p:Value),cs=c++ #[p]++d/\VR E p v/\c.size=A.length/\d.size=B.length/\(∀ (i:Nat) (x:Value) (u:V),c[i]? =some x->A[i]? =some u->VR E x u)/\(∀ (i:Nat) (x:Value) (u:V),d[i]? =some x->B[i]? =some u->VR E x u):=by
 have b:cs.toList.length=A.length+(1+B.length):=by simp at r ⊢;omega
 obtain ⟨f,m,e,n⟩: ∃f m,cs.toList=f++m/\f.length=A.length:=⟨cs.toList.take A.length,cs.toList.drop A.length,(List.take_append_drop _ _).symm,by simp;simp at b;omega⟩
 match m,e with
 |[],e=>rw [e] at b;simp at b;omega
 |p::l3,e=>
  have j:cs=f.toArray++ #[p]++l3.toArray:=Array.toList_inj.1 (by rw [e];simp);have q:l3.length=B.length:=by rw [e] at b;simp at b;omega
  have get: ∀i,cs[i]? =(f++p::l3)[i]? :=fun i=>by rw [<- Array.getElem?_toList,e]
  refine ⟨f.toArray,l3.toArray,p,j,?_,by simpa using n,by simpa using q,fun i x u l g=>?_,fun i x u l g=>?_⟩
  ·exact h A.length p v (by rw [get, <-n];simp) (by simp)
  ·have k:i<A.length:=(gsZ g).1;exact h i x u (by rw [get,List.getElem?_append_left (by omega)];simpa using l) (by rw [List.getElem?_append_left k];exact g)
  ·exact h (A.length+(i+1)) x u (by
    rw [get,List.getElem?_append_right (by omega)];rw [show A.length+(i+1) - f.length=i+1 by omega];simpa using l) (by
    rw [List.getElem?_append_right (by omega)];rw [show A.length+(i+1) - A.length=i+1 by omega];simpa using g)
end
section
variable [Glb]{P:Program}{X:List FuncId}{N:Nat}{w0:World}{S0:aa}{a:Act}{E:Env}{st:St}
theorem SR.bX(h:SR N w0 S0 E st a.tmps){s:Wk}(hw:bX s st): ∃E':Env,E'.w=E.w/\SR N w0 S0 E' s.mk' a.tmps:=by
 obtain ⟨h1,h2,h4,_,hcx,h3⟩:=hw;have m1:=jX h1;have m2:=nf h2;have m3:=nh h4;unfold Wk.closed at h3;simp only [Bool.and_eq_true,List.all_eq_true] at h3;obtain ⟨⟨c1,c2⟩,c3⟩:=h3;have inb: ∀n b,s.mk'.bx n=some b->(n,b)∈s.bx:=fun n b K=>by
  have H:lk none (s.bx.map fun p=>(p.1,some p.2)) n=some b:=K;rcases iZ (d:=none) (l:=s.bx.map fun p=>(p.1,some p.2)) (n:=n) with j|j
  ·rw [j] at H;cases H
  ·rw [H,List.mem_map] at j;obtain ⟨p,hp,I⟩:=j;cases I;exact hp
 have isB: ∀n,s.keys.contains n=true->(s.mk'.bx n).isSome=true:=fun n z=>by
  show (lk none (s.bx.map fun p=>(p.1,some p.2)) n).isSome=true
  unfold Wk.keys at z
  revert z
  generalize s.bx=l
  induction l with
  |nil=>intro z;simp at z
  |cons p l ih=>
   intro z;simp only [List.map_cons];unfold lk
   by_cases hk:n=p.1
   ·rw [hk,cG];rfl
   ·rw [iI hk];refine ih ?_;simp only [List.map_cons,List.contains_cons,Bool.or_eq_true,beq_iff_eq] at z;exact z.resolve_left hk
 have old: ∀n b,s.mk'.bx n=some b-> ∃b0,st.bx n=some b0/\LeB s.keys st.bx b (some b0)/\mZ s.keys b=true:=fun n b K=>by
  have D:=inb n b K;have C:=m2 _ D;have F:=c2 _ D;simp only at C;cases hb0:st.bx n with
  |none=>rw [hb0] at C;cases C
  |some b0=>rw [hb0] at C;exact ⟨b0,rfl,C,F⟩
 have lv: ∀n,(s.mk'.bx n).isSome=true->E.live n=true:=fun n z=>by
  obtain ⟨b,K⟩:=Option.isSome_iff_exists.1 z;obtain ⟨b0,h0,_⟩:=old n b K;rw [h.live,h0];rfl
 have O: ∀n, ¬n∈s.keys->(s.mk'.bx n).isSome=false:=fun n z=>by
  cases K:s.mk'.bx n with
  |none=>rfl
  |some b=>exact absurd (List.mem_map.2 ⟨_,inb n b K,rfl⟩) z
 have klt: ∀n,E.live n=true->E.κ n<E.w.heap.size:=fun n hl=>by
  rw [h.live] at hl;obtain ⟨b',H⟩:=Option.isSome_iff_exists.1 hl;obtain ⟨_,Z,_⟩:=(h.bx n b' H).at_;exact (Array.getElem?_eq_some_iff.1 Z).1
 have hrk: ∀r g,E.ρ r=some g-> ∀n,E.live n=true->E.κ n≠g:=fun r g hr=>(h.rows r g hr).2.2
 let G:Nat->Bool:=fun n=>(s.mk'.bx n).isSome
 have Y: ∀{v:Value} {u u':V},VR E v u->LeV s.keys st.bx u' u->ir s.keys u'=true->VR (E.cW G) v u':=fun {v u u'} hv hl hi=>by
  have up: ∀{v:Value} {t:T},Rep E.S E.w v t->Rep (E.cW G).S (E.cW G).w v t:=fun h=>h.mono (fun b o h=>.inl h) (fun _ _ _=>aC.rfl)
  cases hl with
  |same=>exact hv.live isB hrk hi
  |nil r e n=>
   have:=hv.ax
   cases this;exact .own _ r e n [] (bU.nil r e n)
  |data r e n xs=>
   cases hv with
   |own _ _ _ _ _ h=>exact .t _ _ (up h.rep)
  |empty n=>
   have:=hv.ax
   cases this;exact .t _ _ (.slice none 0 0 0 0 _ [] (fun _=>undef) rfl (Nat.le_refl _) (fun x y=>by simp at y) (fun t L=>by simp at L) (fun j=>by simp at j) (fun i hi=>by simp at hi) (fun i t L=>by simp at L))
  |conv _ x rd hc hk=>
   refine .t _ _ ((eT h.bx hv hc).mono ?_ (fun _ _ _=>aC.rfl));rintro b o (q|⟨n,z,J,rfl⟩)
   ·exact .inl q
   ·exact .inr ⟨n,J,O n (hk n z),rfl⟩
  |top=>exact .top _
  |knot n f A B xa ra xb rb K ha hbb hk=>
   obtain ⟨rfl,J⟩:=hv.bh;obtain ⟨cs,e,Z,hcr⟩:=(h.bx n _ K).cells rfl;obtain ⟨L1,M1⟩:=bK h.bx ha;obtain ⟨L2,M2⟩:=bK h.bx hbb;have sx: ∀{rd:List Nat},(∀ m∈rd,m∈n::(ra++rb))-> ∀b o,Sx E rd b o->(E.cW G).S b o:=fun {rd} dS b o q=>by
    rcases q with q|⟨m,D,hlm,rfl⟩
    ·exact .inl q
    ·exact .inr ⟨m,hlm,O m (hk m (dS m D)),rfl⟩
   cases hcr with
   |v _ q j=>
    have q:1<=cs.size:=q;have g0:cs[0]? =some cs[0]:=Array.getElem?_eq_getElem (by omega);have v0:=(j 0 _ _ g0 rfl).1;generalize hc0:cs[0]=z0 at v0 g0;cases v0 with
    |fn _ d1 _ hs1 hv1=>
     obtain ⟨p1,p2,p3,rfl,p4,p5,p6,p7,p8⟩:=jN hs1 hv1;have z1':=p4.bh.1;subst z1';refine .t _ _ (.knot (E.κ n) 0 f p1 p2 xa xb (by omega) (by omega) ⟨?_,.inr ⟨n,J,O n (hk n (by simp)),rfl⟩⟩ (fun i x t y L=>?_) fun i x t y L=>?_)
     ·show E.w.cell? _=_
      rw [cell_of_row _ _ _ _ _ _ Z];exact g0
     ·have hi:i<A.length:=by rw [L1];exact (gsZ L).1
      exact (M1 i x _ t (p7 i x _ y (ggZ hi)) (ggZ hi) L).mono (sx fun m D=>by simp [D]) (fun _ _ _=>aC.rfl)
     ·have hi:i<B.length:=by rw [L2];exact (gsZ L).1
      exact (M2 i x _ t (p8 i x _ y (ggZ hi)) (ggZ hi) L).mono (sx fun m D=>by simp [D]) (fun _ _ _=>aC.rfl)
 refine ⟨E.cW G,rfl,h.size,h.base,h.glob,fun m=>?_,fun k m=>?_,fun n b K=>?_,fun n=>rfl,fun n m z D I=>h.inj n m (lv n z) (lv m D) I,fun r g hr=>?_,h.rinj,fun b o q=>?_,h.below,fun b o q=>.inl (h.s0 b o q),fun b o q=>?_,h.obj,hcx _ _ h.cx⟩
 ·show VR _ _ (lk .top s.sl m)
  rcases iZ (d:=V.top) (l:=s.sl) (n:=m) with j|j
  ·rw [j];exact .top _
  ·exact Y (h.sl m) (m1 _ j) (c1 _ j)
 ·show VR _ _ (lk .top (lk [] s.gh k) m)
  rcases iZ (d:=([]:List (Nat×V))) (l:=s.gh) (n:=k) with j|j
  ·rw [j];exact .top _
  ·rcases iZ (d:=V.top) (l:=lk [] s.gh k) (n:=m) with Z|Z
   ·rw [Z];exact .top _
   ·exact Y (h.gh k m) (jX (m3 _ j) _ Z) (c3 _ j _ Z)
 ·obtain ⟨b0,h0,C,F⟩:=old n b K;obtain ⟨g1,g2,ob,g3,gob⟩:=h.bx n b0 h0;have J:G n=true:=by show (s.mk'.bx n).isSome=true;rw [K];rfl
  refine ⟨g1,fun o q=>?_,ob,g3,?_⟩
  ·rcases q with q|⟨m,D,hmd,I⟩
   ·exact g2 o q
   ·have:=h.inj n m (lv n J) D I
    subst this;rw [J] at hmd;cases hmd
  ·cases gob with
   |map W M ag sh es mb D=>
    have base: ∀U,(U=mb\/U=none)->bS (E.cW G) (.map W M) (.m ag sh es U):=fun U hmb=>.map W M ag sh es U ⟨D.size,fun i x e y I=>⟨(D.at_ i x e y I).1.mono (fun b o h=>.inl h) (fun _ _ _=>aC.rfl),(D.at_ i x e y I).2.1.mono (fun b o h=>.inl h) (fun _ _ _=>aC.rfl),(D.at_ i x e y I).2.2⟩,D.lt,D.apart,fun p hp=>by
     rcases hmb with rfl|rfl
     ·exact D.mb p hp
     ·cases hp⟩
    cases C with
    |same=>exact base _ (.inl rfl)
    |m=>exact base _ (.inr rfl)
   |itd k W c ag sh es ix hgk hS hR=>
    cases C with
    |same=>exact bS.itd (E:=E.cW G) k W c ag sh es ix hgk (.inl hS) ⟨hR.size,fun i x e y I=>⟨(hR.at_ i x e y I).1.mono (fun b o h=>.inl h) (fun _ _ _=>aC.rfl),(hR.at_ i x e y I).2.1.mono (fun b o h=>.inl h) (fun _ _ _=>aC.rfl),(hR.at_ i x e y I).2.2⟩,hR.lt,hR.apart,hR.mb⟩
   |it m bs c ix hl=>
    cases C with
    |same=>exact bS.it (E:=E.cW G) m bs c ix (isB m F)
   |cells cs e _ g4=>
   refine .cells cs e _ ?_;cases C with
   |m ag sh es mb=>cases g4
   |same=>
    cases g4 with
    |d n ts hl q j=>exact .d n ts hl q fun i x t y L=>⟨(j i x t y L).1.mono (fun b o h=>.inl h) (fun _ _ _=>aC.rfl),(j i x t y L).2⟩
    |v vs q j=>
     simp only [mZ,List.all_eq_true] at F;exact .v vs q fun i x u y R=>⟨(j i x u y R).1.live isB hrk (F u (List.mem_of_getElem? R)),(j i x u y R).2⟩
   |v us vs hc=>
    obtain ⟨k1,k2⟩:=gm hc;simp only [mZ,List.all_eq_true] at F;cases g4 with
    |v _ q j=>
     refine .v us (by omega) fun i x u y R=>?_
     have Q:i<vs.length:=by rw [<- k1];exact (gsZ R).1
     have:=j i x vs[i] y (ggZ Q)
     exact ⟨Y this.1 (k2 i u _ R (ggZ Q)) (F u (List.mem_of_getElem? R)),this.2⟩
   |dv n us ts hc=>
    obtain ⟨k1,k2⟩:=gm hc;simp only [mZ,List.all_eq_true] at F;cases g4 with
    |d _ _ hl q j=>
     rw [List.length_map] at k1;refine .v us (by omega) fun i x u y R=>?_
     have Q:i<ts.length:=by rw [<- k1];exact (gsZ R).1
     have:=j i x ts[i] y (ggZ Q)
     exact ⟨Y (.t _ _ this.1) (k2 i u _ R (by rw [List.getElem?_map,ggZ Q];rfl)) (F u (List.mem_of_getElem? R)),this.1.one this.2⟩
 ·obtain ⟨k1,k2,k3⟩:=h.rows r g hr;exact ⟨k1,k2,fun n z=>k3 n (lv n z)⟩
 ·rcases q with q|⟨n,z,_,rfl⟩
  ·exact h.lt b o q
  ·exact klt n z
 ·rcases q with q|⟨n,z,_,rfl⟩
  ·exact h.s1 b o q
  ·right;rw [h.live] at z;obtain ⟨b',H⟩:=Option.isSome_iff_exists.1 z
   have:=(h.bx n b' H).old
   rw [h.base] at this;exact this
theorem cq{K:St->Prop}: ∀{is:List DI} {st:St},bp P (is.map DI.bare) st K↔bp P is st K
 |[],_=>Iff.rfl
 |i::is,st=>⟨fun h=>df (i:=i) (fun _=>cq.1) h,fun h=>df (i:=i.bare) (fun _=>cq.2) h⟩
theorem fc{b:List (List Nat)}{K:St->Prop}: ∀{is:List DI} {k:Nat} {acc:Nat->List Nat} {st:St},bR P b acc (eQ k (is.map DI.bare)) st K↔bR P b acc (eQ k is) st K
 |[],_,_,_=>Iff.rfl
 |i::is,k,acc,st=>⟨fun h=>⟨h.1,df (i:=i) (fun _=>fc.1) h.2⟩,fun h=>⟨h.1,df (i:=i.bare) (fun _=>fc.2) h.2⟩⟩
end
section
variable {P:Program}{X:List FuncId}{N:Nat}{w0:World}{S0:aa}{a:Act}{E:Env}{st:St}
theorem mE{a:Code}{d:aQ}: ∃b,cutAt X a d=cond b (.cut d) d:=by
 cases a with
 |region id ops dr=>exact ⟨X.contains (5000000+id),rfl⟩
 |_=>exact ⟨false,rfl⟩
end
section
variable [Glb]{P:Program}{X:List FuncId}{N:Nat}{w0:World}{S0:aa}{a:Act}{E:Env}{st:St}
theorem bg.mono{N:Nat}{w0:World}{S0:aa}{ds:List Deferred}{Q c:aF->St->Prop}(m: ∀e s,Q e s->c e s): ∀{e:Exit} {b:Act} {w':World},bg N w0 S0 ds Q e b w'->bg N w0 S0 ds c e b w':=by
 have key: ∀(d:aF) (b:Act) (w':World),bz N w0 S0 ds (Q d) b w'->bz N w0 S0 ds (c d) b w':=by
  rintro d b w' ⟨j,i,rfl,g,f,k⟩;exact ⟨j,i,rfl,g,f,m _ _ k⟩
 intro e b w' h;cases e with
 |normal=>exact key .normal _ _ h
 |exit id=>exact key (.exit id) _ _ h
 |ret=>exact key .ret _ _ h
 |goto l=>exact h
 |panic n=>exact h
 |outgrown=>exact h
theorem bg.less{ds:List Deferred}{K:aF->St->Prop}: ∀{e:Exit} {b:Act} {w':World},bg N w0 S0 ds (kh K) e b w'->bg N w0 S0 ds K e b w':=by
 have key: ∀(i:aF) (b:Act) (w':World),bz N w0 S0 ds (kh K i) b w'->bz N w0 S0 ds (K i) b w':=by
  rintro i b w' ⟨n,m,rfl,f,d,j|⟨s',k,j⟩⟩
  ·exact ⟨n,m,rfl,f,d,j⟩
  ·obtain ⟨g,p,c⟩:=f.bX k;exact ⟨g,s'.mk',p,c,d,j⟩
 intro e b w' h;cases e with
 |normal=>exact key .normal _ _ h
 |exit id=>exact key (.exit id) _ _ h
 |ret=>exact key .ret _ _ h
 |goto l=>exact h
 |panic q=>exact h
 |outgrown=>exact h
theorem mI{c:Code}{b:Bool}{d:aQ}{a:Act}{E:Env}{st:St}{K:aF->St->Prop}(_:SR N w0 S0 E st a.tmps)(f:wpC P (cond b (.cut d) d) st K)
  (g: ∀K,wpC P d st K->c.wp P (bg N w0 S0 a.defers K) a E.w):c.wp P (bg N w0 S0 a.defers K) a E.w:=by
 cases b with
 |false=>exact g K f
 |true=>
  have f:gU (wpC P d) st K:=f;unfold gU at f;obtain ⟨R,i,j⟩:=f;exact wp_mono (g R i) fun e k w' h=>bg.less (bg.mono j h)
theorem lg(hm:P.follows .mixedOrders=true): ∀{c:Code} {d:aQ} (_:bo P N X c=some d) {a:Act} {E:Env} {st:St} {K:aF->St->Prop} (_:SR N w0 S0 E st a.tmps) (_:wpC P d st K),
  c.wp P (bg N w0 S0 a.defers K) a E.w:=by
 intro c
 induction c with
 |skip=>
  intro d f a E st K h g;cases f;exact wp_skip ⟨E,st,rfl,h,rfl,g⟩
 |ret=>
  intro d f a E st K h g;cases f;exact wp_ret ⟨E,st,rfl,h,rfl,g⟩
 |exit id=>
  intro d f a E st K h g;cases f;exact wp_exit ⟨E,st,rfl,h,rfl,g⟩
 |region id ops draw=>
  intro d f a E st K h g;unfold bo at f;cases hX:X.contains (1000000+id) with
  |true=>
   rw [hX] at f;cases f;exact g w0 S0 E a h
  |false=>
  rw [hX] at f;simp only [cond_false] at f;split at f
  ·rename_i is Q;rw [cond_eq_ite] at f;split at f
   ·rename_i hc;obtain rfl:=(Option.some.inj f).symm;refine mI h (c:=.region id ops draw) g fun K g=>?_
    cases draw with
    |false=>exact pO h Q (fun A w j=>j) (cq.1 g)
    |true=>
     have g:wpC P (.region (is.map DI.bare) (eP is)) st K:=g;have hw':bR P (eP is) (fun _=>[]) (eQ 0 is) st (K .normal):=by
      revert g
      cases eP is with
      |nil=>
       intro g;refine kd ?_
       have: ∀(l:List DI) (k:Nat),(eQ k l).map (·.2)=l:=fun l=>by
        induction l with
        |nil=>exact fun _=>rfl
        |cons i l G=>exact fun k=>congrArg (i:: ·) (G (k+1))
       rw [this];exact cq.1 g
      |cons p r=>exact fun g=>fc.1 g
     exact nC hm h Q (by simpa using hc) (fun A w j=>j) hw'
   ·cases f
  ·cases f
 |seq x y H J=>
  intro d f a E st K h g;unfold bo at f;split at f
  ·rename_i W Y hx hy;obtain rfl:=(Option.some.inj f).symm;obtain ⟨cb,hcb⟩:=mE (X:=X) (a:=x) (d:=.seq W Y);rw [hcb] at g;refine mI h (c:=.seq x y) g fun K g=>?_
   refine wp_seq (wp_mono (H hx h g) ?_);intro e A w' j;cases e with
   |normal=>
    obtain ⟨u,q,rfl,v,D,L⟩:=j;rw [<- D];exact J hy v L
   |exit id=>exact j
   |ret=>exact j
   |goto l=>exact j
   |panic V=>exact j
   |outgrown=>exact j
  ·cases f
 |cond c x y H J=>
  intro d f a E st K h g;unfold bo at f;split at f
  ·rename_i z W Y hz hx hy;cases f;have T:=af h.sl hz;have g:kr z (wpC P W) (wpC P Y) st K:=g;unfold kr at g;split at g
   ·rename_i C;rw [C] at T;exact wp_cond_true T.aT (H hx h g)
   ·rename_i C;rw [C] at T;exact wp_cond_false T.aT (J hy h g)
   ·exact g.elim
  ·cases f
 |block id b G=>
  intro d f a E st K h g;unfold bo at f;split at f
  ·rename_i db C;obtain rfl:=(Option.some.inj f).symm;refine mI h (c:=.block id b) g fun K g=>?_
   refine wp_block (wp_mono (G C h g) ?_);intro e A w' j;cases e with
   |normal=>exact j
   |exit k=>
    have j:bz N w0 S0 a.defers (fun q=>bif Nat.beq k id then K .normal q else K (.exit k) q) A w':=j;show if k=id then _ else _
    by_cases L:k=id
    ·rw [if_pos L];obtain ⟨u,q,Z,e2,e3,M⟩:=j;rw [L,cG] at M;exact ⟨u,q,Z,e2,e3,M⟩
    ·rw [if_neg L];obtain ⟨u,q,Z,e2,e3,M⟩:=j;rw [iI L] at M;exact ⟨u,q,Z,e2,e3,M⟩
   |ret=>exact j
   |goto l=>exact j
   |panic V=>exact j
   |outgrown=>exact j
  ·cases f
 |loop b G=>
  intro d f a E st K h g;unfold bo at f;split at f
  ·rename_i db C;cases f;have g:eK (wpC P db) st K:=g;unfold eK at g;obtain ⟨I,n0,s0,hs0,hi0,round⟩:=g;refine wp_loop_ghost (fun n A w'=>A.defers=a.defers/\ ∃(u:Env) (s:Wk),u.w=w'/\SR N w0 S0 u s.mk' A.tmps/\I n s) n0 ?_ ?_
   ·obtain ⟨u,O,v⟩:=h.bX hs0;exact ⟨rfl,u,s0,O,v,hi0⟩
   ·rintro n a1 w1 ⟨D,E1,s,rfl,v,hi⟩;obtain ⟨R,hR,jV⟩:=round n s hi;refine wp_mono (G C v hR) ?_;intro e A w' j;have j:=bg.mono jV j;rw [D] at j;cases e with
    |normal=>
     obtain ⟨u,q,rfl,S,U,m,s',hlt,F,hi'⟩:=j;obtain ⟨B,O,t⟩:=S.bX F;exact ⟨m,hlt,U,B,s',O,t,hi'⟩
    |exit id=>
     obtain ⟨u,q,rfl,S,U,hq|⟨s',F,hq⟩⟩:=j
     ·exact ⟨u,q,rfl,S,U,hq⟩
     ·obtain ⟨B,O,t⟩:=S.bX F;exact ⟨B,s'.mk',O,t,U,hq⟩
    |ret=>exact j
    |goto l=>exact j
    |panic V=>exact j
    |outgrown=>exact j
  ·cases f
 |label l=>
  intro d f a E st K h g;cases f;exact wp_label ⟨E,st,rfl,h,rfl,g⟩
 |scope b G=>
  intro d f a E st K h g;unfold bo at f;refine wp_scope_straight (wp_mono (G f h g) ?_);intro e A w' j;cases e with
  |normal=>exact j
  |exit id=>exact j
  |ret=>exact j
  |goto l=>exact j
  |panic V=>exact j
  |outgrown=>exact j
 |_=>intro d f;cases f
end
end Go.DL
end
