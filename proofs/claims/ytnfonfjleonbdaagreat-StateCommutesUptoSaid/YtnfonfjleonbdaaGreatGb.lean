/- Joined by program: parts of a data level over the model, of the program's functions over it, and of the statement's proof. -/
import Derived.Test.YtnfonfjleonbdaaGreatGa
import Derived.Lib.ConvBytes
import Derived.Laws.BytesArg
import Derived.Laws.CopyRow
import Derived.Laws.IdiomCopy
import Derived.Laws.MakeOwn
import Derived.Lib.AtoiErrMem
import Derived.Deep.AppendSrc
import Derived.Deep.Upon
import Derived.Laws.NewFold
import Derived.Scope
section
namespace Go.DL
open Go.RowKit
section
variable [Glb]{P:Program}{N:Nat}{w0:World}{S0:aa}{o:Oper}{a:Act}{E:Env}{st:St}
def Sx(E:Env)(c:List Nat):ar:=fun b o=>E.S b o\/ ∃n∈c,E.live n=true/\b=E.κ n
end
section
variable {P:Program}{N:Nat}{w0:World}{S0:aa}{o:Oper}{a:Act}{E:Env}{st:St}
theorem fX{E:Env}{r c:List Nat}(h: ∀n∈r,n∈c): ∀b o,Sx E r b o->Sx E c b o:=by
 rintro b o (d|⟨n,e,f⟩)
 ·exact .inl d
 ·exact .inr ⟨n,h n e,f⟩
end
section
variable [Glb]{P:Program}{N:Nat}{w0:World}{S0:aa}{o:Oper}{a:Act}{E:Env}{st:St}
theorem SR.qX{b:Array Value}(h:SR N w0 S0 E st b)(d:List Nat):bE (Sx E d) E.w:=h.iZ.up (fun _ _ c=>.inl c) (Below.refl _ _)
end
section
variable {P:Program}{N:Nat}{w0:World}{S0:aa}{o:Oper}{a:Act}{E:Env}{st:St}
theorem eG: ∀{l:List T},(∀ t∈l,t.one=true)->l.flatMap T.cells=l
 |[],_=>rfl
 |t::l,h=>by rw [List.flatMap_cons,T.cells_one (h t (by simp)),eG (fun u b=>h u (List.mem_cons_of_mem _ b))];rfl
theorem jx: ∀{vs:List V} {ts:List T},eI vs=some ts->vs.length=ts.length/\ ∀(i:Nat) (v:V) (t:T),vs[i]? =some v->ts[i]? =some t->asT v=some t
 |[],ts,h=>by simp [eI] at h;subst h;exact ⟨rfl,fun i v t b=>by simp at b⟩
 |v::vs,ts,h=>by
  unfold eI at h;split at h
  ·rename_i x xs e d;cases h;obtain ⟨f,g⟩:=jx d;refine ⟨by simp [f],fun i v t b c=>?_⟩;cases i with
   |zero=>simp at b c;subst b;subst c;exact e
   |succ i=>simp at b c;exact g i v t b c
  ·cases h
theorem mg{n:Nat}{b:BX}(y:bG E (E.κ n) b)(z:E.live n=true){ts:List T}(f:(∃ m,b= .d m ts)\/ ∃vs,b= .v vs/\eI vs=some ts){j:List Nat}(B:n∈j)(off:Nat):
  Rep (Sx E j) E.w (.pointer (some ⟨E.κ n,off,none⟩)) (.cptr ts off):=by
 have r:b.isM=false:=by rcases f with ⟨m,rfl⟩|⟨vs,rfl,_⟩ <;> rfl
 obtain ⟨cs,e,D,l⟩:=y.cells r;have key:ts.length<=cs.size/\ ∀(i:Nat) (x:Value) (t:T),cs[i]? =some x->ts[i]? =some t->Rep E.S E.w x t/\t.one=true:=by
  rcases f with ⟨m,rfl⟩|⟨vs,rfl,p⟩
  ·cases l with
   |d _ _ q k C=>exact ⟨by omega,C⟩
  ·cases l with
   |v _ q k=>
    obtain ⟨A,u⟩:=jx p;refine ⟨by omega,fun i x t s f=>?_⟩;have c:i<vs.length:=by rw [A];exact (gsZ f).1
    have g:=ggZ c;obtain ⟨k1,k2⟩:=k i x _ s g
    have:=aB k1 (u i _ t g f)
    exact ⟨this,this.kG k2⟩
 have:=Rep.cptr (S:=Sx E j) (w:=E.w) (E.κ n) 0 off ts (fun i=>cs[i]?.getD undef)
  (fun t f=>by
   obtain ⟨i,hi⟩:=List.mem_iff_getElem?.1 f;have c:i<cs.size:=Nat.lt_of_lt_of_le (gsZ hi).1 key.1;exact (key.2 i cs[i] t (by simp [c]) hi).2)
  (fun i hi=>by
   have c:i<cs.size:=Nat.lt_of_lt_of_le hi key.1;rw [Nat.zero_add,cell_of_row _ _ _ _ _ _ D];exact ⟨by simp [c],.inr ⟨n,B,z,rfl⟩⟩)
  (fun i t f=>by
   have c:i<cs.size:=Nat.lt_of_lt_of_le (gsZ f).1 key.1
   have:=(key.2 i cs[i] t (by simp [c]) f).1
   simp only [c,getElem?_pos,Option.getD_some];exact this.mono (fun b o h=>.inl h) (fun _ _ _=>aC.rfl))
 rwa [Nat.zero_add] at this
theorem ed{bx:Nat->Option BX}(l: ∀n b,bx n=some b->bG E (E.κ n) b){v:Value}{u:V}(h:VR E v u){t:T}{H:List Nat}(c:aX bx u=some (t,H)):Rep (Sx E H) E.w v t:=by
 have up: ∀{v t},Rep E.S E.w v t->Rep (Sx E H) E.w v t:=fun h=>h.mono (fun b o h=>.inl h) (fun _ _ _=>aC.rfl)
 cases h with
 |t v x h=>simp [aX] at c;rw [<- c.1];exact up h
 |own v r e size xs h=>simp [aX] at c;rw [<- c.1];exact up h.rep
 |full a len size xs h=>simp [aX] at c;rw [<- c.1];exact up h
 |ptr n off C=>
  simp only [aX] at c;split at c
  ·rename_i m ts y;simp only [Option.some.injEq,Prod.mk.injEq] at c;obtain ⟨rfl,rfl⟩:=c;exact mg (l n _ y) C (.inl ⟨m,rfl⟩) (by simp) off
  ·rename_i vs y;split at c
   ·rename_i ts F;simp only [Option.some.injEq,Prod.mk.injEq] at c;obtain ⟨rfl,rfl⟩:=c;exact mg (l n _ y) C (.inr ⟨vs,rfl,F⟩) (by simp) off
   ·cases c
  ·cases c
  ·cases c
  ·cases c
  ·cases c
 |mp n C=>
  simp only [aX] at c;split at c
  ·rename_i K L R mb y;simp only [Option.some.injEq,Prod.mk.injEq] at c;obtain ⟨rfl,rfl⟩:=c;obtain ⟨A,s,I,q⟩:=(l n _ y).map;have get: ∀(i:Nat) (x:MapEntry),A[i]? =some x-> ∃e,R[i]? =some e/\Rep E.S E.w x.key e.1/\Rep E.S E.w x.val e.2/\aR K L e.1:=fun i x B=>by
    have f:i<R.length:=by rw [<- q.size];exact (Array.getElem?_eq_some_iff.1 B).1
    exact ⟨_,ggZ f,q.at_ i x _ B (ggZ f)⟩
   refine .mapd (E.κ n) A s K L _ _ (by simp [q.size]) (by simp) ⟨I,.inr ⟨n,by simp,C,rfl⟩⟩ (fun i x t B g=>?_) (fun i x t B g=>?_) (fun k Z=>?_) q.lt q.apart
   ·obtain ⟨e,D,J,_⟩:=get i x B;rw [List.getElem?_map,D] at g;cases g;exact up J
   ·obtain ⟨e,D,_,M,_⟩:=get i x B;rw [List.getElem?_map,D] at g;cases g;exact up M
   ·obtain ⟨e,D,rfl⟩:=List.mem_map.1 Z;obtain ⟨i,hi⟩:=List.mem_iff_getElem?.1 D;have f:i<A.size:=by rw [q.size];exact (gsZ hi).1
    exact (q.at_ i _ e (Array.getElem?_eq_getElem f) hi).2.2
  ·cases c
 |view n off len size cap C cT=>
  simp only [aX] at c;split at c
  ·rename_i m ts y;cases j:(Nat.blt 0 size&&Nat.ble (off+len * size) m) with
   |false=>rw [j] at c;cases c
   |true=>
    rw [j] at c;simp only [cond_true,Option.some.injEq,Prod.mk.injEq] at c;obtain ⟨rfl,rfl⟩:=c;rw [Bool.and_eq_true] at j;have W:off+len * size<=m:=nlZ j.2;have U:0<size:=Nat.lt_of_lt_of_le (Nat.lt_succ_self 0) (nlZ j.1);obtain ⟨cs,e,I,G⟩:=(l n _ y).cells rfl;cases G with
    |d _ _ J M Q=>
     have p: ∀t∈ts.drop off,t.one=true:=fun t g=>by
      have g:=List.mem_of_mem_drop g;obtain ⟨i,hi⟩:=List.mem_iff_getElem?.1 g;have f:i<cs.size:=by have:=(gsZ hi).1;omega
      exact (Q i cs[i] t (by simp [f]) hi).2
     obtain ⟨z,hL,Y⟩:=cX U len (ts.drop off) (by simp;omega) p;have O:((ts.drop off).take (len * size)).length=len * size:=by simp;omega
     refine .slice _ (E.κ n) off len cap size _ (fun i=>cs[off+i]?.getD undef) hL cT Y (by rw [z];exact fun t g=>p t (List.mem_of_mem_take g)) (fun _=>rfl) (fun i hi=>?_) (fun i t g=>?_)
     ·rw [z,O] at hi;have f:off+i<cs.size:=by omega
      rw [cell_of_row _ _ _ _ _ _ I];exact ⟨by simp [f],.inr ⟨n,by simp,C,rfl⟩⟩
     ·rw [z] at g;have hi:i<len * size:=by rw [<- O];exact (gsZ g).1
      have f:off+i<cs.size:=by omega
      rw [aF,if_pos hi] at g
      have:=(Q (off+i) cs[off+i] t (by simp [f]) g).1
      simp only [f,getElem?_pos,Option.getD_some];exact up this
  ·cases c
 |_=>simp [aX] at c
theorem bI{bx:Nat->Option BX}(d: ∀n b,bx n=some b->bG E (E.κ n) b): ∀{us:List V} {ts:List T} {f:List Nat},cO bx us=some (ts,f)->us.length=ts.length/\
  ∀(i:Nat) (v:Value) (u:V) (t:T),VR E v u->us[i]? =some u->ts[i]? =some t->Rep (Sx E f) E.w v t
 |[],ts,f,h=>by simp [cO] at h;obtain ⟨rfl,rfl⟩:=h;exact ⟨rfl,fun i v u t _ c=>by simp at c⟩
 |u::us,ts,f,h=>by
  unfold cO at h;split at h
  ·rename_i x r xs rs m j;simp only [Option.some.injEq,Prod.mk.injEq] at h;obtain ⟨rfl,rfl⟩:=h;obtain ⟨l,p⟩:=bI d j;refine ⟨by simp [l],fun i v q t k c e=>?_⟩;cases i with
   |zero=>
    simp at c e;subst c;subst e;exact (ed d k m).mono (fX fun n g=>by simp [g]) (fun _ _ _=>aC.rfl)
   |succ i=>
    simp at c e;exact (p i v q t k c e).mono (fX fun n g=>by simp [g]) (fun _ _ _=>aC.rfl)
  ·cases h
theorem eM{bx:Nat->Option BX}(e: ∀n b,bx n=some b->bG E (E.κ n) b){v:Value}{u:V}(h:VR E v u){t:T}{k:List Nat}(c:conv bx u=some (t,k)):Rep (Sx E k) E.w v t:=by
 cases u with
 |fn f caps=>
  unfold conv at c;simp only at c;split at c
  ·rename_i ts r g;simp only [Option.some.injEq,Prod.mk.injEq] at c;obtain ⟨rfl,rfl⟩:=c;obtain ⟨m,q⟩:=bI e g;cases h with
   |fn _ cs _ s l=>
    refine .clos f cs ts (by omega) (fun i x t p j=>?_);have d:i<caps.length:=by rw [m];exact (gsZ j).1
    exact q i x _ t (l i x _ p (ggZ d)) (ggZ d) j
  ·cases c
 |_=>exact ed e h c
theorem fO{bx:Nat->Option BX}(d: ∀n b,bx n=some b->bG E (E.κ n) b): ∀{us:List V} {ts:List T} {f:List Nat},bq bx us=some (ts,f)->us.length=ts.length/\
  ∀(i:Nat) (v:Value) (u:V) (t:T),VR E v u->us[i]? =some u->ts[i]? =some t->Rep (Sx E f) E.w v t
 |[],ts,f,h=>by simp [bq] at h;obtain ⟨rfl,rfl⟩:=h;exact ⟨rfl,fun i v u t _ c=>by simp at c⟩
 |u::us,ts,f,h=>by
  unfold bq at h;split at h
  ·rename_i x r xs rs m j;simp only [Option.some.injEq,Prod.mk.injEq] at h;obtain ⟨rfl,rfl⟩:=h;obtain ⟨l,p⟩:=fO d j;refine ⟨by simp [l],fun i v q t k c e=>?_⟩;cases i with
   |zero=>
    simp at c e;subst c;subst e;exact (eM d k m).mono (fX fun n g=>by simp [g]) (fun _ _ _=>aC.rfl)
   |succ i=>
    simp at c e;exact (p i v q t k c e).mono (fX fun n g=>by simp [g]) (fun _ _ _=>aC.rfl)
  ·cases h
end
section
variable [Glb]{P:Program}{N:Nat}{w0:World}{S0:aa}{o:Oper}{a:Act}{E:Env}{st:St}
end
section
variable {P:Program}{N:Nat}{w0:World}{S0:aa}{o:Oper}{a:Act}{E:Env}{st:St}
theorem fz: ∀{xs:List T},jY xs-> ∀(i:Nat) (t:T),xs[i]? =some t-> ∃n,t= .int .u8 n
 |[],_,i,t,h=>by simp at h
 |.int .u8 n::xs,hx,i,t,h=>by
  cases i with
  |zero=>simp at h;exact ⟨n,h.symm⟩
  |succ i=>exact fz (xs:=xs) hx i t (by simpa using h)
theorem oJ{xs:List T}(h:jY xs):xs.flatMap T.cells=xs:=eG fun t b=>by
 obtain ⟨i,hi⟩:=List.mem_iff_getElem?.1 b;obtain ⟨n,rfl⟩:=fz h i t hi;rfl
end
section
variable [Glb]{P:Program}{N:Nat}{w0:World}{S0:aa}{o:Oper}{a:Act}{E:Env}{st:St}
def numOf:T->Int
 |.int _ n=>n
 |_=>0
end
section
variable {P:Program}{N:Nat}{w0:World}{S0:aa}{o:Oper}{a:Act}{E:Env}{st:St}
theorem pE{xs:List T}(h:jY xs):oG xs=strOfNums (xs.map numOf):=by
 unfold oG strOfNums
 congr 1
 rw [List.map_map]
 congr 1
 refine List.map_congr_left fun t b=>?_
 obtain ⟨i,hi⟩:=List.mem_iff_getElem?.1 b;obtain ⟨n,rfl⟩:=fz h i t hi;rfl
end
section
variable [Glb]{P:Program}{N:Nat}{w0:World}{S0:aa}{o:Oper}{a:Act}{E:Env}{st:St}
theorem nH(h:SR N w0 S0 E st a.tmps)(hd:ay N o.dst){s t:TypeId}{X:Operand}(Z:o.op= .convert s t X){x:DOp}(j:ah P o.op=some x):Sound P N w0 S0 o a E st (eff x (st.nm o.dst) st.sl st.bx):=by
 rw [Z] at j;simp only [ah] at j;have I: ∀{v:Value} {w:World},(convert s t (a.eval X)).run P E.w= .ok v w->(execOp a.eval o).run P E.w= .ok (.value v) w:=fun q=>by unfold execOp;simp [Z,q]
 have D: ∀{y:O} {u:T} {J:List Nat},ak X=some y->aX st.bx (ev st.sl y)=some (u,J)->Rep (Sx E J) E.w (a.eval X) u:=fun C H=>ed h.bx (af h.sl C) H
 split at j
 ·rename_i k0 k y z f C;simp only [Option.some.injEq] at j;subst j;have V:=af h.sl C;unfold eff;simp only;split
  ·rename_i k1 n hv;rw [hv] at V;exact ai h hd (v:=.int k (k.wrap n)) (I (by simp [V.aA,convert,run_underlying z,run_underlying f,Conv.intToInt])) (.t _ _ (.int _ _))
  ·trivial
 ·rename_i y z f C;simp only [Option.some.injEq] at j;subst j;unfold eff;simp only;split
  ·rename_i u J H;have q:=D C H;split
   ·rename_i c r B;cases u <;> simp only [lX,reduceCtorEq] at B
    rename_i l;cases B;intro _;have G:=q.bg;exact ai h hd (v:=.string l) (I (by simp [G,convert,run_underlying z,run_underlying f])) (.t _ _ (.str _))
   ·trivial
  ·trivial
 ·rename_i e y z f C;cases d:kY P e with
  |false=>rw [d] at j;cases j
  |true=>
  rw [d] at j;simp only [cond_true,Option.some.injEq] at j;subst j;have p:P.underlying e=some (.int .u8):=by
   unfold kY at d;split at d
   ·assumption
   ·cases d
  unfold eff;simp only;split
  ·rename_i u J H;have q:=D C H;split
   ·rename_i c r B;cases u <;> simp only [lX,reduceCtorEq] at B
    ·rename_i n xs;cases B;intro K;generalize G:a.eval X=v at q;cases q with
     |slice A b off len cap _ _ g m cT hun h1 ha hg W=>
     subst m;rw [oJ K] at ha hg W;have cj: ∀i,i<xs.length->E.w.cell? ⟨b,off+i,none⟩=some (.int .u8 ((xs.map numOf).getD i 0)):=fun i hi=>by
      rw [(hg i hi).1];obtain ⟨n,Y⟩:=fz K i xs[i] (ggZ hi)
      have:=W i xs[i] (ggZ hi)
      rw [Y] at this;rw [this.aA];simp [List.getD,hi,Y,numOf]
     refine ai h hd (v:=.string (oG xs)) (I ?_) (.t _ _ (.str _));rw [G,pE K]
     by_cases L:0<xs.length
     ·rw [ha L];exact run_convert_bytes_arg E.w s e z p b off xs.length cap (xs.map numOf) (by simp) cj t f
     ·have L:xs=[]:=List.eq_nil_of_length_eq_zero (by omega);subst L;cases A with
      |none=>exact run_convert_bytes_nil E.w s e z p _ _ t f
      |some A=>
       rw [run_convert_bytes_string E.w s t e _ _ _ z p f,run_bytesToString E.w A _ _ [] (by simp [loadCells,loadCellsFrom])];rfl
    ·cases B;intro _;generalize G:a.eval X=v at q;cases q;refine ai h hd (v:=.string ByteArray.empty) (I ?_) (.t _ _ (.str _));rw [G];exact run_convert_bytes_nil E.w s e z p _ _ t f
   ·trivial
  ·trivial
 ·rename_i e y z f C;cases d:kY P e with
  |false=>rw [d] at j;cases j
  |true=>
  rw [d] at j;simp only [cond_true,Option.some.injEq] at j;subst j;have p:P.underlying e=some (.int .u8):=by
   unfold kY at d;split at d
   ·assumption
   ·cases d
  unfold eff;simp only;split
  ·rename_i u J H;have q:=D C H;split
   ·rename_i c r B;cases u <;> simp only [lX,reduceCtorEq] at B
    ·rename_i l;cases B;intro _;have G:=q.bg;have aJ:=Lib.run_convert_string_bytes (P:=P) E.w s t e l z f p;have Q:Below E.w.heap.size E.w (Lib.bytesWorld E.w e l):=⟨Lib.bytesWorld_below _ _ _,Nat.le_succ _⟩
     have R:=grownCap_ge E.w l.size 0 e;have h':=h.world Q (fun b o=>E.S b o\/(E.w.heap.size<=b/\b<(Lib.bytesWorld E.w e l).heap.size)) (fun b o=>⟨fun M=>M.elim .inl fun k=>.inr ⟨.inr k,k⟩,fun M=>M.elim .inl fun k=>k.1⟩);have m:(bX l).length=l.size:=by unfold bX;rw [List.length_map,Array.length_toList];rfl
     have U: ∀t∈bX l,t.one=true/\t.cells=[t]:=fun t f=>by
      obtain ⟨_,_,rfl⟩:=List.mem_map.1 f;exact ⟨rfl,rfl⟩
     have F:(bX l).flatMap T.cells=bX l:=eG fun t f=>(U t f).1
     refine ⟨_,_,{E with w:=Lib.bytesWorld E.w e l,S:=fun b o=>E.S b o\/(E.w.heap.size<=b/\b<(Lib.bytesWorld E.w e l).heap.size)},I (by rw [G];exact aJ),.inl rfl,?_⟩;refine h'.cN hd (.t _ _ (.slice _ E.w.heap.size 0 l.size _ 1 _ (fun i=>.int .u8 (l.data.toList.getD i 0).toNat) m R (fun x hx=>by rw [(U x hx).2];rfl) (fun t f=>?_) (fun _=>rfl) (fun i hi=>?_) (fun i t f=>?_)))
     ·rw [F] at f;exact (U t f).1
     ·rw [F,m] at hi;rw [Nat.zero_add];exact ⟨Lib.bytesWorld_cell E.w e l i hi,.inr ⟨Nat.le_refl _,by rw [Lib.bytesWorld_size];omega⟩⟩
     ·rw [F] at f;unfold bX at f;rw [List.getElem?_map,Option.map_eq_some_iff] at f;obtain ⟨b,Q,rfl⟩:=f
      have:l.data.toList.getD i 0=b:=by simp [List.getD,Q]
      rw [this];exact .int _ _
   ·trivial
  ·trivial
 ·cases j
theorem qF(h:SR N w0 S0 E st a.tmps)(hd:ay N o.dst){t e:TypeId}{n:Nat}{X:Operand}{y:O}(z:o.op= .sliceToArrayPointer t X)(q:P.underlying t=some (.array n e))(x:ak X=some y):
  Sound P N w0 S0 o a E st (eff (.arrP n y) (st.nm o.dst) st.sl st.bx):=by
 have i:=af h.sl x;have k: ∀{A:Option Addr} {len cap:Nat},a.eval X= .slice A len cap->n<=len->(execOp a.eval o).run P E.w= .ok (.value (.pointer A)) E.w:=fun c f=>by
  unfold execOp;simp [z,Instr.arrayAt,run_underlying q,c,Nat.not_lt.2 f]
 unfold eff;simp only;split
 ·rename_i b off len sz m;rw [m] at i;obtain ⟨cap,c,_,j⟩:=i.bM;intro f;exact ai h hd (k c f) (.ptr b off j)
 ·split
  ·rename_i sz xs D;have l:=aB i D;rintro ⟨f,u⟩;generalize c:a.eval X=v at l;cases l with
   |slice A b off len cap _ _ g d F C p r B s=>
   subst d;rw [r u] at c;refine ai h hd (k c (by omega)) (.t _ _ ?_)
   have:=Rep.cptr (S:=E.S) (w:=E.w) b off 0 (xs.flatMap T.cells) g p B s
   rwa [Nat.add_zero] at this
  ·trivial
end
section
variable {P:Program}{N:Nat}{w0:World}{S0:aa}{o:Oper}{a:Act}{E:Env}{st:St}
theorem ib(s:ByteArray):(bX s).flatMap T.cells=bX s:=eG fun t b=>by
 obtain ⟨_,_,rfl⟩:=List.mem_map.1 b;rfl
theorem dJ(s:ByteArray):(bX s).length=s.size:=by
 unfold bX;rw [List.length_map,Array.length_toList];rfl
end
section
variable [Glb]{P:Program}{N:Nat}{w0:World}{S0:aa}{o:Oper}{a:Act}{E:Env}{st:St}
structure cC (P:Program) (E:Env) (y:Value) (n:Nat) (ys:List T) (news:List Value):Prop where
 len:news.length=(ys.flatMap T.cells).length
 rep: ∀(i:Nat) (x:Value) (t:T),news[i]? =some x->(ys.flatMap T.cells)[i]? =some t->Rep E.S E.w x t
 uni: ∀x∈ys,x.cells.length=n
 one: ∀t∈ys.flatMap T.cells,t.one=true
 src:(∃ (ad:Addr) (c:Nat),y= .slice (some ad) ys.length c/\ ∀j v,news[j]? =some v->E.w.cell? (ad.add j)=some v)\/(∃ A c,y= .slice A 0 c/\ys=[])\/(∃ s,y= .string s/\ys=bX s/\(n=1\/ys=[])/\news=byteCells s)
end
section
variable {P:Program}{N:Nat}{w0:World}{S0:aa}{o:Oper}{a:Act}{E:Env}{st:St}
theorem cC.dV{y:Value}{n:Nat}{ys:List T}{b:List Value}(h:cC P E y n ys b): ∀v∈b,v.oneCell'=true:=fun v d=>by
 obtain ⟨i,hi⟩:=List.mem_iff_getElem?.1 d;have c:i<(ys.flatMap T.cells).length:=by rw [<- h.len];exact (gsZ hi).1
 exact (h.rep i v _ hi (ggZ c)).one (h.one _ (List.mem_of_getElem? (ggZ c)))
theorem nK{y:Value}{n:Nat}{ys:List T}(h:Rep E.S E.w y (.slice n ys))(u:0<n): ∃e,cC P E y n ys e:=by
 cases h with
 |slice A b off len cap _ _ g d C k m B z p=>
 subst d;have get: ∀j v,((List.range (ys.flatMap T.cells).length).map g)[j]? =some v->j<(ys.flatMap T.cells).length/\g j=v:=fun j v f=>by
  have c:j<(ys.flatMap T.cells).length:=by simpa using (gsZ f).1
  rw [List.getElem?_map,List.getElem?_range c] at f;exact ⟨c,by simpa using f⟩
 refine ⟨(List.range (ys.flatMap T.cells).length).map g,by simp,fun i x t q r=>?_,k,m,?_⟩
 ·obtain ⟨_,rfl⟩:=get i x q;exact p i t r
 ·by_cases l:ys=[]
  ·subst l;exact .inr (.inl ⟨A,cap,rfl,rfl⟩)
  ·have s:0<(ys.flatMap T.cells).length:=by rw [aI k];exact Nat.mul_pos (List.length_pos_iff.2 l) u
   rw [B s];refine .inl ⟨_,cap,rfl,fun j v f=>?_⟩;obtain ⟨c,rfl⟩:=get j v f;rw [bh];exact (z j c).1
end
section
variable [Glb]{P:Program}{N:Nat}{w0:World}{S0:aa}{o:Oper}{a:Act}{E:Env}{st:St}
theorem eT(h:SR N w0 S0 E st a.tmps){y:Value}{u:V}(z:VR E y u){n:Nat}{ys:List T}(p:cU st.bx u=some (.slice n ys))(H:0<n): ∃e,cC P E y n ys e:=by
 have r:asT u=some (.slice n ys)-> ∃e,cC P E y n ys e:=fun hd=>nK (aB z hd) H
 unfold cU at p;split at p
 ·rename_i s;cases p;have M:=z.bg;refine ⟨byteCells s,by rw [ib,dJ,byteCells_length],fun i x t f c=>?_,fun x f=>?_,fun t c=>?_,.inr (.inr ⟨s,M,rfl,.inl rfl,rfl⟩)⟩
  ·rw [ib] at c;unfold byteCells at f;unfold bX at c;rw [List.getElem?_map,Option.map_eq_some_iff] at f c;obtain ⟨b,C,rfl⟩:=f;obtain ⟨Y,q,rfl⟩:=c;rw [C] at q;cases q;exact .int _ _
  ·obtain ⟨_,_,rfl⟩:=List.mem_map.1 f;rfl
  ·rw [ib] at c;obtain ⟨_,_,rfl⟩:=List.mem_map.1 c;rfl
 ·rename_i k off len size;split at p
  ·rename_i t S g;cases p;simp only [aX] at g;split at g
   ·rename_i m ts C;cases w:(Nat.blt 0 size&&Nat.ble (off+len * size) m) with
    |false=>rw [w] at g;cases g
    |true=>
    rw [w] at g;simp only [cond_true,Option.some.injEq,Prod.mk.injEq,T.slice.injEq] at g;obtain ⟨⟨rfl,rfl⟩, -⟩:=g;rw [Bool.and_eq_true] at w;have I:=nlZ w.2;obtain ⟨cap,O,U,J⟩:=z.bM;obtain ⟨cs,R,Q,B⟩:=(h.bx k _ C).cells rfl;cases B with
    |d _ _ W L A=>
    obtain ⟨k1,k2,K⟩:=cX H len (ts.drop off) (by rw [List.length_drop];omega) (fun t c=>by
     obtain ⟨i,hi⟩:=List.mem_iff_getElem?.1 (List.mem_of_mem_drop c);have l:i<cs.size:=by have:=(gsZ hi).1;omega
     exact (A i cs[i] t (Array.getElem?_eq_getElem l) hi).2)
    have G:((ts.drop off).take (len * size)).length=len * size:=by rw [List.length_take,List.length_drop];omega
    have key: ∀(i:Nat) (t:T),((ts.drop off).take (len * size))[i]? =some t->i<len * size/\ts[off+i]? =some t:=fun i t c=>by
     have hi:i<len * size:=by rw [<- G];exact (gsZ c).1
     rw [aF,if_pos hi] at c;exact ⟨hi,c⟩
    refine ⟨(cs.toList.drop off).take (len * size),?_,fun i x t f c=>?_,K,fun t c=>?_,?_⟩
    ·rw [k1,G,List.length_take,List.length_drop,Array.length_toList];omega
    ·rw [k1] at c;obtain ⟨hi,c⟩:=key i t c;rw [aF,if_pos hi] at f;exact (A (off+i) x t (by simpa using f) c).1
    ·rw [k1] at c;obtain ⟨i,hi⟩:=List.mem_iff_getElem?.1 c;obtain ⟨hi,c⟩:=key i t hi;have l:off+i<cs.size:=by omega
     exact (A (off+i) cs[off+i] t (Array.getElem?_eq_getElem l) c).2
    ·refine .inl ⟨_,cap,by rw [k2];exact O,fun j v F=>?_⟩;have D:j<len * size:=by
      have:=(gsZ F).1
      rw [List.length_take] at this;omega
     rw [aF,if_pos D] at F;rw [bh,cell_of_row _ _ _ _ _ _ Q];simpa using F
   ·cases g
  ·cases p
 ·exact r p
end
section
variable {P:Program}{N:Nat}{w0:World}{S0:aa}{o:Oper}{a:Act}{E:Env}{st:St}
theorem qP{u:V}{t:T}(b:cU st.bx u=some t)(h: ∀n ys,t≠ .slice n ys):asT u=some t:=by
 unfold cU at b;split at b
 ·cases b;exact absurd rfl (h _ _)
 ·split at b
  ·rename_i e d c;cases b;simp only [aX] at c;split at c
   ·simp only [cond_eq_ite] at c;split at c
    ·cases c;exact absurd rfl (h _ _)
    ·cases c
   ·cases c
  ·cases b
 ·exact b
end
section
variable [Glb]{P:Program}{N:Nat}{w0:World}{S0:aa}{o:Oper}{a:Act}{E:Env}{st:St}
theorem jR(_:SR N w0 S0 E st a.tmps){y:Value}{u:V}(d:VR E y u)(e:cU st.bx u=some .nil){n:Nat}: ∃b,cC P E y n [] b:=by
 have g:=aB d (qP e (fun _ _=>by simp));cases g;exact ⟨[],rfl,fun i x t c=>by simp at c,fun x c=>by simp at c,fun t f=>by simp at f,.inr (.inl ⟨none,0,rfl,rfl⟩)⟩
theorem kM(_:SR N w0 S0 E st a.tmps){y:Value}{u:V}(j:VR E y u){k:Nat}(d:cU st.bx u=some (.slice k [])){n:Nat}: ∃b,cC P E y n [] b:=by
 have g:(∃ A c,y= .slice A 0 c)-> ∃b,cC P E y n [] b:=fun ⟨A,c,w⟩=>⟨[],rfl,fun i x t f=>by simp at f,fun x f=>by simp at f,fun t l=>by simp at l,.inr (.inl ⟨A,c,w,rfl⟩)⟩
 unfold cU at d;split at d
 ·rename_i s;simp only [Option.some.injEq,T.slice.injEq] at d;have p:=dJ s;rw [d.2] at p;have v:byteCells s=[]:=List.eq_nil_of_length_eq_zero (by rw [byteCells_length, <-p];rfl);exact ⟨[],rfl,fun i x t f=>by simp at f,fun x f=>by simp at f,fun t l=>by simp at l,.inr (.inr ⟨s,j.bg,d.2.symm,.inr rfl,v.symm⟩)⟩
 ·rename_i z q h r;split at d
  ·rename_i t B e;cases d;obtain ⟨cap,m,_⟩:=j.bM;simp only [aX] at e;split at e
   ·simp only [cond_eq_ite] at e;split at e
    ·simp only [Option.some.injEq,Prod.mk.injEq,T.slice.injEq] at e;cases h with
     |zero=>exact g ⟨_,_,m⟩
     |succ k=>exact absurd e.1.2 (by simp [chunk])
    ·cases e
   ·cases e
  ·cases d
 ·obtain ⟨A,cap,m,_⟩:=dX (aB j d);exact g ⟨A,cap,m⟩
end
section
variable {P:Program}{N:Nat}{w0:World}{S0:aa}{o:Oper}{a:Act}{E:Env}{st:St}
theorem cC.oD{y:Value}{n:Nat}{ys:List T}{b:List Value}(h:cC P E y n ys b){u:TypeId}(g:(∃ m,P.underlying u=some (.slice m))\/P.underlying u=some .string):Src P n u y ys.length b E.w:=by
 have d:b.length=ys.length * n:=by rw [h.len,aI h.uni]
 rcases h.src with ⟨i,c,rfl,k⟩|⟨A,c,rfl,rfl⟩|⟨s,rfl,rfl,j,rfl⟩
 ·exact ⟨g,fun _=>rfl,run_firstCells_some E.w n ys.length i ys.length c b d k,run_firstCells_some E.w.drew n ys.length i ys.length c b d (by simpa using k),d,h.dV⟩
 ·have f:b=[]:=List.eq_nil_of_length_eq_zero (by simpa using d);subst f;refine ⟨g,fun _=>rfl,?_,?_,d,h.dV⟩ <;> cases A with
   |none=>simp [Builtin.firstCells]
   |some i=>simp [Builtin.firstCells,loadCells,loadCellsFrom]
 ·have e:=dJ s;rcases j with rfl|f
  ·rw [e];exact ⟨g,fun _=>rfl,firstCells_string s E.w,firstCells_string s E.w.drew,by rw [byteCells_length,Nat.mul_one],h.dV⟩
  ·rw [f] at e d;have p:byteCells s=[]:=List.eq_nil_of_length_eq_zero (by simpa using d);have q:s.size=0:=by simpa using e.symm
   rw [f,p];refine ⟨g,fun w'=>?_,?_,?_,by simp,fun _ l=>by cases l⟩
   ·show Sem.run P (pure s.size) w'=_
    rw [q];rfl
   ·simp [Builtin.firstCells]
   ·simp [Builtin.firstCells]
theorem mY{y:Value}{ys:List T}{b:List Value}(h:cC P E y 1 ys b){r sT ty e:TypeId}{i:TypeInfo}(C:P.underlying r=some (.slice e))(hi:P.info? e=some i)(z:i.size=1){g off len cap:Nat}{cs:Array Value}{u:TypeId}
  (H:E.w.heap[g]? =some (.cells cs u (0,0))) (B:off+len<=cs.size):
  (Builtin.copy_ #[r,sT] ty #[.slice (some ⟨g,off,none⟩) len cap,y]).run P E.w= .ok (goInt (Nat.min ys.length len)) (E.w.setRow g (cs.toList.take off++b.take (Nat.min ys.length len)++cs.toList.drop (off+(b.take (Nat.min ys.length len)).length)).toArray):=by
 have I:b.length=ys.length:=by rw [h.len,aI h.uni,Nat.mul_one]
 generalize q:Nat.min ys.length len=k;have l:k<=ys.length:=by rw [<- q];exact Nat.min_le_left _ _
 have G:k<=len:=by rw [<- q];exact Nat.min_le_right _ _
 have f:(b.take k).length=k:=by rw [List.length_take];omega
 have m:(Builtin.lenOf y).run P E.w= .ok ys.length E.w:=by
  rcases h.src with ⟨p,c,rfl,t⟩|⟨A,c,rfl,rfl⟩|⟨s,rfl,rfl,_,rfl⟩
  ·rfl
  ·rfl
  ·rw [dJ];rfl
 have F:(Builtin.firstCells 1 k y).run P E.w= .ok (b.take k).toArray E.w:=by
  rcases h.src with ⟨p,c,rfl,t⟩|⟨A,c,rfl,rfl⟩|⟨s,rfl,rfl,_,rfl⟩
  ·have:=run_loadCells_list (P:=P) E.w p (b.take k) (fun j v n=>t j v (by
    rw [List.getElem?_take] at n;split at n
    ·exact n
    ·cases n))
   rw [f] at this;simp [Builtin.firstCells,this]
  ·have D:k=0:=by simpa using l
   subst D;cases A with
   |none=>simp [Builtin.firstCells]
   |some p=>simp [Builtin.firstCells,loadCells,loadCellsFrom]
  ·simp only [Builtin.firstCells,Sem.run_pure]
   congr 1
   apply Array.ext'
   rw [dJ] at l;simp [byteCells]
 have d:=run_storeCells_at (P:=P) g off u (b.take k) 0 cs E.w H (by rw [f];omega) (fun v x=>h.dV v (List.mem_of_mem_take x));simp only [Nat.add_zero] at d;simp only [Builtin.copy_,Sem.run_bind,run_underlying C,Result.andThen_ok,m,run_sizeOf hi,z,q,F,d,Sem.run_pure,List.getElem?_toArray,List.getElem?_cons_zero,List.getElem?_cons_succ]
end
section
variable [Glb]{P:Program}{N:Nat}{w0:World}{S0:aa}{o:Oper}{a:Act}{E:Env}{st:St}
theorem qG(h:SR N w0 S0 E st a.tmps)(hd:ay N o.dst){X Y:Operand}{t L e:TypeId}{i:TypeInfo}{x y:O}(V:o.op= .call {callee:=.builtin .copy,args:= #[X,Y],argTypes:= #[t,L]})(hx:ak X=some x)(hy:ak Y=some y)
  (M:P.underlying t=some (.slice e)) (hi:P.info? e=some i) (h1:i.size=1):Sound P N w0 S0 o a E st (eff (.copy x y) (st.nm o.dst) st.sl st.bx):=by
 have B:=af h.sl hx;have F:=af h.sl hy;unfold eff;simp only;split
 ·rename_i b off len sz Z;rw [Z] at B;obtain ⟨cap,W,_,hlv⟩:=B.bM;split
  ·rename_i m ts n ys J r;cases s:(Nat.beq sz 1&&Nat.beq n 1) with
   |false=>trivial
   |true=>
   rw [Bool.and_eq_true] at s;have hn:=Nat.eq_of_beq_eq_true s.2;subst hn;rintro ⟨H,fQ⟩;obtain ⟨c,l⟩:=eT (P:=P) (y:=a.eval Y) h F r (by omega);obtain ⟨cs,e',hg,I⟩:=(h.bx b _ J).cells rfl;cases I with
   |d _ _ hl hsz Q=>
   have p:=mY (ty:=o.type) (sT:=L) (cap:=cap) l M hi h1 hg (show off+len<=cs.size by omega);have hlN:c.length=ys.length:=by rw [l.len,aI l.uni,Nat.mul_one]
   have K:ys.flatMap T.cells=ys:=eG fun t ht=>List.all_eq_true.1 fQ t ht
   generalize S:Nat.min ys.length len=k at p ⊢;have hk1:k<=ys.length:=by rw [<- S];exact Nat.min_le_left _ _
   have hk2:k<=len:=by rw [<- S];exact Nat.min_le_right _ _
   have z:(c.take k).length=k:=by rw [List.length_take];omega
   have A:(ys.take k).length=k:=by rw [List.length_take];omega
   have C:(execOp a.eval o).run P E.w= .ok (.value (goInt k)) (E.w.setRow (E.κ b) (cs.toList.take off++c.take k++cs.toList.drop (off+(c.take k).length)).toArray):=by
    refine aD V ?_;have u:=p;rw [<- W] at u;simp [builtin,u]
   refine ⟨_,_,{E with w:=E.w.setRow (E.κ b) (cs.toList.take off++c.take k++cs.toList.drop (off+(c.take k).length)).toArray },C,.inl rfl,?_⟩;rw [gd];refine (h.write J rfl _ _ fun E' g=>?_).cN hd (.t _ _ (.int _ _));refine .d m _ (by rw [bN _ _ _ _ A (by omega)];exact hl) (by simp;omega) (fun j v w f q=>?_);rw [List.getElem?_toArray,bz _ _ _ (by simp;omega)] at f;rw [bD _ _ _ _ A (by omega)] at q
   by_cases U:j<off
   ·rw [if_pos U] at f q
    have:=Q j v w (by simpa using f) q
    exact ⟨g.rep this.1,this.2⟩
   ·rw [if_neg U] at f q
    by_cases G:j<off+k
    ·rw [if_pos (by rw [z];exact G)] at f;rw [if_pos G] at q;rw [List.getElem?_take,if_pos (by omega)] at f q;have D:(ys.flatMap T.cells)[j - off]? =some w:=by rw [K];exact q
     exact ⟨g.rep (l.rep _ v w f D),l.one w (List.mem_of_getElem? D)⟩
    ·rw [if_neg (by rw [z];exact G)] at f;rw [if_neg G] at q
     have:=Q j v w (by simpa using f) q
     exact ⟨g.rep this.1,this.2⟩
  ·rename_i m ts J r;intro H;have hY:a.eval Y= .slice none 0 0:=by
    have:asT (ev st.sl y)=some .nil:=by
     unfold cU at r;split at r
     ·cases r
     ·split at r
      ·rename_i t rd s;cases r;simp only [aX] at s;split at s
       ·simp only [cond_eq_ite] at s;split at s <;> cases s
       ·cases s
      ·cases r
     ·exact r
    have R:=aB F this;generalize a.eval Y=v at R;cases R;rfl
   have p:=run_copy_nil (P:=P) E.w t L o.type e ⟨E.κ b,off,none⟩ len cap M (by rw [hi];rfl);refine ai h hd (aD V ?_) (.t _ _ (.int _ _));rw [<- W, <-hY] at p;simp [builtin,p];rfl
  ·trivial
 ·trivial
theorem nJ(h:SR N w0 S0 E st a.tmps)(hd:ay N o.dst){t e:TypeId}{L C:Operand}{l c:O}{j:TypeInfo}{u:List T}(Y:o.op= .makeSlice t L C)(R:ak L=some l)(S:ak C=some c)(G:P.underlying t=some (.slice e))(B:P.info? e=some j)(U:cq P e=some u)(aH:0<j.size):
  Sound P N w0 S0 o a E st (eff (.mkslice j.size j.bytes u l c) (st.nm o.dst) st.sl st.bx):=by
 have b:=af h.sl R;have p:=af h.sl S;obtain ⟨i,z,hi,s,D,J,H,_⟩:=dm U;rw [B] at hi;cases hi;unfold eff;cases v:o.dst with
 |none=>trivial
 |some d=>
  rw [v] at hd;simp only [St.nm];split
  ·rename_i k1 n k2 k V r Z;rw [r] at b;rw [Z] at p;rintro ⟨F,rfl,K,W⟩;have y:=run_make (P:=P) E.w t e j z G B s k1 k2 n n F (Int.le_refl _) K W;rw [<- b.aA, <-p.aA] at y;show Did P N w0 S0 o a E (st.app o.dst _)
   rw [v];refine ⟨.value (.slice (some ⟨E.w.heap.size,0,none⟩) n.toNat n.toNat),_,{E with w:=E.w.alloc (.cells (madeCells z.cells (n.toNat * j.size)) e),κ:=upd E.κ (d+st.off) E.w.heap.size,live:=upd E.live (d+st.off) true },?_,.inl rfl,?_⟩
   ·unfold execOp;simp [Y,y]
   ·rw [v];refine h.jX V _ _ (fun Q g=>.cells _ e _ ?_) _ _ (fun Q M r=>by rw [<- M];exact .view _ _ _ _ _ r (Nat.le_refl _)) hd;have f:(List.replicate n.toNat u).flatten.length=n.toNat * j.size:=by simp [D]
    refine .d _ _ f (by rw [size_madeCells];exact Nat.le_refl _) (fun i x t A q=>?_);have hi:i<n.toNat * j.size:=by rw [<- f];exact (gsZ q).1
    rw [eu (by omega) _ _ (by rw [<- D];exact hi)] at q;have I:i % z.cells.size<z.cells.size:=Nat.mod_lt _ (by omega);have m:z.cells[i % z.cells.size]? =some x:=by
     have:(madeCells z.cells (n.toNat * j.size))[i]? =some (z.cells[i % z.cells.size]!):=by simp [madeCells,hi]
     rw [this] at A;rw [<- A];simp [I]
    rw [J] at m;exact H _ _ _ _ _ m q
  ·trivial
end
section
variable {P:Program}{N:Nat}{w0:World}{S0:aa}{o:Oper}{a:Act}{E:Env}{st:St}
theorem qA{S:ar}{w:World}{A:Option Addr}{len cap n:Nat}{xs:List T}(h:Rep S w (.slice A len cap) (.slice n xs)):Rep S w (.slice A len len) (.slice n xs):=by
 cases h with
 |slice _ b off _ _ _ _ g c k f d j e i=>exact .slice A b off _ _ _ _ g c (Nat.le_refl _) f d j e i
theorem pY{t e:TypeId}(c:P.underlying t=some (.pointer e))(n:Nat)(w:World)(b:Addr):(Op.equalIn (n+1) t (.pointer (some b)) (.pointer none)).run P w= .ok false w:=by simp [Op.equalIn,run_underlying c]
theorem oO{t e:TypeId}(b:P.underlying t=some (.pointer e))(n:Nat)(w:World):(Op.equalIn (n+1) t (.pointer none) (.pointer none)).run P w= .ok true w:=by simp [Op.equalIn,run_underlying b]
theorem rB{t e:TypeId}(d:P.underlying t=some (.slice e))(n:Nat)(w:World)(b:Addr)(l c:Nat):(Op.equalIn (n+1) t (.slice (some b) l c) (.slice none 0 0)).run P w= .ok false w:=by simp [Op.equalIn,run_underlying d]
theorem pZ{t e:TypeId}(b:P.underlying t=some (.slice e))(n:Nat)(w:World):(Op.equalIn (n+1) t (.slice none 0 0) (.slice none 0 0)).run P w= .ok true w:=by simp [Op.equalIn,run_underlying b]
theorem rA{t k e:TypeId}(b:P.underlying t=some (.map k e))(n:Nat)(w:World)(g:Nat):(Op.equalIn (n+1) t (.map (some g)) (.map none)).run P w= .ok false w:=by simp [Op.equalIn,run_underlying b]
theorem pX{t k e:TypeId}(b:P.underlying t=some (.map k e))(n:Nat)(w:World):(Op.equalIn (n+1) t (.map none) (.map none)).run P w= .ok true w:=by simp [Op.equalIn,run_underlying b]
theorem rz{t:TypeId}{a b c}(d:P.underlying t=some (.func a b c))(n:Nat)(w:World)(f:Fn)(x y:Array Value):(Op.equalIn (n+1) t (.func f x y) .nilFunc).run P w= .ok false w:=by simp [Op.equalIn,run_underlying d]
theorem pW{t:TypeId}{a b c}(d:P.underlying t=some (.func a b c))(n:Nat)(w:World):(Op.equalIn (n+1) t .nilFunc .nilFunc).run P w= .ok true w:=by simp [Op.equalIn,run_underlying d]
end
section
variable [Glb]{P:Program}{N:Nat}{w0:World}{S0:aa}{o:Oper}{a:Act}{E:Env}{st:St}
theorem oC(h:SR N w0 S0 E st a.tmps)(hd:ay N o.dst){t:TypeId}{X:Operand}{lo hi:Option Operand}{mx:Operand}(F:o.op= .slice t X lo hi (some mx)){x:DOp}(c:ah P o.op=some x):Sound P N w0 S0 o a E st (eff x (st.nm o.dst) st.sl st.bx):=by
 rw [F] at c;cases lo with
 |some lo=>simp [ah] at c
 |none=>
 cases hi with
 |none=>simp [ah] at c
 |some hi=>
 simp only [ah] at c;split at c
 ·rename_i e y J Z I O l H;split at c
  ·rename_i j R;simp only [cond_eq_ite] at c;split at c
   ·rename_i B;cases c;have z:=af h.sl O;have k:=af h.sl l;have n:=af h.sl H;unfold eff;simp only;split
    ·rename_i k1 b k2 Q G K;rw [G] at k;rw [K] at n;have m: ∀{A:Option Addr} {len cap:Nat},a.eval X= .slice A len cap->0<=b->b=Q->b<=cap->(execOp a.eval o).run P E.w= .ok (.value (.slice (if b.toNat=0 then A else A.map (·.add (0 * j.size))) b.toNat b.toNat)) E.w:=fun p k1 k2 M=>by
      subst k2;have V:((b.toNat:Nat):Int)=b:=Int.toNat_of_nonneg k1;have U:b<=((b.toNat:Nat):Int):=by omega
      unfold execOp;simp [F,k.aA,n.aA,p,Instr.sliceAt,Instr.slice,run_underlying I,Instr.sliceBounds,Instr.sliceBound,asIntOf,k1,M,run_sizeOf R];intro hc;omega
     split
     ·rename_i sz xs u;have g:=aB z u;cases L:Nat.beq j.size sz with
      |false=>trivial
      |true=>
      have T:j.size=sz:=Nat.eq_of_beq_eq_true L;subst T;have B:0<j.size:=Nat.lt_of_lt_of_le (Nat.lt_succ_self 0) (nlZ B);rintro ⟨C,D,W⟩;generalize p:a.eval X=v at g;have S:=g;obtain ⟨A,cap,rfl,Y⟩:=dX g;have d:=m p C D (by omega)
      by_cases q:b.toNat=0
      ·rw [if_pos q,q] at d;rw [q,List.take_zero];exact ai h hd d (.full A 0 j.size [] (.slice A 0 0 0 0 j.size [] (fun _=>undef) rfl (Nat.le_refl _) (fun x s=>by simp at s) (fun t f=>by simp at f) (fun l=>by simp at l) (fun i hi=>by simp at hi) (fun i t f=>by simp at f)))
      ·rw [if_neg q] at d;have r:=il g 0 b.toNat (Nat.zero_le _) (by omega);rw [if_neg (by omega)] at r;simp only [Nat.sub_zero,List.drop_zero] at r;refine ai h hd d (.full _ _ _ _ ?_);exact qA r
     ·rename_i u;have g:=aB z u;rintro ⟨C,D⟩;have p:a.eval X= .slice none 0 0:=by
       generalize a.eval X=v at g;cases g;rfl
      have d:=m p (by omega) (by omega) (by omega);rw [if_pos (by omega)] at d;have e0:b.toNat=0:=by omega
      rw [e0] at d;clear e0;exact ai h hd d (.full none 0 j.size [] (.slice none 0 0 0 0 j.size [] (fun _=>undef) rfl (Nat.le_refl _) (fun x s=>by simp at s) (fun t f=>by simp at f) (fun l=>by simp at l) (fun i hi=>by simp at hi) (fun i t f=>by simp at f)))
     ·trivial
    ·trivial
   ·cases c
  ·cases c
 ·cases c
theorem rI(h:SR N w0 S0 E st a.tmps)(hd:ay N o.dst){t:TypeId}{X:Operand}{y:O}(c:o.op= .unOp .xor t X)(e:ak X=some y):Sound P N w0 S0 o a E st (eff (.cpl y) (st.nm o.dst) st.sl st.bx):=by
 have b:=af h.sl e;unfold eff;simp only;split
 ·rename_i k n d;rw [d] at b;exact ai h hd (v:=.int k (iV .xor k (if k.signed then -1 else k.max) n)) (by unfold execOp;simp [c,b.aA,Op.unary];rfl) (.t _ _ (.int _ _))
 ·trivial
theorem py(h:SR N w0 S0 E st a.tmps)(hd:ay N o.dst){i:BinOp}{t ty:TypeId}{X Y:Operand}{x y:O}(m:i= .eql\/i= .neq)(ho:o.op= .binOp i t X Y ty)(hx:ak X=some x)(hy:ak Y=some y)
  {k:Nat} (D:ku P t y=some k):Sound P N w0 S0 o a E st (eff (.isnil k (aL i) x) (st.nm o.dst) st.sl st.bx):=by
 have l:=af h.sl hx;have C:=af h.sl hy;have p: ∀{z q:Value} {b:Bool},a.eval X=z->a.eval Y=q->(binOp i t z q).run P E.w= .ok (.bool (cond (aL i) (!b) b)) E.w->eqGuard i t X Y z q=pure ()->
   Did P N w0 S0 o a E (st.app o.dst {val:=.t (.bool (cond (aL i) (!b) b))}):=fun {z q b} J K hb Z=>by
  refine ai h hd (v:=.bool (cond (aL i) (!b) b)) ?_ (.t _ _ (.bool _));unfold execOp;simp [ho,J,K,Z,hb]
 have d: ∀{z q:Value} {b:Bool},(binOp .eql t z q=do pure (.bool (<- Op.equal t z q)))->(binOp .neq t z q=do pure (.bool (!(<- Op.equal t z q))))->(Op.equal t z q).run P E.w= .ok b E.w->(binOp i t z q).run P E.w= .ok (.bool (cond (aL i) (!b) b)) E.w:=fun {z q b} h0 J K=>by
  rcases m with rfl|rfl
  ·rw [h0];simp [K,aL]
  ·rw [J];simp [K,aL]
 have F: ∀{r:cr},r= .no->Sound P N w0 S0 o a E st r:=fun j=>by rw [j];trivial
 have e0:cond (aL i) (!false) false=aL i:=by cases aL i <;> rfl
 have L:cond (aL i) (!true) true= !aL i:=by cases aL i <;> rfl
 unfold ku at D;split at D
 ·
  rename_i U s;cases D;have B:a.eval Y= .pointer none:=by
   have:=C.ax
   generalize a.eval Y=v at this;cases this;rfl
  have ne: ∀{G:Addr},a.eval X= .pointer (some G)->Did P N w0 S0 o a E (st.app o.dst {val:=.t (.bool (aL i))}):=fun {G} e=>by
   rw [<- e0];refine p e B ?_ (by unfold eqGuard;rcases m with rfl|rfl <;> rfl);exact d rfl rfl (pY s 9999 _ _)
  have nil:a.eval X= .pointer none->Did P N w0 S0 o a E (st.app o.dst {val:=.t (.bool (!aL i))}):=fun e=>by
   rw [<- L];refine p e B ?_ (by unfold eqGuard;rcases m with rfl|rfl <;> rfl);exact d rfl rfl (oO s 9999 _)
  cases c:ev st.sl x with
  |ptr b off=>
   rw [c] at l;simp only [eff,c];exact ne l.bd.1
  |t u=>
   rw [c] at l;have j:=l.ax;cases u with
   |cptr cs off=>
    simp only [eff,c];generalize e:a.eval X=v at j;cases j;exact ne e
   |glob g off=>
    simp only [eff,c];generalize e:a.eval X=v at j;cases j;exact ne e
   |nilptr=>
    simp only [eff,c];generalize e:a.eval X=v at j;cases j;exact nil e
   |_=>exact F (by simp only [eff,c])
  |_=>exact F (by simp only [eff,c])
 ·
  rename_i U s;cases D;have B:a.eval Y= .slice none 0 0:=by
   have:=C.ax
   generalize a.eval Y=v at this;cases this;rfl
  have ne: ∀{G:Addr} {len cap:Nat},a.eval X= .slice (some G) len cap->Did P N w0 S0 o a E (st.app o.dst {val:=.t (.bool (aL i))}):=fun {G len cap} e=>by
   rw [<- e0];refine p e B ?_ (by unfold eqGuard;rcases m with rfl|rfl <;> rfl);exact d rfl rfl (rB s 9999 _ _ _ _)
  have I: ∀{v:V} {n:Nat} {xs:List T},VR E (a.eval X) v->asT v=some (.slice n xs)->0<(xs.flatMap T.cells).length->Did P N w0 S0 o a E (st.app o.dst {val:=.t (.bool (aL i))}):=fun c Q M=>by
   have j:=aB c Q;generalize e:a.eval X=v at j;cases j with
   |slice A b off len cap _ _ g S hc s J hA Z aq=>
   rw [hA M] at e;exact ne e
  have H: ∀{v:V},VR E (a.eval X) v->Sound P N w0 S0 o a E st (match asT v with
   |some (.slice _ xs)=>.need (0<(xs.flatMap T.cells).length) {val:=.t (.bool (aL i))}
   |_=>.no):=fun {v} c=>by
   split
   ·rename_i n xs Q;intro M;exact I c Q M
   ·trivial
  cases c:ev st.sl x with
  |view b off len sz=>
   rw [c] at l;simp only [eff,c];obtain ⟨cap,e,_⟩:=l.bM;exact ne e
  |t u=>
   rw [c] at l;cases u with
   |nil=>
    simp only [eff,c];have j:=l.ax;generalize e:a.eval X=v at j;cases j;show Did P N w0 S0 o a E (st.app o.dst {val:=.t (.bool (!aL i))})
    rw [<- L];refine p e B ?_ (by unfold eqGuard;rcases m with rfl|rfl <;> rfl);exact d rfl rfl (pZ s 9999 _)
   |_=>simp only [eff,c];exact H l
  |_=>rw [c] at l;simp only [eff,c];exact H l
 ·
  rename_i kt U s;cases D;have B:a.eval Y= .map none:=by
   have:=C.ax
   generalize a.eval Y=v at this;cases this;rfl
  have ne: ∀{g:Nat},a.eval X= .map (some g)->Did P N w0 S0 o a E (st.app o.dst {val:=.t (.bool (aL i))}):=fun {g} e=>by
   rw [<- e0];refine p e B ?_ (by unfold eqGuard;rcases m with rfl|rfl <;> rfl);exact d rfl rfl (rA s 9999 _ _)
  cases c:ev st.sl x with
  |mp b=>
   rw [c] at l;simp only [eff,c];exact ne l.eH.1
  |t u=>
   rw [c] at l;have j:=l.ax;cases u with
   |mapd ag sh ks vs=>
    simp only [eff,c];generalize e:a.eval X=v at j;cases j;exact ne e
   |nilmap=>
    simp only [eff,c];generalize e:a.eval X=v at j;cases j;show Did P N w0 S0 o a E (st.app o.dst {val:=.t (.bool (!aL i))})
    rw [<- L];refine p e B ?_ (by unfold eqGuard;rcases m with rfl|rfl <;> rfl);exact d rfl rfl (pX s 9999 _)
   |_=>exact F (by simp only [eff,c])
  |_=>exact F (by simp only [eff,c])
 ·
  rename_i p1 p2 p3 s;cases D;have B:a.eval Y= .nilFunc:=by
   have:=C.ax
   generalize a.eval Y=v at this;cases this;rfl
  have ne: ∀{f:Fn} {W R:Array Value},a.eval X= .func f W R->Did P N w0 S0 o a E (st.app o.dst {val:=.t (.bool (aL i))}):=fun {f W R} e=>by
   rw [<- e0];refine p e B ?_ (by unfold eqGuard;rcases m with rfl|rfl <;> rfl);exact d rfl rfl (rz s 9999 _ _ _ _)
  cases c:ev st.sl x with
  |fn f caps=>
   rw [c] at l;simp only [eff,c];generalize e:a.eval X=v at l;cases l;exact ne e
  |t u=>
   rw [c] at l;have j:=l.ax;cases u with
   |clos f caps=>
    simp only [eff,c];generalize e:a.eval X=v at j;cases j;exact ne e
   |nilfn=>
    simp only [eff,c];generalize e:a.eval X=v at j;cases j;show Did P N w0 S0 o a E (st.app o.dst {val:=.t (.bool (!aL i))})
    rw [<- L];refine p e B ?_ (by unfold eqGuard;rcases m with rfl|rfl <;> rfl);exact d rfl rfl (pW s 9999 _)
   |_=>exact F (by simp only [eff,c])
  |_=>exact F (by simp only [eff,c])
 ·cases D
end
end Go.DL
end
section
namespace Go.DL
open Go.RowKit
section
variable [Glb]{P:Program}{N:Nat}{w0:World}{S0:aa}{o:Oper}{a:Act}{E:Env}{st:St}
theorem lu(h:SR N w0 S0 E st a.tmps)(hd:ay N o.dst){x:DOp}(d:ah P o.op=some x):Sound P N w0 S0 o a E st (eff x (st.nm o.dst) st.sl st.bx):=by
 cases g:o.op with
 |move X=>
  rw [g] at d;simp only [ah,Option.map_eq_some_iff] at d;obtain ⟨y,u,rfl⟩:=d;exact nU h hd (.inl g) u
 |assign X=>
  rw [g] at d;simp only [ah,Option.map_eq_some_iff] at d;obtain ⟨y,u,rfl⟩:=d;exact nU h hd (.inr g) u
 |pick c p q=>
  rw [g] at d;simp only [ah] at d;split at d
  ·rename_i H Q h3;cases d;exact qO h hd g H Q h3
  ·cases d
 |alloc t=>exact po h hd g d
 |box t X=>exact rH h hd g d
 |load t A=>exact qI h hd g d
 |store t A X=>exact pD h hd g d
 |fieldAddr s X f=>exact qN h hd g d
 |field s X f=>exact pt h hd g d
 |indexAddr t X I=>exact lP h hd g d
 |index t X I=>exact px h hd g d
 |build t ps=>exact pq h hd g d
 |extract X i=>
  rw [g] at d;simp only [ah,Option.map_eq_some_iff] at d;obtain ⟨y,u,rfl⟩:=d;exact nI h hd g u
 |makeMap t r=>
  rw [g] at d;simp only [ah] at d;split at d
  ·split at d
   ·cases d;exact pz h hd g _ _
   ·cases d
  ·cases d
 |range t M=>
  rw [g] at d;simp only [ah] at d;split at d
  ·cases d;trivial
  ·cases d
 |next X b=>
  rw [g] at d;cases b with
  |true=>cases d
  |false=>
   simp only [ah,cond_false,Option.map_eq_some_iff] at d;obtain ⟨y,u,rfl⟩:=d;trivial
 |entry X=>
  rw [g] at d;simp only [ah,Option.map_eq_some_iff] at d;obtain ⟨y,u,rfl⟩:=d;exact qL h hd g u
 |lookup t M K ok=>
  rw [g] at d;simp only [ah] at d;split at d
  ·rename_i kt e m k D B hk;split at d
   ·rename_i Z z hs hz;cases d;exact pA h hd g B hk D hs hz
   ·cases d
  ·cases d
 |mapUpdate t M K V=>
  rw [g] at d;simp only [ah] at d;split at d
  ·rename_i kt e m k v D B hk hv;split at d
   ·rename_i Z hs;cases d;exact nk h hd (.inl g) B hk hv D hs
   ·cases d
  ·cases d
 |insert t M K V=>
  rw [g] at d;simp only [ah] at d;split at d
  ·rename_i kt e m k v D B hk hv;split at d
   ·rename_i Z hs;cases d;exact nk h hd (.inr g) B hk hv D hs
   ·cases d
  ·cases d
 |makeSlice t L C=>
  rw [g] at d;simp only [ah] at d;split at d
  ·rename_i e l c D hL hC;split at d
   ·rename_i j zs hj hz;simp only [cond_eq_ite] at d;split at d
    ·rename_i hp;cases d;exact nJ h hd g hL hC D hj hz (Nat.lt_of_lt_of_le (Nat.lt_succ_self 0) (nlZ hp))
    ·cases d
   ·cases d
  ·cases d
 |sliceToArrayPointer t X=>
  rw [g] at d;simp only [ah] at d;split at d
  ·rename_i D u;cases d;exact qF h hd g D u
  ·cases d
 |nilCheck X=>
  rw [g] at d;simp only [ah,Option.map_eq_some_iff] at d;obtain ⟨y,u,rfl⟩:=d;exact pB h hd g u
 |convert s t X=>exact nH h hd g d
 |unOp G t X=>
  rw [g] at d;cases G with
  |not=>
   simp only [ah,Option.map_eq_some_iff] at d;obtain ⟨y,u,rfl⟩:=d;exact rP h hd g u
  |xor=>
   simp only [ah,Option.map_eq_some_iff] at d;obtain ⟨y,u,rfl⟩:=d;exact rI h hd g u
  |neg=>
   simp only [ah,Option.map_eq_some_iff] at d;obtain ⟨y,u,rfl⟩:=d;exact rO h hd g u
  |_=>cases d
 |makeFunc fn first caps=>
  rw [g] at d;simp only [ah] at d;split at d
  ·rename_i f cs hcs;cases hb:Nat.beq first.size 0 with
   |false=>rw [hb] at d;cases d
   |true=>
    rw [hb] at d;simp only [cond_true,Option.some.injEq] at d;subst d
    have:first= #[]:=Array.eq_empty_of_size_eq_zero (Nat.eq_of_beq_eq_true hb)
    subst this;exact nh h hd g hcs
  ·cases d
 |slice t X lo hi mx=>
  cases mx with
  |none=>exact pC h hd g d
  |some m=>exact oC h hd g d
 |binOp G t X Y ty=>
  rw [g] at d;simp only [ah] at d;split at d
  ·rename_i O J T u;have U:=af h.sl T;have W:=af h.sl u;have bin:Sound P N w0 S0 o a E st (eff (.bin G O J) (st.nm o.dst) st.sl st.bx):=by
    unfold eff;simp only;split
    ·rename_i k m k' n H Q;rw [H] at U;rw [Q] at W;exact qC G k k' m n t ty h hd X Y g U.aA W.aA
    ·rename_i s s' H Q;rw [H] at U;rw [Q] at W;exact qD G s s' t ty h hd X Y g U.bg W.bg
    ·trivial
   have eqs:G= .eql\/G= .neq->(match P.underlying t with
     |some (.int _)=>some (DOp.bin G O J)
     |some .string=>some (.bin G O J)
     |some .bool=>some (.eqB (aL G) O J)
     |_=>match shapeOf P 100 t with
      |some Z=>cond (P.eqGuardType P.depth t|| !au P t) none (some (.eqv (aL G) Z O J))
      |none=>none)=some x->Sound P N w0 S0 o a E st (eff x (st.nm o.dst) st.sl st.bx):=by
    intro S B;split at B
    ·cases B;exact bin
    ·cases B;exact bin
    ·rename_i D;cases B;exact rJ h hd S g T u D
    ·split at B
     ·rename_i Z hsh;cases hc:(P.eqGuardType P.depth t|| !au P t) with
      |true=>rw [hc] at B;cases B
      |false=>
       rw [hc] at B;simp only [cond_false,Option.some.injEq] at B;subst B;rw [Bool.or_eq_false_iff] at hc;exact rK h hd S g T u hsh hc.1 (by simpa using hc.2)
     ·cases B
   have eqs0:G= .eql\/G= .neq->(match ku P t J with
     |some k=>some (DOp.isnil k (aL G) O)
     |none=>match P.underlying t with
     |some (.int _)=>some (DOp.bin G O J)
     |some .string=>some (.bin G O J)
     |some .bool=>some (.eqB (aL G) O J)
     |_=>match shapeOf P 100 t with
      |some Z=>cond (P.eqGuardType P.depth t|| !au P t) none (some (.eqv (aL G) Z O J))
      |none=>none)=some x->Sound P N w0 S0 o a E st (eff x (st.nm o.dst) st.sl st.bx):=by
    intro S B;cases qj:ku P t J with
    |some k=>
     rw [qj] at B;simp only [Option.some.injEq] at B;subst B;exact py h hd S g T u qj
    |none=>
     rw [qj] at B;exact eqs S B
   cases G with
   |eql=>exact eqs0 (.inl rfl) d
   |neq=>exact eqs0 (.inr rfl) d
   |_=>cases d;exact bin
  ·cases d
 |call c=>
  rw [g] at d;obtain ⟨callee,F,w⟩:=c;simp only [ah,bJ] at d;split at d
  ·split at d
   ·rename_i fn az hf has;cases hc:(fn.body.isSome&&fn.name != "runtime.NumGoroutine") with
    |false=>rw [hc] at d;cases d
    |true=>rw [hc] at d;cases d;trivial
   ·cases d
  ·split at d
   ·cases d;trivial
   ·cases d
  ·split at d
   ·rename_i X t H Q;have R:F= #[X]:=Array.toList_inj.1 (by simpa using H);have e2:w= #[t]:=Array.toList_inj.1 (by simpa using Q);subst R;subst e2;split at d
    ·rename_i e y D u;cases d;exact rL h hd g u D
    ·rename_i y D u;cases d;exact qH h hd g u D
    ·rename_i y D u;cases d;exact qM h hd g u D
    ·cases d
   ·cases d
  ·split at d
   ·rename_i X Y H;have R:F= #[X,Y]:=Array.toList_inj.1 (by simpa using H);subst R;split at d
    ·rename_i O J T u;cases d;exact rM h hd g T u
    ·cases d
   ·cases d
  ·split at d
   ·rename_i X Y H;have R:F= #[X,Y]:=Array.toList_inj.1 (by simpa using H);subst R;split at d
    ·rename_i O J T u;cases d;exact rN h hd g T u
    ·cases d
   ·cases d
  ·split at d
   ·split at d
    ·split at d
     ·simp only [cond_eq_ite] at d;split at d
      ·cases d;trivial
      ·cases d
     ·cases d
    ·cases d
   ·cases d
  ·split at d
   ·rename_i X t H Q;have R:F= #[X]:=Array.toList_inj.1 (by simpa using H);have e2:w= #[t]:=Array.toList_inj.1 (by simpa using Q);subst R;subst e2;split at d
    ·rename_i e y D u;split at d
     ·rename_i j zs hj hz;simp only [cond_eq_ite] at d;split at d
      ·rename_i hp;cases d;exact pr h hd g u D hj hz (Nat.lt_of_lt_of_le (Nat.lt_succ_self 0) (nlZ hp))
      ·cases d
     ·cases d
    ·rename_i y D u;cases d;exact qJ h hd g u D
    ·cases d
   ·cases d
  ·split at d
   ·rename_i X Y t t2 H Q;have R:F= #[X,Y]:=Array.toList_inj.1 (by simpa using H);have e2:w= #[t,t2]:=Array.toList_inj.1 (by simpa using Q);subst R;subst e2;split at d
    ·rename_i e O J D T u;split at d
     ·rename_i j hj;simp only [cond_eq_ite] at d;split at d
      ·rename_i hp;cases d;exact qG h hd g T u D hj (Nat.eq_of_beq_eq_true hp)
      ·cases d
     ·cases d
    ·cases d
   ·cases d
  ·split at d
   ·rename_i X K t t2 H Q;have R:F= #[X,K]:=Array.toList_inj.1 (by simpa using H);have e2:w= #[t,t2]:=Array.toList_inj.1 (by simpa using Q);subst R;subst e2;split at d
    ·rename_i kt e m k D B hk;split at d
     ·rename_i Z hs;cases d;exact qK h hd g B hk D hs
     ·cases d
    ·cases d
   ·cases d
  ·cases d
 |buildSlice t n ps=>
  rw [g] at d;simp only [ah] at d;split at d
  ·split at d
   ·split at d
    ·simp only [cond_eq_ite] at d;split at d
     ·cases d;trivial
     ·cases d
    ·cases d
   ·cases d
  ·cases d
 |panic X=>rw [g] at d;simp only [ah] at d;cases d;trivial
 |makeInterface t X=>rw [g] at d;simp only [ah] at d;cases d;trivial
 |_=>rw [g] at d;simp [ah] at d
end
end Go.DL
end
section
namespace Go.DL
open Go.RowKit
section
variable [Glb]{P:Program}{N:Nat}{w0:World}{S0:aa}{o:Oper}{a:Act}{E:Env}{st:St}
def bw(N:Nat)(w0:World)(S0:aa)(a:Act)(b:St)(d:Act)(w':World):Prop:= ∃c:Env,c.w=w'/\SR N w0 S0 c b d.tmps/\d.defers=a.defers
theorem nL(h:SR N w0 S0 E st a.tmps)(hd:ay N o.dst){f:FuncId}{vs:Array Value}{us:List V}(j:(execOp a.eval o).run P E.w= .ok (.enter f vs) E.w)(C:vs.size=us.length)
  (D: ∀(i:Nat) (v:Value) (u:V),vs[i]? =some v->us[i]? =some u->VR E v u) {ts:List T} {rd:List Nat} (M:bq st.bx us=some (ts,rd)) {r:T} (G:DCalls P f ts r) (m:rd=[]\/r.flat=true)
  {Q:Exit->Act->World->Prop} {l:List Nat}:o.wp P a E.w (bw N w0 S0 a (st.app o.dst {val:=.t r,rd:=l })) Q:=by
 obtain ⟨H,F⟩:=fO h.bx M;have p: ∀b x,Sx E rd b x->b<E.w.heap.size:=by
  rintro b x (d|⟨n,_,B,rfl⟩)
  ·exact h.lt b x d
  ·rw [h.live] at B;obtain ⟨J,q⟩:=Option.isSome_iff_exists.1 B;obtain ⟨_,K,_⟩:=(h.bx n J q).at_;exact (Array.getElem?_eq_some_iff.1 K).1
 have L:=G.2 (Sx E rd) E.w vs.toList p (h.qX rd) (by simp;omega) (fun i v t s z=>by
  have hi:i<us.length:=by rw [H];exact (gsZ z).1
  exact F i v _ t (D i v _ (by simpa using s) (ggZ hi)) (ggZ hi) z)
 unfold Oper.wp;rw [j];show Calls P f vs E.w _
 refine Calls.mono (by simpa using L) ?_;rintro e w' ⟨v,rfl,A,y⟩;rcases m with rfl|m
 ·have g:=h.world A (fun b o=>E.S b o\/(E.w.heap.size<=b/\b<w'.heap.size)) (fun b o=>⟨fun c=>c.elim .inl fun k=>.inr ⟨.inr k,k⟩,fun c=>c.elim .inl fun k=>k.1⟩);refine ⟨_,rfl,g.cN hd (.t _ _ (y.mono (fun b o c=>?_) (fun _ _ _=>aC.rfl))),by cases o.dst <;> rfl⟩;rcases c with (d|⟨n,I,_⟩)|d
  ·exact .inl d
  ·simp at I
  ·exact .inr d
 ·have g:=h.world A E.S (fun b o=>⟨.inl,fun c=>c.elim id fun k=>k.1⟩);exact ⟨_,rfl,g.cN hd (.t _ _ (y.of_flat m)),by cases o.dst <;> rfl⟩
def inR:cr->Eff->Prop
 |.no,_=>False
 |.yes e0,e=>e=e0
 |.need c e0,e=>c/\e=e0
 |.alt c b f,e=>c/\e=f b
 |.eq c t f,e=>c/\e=f t
def jF:V->Option (FuncId×List V)
 |.t (.clos f caps)=>some (f,caps.map .t)
 |.fn f caps=>some (f,caps)
 |_=>none
def cL(P:Program)(g:DOp)(d:Option Nat)(st:St)(e:Eff):Prop:=
 match g with
 |.call f args=> ∃ts rd r,bq st.bx (args.map (ev st.sl))=some (ts,rd)/\DCalls P f ts r/\(rd=[]\/r.flat=true)/\e={val:=.t r,rd:=rd }
 |.bY x args=> ∃f caps,jF (ev st.sl x)=some (f,caps)/\ ∃ts rd r,bq st.bx (args.map (ev st.sl)++caps)=some (ts,rd)/\DCalls P f ts r/\(rd=[]\/r.flat=true)/\e={val:=.t r,rd:=rd }
 |.mcall ms f args=> ∃(c:List (Nat×BX)) (h:List Nat) (m:Nat) (b:BX) (r:T),MC P f (args.map (ev st.sl)) c h m b r/\(∀ p∈c,st.bx p.1=some p.2)/\(∀ n∈h,st.bx n=none)/\m∈ms/\(st.bx m).isSome=true/\e={val:=.t r,wr:=some (m,b)}
 |g=>inR (eff g d st.sl st.bx) e
def cE(P:Program)(i:DI)(st:St)(e:Eff):Prop:=
 match i.guard with
 |none=>cL P i.op (st.nm i.dst) st e
 |some (g,want)=>(∃ b,st.sl g= .t (.bool b)/\((b=want/\cL P i.op (st.nm i.dst) st e)\/(b≠want/\e={val:=bH })))\/(st.sl g=bH/\e={val:=bH })
def DOp.plain:DOp->Bool
 |.append _ _ _ _ _ _=>false
 |.appV _ _ _ _=>false
 |.buildS _ _ _ _ _=>false
 |.inl _ _=>false
 |.fcall _ _=>false
 |.mrng _=>false
 |.mnext _=>false
 |_=>true
end
section
variable {P:Program}{N:Nat}{w0:World}{S0:aa}{o:Oper}{a:Act}{E:Env}{st:St}
theorem fl{f:FuncId}{args:Array Operand}{ts:Array TypeId}{X:Operand}{caps:Array Value}(b:o.op= .call {callee:=.value X,args:=args,argTypes:=ts })(c:a.eval X= .func (.func f) #[] caps)(d:bK P f):
  (execOp a.eval o).run P E.w= .ok (.enter f (args.map a.eval++caps)) E.w:=by
 unfold execOp;simp [b,resolve,c,Deferred.ofValue,invoke,d _ _]
theorem gj(h: ∀m,VR E (a.tmps.getD m undef) (st.sl m)){b:Array Operand}{ys:List O}(c:dP b.toList=some ys):
  b.size=ys.length/\ ∀(i:Nat) (v:Value) (u:V),(b.map a.eval)[i]? =some v->(ys.map (ev st.sl))[i]? =some u->VR E v u:=by
 obtain ⟨g,j⟩:=ia _ _ _ c;refine ⟨by simpa using g,fun i v u d e=>?_⟩;simp only [Array.getElem?_map,Option.map_eq_some_iff] at d;simp only [List.getElem?_map,Option.map_eq_some_iff] at e;obtain ⟨X,f,rfl⟩:=d;obtain ⟨y,c,rfl⟩:=e;exact af h (j i X y (by simpa using f) c)
theorem ey{callee:Callee}{az:Array Operand}{argTypes:Array TypeId}{x:DOp}(b:bJ P {callee:=callee,args:=az,argTypes:=argTypes }=some x):
  (∀ f args,x= .call f args->callee= .value (.func f)/\dP az.toList=some args)/\(∀ y args,x= .bY y args-> ∃X,callee= .value X/\ak X=some y/\dP az.toList=some args):=by
 simp only [bJ] at b;split at b
 ·split at b
  ·rename_i h c d has;simp only [cond_eq_ite] at b;split at b
   ·cases b;exact ⟨(fun f args e=>by cases e;exact ⟨rfl,has⟩),(fun y args e=>by cases e)⟩
   ·cases b
  ·cases b
 ·rename_i X _;split at b
  ·rename_i i c g has;cases b;exact ⟨(fun f args e=>by cases e),fun y args e=>by cases e;exact ⟨X,rfl,g,has⟩⟩
  ·cases b
 all_goals (repeat (first|(split at b)|(simp only [cond_eq_ite] at b))) <;> cases b <;> exact ⟨(fun f args e=>by cases e),fun y args e=>by cases e⟩
end
section
variable [Glb]{P:Program}{N:Nat}{w0:World}{S0:aa}{o:Oper}{a:Act}{E:Env}{st:St}
def DOp.bF:DOp->Bool
 |.call _ _=>true
 |.bY _ _=>true
 |_=>false
end
section
variable {P:Program}{N:Nat}{w0:World}{S0:aa}{o:Oper}{a:Act}{E:Env}{st:St}
theorem eR{d:Op}{x:DOp}(b:ah P d=some x)(e:x.bF=true): ∃c,d= .call c/\bJ P c=some x:=by
 have f: ∀{y:DOp},some y=some x->y.bF=false->False:=fun h g=>by cases h;rw [e] at g;cases g
 cases d with
 |call c=>exact ⟨c,rfl,b⟩
 |unOp d t X=>
  exfalso;cases d <;> simp only [ah,Option.map_eq_some_iff] at b <;> first|(obtain ⟨_,_,rfl⟩:=b;cases e)|cases b
 |slice t X lo hi mx=>
  exfalso;cases lo <;> cases hi <;> cases mx <;> simp only [ah] at b <;> repeat' (first|exact f b rfl|(split at b)|(simp only [cond_eq_ite] at b)|(cases b;done))
 |binOp d t X Y ty=>
  exfalso;cases d <;> simp only [ah] at b <;> repeat' (first|exact f b rfl|(split at b)|(simp only [cond_eq_ite] at b)|(cases b;done))
 |_=>
  exfalso;simp only [ah] at b
  repeat' (first|exact f b rfl|(split at b)|(simp only [cond_eq_ite] at b)|(simp only [Option.map_eq_some_iff] at b;obtain ⟨_,_,rfl⟩:=b;cases e)|(cases b;done))
theorem lF{e:Op}{ms:List Nat}{f:FuncId}{d:List O}(b:ah P e=some (.mcall ms f d)):False:=by
 have h: ∀{y:DOp},some y=some (DOp.mcall ms f d)->(match y with|.mcall _ _ _=>true|_=>false)=false->False:=fun j k=>by cases j;cases k
 cases e with
 |call c=>
  obtain ⟨i,az,g⟩:=c;simp only [ah,bJ] at b
  repeat' (first|exact h b rfl|(split at b)|(simp only [cond_eq_ite] at b)|(cases b;done))
 |unOp e t X=>
  cases e <;> simp only [ah,Option.map_eq_some_iff] at b <;> first|(obtain ⟨_,_,b⟩:=b;cases b)|cases b
 |slice t X lo hi mx=>
  cases lo <;> cases hi <;> cases mx <;> simp only [ah] at b <;> repeat' (first|exact h b rfl|(split at b)|(simp only [cond_eq_ite] at b)|(cases b;done))
 |binOp e t X Y ty=>
  cases e <;> simp only [ah] at b <;> repeat' (first|exact h b rfl|(split at b)|(simp only [cond_eq_ite] at b)|(cases b;done))
 |_=>
  simp only [ah] at b
  repeat' (first|exact h b rfl|(split at b)|(simp only [cond_eq_ite] at b)|(simp only [Option.map_eq_some_iff] at b;obtain ⟨_,_,b⟩:=b;cases b;done)|(cases b;done))
end
section
variable [Glb]{P:Program}{N:Nat}{w0:World}{S0:aa}{o:Oper}{a:Act}{E:Env}{st:St}
theorem ry(h:SR N w0 S0 E st a.tmps)(hd:ay N o.dst){x:DOp}(G:ah P o.op=some x){e:Eff}(H:cL P x (st.nm o.dst) st e){Q:Exit->Act->World->Prop}:o.wp P a E.w (bw N w0 S0 a (st.app o.dst e)) Q:=by
 have y:Did P N w0 S0 o a E (st.app o.dst e)->o.wp P a E.w (bw N w0 S0 a (st.app o.dst e)) Q:=by
  rintro ⟨nx,v,U,k,K,D⟩;unfold Oper.wp;rw [k];rcases K with rfl|⟨rfl,rfl⟩
  ·exact ⟨U,rfl,D,by cases o.dst <;> rfl⟩
  ·exact ⟨U,rfl,D,by cases o.dst <;> rfl⟩
 have plain:inR (eff x (st.nm o.dst) st.sl st.bx) e->o.wp P a E.w (bw N w0 S0 a (st.app o.dst e)) Q:=fun hi=>by
  have m:=lu h hd G;cases k:eff x (st.nm o.dst) st.sl st.bx with
  |no=>rw [k] at hi;exact hi.elim
  |yes e0=>rw [k] at hi m;cases hi;exact y m
  |need c e0=>rw [k] at hi m;obtain ⟨z,rfl⟩:=hi;exact y (m z)
  |alt c b f=>rw [k] at hi m;obtain ⟨z,rfl⟩:=hi;exact y (m z)
  |eq c t f=>rw [k] at hi m;obtain ⟨z,rfl⟩:=hi;exact y (m z)
 cases x with
 |call f j=>
  obtain ⟨ts,Y,r,z,k,L,rfl⟩:=H;obtain ⟨⟨s,az,l⟩,R,B⟩:=eR G rfl;obtain ⟨rfl,has⟩:=(ey B).1 f j rfl;obtain ⟨F,M⟩:=gj h.sl has;have q:=fl (E:=E) (a:=a) (caps:= #[]) R rfl k.1;rw [Array.append_empty] at q;exact nL h hd q (by simp [F]) M z k L
 |bY x j=>
  obtain ⟨f,caps,d,ts,Y,r,z,k,L,rfl⟩:=H;obtain ⟨⟨s,az,l⟩,R,B⟩:=eR G rfl;obtain ⟨X,rfl,Z,has⟩:=(ey B).2 x j rfl;obtain ⟨F,M⟩:=gj h.sl has;have C:=af h.sl Z;have key: ∃A:Array Value,a.eval X= .func (.func f) #[] A/\A.size=caps.length/\ ∀(i:Nat) (v:Value) (u:V),A[i]? =some v->caps[i]? =some u->VR E v u:=by
   unfold jF at d;split at d
   ·rename_i g cs n;simp only [Option.some.injEq,Prod.mk.injEq] at d;obtain ⟨rfl,rfl⟩:=d;rw [n] at C;have T:=C.ax;generalize a.eval X=v at T;cases T with
    |clos _ A _ m I=>
     refine ⟨A,rfl,by simpa using m,fun i v u n p=>?_⟩;simp only [List.getElem?_map,Option.map_eq_some_iff] at p;obtain ⟨t,W,rfl⟩:=p;exact .t _ _ (I i v t n W)
   ·rename_i g cs n;simp only [Option.some.injEq,Prod.mk.injEq] at d;obtain ⟨rfl,rfl⟩:=d;rw [n] at C;generalize a.eval X=v at C;cases C with
    |fn _ A _ m I=>exact ⟨A,rfl,m,I⟩
   ·cases d
  obtain ⟨A,S,O,J⟩:=key;have q:=fl (E:=E) (a:=a) R S k.1;refine nL h hd q (by simp [F,O]) (fun i v u n p=>?_) z k L
  by_cases hi:i<az.size
  ·rw [Array.getElem?_append_left (by simpa using hi)] at n;rw [List.getElem?_append_left (by simp;omega)] at p;exact M i v u n p
  ·rw [Array.getElem?_append_right (by simp;omega)] at n;rw [List.getElem?_append_right (by simp;omega)] at p;simp only [Array.size_map,List.length_map] at n p;rw [<- F] at p;exact J _ v u n p
 |mcall ms f j=>exact (lF G).elim
 |_=>exact plain H
end
end Go.DL
end
section
namespace Go.DL
open Go.RowKit
section
variable [Glb]{P:Program}{N:Nat}{w0:World}{S0:aa}{o:Oper}{a:Act}{E:Env}{st:St}
theorem SR.step{c:Env}{b:Array Value}(h:SR N w0 S0 E st b)(g:Grow E c)(d:c.κ=E.κ)(p:c.live=E.live)(i: ∀n,E.live n=true->c.w.heap[E.κ n]? =E.w.heap[E.κ n]? /\ ∀o, ¬c.S (E.κ n) o)
  (t: ∀r g,c.ρ r=some g->c.B<=g/\g<c.w.heap.size/\ ∀n,c.live n=true->c.κ n≠g) (x: ∀r l g,c.ρ r=some g->c.ρ l=some g->r=l) (f: ∀b o,c.S b o->b<c.w.heap.size)
  (v:Below w0.heap.size w0 c.w) (j: ∀b o,c.S b o->S0.S b o\/w0.heap.size<=b) (e: ∀(k:Nat) (o:Obj),cz o=true->E.w.heap[k]? =some o->c.w.heap[k]? =some o):SR N w0 S0 c st b:=by
 refine ⟨h.size,g.B.trans h.base,h.glob,fun m=>(h.sl m).grow g,fun k m=>(h.gh k m).grow g,fun n y q=>?_,fun n=>by rw [p];exact h.live n,by rw [d,p];exact h.inj,t,x,f,v,fun b o A=>g.S b o (h.s0 b o A),j,fun k o d=>⟨(h.obj k o d).1,e k o (h.obj k o d).1 (h.obj k o d).2⟩,h.cx⟩;have z:E.live n=true:=by rw [h.live,q];rfl
 obtain ⟨s,u⟩:=i n z;rw [d];exact (h.bx n y q).grow g s u
end
section
variable {P:Program}{N:Nat}{w0:World}{S0:aa}{o:Oper}{a:Act}{E:Env}{st:St}
mutual
theorem VR.dg{b:Nat->Option Nat}{r d:Nat}(c: ∀q,q≠r->q≠d->b q=E.ρ q): ∀{u:V} {v:Value},VR E v u->VR {E with ρ:=b } v (DL.dg r d u)
 |.top,v,_=>.top v
 |.raw x,v,h=>by
  cases h with
  |raw _ i=>exact .raw _ i
 |.t x,v,h=>.t v x h.ax
 |.ptr n off,v,h=>by
  obtain ⟨rfl,p⟩:=h.bd;exact .ptr (E:={E with ρ:=b }) n off p
 |.mp n,v,h=>by
  obtain ⟨rfl,p⟩:=h.eH;exact .mp (E:={E with ρ:=b }) n p
 |.view n off len size,v,h=>by
  obtain ⟨cap,rfl,j,p⟩:=h.bM;exact .view (E:={E with ρ:=b }) n off len size cap p j
 |.own q e n xs,v,h=>by
  have k:=h.eY;unfold DL.dg;cases j:(Nat.beq q r||Nat.beq q d) with
  |true=>exact .t _ _ k.rep
  |false=>
   rw [Bool.or_eq_false_iff] at j;have i:q≠r:=fun e=>by rw [e,cD] at j;cases j.1
   have m:q≠d:=fun e=>by rw [e,cD] at j;cases j.2
   exact .own _ _ _ _ _ ⟨k.ex,k.uni,k.one,fun g w=>⟨(c q i m).trans (k.row g w).1,(k.row g w).2⟩⟩
 |.full size xs,v,h=>by
  cases h with
  |full a len _ _ y=>exact .full (E:={E with ρ:=b }) a len size xs y
 |.fn f caps,v,h=>by
  cases h with
  |fn _ cs _ s l=>
   obtain ⟨i,m⟩:=VR.dgs c (cs:=cs) (us:=caps) s l;exact .fn f cs _ i m
 |.tup vs,v,h=>by
  cases h with
  |tup cs _ s l=>
   obtain ⟨i,m⟩:=VR.dgs c (cs:=cs) (us:=vs) s l;exact .tup cs _ i m
 |.agv vs,v,h=>by
  cases h with
  |agv cs _ s i l=>
   obtain ⟨k1,k2⟩:=VR.dgs c (cs:=cs) (us:=vs) s l;exact .agv cs _ k1 i k2
theorem VR.dgs{e:Nat->Option Nat}{r d:Nat}(f: ∀q,q≠r->q≠d->e q=E.ρ q): ∀{us:List V} {cs:Array Value},cs.size=us.length->(∀ (i:Nat) (x:Value) (u:V),cs[i]? =some x->us[i]? =some u->VR E x u)->
  cs.size=(DL.dgs r d us).length/\ ∀(i:Nat) (x:Value) (u:V),cs[i]? =some x->(DL.dgs r d us)[i]? =some u->VR {E with ρ:=e } x u
 |[],cs,hs,_=>⟨hs,fun i x u _ c=>by simp [DL.dgs] at c⟩
 |u0::us,cs,hs,h=>by
  have g:0<cs.size:=by simp at hs;omega
  have m:=VR.dg f (h 0 cs[0] u0 (by simp [g]) rfl);obtain ⟨k,l⟩:=VR.dgs f (us:=us) (cs:=cs.extract 1 cs.size) (by simp at hs ⊢;omega) (fun i x u b c=>h (i+1) x u (by
   rw [Array.getElem?_extract] at b;split at b
   ·rwa [Nat.add_comm] at b
   ·cases b) (by simpa using c))
  refine ⟨by simp [DL.dgs] at k ⊢;omega,fun i x u b c=>?_⟩;cases i with
  |zero=>
   simp [DL.dgs,g] at b c;subst b;subst c;exact m
  |succ i=>
   have j:i+1<cs.size:=(Array.getElem?_eq_some_iff.1 b).1;exact l i x u (by rw [Array.getElem?_extract,if_pos (by omega),Nat.add_comm];exact b) (by simpa [DL.dgs] using c)
end
theorem kU(r d:Nat): ∀vs:List V,DL.dgs r d vs=vs.map (DL.dg r d)
 |[]=>rfl
 |v::vs=>by unfold DL.dgs;rw [kU r d vs];rfl
end
section
variable [Glb]{P:Program}{N:Nat}{w0:World}{S0:aa}{o:Oper}{a:Act}{E:Env}{st:St}
theorem SR.dg{b:Array Value}(h:SR N w0 S0 E st b)(r d:Nat):SR N w0 S0 {E with ρ:=fun q=>if q=r\/q=d then none else E.ρ q } (st.dg r d) b:=by
 have f: ∀q,q≠r->q≠d->(fun q=>if q=r\/q=d then none else E.ρ q) q=E.ρ q:=fun q p y=>by simp [p,y]
 have B: ∀q g,(if q=r\/q=d then none else E.ρ q)=some g->E.ρ q=some g:=fun q g w=>by
  split at w
  ·cases w
  ·exact w
 refine ⟨h.size,h.base,h.glob,fun m=>(h.sl m).dg f,fun k m=>(h.gh k m).dg f,fun n Y z=>?_,fun n=>?_,h.inj,fun q g w=>h.rows q g (B q g w),fun q Q g p y=>h.rinj q Q g (B q g p) (B Q g y),h.lt,h.below,h.s0,h.s1,h.obj,h.cx⟩
 ·have z:(st.bx n).map (dgB r d)=some Y:=z;simp only [Option.map_eq_some_iff] at z;obtain ⟨R,G,rfl⟩:=z;have M:=h.bx n R G;obtain ⟨V,Z,A⟩:=M.at_;refine ⟨M.old,M.free,V,Z,?_⟩;cases A with
  |map l j D F I U s=>exact .map l j D F I U ⟨s.size,s.at_,s.lt,s.apart,s.mb⟩
  |itd k l c D F I ix L W t=>exact bP.itd (E:={E with ρ:=fun q=>if q=r\/q=d then none else E.ρ q }) k l c D F I ix L W ⟨t.size,t.at_,t.lt,t.apart,t.mb⟩
  |it m bs c ix H=>exact bP.it (E:={E with ρ:=fun q=>if q=r\/q=d then none else E.ρ q }) m bs c ix H
  |cells cs e _ hc=>
  refine .cells cs e _ ?_;cases hc with
  |d m ts H K C=>exact .d m ts H K C
  |v vs K C=>
   refine .v _ (by rw [kU,List.length_map];exact K) (fun i x u T O=>?_);rw [kU,List.getElem?_map,Option.map_eq_some_iff] at O;obtain ⟨S,J,rfl⟩:=O;obtain ⟨p,y⟩:=C i x S T J;exact ⟨p.dg f,y⟩
 ·show E.live n=((st.bx n).map (dgB r d)).isSome
  rw [h.live,Option.isSome_map]
structure fM (E:Env) (size:Nat) (ys:List T) (news:List Value):Prop where
 len:news.length=(ys.flatMap T.cells).length
 rep: ∀(i:Nat) (x:Value) (t:T),news[i]? =some x->(ys.flatMap T.cells)[i]? =some t->Rep E.S E.w x t
 uni: ∀x∈ys,x.cells.length=size
 one: ∀t∈ys.flatMap T.cells,t.one=true
theorem SR.newRow(h:SR N w0 S0 E st a.tmps){d q:Nat}(hd:d<N){e:TypeId}{size:Nat}{xs:List T}{cells:List Value}{rest:Array Value}{cap:Nat}(y:fM E size xs cells)(Y:E.ρ q=none){w':World}(Q:w'=E.w\/w'=E.w.drew)
  (Z:xs.length<=cap) (R:cap<=maxLen) (O:(cells.toArray++rest).size=cap * size):
  ∃v:Env,v.w=w'.alloc (.cells (cells.toArray++rest) e)/\SR N w0 S0 v (st.put d (.own q e size xs)) (a.tmps.setIfInBounds d (.slice (some ⟨w'.heap.size,0,none⟩) xs.length cap)):=by
 have A:w'.heap.size=E.w.heap.size:=by rcases Q with rfl|rfl <;> rfl
 have K:Below E.w.heap.size E.w w':=by rcases Q with rfl|rfl;exact Below.refl _ _;exact (Below.refl _ _).drew
 let cs:Array Value:=cells.toArray++rest
 let v:Env:={E with w:=w'.alloc (.cells cs e),S:=fun b o=>E.S b o\/(b=E.w.heap.size/\o<cells.length),ρ:=upd E.ρ q (some E.w.heap.size)}
 have D:Below E.w.heap.size E.w (w'.alloc (.cells cs e)):=K.trans ((Below.refl _ _).alloc (by omega) _);have u: ∀b o,E.S b o->b≠E.w.heap.size:=fun b o c e=>by have:=h.lt b o c;omega
 have g:Grow E v:=by
  refine ⟨rfl,fun n p=>⟨p,rfl⟩,fun r k j=>?_,fun b o c=>.inl c,fun b o c=>aC.dC D (h.lt b o c)⟩;have s:r≠q:=fun e=>by rw [e,Y] at j;cases j
  have z:=(h.rows r k j).2.1;refine ⟨(ae _ _ _ _ s).trans j,D.block k z,fun o=>⟨fun c=>c.elim id fun C=>absurd C.1 (by omega),.inl⟩⟩
 have L:SR N w0 S0 v st a.tmps:=by
  refine h.step g rfl rfl (fun n p=>?_) (fun r k j=>?_) (fun r J k f m=>?_) (fun b o c=>?_) ?_ (fun b o c=>?_) (fun k o _ z=>(D.block k (Array.getElem?_eq_some_iff.1 z).1).trans z)
  ·have M:E.κ n<E.w.heap.size:=by
    rw [h.live] at p;obtain ⟨G,l⟩:=Option.isSome_iff_exists.1 p;obtain ⟨_,f,_⟩:=(h.bx n G l).at_;exact (Array.getElem?_eq_some_iff.1 f).1
   refine ⟨D.block _ M,fun o c=>?_⟩;rcases c with c|⟨c,_⟩
   ·rw [h.live] at p;obtain ⟨G,l⟩:=Option.isSome_iff_exists.1 p;exact (h.bx n G l).free o c
   ·omega
  ·have j:upd E.ρ q (some E.w.heap.size) r=some k:=j
   by_cases s:r=q
   ·subst s;rw [aj] at j;cases j;refine ⟨by show E.B<=_;rw [h.base];exact h.below.size,by show _<(w'.alloc _).heap.size;simp;omega,fun n p=>?_⟩;rw [show v.live n=E.live n from rfl,h.live] at p;obtain ⟨G,l⟩:=Option.isSome_iff_exists.1 p;obtain ⟨_,f,_⟩:=(h.bx n G l).at_
    have:=(Array.getElem?_eq_some_iff.1 f).1
    show E.κ n≠_
    omega
   ·rw [ae _ _ _ _ s] at j;obtain ⟨f,m,h3⟩:=h.rows r k j;exact ⟨f,by show k<(w'.alloc _).heap.size;simp;omega,h3⟩
  ·have f:upd E.ρ q (some E.w.heap.size) r=some k:=f;have m:upd E.ρ q (some E.w.heap.size) J=some k:=m
   by_cases I:r=q <;> by_cases H:J=q
   ·rw [I,H]
   ·subst I;rw [aj] at f;rw [ae _ _ _ _ H] at m;cases f
    have:=(h.rows J _ m).2.1;omega
   ·subst H;rw [aj] at m;rw [ae _ _ _ _ I] at f;cases m
    have:=(h.rows r _ f).2.1;omega
   ·rw [ae _ _ _ _ I] at f;rw [ae _ _ _ _ H] at m;exact h.rinj r J k f m
  ·show b<(w'.alloc _).heap.size
   rcases c with c|⟨c,_⟩
   ·have:=h.lt b o c;simp;omega
   ·simp;omega
  ·exact h.below.trans (D.mono h.below.size)
  ·rcases c with c|⟨c,_⟩
   ·exact h.s1 b o c
   ·right;have:=h.below.size;omega
 have V:(w'.alloc (.cells cs e)).heap[w'.heap.size]? =some (.cells cs e (0,0)):=heap_alloc_new _ _;have F:=aI y.uni;have fC:cs.toList.take (xs.length * size)=cells:=by
  show (cells.toArray++rest).toList.take _=_
  rw [Array.toList_append,List.toList_toArray, <-F, <-y.len];exact List.take_left
 have iK:bQ v (.slice (some ⟨w'.heap.size,0,none⟩) xs.length cap) q e size xs:=by
  refine ⟨⟨cells,⟨by rw [y.len,F],.inr ⟨w'.heap.size,cap,cs,rfl,?_,V,Z,R,O,fC⟩⟩,y.len,fun i x t U W=>g.rep (y.rep i x t U W)⟩,y.uni,y.one,fun k z=>?_⟩
  ·show E.B<=_
   rw [A,h.base];exact h.below.size
  ·simp only [Value.ownBlock,Option.some.injEq] at z;subst z;refine ⟨by show upd E.ρ q _ q=_;rw [aj,A],fun o=>?_⟩;show (E.S w'.heap.size o\/(w'.heap.size=E.w.heap.size/\o<cells.length))↔_
   rw [<- y.len,A];exact ⟨fun C=>C.elim (fun c=>absurd rfl (u _ _ c)) (·.2),fun C=>.inr ⟨rfl,C⟩⟩
 exact ⟨v,rfl,L.put hd (.own _ _ _ _ _ iK)⟩
theorem SR.rl(h:SR N w0 S0 E st a.tmps){d q f:Nat}(hd:d<N){e:TypeId}{size:Nat}{xs:List T}{cells:List Value}{rest:Array Value}{cap k:Nat}(v:fM E size xs cells)(cG:E.ρ q=none)
  {J:Array Value} (G:E.w.heap[f]? =some (.cells J e (0,0))) (m:E.B<=f) (W: ∀n,E.live n=true->E.κ n≠f) (Q: ∀r,E.ρ r≠some f) (Z: ∀o,E.S f o↔o<k) (y:k<=cells.length)
  (ql: ∀o,o<k->(cells.toArray++rest)[o]? =J[o]?) (cT:xs.length<=cap) (hm:cap<=maxLen) (V:(cells.toArray++rest).size=cap * size):
  ∃z:Env,z.w=E.w.setRow f (cells.toArray++rest)/\SR N w0 S0 z (st.put d (.own q e size xs)) (a.tmps.setIfInBounds d (.slice (some ⟨f,0,none⟩) xs.length cap)):=by
 let cs:Array Value:=cells.toArray++rest
 let z:Env:={E with w:=E.w.setRow f cs,S:=fun b o=>E.S b o\/(b=f/\o<cells.length),ρ:=upd E.ρ q (some f)}
 have tJ:f<E.w.heap.size:=(Array.getElem?_eq_some_iff.1 G).1;have other: ∀k,k≠f->(E.w.setRow f cs).heap[k]? =E.w.heap[k]? :=fun k y=>setRow_other _ _ _ _ y
 have M:(E.w.setRow f cs).heap.size=E.w.heap.size:=by simp
 have Y:(E.w.setRow f cs).heap[f]? =some (.cells cs e (0,0)):=setRow_heap _ _ _ _ _ _ G;have g:Grow E z:=by
  refine ⟨rfl,fun n A=>⟨A,rfl⟩,fun r k l=>?_,fun b o j=>.inl j,fun b o j=>?_⟩
  ·have u:r≠q:=fun e=>by rw [e,cG] at l;cases l
   have D:k≠f:=fun e=>Q r (e▸l)
   exact ⟨(ae _ _ _ _ u).trans l,other k D,fun o=>⟨fun j=>j.elim id fun C=>absurd C.1 D,.inl⟩⟩
  ·by_cases F:b=f
   ·subst F;refine ⟨?_,fun arr c hg=>by rw [G] at hg;cases hg⟩;show (E.w.setRow b cs).cell? _=_
    rw [cell_of_row _ _ _ _ _ _ Y,cell_of_row _ _ _ _ _ _ G];exact ql o ((Z o).1 j)
   ·exact aC.dD (other b F)
 have R:SR N w0 S0 z st a.tmps:=by
  refine h.step g rfl rfl (fun n A=>⟨other _ (W n A),fun o j=>?_⟩) (fun r k l=>?_) (fun r O k p s=>?_) (fun b o j=>?_) ?_ (fun b o j=>?_) (fun k o hc y=>(other k fun e=>by rw [e,G] at y;cases y;cases hc).trans y)
  ·rcases j with j|⟨j,_⟩
   ·rw [h.live] at A;obtain ⟨b',U⟩:=Option.isSome_iff_exists.1 A;exact (h.bx n b' U).free o j
   ·exact W n A j
  ·have l:upd E.ρ q (some f) r=some k:=l
   by_cases u:r=q
   ·subst u;rw [aj] at l;cases l;exact ⟨m,by show _<(E.w.setRow _ _).heap.size;rw [M];exact tJ,W⟩
   ·rw [ae _ _ _ _ u] at l;obtain ⟨p,s,h3⟩:=h.rows r k l;exact ⟨p,by show _<(E.w.setRow _ _).heap.size;rw [M];exact s,h3⟩
  ·have p:upd E.ρ q (some f) r=some k:=p;have s:upd E.ρ q (some f) O=some k:=s
   by_cases L:r=q <;> by_cases K:O=q
   ·rw [L,K]
   ·subst L;rw [aj] at p;rw [ae _ _ _ _ K] at s;cases p;exact absurd s (Q O)
   ·subst K;rw [aj] at s;rw [ae _ _ _ _ L] at p;cases s;exact absurd p (Q r)
   ·rw [ae _ _ _ _ L] at p;rw [ae _ _ _ _ K] at s;exact h.rinj r O k p s
  ·show b<(E.w.setRow _ _).heap.size
   rw [M];rcases j with j|⟨j,_⟩
   ·exact h.lt b o j
   ·omega
  ·refine h.below.trans (.of rfl rfl rfl (by show _<=(E.w.setRow _ _).heap.size;rw [M];exact Nat.le_refl _) (fun k y=>other k ?_) (Nat.le_refl _))
   have:=m
   rw [h.base] at this;omega
  ·rcases j with j|⟨j,_⟩
   ·exact h.s1 b o j
   ·right;rw [<- h.base];omega
 have H:=aI v.uni;have fC:cs.toList.take (xs.length * size)=cells:=by
  show (cells.toArray++rest).toList.take _=_
  rw [Array.toList_append,List.toList_toArray, <-H, <-v.len];exact List.take_left
 have iK:bQ z (.slice (some ⟨f,0,none⟩) xs.length cap) q e size xs:=by
  refine ⟨⟨cells,⟨by rw [v.len,H],.inr ⟨f,cap,cs,rfl,m,Y,cT,hm,V,fC⟩⟩,v.len,fun i x t hx ht=>g.rep (v.rep i x t hx ht)⟩,v.uni,v.one,fun k' I=>?_⟩;simp only [Value.ownBlock,Option.some.injEq] at I;subst I;refine ⟨by show upd E.ρ q _ q=_;rw [aj],fun o=>?_⟩;show (E.S f o\/(f=f/\o<cells.length))↔_
  rw [<- v.len];exact ⟨fun C=>C.elim (fun j=>by have:=(Z o).1 j;omega) (·.2),fun C=>.inr ⟨rfl,C⟩⟩
 exact ⟨z,rfl,R.put hd (.own _ _ _ _ _ iK)⟩
end
end Go.DL
end
section
namespace Go.DL
open Go.RowKit
section
variable [Glb]{P:Program}{N:Nat}{w0:World}{S0:aa}{o:Oper}{a:Act}{E:Env}{st:St}
end
section
variable {P:Program}{N:Nat}{w0:World}{S0:aa}{o:Oper}{a:Act}{E:Env}{st:St}
theorem fM.append{size:Nat}{xs ys:List T}{f g:List Value}(c:fM E size xs f)(e:fM E size ys g):fM E size (xs++ys) (f++g):=by
 refine ⟨by simp [c.len,e.len],fun i x t d b=>?_,fun x d=>?_,fun t b=>?_⟩
 ·rw [List.flatMap_append] at b
  by_cases hi:i<f.length
  ·rw [List.getElem?_append_left hi] at d;rw [List.getElem?_append_left (by rw [<- c.len];exact hi)] at b;exact c.rep i x t d b
  ·rw [List.getElem?_append_right (by omega)] at d;rw [List.getElem?_append_right (by rw [<- c.len];omega), <-c.len] at b;exact e.rep _ x t d b
 ·rcases List.mem_append.1 d with h|h
  ·exact c.uni x h
  ·exact e.uni x h
 ·rw [List.flatMap_append] at b;rcases List.mem_append.1 b with h|h
  ·exact c.one t h
  ·exact e.one t h
theorem jQ{t u ty e:TypeId}{i:TypeInfo}(p:P.underlying t=some (.slice e))(hi:P.info? e=some i){g b cap:Nat}{d:Array Value}{k:TypeId}(q:E.w.heap[g]? =some (.cells d k (0,0))){y:Value}{n:Nat}{c:List Value}(h:Src P i.size u y n c E.w)
  (m:b+n<=cap) (s:b * i.size+c.length<=d.size):
  (Builtin.append_ #[t,u] ty #[.slice (some ⟨g,0,none⟩) b cap,y]).run P E.w= .ok (.slice (some ⟨g,0,none⟩) (b+n) cap) (E.w.setRow g (d.toList.take (b * i.size)++c++d.toList.drop (b * i.size+c.length)).toArray):=by
 have f:=run_storeCells_at (P:=P) g (b * i.size) k c 0 d E.w q (by omega) h.one;simp only [Nat.add_zero] at f;have l:(⟨g,0,none⟩:Addr).add (b * i.size)=⟨g,b * i.size,none⟩:=by rw [bh,Nat.zero_add]
 rcases h.kind with ⟨r,j⟩|j <;> simp [Builtin.append_,run_underlying p,run_underlying j,sizeOf,typeInfo,hi,h.len,m,h.cells,l,f]
end
section
variable [Glb]{P:Program}{N:Nat}{w0:World}{S0:aa}{o:Oper}{a:Act}{E:Env}{st:St}
theorem nY(h:SR N w0 S0 E st a.tmps){d q:Nat}(hd:d<N){t ty e:TypeId}{i:TypeInfo}{z:Value}(ht:P.underlying t=some (.slice e))(hi:P.info? e=some i)(hz:i.zero=some z)(hzs:z.cells.size=i.size)(_:0<i.size)(hby:0<i.bytes)
  {v:Value} {r:Nat} {xs:List T} (H:bQ E v r e i.size xs) {y:Value} {u:TypeId} {ys:List T} {b:List Value} (m:cC P E y i.size ys b) (hk:(∃ e',P.underlying u=some (.slice e'))\/P.underlying u=some .string) (bp:(xs.length+ys.length) * i.bytes<=140737488355328):
  ∃(v':Value) (s:Env),(Builtin.append_ #[t,u] ty #[v,y]).run P E.w= .ok v' s.w/\SR N w0 S0 s ((st.dg r q).put d (.own q e i.size (xs++ys))) (a.tmps.setIfInBounds d v'):=by
 have h1:=h.dg r q;have cG:(fun x=>if x=r\/x=q then none else E.ρ x) q=none:=by simp
 obtain ⟨cells,iK,p,V⟩:=H.ex;have hN1:fM {E with ρ:=fun x=>if x=r\/x=q then none else E.ρ x } i.size xs cells:=⟨p,V,H.uni,H.one⟩
 have hle:xs.length+ys.length<=140737488355328:=Nat.le_trans (Nat.le_mul_of_pos_right _ hby) bp;have hml:xs.length+ys.length<=maxLen:=by unfold maxLen;omega
 by_cases hm:ys.length=0
 ·
  have hy0:ys=[]:=List.eq_nil_of_length_eq_zero hm;subst hy0;have G:b=[]:=List.eq_nil_of_length_eq_zero (by simpa using m.len);subst G;have Z:=m.oD hk;have f: ∀{A:Option Addr} {n cap:Nat},n<=cap->(Builtin.append_ #[t,u] ty #[.slice A n cap,y]).run P E.w= .ok (.slice A n cap) E.w:=fun {A n cap} hn=>Go.run_append_nothing E.w t u ty e i ht hi A n cap hn y Z
  rw [List.append_nil];rcases iK.2 with ⟨rfl,G⟩|⟨g,cap,c,rfl,K,Q,O,C,M,fC⟩
  ·refine ⟨.slice none 0 0,{E with ρ:=fun x=>if x=r\/x=q then none else E.ρ x },f (Nat.le_refl _),h1.put hd (.own _ _ _ _ _ ⟨⟨cells,iK,p,V⟩,H.uni,H.one,fun g Q=>by simp [Value.ownBlock] at Q⟩)⟩
  ·obtain ⟨S,oz⟩:=H.row g rfl;have Y:cells.toArray++(c.toList.drop (xs.length * i.size)).toArray=c:=by
    apply Array.ext'
    simp only [Array.toList_append];rw [<- fC,List.take_append_drop]
   obtain ⟨s,I,j⟩:=h1.rl (rest:=(c.toList.drop (xs.length * i.size)).toArray) (cap:=cap) (k:=(xs.flatMap T.cells).length) hd hN1 cG Q K (h.rows r g S).2.2 (fun q F=>by
     dsimp only at F;split at F
     ·cases F
     ·rename_i R;exact R (.inl (h.rinj q r g F S))) (fun o=>oz o) (by rw [p];exact Nat.le_refl _) (fun o _=>by rw [Y]) O C (by rw [Y];exact M)
   refine ⟨_,s,?_,j⟩;rw [I,Y,setRow_self _ _ _ _ _ Q];exact f O
 ·have B:fM E i.size ys b:=⟨m.len,m.rep,m.uni,m.one⟩
  have Z:=m.oD hk;have tD:fM {E with ρ:=fun x=>if x=r\/x=q then none else E.ρ x } i.size ys b:=⟨B.len,B.rep,B.uni,B.one⟩
  have hN:=hN1.append tD;have W:b.length=ys.length * i.size:=by rw [B.len,aI B.uni]
  have hl1:cells.length=xs.length * i.size:=by rw [p,aI H.uni]
  have U:((xs.length+ys.length:Nat):Int)<=9223372036854775807:=by omega
  have D: ∀l,l<xs.length+ys.length-> ∃s:Env,s.w=E.w.drew.alloc (.cells ((cells++b).toArray++Builtin.zeroCells z.cells (grownCap E.w (xs.length+ys.length) l e - (xs.length+ys.length))) e)/\
    SR N w0 S0 s ((st.dg r q).put d (.own q e i.size (xs++ys))) (a.tmps.setIfInBounds d (.slice (some ⟨E.w.heap.size,0,none⟩) (xs++ys).length (grownCap E.w (xs.length+ys.length) l e))):=fun l hold=>by
   have hge:=grownCap_ge E.w (xs.length+ys.length) l e;have C:=grownCap_le_maxLen E.w (xs.length+ys.length) l e hml
   have:=h1.newRow (e:=e) (rest:=Builtin.zeroCells z.cells (grownCap E.w (xs.length+ys.length) l e - (xs.length+ys.length))) (cap:=grownCap E.w (xs.length+ys.length) l e) hd hN cG (w':=E.w.drew) (.inr rfl) (by simpa using hge) C (by
    simp only [Array.size_append,List.size_toArray,List.length_append,size_zeroCells,hzs,hl1,W, <-Nat.add_mul]
    congr 1;omega)
   exact this
  rcases iK.2 with ⟨rfl,G⟩|⟨g,cap,c,rfl,K,Q,O,C,M,fC⟩
  ·have hx:xs=[]:=List.eq_nil_of_length_eq_zero G;subst hx;have hc0:cells=[]:=List.eq_nil_of_length_eq_zero (by simpa using p);subst hc0;obtain ⟨s,I,j⟩:=D 0 (by simp;omega);have L:=run_append_grow_src (P:=P) E.w t u ty e i z ht hi hz none 0 0 [] (by simp [Builtin.firstCells]) y ys.length b Z (by omega) (by simpa using U) (growslice_fits (by omega) (by simpa using bp));simp only [List.length_nil,Nat.zero_add,List.nil_append] at I j L ⊢;exact ⟨_,s,by rw [I];exact L,j⟩
  ·by_cases fR:xs.length+ys.length<=cap
   ·have sd:xs.length * i.size+b.length<=c.size:=by rw [W,M, <-Nat.add_mul];exact Nat.mul_le_mul_right _ fR
    have L:=jQ (E:=E) (ty:=ty) ht hi Q Z fR sd;obtain ⟨S,oz⟩:=H.row g rfl;have Y:(c.toList.take (xs.length * i.size)++b++c.toList.drop (xs.length * i.size+b.length)).toArray=(cells++b).toArray++(c.toList.drop (xs.length * i.size+b.length)).toArray:=by
     rw [fC];simp
    rw [Y] at L;obtain ⟨s,I,j⟩:=h1.rl (rest:=(c.toList.drop (xs.length * i.size+b.length)).toArray) (cap:=cap) (k:=(xs.flatMap T.cells).length) hd hN cG Q K (h.rows r g S).2.2 (fun q F=>by
      dsimp only at F;split at F
      ·cases F
      ·rename_i R;exact R (.inl (h.rinj q r g F S))) (fun o=>oz o) (by rw [List.length_append,p];exact Nat.le_add_right _ _) (fun o ho=>by
      rw [<- p] at ho;rw [Array.getElem?_append_left (by simp;omega),List.getElem?_toArray,List.getElem?_append_left ho, <-fC,List.getElem?_take,if_pos (by omega)]
      simp) (by simpa using fR) C (by simp only [Array.size_append,List.size_toArray,List.length_append,List.length_drop,Array.length_toList];omega)
    refine ⟨_,s,?_,j⟩;rw [I,List.length_append];exact L
   ·have J:=iK.cells (g:=g) rfl;have L:=run_append_grow_src (P:=P) E.w t u ty e i z ht hi hz (some ⟨g,0,none⟩) xs.length cap cells (run_firstCells_some E.w.drew i.size xs.length ⟨g,0,none⟩ xs.length cap cells hl1 (by simpa using J)) y ys.length b Z (by omega) U (growslice_fits (by omega) bp);obtain ⟨s,I,j⟩:=D cap (by omega);refine ⟨_,s,?_,j⟩;rw [I,List.length_append];exact L
theorem pL{b:Array Value}(h:SR N w0 S0 E st b){t ty u e:TypeId}{i:TypeInfo}{z:Value}(f:P.underlying t=some (.slice e))(hi:P.info? e=some i)(hz:i.zero=some z)(_:z.cells.size=i.size)(Q:0<i.size)(K:0<i.bytes)
  {A:Option Addr} {len:Nat} {xs:List T} (G:Rep E.S E.w (.slice A len len) (.slice i.size xs)) {y:Value} {ys:List T} {d:List Value} (l:cC P E y i.size ys d) (hk:(∃ e',P.underlying u=some (.slice e'))\/P.underlying u=some .string) (bp:(xs.length+ys.length) * i.bytes<=140737488355328):
  ∃(Z:Value) (F:Env),(Builtin.append_ #[t,u] ty #[.slice A len len,y]).run P E.w= .ok Z F.w/\SR N w0 S0 F st b/\Rep F.S F.w Z (.slice i.size (xs++ys)):=by
 have r:=l.oD hk;have hl2:d.length=ys.length * i.size:=by rw [l.len,aI l.uni]
 by_cases hm:ys.length=0
 ·have L:ys=[]:=List.eq_nil_of_length_eq_zero hm;subst L;have R:d=[]:=List.eq_nil_of_length_eq_zero (by simpa using l.len);subst R;exact ⟨_,E,Go.run_append_nothing E.w t u ty e i f hi A len len (Nat.le_refl _) y r,h,by rw [List.append_nil];exact G⟩
 ·have hle:xs.length+ys.length<=140737488355328:=Nat.le_trans (Nat.le_mul_of_pos_right _ K) bp;have hv0:=G;cases G with
  |slice _ b0 off _ _ _ _ g B hc U h1 ha hg aq=>
  subst B;have q:=aI U;have get: ∀j v,((List.range (xs.flatMap T.cells).length).map g)[j]? =some v->j<(xs.flatMap T.cells).length/\g j=v:=fun j v n=>by
   have m:j<(xs.flatMap T.cells).length:=by simpa using (gsZ n).1
   rw [List.getElem?_map,List.getElem?_range m] at n;exact ⟨m,by simpa using n⟩
  let c:List Value:=(List.range (xs.flatMap T.cells).length).map g
  have p:c.length=xs.length * i.size:=by simp [c,q]
  have C:(Builtin.firstCells i.size xs.length (.slice A xs.length xs.length)).run P E.w.drew= .ok c.toArray E.w.drew:=by
   by_cases W:xs.length=0
   ·have M:c=[]:=List.eq_nil_of_length_eq_zero (by rw [p,W,Nat.zero_mul]);rw [M,W];cases A with
    |none=>simp [Builtin.firstCells]
    |some ad=>simp [Builtin.firstCells,loadCells,loadCellsFrom]
   ·rw [ha (by rw [q];exact Nat.mul_pos (by omega) Q)];refine run_firstCells_some E.w.drew i.size xs.length ⟨b0,off,none⟩ xs.length xs.length c p (fun j v n=>?_);obtain ⟨m,rfl⟩:=get j v n;rw [bh];simpa using (hg j m).1
  have D:=run_append_grow_src (P:=P) E.w t u ty e i z f hi hz A xs.length xs.length c C y ys.length d r (by omega) (by omega) (growslice_fits (by omega) bp);have O:=grownCap_ge E.w (xs.length+ys.length) xs.length e;generalize H:(c++d).toArray++Builtin.zeroCells z.cells (grownCap E.w (xs.length+ys.length) xs.length e - (xs.length+ys.length))=cs at D;have Y:Below E.w.heap.size E.w (E.w.drew.alloc (.cells cs e)):=((Below.refl _ _).drew).alloc (Nat.le_refl _) _;have h':=h.world Y (fun b o=>E.S b o\/(E.w.heap.size<=b/\b<(E.w.drew.alloc (.cells cs e)).heap.size)) (fun b o=>⟨fun I=>I.elim .inl fun k=>.inr ⟨.inr k,k⟩,fun I=>I.elim .inl fun k=>k.1⟩);refine ⟨_,{E with w:=E.w.drew.alloc (.cells cs e),S:=fun b o=>E.S b o\/(E.w.heap.size<=b/\b<(E.w.drew.alloc (.cells cs e)).heap.size)},D,h',?_⟩;have iJ:(E.w.drew.alloc (.cells cs e)).heap[E.w.heap.size]? =some (.cells cs e (0,0)):=heap_alloc_new E.w.drew _;have V:((xs++ys).flatMap T.cells).length=(c++d).length:=by
   rw [List.flatMap_append,List.length_append,List.length_append,q,p,l.len]
  have up: ∀{v:Value} {t:T},Rep E.S E.w v t->Rep (fun b o=>E.S b o\/(E.w.heap.size<=b/\b<(E.w.drew.alloc (.cells cs e)).heap.size)) (E.w.drew.alloc (.cells cs e)) v t:=fun D=>D.mono (fun b o r=>.inl r) (fun b o r=>aC.dC Y (h.lt b o r))
  refine .slice _ E.w.heap.size 0 _ _ _ _ (fun j=>(c++d)[j]?.getD undef) (by simp) O (fun x s=>?_) (fun t f=>?_) (fun _=>rfl) (fun j n=>?_) (fun j t f=>?_)
  ·rcases List.mem_append.1 s with s|s
   ·exact U x s
   ·exact l.uni x s
  ·rw [List.flatMap_append] at f;rcases List.mem_append.1 f with f|f
   ·exact h1 t f
   ·exact l.one t f
  ·rw [V] at n;refine ⟨?_,.inr ⟨Nat.le_refl _,by simp⟩⟩;rw [Nat.zero_add,cell_of_row _ _ _ _ _ _ iJ, <-H,Array.getElem?_append_left (by simpa using n)];simp [ggZ n]
  ·have n:j<(c++d).length:=by rw [<- V];exact (gsZ f).1
   rw [List.flatMap_append] at f;show Rep _ _ ((c++d)[j]?.getD undef) t
   by_cases h2:j<c.length
   ·rw [List.getElem?_append_left (by omega)] at f;rw [List.getElem?_append_left h2];have J:j<(xs.flatMap T.cells).length:=by omega
    have:c[j]? =some (g j):=by show ((List.range _).map g)[j]? =_;rw [List.getElem?_map,List.getElem?_range J];rfl
    rw [this];exact up (aq j t f)
   ·rw [List.getElem?_append_right (by omega)] at f;rw [List.getElem?_append_right (by omega)];have e1:j - (xs.flatMap T.cells).length=j - c.length:=by omega
    rw [e1] at f;have m:j - c.length<d.length:=by rw [List.length_append] at n;omega
    rw [ggZ m];exact up (l.rep _ _ t (ggZ m) f)
theorem SR.pK{b:Array Value}(h:SR N w0 S0 E st b){q g:Nat}(y:st.bx q=none)(w: ∀m,E.live m=true->E.κ m≠g)(u: ∀r,E.ρ r≠some g){bx:BX}(x:bG E g bx):
  SR N w0 S0 {E with κ:=upd E.κ q g,live:=upd E.live q true } {st with bx:=upd st.bx q (some bx)} b:=by
 have A:E.live q=false:=by rw [h.live,y];rfl
 have ne: ∀m,E.live m=true->m≠q:=fun m c e=>by rw [e,A] at c;cases c
 have s:Grow E {E with κ:=upd E.κ q g,live:=upd E.live q true }:=
  ⟨rfl,fun m c=>⟨by show upd E.live q true m=true;rw [ae _ _ _ _ (ne m c)];exact c,ae _ _ _ _ (ne m c)⟩,fun r k t=>⟨t,rfl,fun _=>Iff.rfl⟩,fun _ _ B=>B,fun _ _ _=>aC.rfl⟩
 refine ⟨h.size,h.base,h.glob,fun m=>(h.sl m).grow s,fun k m=>(h.gh k m).grow s,fun m n c=>?_,fun m=>?_,fun m p c f i=>?_,fun r k t=>?_,h.rinj,h.lt,h.below,h.s0,h.s1,h.obj,h.cx⟩
 ·by_cases d:m=q
  ·subst d;have v:bx=n:=by
    have:upd st.bx m (some bx) m=some n:=c
    rw [aj] at this;exact Option.some.inj this
   subst v;show bG _ (upd E.κ m g m) bx
   rw [aj];exact x.grow s rfl x.free
  ·have f:st.bx m=some n:=by
    have:upd st.bx q (some bx) m=some n:=c
    rwa [ae _ _ _ _ d] at this
   show bG _ (upd E.κ q g m) n
   rw [ae _ _ _ _ d]
   have:=h.bx m n f
   exact this.grow s rfl this.free
 ·show upd E.live q true m=(upd st.bx q (some bx) m).isSome
  by_cases d:m=q
  ·subst d;rw [aj,aj];rfl
  ·rw [ae _ _ _ _ d,ae _ _ _ _ d];exact h.live m
 ·have c:upd E.live q true m=true:=c;have f:upd E.live q true p=true:=f;have i:upd E.κ q g m=upd E.κ q g p:=i
  by_cases j:m=q <;> by_cases l:p=q
  ·rw [j,l]
  ·subst j;rw [ae _ _ _ _ l] at f;rw [aj,ae _ _ _ _ l] at i;exact absurd i.symm (w p f)
  ·subst l;rw [ae _ _ _ _ j] at c;rw [aj,ae _ _ _ _ j] at i;exact absurd i (w m c)
  ·rw [ae _ _ _ _ j] at c i;rw [ae _ _ _ _ l] at f i;exact h.inj m p c f i
 ·obtain ⟨j,l,z⟩:=h.rows r k t;refine ⟨j,l,fun m c=>?_⟩;have c:upd E.live q true m=true:=c;show upd E.κ q g m≠k
  by_cases d:m=q
  ·subst d;rw [aj];exact fun e=>u r (e▸t)
  ·rw [ae _ _ _ _ d] at c ⊢;exact z m c
end
section
variable {P:Program}{N:Nat}{w0:World}{S0:aa}{o:Oper}{a:Act}{E:Env}{st:St}
theorem VR.tu{E:Env}(n off len size cap:Nat){g:Nat}(b:E.live n=true)(c:E.κ n=g)(d:len<=cap):VR E (.slice (some ⟨g,off,none⟩) len cap) (.view n off len size):=by
 subst c;exact .view n off len size cap b d
end
section
variable [Glb]{P:Program}{N:Nat}{w0:World}{S0:aa}{o:Oper}{a:Act}{E:Env}{st:St}
theorem pM{b:Array Value}(h:SR N w0 S0 E st b){t ty u e:TypeId}{i:TypeInfo}{z:Value}(n:P.underlying t=some (.slice e))(hi:P.info? e=some i)(hz:i.zero=some z)(F:0<i.bytes)
  {A:Option Addr} {y:Value} {ys:List T} {c:List Value} (f:cC P E y i.size ys c) (Y:(∃ R,P.underlying u=some (.slice R))\/P.underlying u=some .string) (aH:0<ys.length) (M:ys.length * i.bytes<=140737488355328) {q:Nat} (V:st.bx q=none):
  ∃(L:Value) (H:Env),(Builtin.append_ #[t,u] ty #[.slice A 0 0,y]).run P E.w= .ok L H.w/\SR N w0 S0 H {st with bx:=upd st.bx q (some (.d (ys.length * i.size) (ys.flatMap T.cells)))} b/\VR H L (.view q 0 ys.length i.size):=by
 have v:=f.oD Y;have k:c.length=ys.length * i.size:=by rw [f.len,aI f.uni]
 have Q:ys.length<=140737488355328:=Nat.le_trans (Nat.le_mul_of_pos_right _ F) M;have s:(Builtin.firstCells i.size 0 (.slice A 0 0)).run P E.w.drew= .ok ([]:List Value).toArray E.w.drew:=by
  cases A with
  |none=>simp [Builtin.firstCells]
  |some ad=>simp [Builtin.firstCells,loadCells,loadCellsFrom]
 have D:=run_append_grow_src (P:=P) E.w t u ty e i z n hi hz A 0 0 [] s y ys.length c v (by omega) (by omega) (growslice_fits (by omega) (by simpa using M));have p:=grownCap_ge E.w (0+ys.length) 0 e;generalize l:(([]:List Value)++c).toArray++Builtin.zeroCells z.cells (grownCap E.w (0+ys.length) 0 e - (0+ys.length))=cs at D;have K:Below E.w.heap.size E.w (E.w.drew.alloc (.cells cs e)):=((Below.refl _ _).drew).alloc (Nat.le_refl _) _;have O:=h.world K E.S (fun b o=>⟨.inl,fun U=>U.elim id (·.1)⟩)
 have Z:(E.w.drew.alloc (.cells cs e)).heap[E.w.heap.size]? =some (.cells cs e (0,0)):=heap_alloc_new E.w.drew _;have hB:bG {E with w:=E.w.drew.alloc (.cells cs e),S:=E.S } E.w.heap.size (.d (ys.length * i.size) (ys.flatMap T.cells)):=by
  refine ⟨?_,fun o hS=>absurd (h.lt _ o hS) (Nat.lt_irrefl _),_,Z,.cells cs e _ (.d _ _ (by rw [<- f.len,k]) ?_ fun j x t J n=>?_)⟩
  ·show E.B<=_;rw [h.base];exact h.below.size
  ·rw [<- l];simp [k]
  ·have hj:j<c.length:=by rw [f.len];exact (gsZ n).1
   rw [<- l,List.nil_append,Array.getElem?_append_left (by simpa using hj),List.getElem?_toArray] at J;exact ⟨(f.rep j x t J n).mono (fun b o v=>v) (fun b o v=>aC.dC K (h.lt b o v)),f.one t (List.mem_of_getElem? n)⟩
 have G: ∀m,E.live m=true->E.κ m<E.w.heap.size:=fun m C=>by
  rw [h.live] at C;obtain ⟨b',I⟩:=Option.isSome_iff_exists.1 C;exact (h.bx m b' I).lt
 have W:=O.pK (q:=q) (g:=E.w.heap.size) V (fun m C=>by have:=G m C;show E.κ m≠_;omega) (fun r D=>by
  have:=(h.rows r _ D).2.1;omega) hB
 refine ⟨_,_,D,W,?_⟩;rw [Nat.zero_add];rw [Nat.zero_add] at p;exact VR.tu q 0 ys.length i.size _ (aj _ _ _) (aj _ _ _) p
end
end Go.DL
end
section
namespace Go.DL
open Go.RowKit
section
variable [Glb]{P:Program}{N:Nat}{w0:World}{S0:aa}{o:Oper}{a:Act}{E:Env}{st:St}
end
section
variable {P:Program}{N:Nat}{w0:World}{S0:aa}{o:Oper}{a:Act}{E:Env}{st:St}
theorem iE{g:Nat->V}{size:Nat}: ∀{f:List (Nat×O)} {d ts:List T} {c b:Prop},aY g size d c f=some (ts,b)->b->c
 |[],d,ts,c,b,h,hc=>by simp [aY] at h;rw [h.2];exact hc
 |(i,x)::rest,d,ts,c,b,h,hc=>by
  unfold aY at h;split at h
  ·cases h
  ·exact (iE h hc).1
  ·cases e:Nat.beq size 1 with
   |false=>rw [e] at h;cases h
   |true=>rw [e] at h;exact iE h hc
  ·cases h
theorem nG{α:Type}(A B:List α)(k n:Nat)(v:List α):aN (A++B) (A.length+k) n v=A++aN B k n v:=by
 unfold aN;rw [List.take_length_add_append,Nat.add_assoc,List.drop_length_add_append,List.append_assoc]
theorem mB{size:Nat}: ∀{b:List T} (_: ∀x∈b,x.cells.length=size) (i:Nat) (t:T) (_:t.cells.length=size) (_:i<b.length),(b.set i t).flatMap T.cells=aN (b.flatMap T.cells) (i * size) size t.cells
 |[],_,i,t,_,hi=>by simp at hi
 |x::b,hu,i,t,ht,hi=>by
  have e:=hu x (by simp);have d: ∀y∈b,y.cells.length=size:=fun y g=>hu y (List.mem_cons_of_mem _ g)
  cases i with
  |zero=>
   simp only [List.set_cons_zero,List.flatMap_cons,Nat.zero_mul];unfold aN;simp only [List.take_zero,List.nil_append,Nat.zero_add];rw [<- e,List.drop_left]
  |succ i=>
   have c:i<b.length:=by simpa using hi
   have f:=mB d i t ht c;simp only [List.set_cons_succ,List.flatMap_cons,f];rw [<- nG,e]
   congr 1
   rw [Nat.add_mul];omega
theorem jm(V: ∀m,VR E (a.tmps.getD m undef) (st.sl m)){size:Nat}: ∀(f:List (Nat×Operand)) (A:List (Nat×Nat×O)) (cells:Array Value) (d ts:List T) (c z:Prop),aZ (fun i=>some (i,0)) f=some A->
   bj E.S E.w cells.toList (d.flatMap T.cells)->(∀ x∈d,x.cells.length=size)->(∀ p∈A,p.1<d.length)->aY st.sl size d c (A.map fun p=>(p.1,p.2.2))=some (ts,z)->z->
   ∃b,Instr.fill (fun i=>some (i * size,size)) cells (f.map fun (i,x)=>(i,a.eval x))=some b/\bj E.S E.w b.toList (ts.flatMap T.cells)/\(∀ x∈ts,x.cells.length=size)/\ts.length=d.length
 |[],A,cells,d,ts,c,z,hl,hc,g,_,hf,_=>by
  simp [aZ] at hl;subst hl;simp [aY] at hf;exact ⟨cells,rfl,hf.1▸hc,hf.1▸g,by rw [hf.1]⟩
 |(i,X)::rest,A,cells,d,ts,c,z,hl,hc,g,hb,hf,hc'=>by
  obtain ⟨off,sz,y,r,k,h2,h3,rfl⟩:=fk rfl hl;simp only [Option.some.injEq,Prod.mk.injEq] at k;obtain ⟨rfl,rfl⟩:=k;have U:=af V h2;have hi:i<d.length:=hb (i,0,y) (by simp);have I: ∀p∈r,p.1<d.length:=fun p K=>hb p (List.mem_cons_of_mem _ K)
  have J:=aI g;have W:i * size+size<=(d.flatMap T.cells).length:=by
   rw [J]
   have:(i+1) * size<=d.length * size:=Nat.mul_le_mul_right _ hi
   rw [Nat.add_mul] at this;omega
  have step: ∀(t:T),bj E.S E.w (a.eval X).cells.toList t.cells->t.cells.length=size-> ∀H,aY st.sl size (d.set i t) H (r.map fun p=>(p.1,p.2.2))=some (ts,z)->
    ∃b,Instr.fill (fun i=>some (i * size,size)) cells (((i,X)::rest).map fun (i,x)=>(i,a.eval x))=some b/\bj E.S E.w b.toList (ts.flatMap T.cells)/\(∀ x∈ts,x.cells.length=size)/\ts.length=d.length:=fun t l n H F=>by
   have v:(a.eval X).cells.size=size:=by have:=l.1;simp at this;omega
   have hcl:cells.size=(d.flatMap T.cells).length:=by have:=hc.1;simpa using this
   have Y:bj E.S E.w ((a.eval X).cells.zipIdx.foldl (fun (cs:Array Value) (p:Value×Nat)=>cs.setIfInBounds (i * size+p.2) p.1) cells).toList ((d.set i t).flatMap T.cells):=by
    rw [jz _ _ _ (by omega),v,mB g i t n hi];exact hc.put l (by simpa using v) (by rw [Array.length_toList];omega)
   have G: ∀x∈d.set i t,x.cells.length=size:=fun x q=>by
    rcases List.mem_or_eq_of_mem_set q with h|h
    ·exact g x h
    ·rw [h];exact n
   obtain ⟨b,g1,Z,g3,g4⟩:=jm V rest r _ (d.set i t) ts H z h3 Y G (fun p K=>by rw [List.length_set];exact I p K) F hc';refine ⟨b,?_,Z,g3,by rw [g4,List.length_set]⟩;simp only [List.map_cons,Instr.fill];rw [if_neg (by simp [v];omega)];exact g1
  simp only [List.map_cons] at hf;unfold aY at hf;split at hf
  ·cases hf
  ·rename_i cs R;have l:=aB U R;obtain ⟨M,Q⟩:=l.cells (fun ts e=>by cases e);have B:=iE hf hc';exact step (.agg cs) ⟨by simpa using M,fun j x t q ht=>Q j x t (by simpa using q) ht⟩ B.2 _ hf
  ·rename_i t C D R;cases s:Nat.beq size 1 with
   |false=>rw [s] at hf;cases hf
   |true=>
    rw [s] at hf;have L:size=1:=Nat.eq_of_beq_eq_true s;subst L;have l:=aB U R;have k:t.one=true:=by
     cases t with
     |agg cs=>exact absurd rfl (D cs)
     |tup ts=>exact absurd rfl (C ts)
     |_=>rfl
    refine step t ⟨by rw [l.cells_one k,T.cells_one k];rfl,fun j x u q g=>?_⟩ (by rw [T.cells_one k];rfl) _ hf;rw [l.cells_one k] at q;rw [T.cells_one k] at g;cases j with
    |zero=>simp at q g;subst q;subst g;exact ⟨l,k⟩
    |succ j=>simp at g
  ·cases hf
theorem sW{b:List T}{size:Nat}(c:b.length=size)(d: ∀t∈b,t.one=true):(cond (Nat.beq size 1) (b.headD .nil) (.agg b)).cells=b:=by
 cases e:Nat.beq size 1 with
 |false=>rfl
 |true=>
  have f:size=1:=Nat.eq_of_beq_eq_true e
  match b,c with
  |[z],_=>exact T.cells_one (d z (by simp))
  |[],c=>simp at c;omega
  |_::_::_,c=>simp at c;omega
theorem gn{e:T}{b:List T}(h:e.cells=b): ∀n,(List.replicate n e).flatMap T.cells=(List.replicate n b).flatten
 |0=>rfl
 |n+1=>by rw [List.replicate_succ,List.flatMap_cons,h,List.replicate_succ,List.flatten_cons,gn h n]
end
section
variable [Glb]{P:Program}{N:Nat}{w0:World}{S0:aa}{o:Oper}{a:Act}{E:Env}{st:St}
theorem jZ(h:SR N w0 S0 E st a.tmps){d q:Nat}(hd:d<N){t e:TypeId}{j:TypeInfo}{n:Nat}{g:Array (Nat×Operand)}(ho:o.op= .buildSlice t n g)(ht:P.underlying t=some (.slice e))(hj:P.info? e=some j){m:List T}(hz:cq P e=some m)
  (Z:0<j.size) (iI:n * j.size<=16777216) {M:List (Nat×Nat×O)} (hps:aZ (fun i=>some (i,0)) g.toList=some M) (Y: ∀p∈M,p.1<n) {C:List T} {c:Prop}
  (hf:aY st.sl j.size (List.replicate n (cond (Nat.beq j.size 1) (m.headD .nil) (.agg m))) True (M.map fun p=>(p.1,p.2.2))=some (C,c)) (hc:c):
  ∃(v':Value) (L:Env),(∃ A,v'= .slice A C.length C.length)/\(execOp a.eval o).run P E.w= .ok (.value v') L.w/\SR N w0 S0 L ((st.dg q q).put d (.own q e j.size C)) (a.tmps.setIfInBounds d v'):=by
 obtain ⟨i,z,hi,hiz,Q,jK,aq,tt,htt,htc⟩:=dm hz;rw [hj] at hi;cases hi;have W:0<m.length:=by omega
 have s9: ∀u∈m,u.one=true:=fun u r=>by
  obtain ⟨k,v⟩:=List.mem_iff_getElem?.1 r;have B:k<z.cells.size:=by have:=(gsZ v).1;omega
  exact (aq E.S E.w k z.cells[k] u (by simp [B]) v).2
 have K:=sW Q.symm s9;have s7:=gn K n
 let b:Array Value:=(Array.range (n * j.size)).map (z.cells[· % z.cells.size]!)
 have hc0:bj E.S E.w b.toList ((List.replicate n (cond (Nat.beq j.size 1) (m.headD .nil) (.agg m))).flatMap T.cells):=by
  rw [s7];have y:(List.replicate n m).flatten.length=n * j.size:=by simp [Q]
  refine ⟨by rw [y];simp [b],fun k x u F r=>?_⟩;have v:k<n * j.size:=by rw [<- y];exact (gsZ r).1
  rw [eu W n k (by rw [<- Q];exact v)] at r;have mH:k % z.cells.size<z.cells.size:=Nat.mod_lt _ (by omega);have I:z.cells[k % z.cells.size]? =some x:=by
   have:b.toList[k]? =some (z.cells[k % z.cells.size]!):=by simp [b,v]
   rw [this] at F;rw [<- F];simp [mH]
  rw [jK] at I;exact aq E.S E.w _ x u I r
 have hu0: ∀x∈List.replicate n (cond (Nat.beq j.size 1) (m.headD .nil) (.agg m)),x.cells.length=j.size:=fun x F=>by
  rw [List.eq_of_mem_replicate F,K];exact Q.symm
 obtain ⟨l,g1,H,g3,G⟩:=jm h.sl g.toList M b _ C True c hps hc0 hu0 (fun p hp=>by rw [List.length_replicate];exact Y p hp) hf hc;rw [List.length_replicate] at G;have h1:=h.dg q q;have cG:(fun x=>if x=q\/x=q then none else E.ρ x) q=none:=by simp
 have r9: ∀t∈C.flatMap T.cells,t.one=true:=fun u r=>by
  obtain ⟨k,v⟩:=List.mem_iff_getElem?.1 r;have B:k<l.toList.length:=by rw [H.1];exact (gsZ v).1
  exact (H.2 k _ u (ggZ B) v).2
 have hN:fM {E with ρ:=fun x=>if x=q\/x=q then none else E.ρ x } j.size C l.toList:=⟨H.1,fun k x u F r=>(H.2 k x u F r).1,g3,r9⟩
 have U:l.size=n * j.size:=by
  have:=H.1
  rw [aI g3,G] at this;simpa using this
 obtain ⟨L,hw,V⟩:=h1.newRow (e:=e) (rest:= #[]) (cap:=n) hd hN cG (w':=E.w) (.inl rfl) (by rw [G];exact Nat.le_refl _) (by unfold maxLen;have:n<=n * j.size:=Nat.le_mul_of_pos_right _ Z;omega) (by simpa using U);refine ⟨_,L,⟨some ⟨E.w.heap.size,0,none⟩,by rw [G]⟩,?_,V⟩;rw [hw];have J:(g.map fun (i,x)=>(i,a.eval x)).toList=g.toList.map fun (i,x)=>(i,a.eval x):=by simp
 have s:Instr.fill (fun i=>some (i * j.size,j.size)) ((Array.range (n * j.size)).map (z.cells[· % z.cells.size]!)) (g.toList.map fun (i,x)=>(i,a.eval x))=some l:=g1
 unfold execOp;simp only [ho,Instr.buildSlice,Sem.run_bind,run_underlying ht,Result.andThen_ok,run_sizeOf hj];have R: ¬n * j.size>2^24:=by simp;omega
 rw [if_neg R]
 by_cases D:n * j.size=0
 ·rw [D] at s;simp only [D,if_true,Sem.run_bind,Result.andThen_ok,Sem.run_pure,J];have e0: ∀f:Nat->Value,(Array.range 0).map f= #[]:=fun f=>by simp
  rw [e0] at s;simp only [e0,s,newRow,Sem.run_bind,run_newObj,Result.andThen_ok,Sem.run_pure,World.alloc_eq,G];simp
 ·simp only [zeroValue,typeInfo,D,if_false,Sem.run_bind,run_program,Result.andThen_ok,hj,Sem.run_pure,hiz,J];simp only [s,newRow,Sem.run_bind,run_newObj,Result.andThen_ok,Sem.run_pure,World.alloc_eq,G];simp
def ke(st:St):St:={sl:=fun m=>match asT (st.sl m) with|some x=>.t x|none=>.top,bx:=fun _=>none }
theorem rv(h:SR N w0 S0 E st a.tmps):SR N E.w {S:=E.S } {S:=E.S,w:=E.w,B:=E.w.heap.size,κ:=fun _=>0,ρ:=fun _=>none,live:=fun _=>false } (ke st) a.tmps:=by
 refine ⟨h.size,rfl,h.iZ,fun m=>?_,fun k m=>.top _,fun n b i=>(by cases i),fun n=>rfl,fun n m f=>(by cases f),fun r g c=>(by cases c),fun r j g c=>(by cases c),h.lt,Below.refl _ _,fun b o h=>h,fun b o h=>.inl h,fun g o d=>(by cases d),trivial⟩;show VR _ _ (match asT (st.sl m) with|some x=>V.t x|none=>.top)
 cases e:asT (st.sl m) with
 |none=>exact .top _
 |some x=>
  have c:Rep E.S E.w (a.tmps.getD m undef) x:=aB (h.sl m) e;exact .t _ _ c
end
section
variable {P:Program}{N:Nat}{w0:World}{S0:aa}{o:Oper}{a:Act}{E:Env}{st:St}
theorem pT(x:O):asT (ev (ke st).sl x)=asT (ev st.sl x):=by
 cases x with
 |const t=>rfl
 |tmp m=>
  show asT (match asT (st.sl m) with|some x=>V.t x|none=>.top)=asT (st.sl m)
  cases b:asT (st.sl m) with
  |none=>rfl
  |some x=>rfl
theorem gN{size:Nat}: ∀{b:List (Nat×O)} {d:List T} {c:Prop},aY (ke st).sl size d c b=aY st.sl size d c b
 |[],_,_=>rfl
 |(i,x)::b,d,c=>by
  unfold aY;rw [pT];split
  ·rfl
  ·rw [gN]
  ·rw [gN]
  ·rfl
end
section
variable [Glb]{P:Program}{N:Nat}{w0:World}{S0:aa}{o:Oper}{a:Act}{E:Env}{st:St}
theorem oe(h:SR N w0 S0 E st a.tmps){d:Nat}(hd:d<N){t e:TypeId}{j:TypeInfo}{n:Nat}{f:Array (Nat×Operand)}(W:o.op= .buildSlice t n f)(M:P.underlying t=some (.slice e))(Y:P.info? e=some j){z:List T}(V:cq P e=some z)
  (y:0<j.size) (U:n * j.size<=16777216) {C:List (Nat×Nat×O)} (B:aZ (fun i=>some (i,0)) f.toList=some C) (x: ∀p∈C,p.1<n) {m:List T} {c:Prop}
  (Q:aY st.sl j.size (List.replicate n (cond (Nat.beq j.size 1) (z.headD .nil) (.agg z))) True (C.map fun p=>(p.1,p.2.2))=some (m,c)) (Z:c) (J:o.dst=some d):
  Did P N w0 S0 o a E (st.app (some d) {val:=.t (.slice j.size m)})/\Did P N w0 S0 o a E (st.app (some d) {val:=.full j.size m }):=by
 obtain ⟨r,l,⟨A,L⟩,H,g⟩:=jZ (d:=d) (q:=0) (rv h) hd W M Y V y U B x (by rw [gN];exact Q) Z;have s:=g.sl d;have K:(a.tmps.setIfInBounds d r).getD d undef=r:=by
  have:d<a.tmps.size:=by rw [h.size];exact hd
  simp [this]
 rw [K] at s;have D:(((ke st).dg 0 0).put d (.own 0 e j.size m)).sl d= .own 0 e j.size m:=aj _ _ _;rw [D] at s;have G:Rep (fun b o=>E.S b o\/(E.w.heap.size<=b/\b<l.w.heap.size)) l.w r (.slice j.size m):=s.eY.rep.mono (fun b o I=>(g.s1 b o I).imp id fun u=>⟨u,g.lt b o I⟩) (fun _ _ _=>aC.rfl);have R:Below E.w.heap.size E.w l.w:=g.below;have F:=h.world R (fun b o=>E.S b o\/(E.w.heap.size<=b/\b<l.w.heap.size)) (fun b o=>⟨fun v=>v.elim .inl fun k=>.inr ⟨.inr k,k⟩,fun v=>v.elim .inl fun k=>k.1⟩);refine ⟨⟨_,r,{E with w:=l.w,S:=fun b o=>E.S b o\/(E.w.heap.size<=b/\b<l.w.heap.size)},H,.inl rfl,?_⟩,⟨_,r,{E with w:=l.w,S:=fun b o=>E.S b o\/(E.w.heap.size<=b/\b<l.w.heap.size)},H,.inl rfl,?_⟩⟩
 ·rw [J];exact F.cN (d:=some d) hd (.t _ _ G)
 ·rw [J];subst L;exact F.cN (d:=some d) hd (.full A m.length j.size m G)
end
end Go.DL
end
section
namespace Go.DL
open Go.RowKit
section
variable [Glb]{P:Program}{N:Nat}{w0:World}{S0:aa}{o:Oper}{a:Act}{E:Env}{st:St}
end
section
variable {P:Program}{N:Nat}{w0:World}{S0:aa}{o:Oper}{a:Act}{E:Env}{st:St}
theorem iU{d:Option Nat}{v:V}{rd:List Nat}:st.app d {val:=v,rd:=rd }=st.set d v:=by cases d <;> rfl
theorem sK{r:cr}{d:Option Nat}{K:St->Prop}(h:wpR r d st K): ∃e,inR r e/\K (st.app d e):=by
 cases r with
 |no=>exact h.elim
 |yes e=>exact ⟨e,rfl,h⟩
 |need c e=>exact ⟨e,⟨h.1,rfl⟩,h.2⟩
 |alt c b f=>exact ⟨f b,⟨h.1,rfl⟩,h.2 b rfl⟩
 |eq c t f=>exact ⟨f t,⟨h.1,rfl⟩,h.2 t rfl⟩
end
section
variable [Glb]{P:Program}{N:Nat}{w0:World}{S0:aa}{o:Oper}{a:Act}{E:Env}{st:St}
theorem iR{f:FuncId}{b:List V}{d:Option Nat}{K:St->Prop}(h:du P f b d st K): ∃ts i r,bq st.bx b=some (ts,i)/\DCalls P f ts r/\(i=[]\/r.flat=true)/\K (st.set d (.t r)):=by
 unfold du at h;split at h
 ·rename_i ts e;obtain ⟨r,c,g⟩:=h;exact ⟨ts,[],r,e,c,.inl rfl,g⟩
 ·rename_i ts x xs e;obtain ⟨r,c,g,j⟩:=h;exact ⟨ts,_,r,e,c,.inr g,j⟩
 ·exact h.elim
end
section
variable {P:Program}{N:Nat}{w0:World}{S0:aa}{o:Oper}{a:Act}{E:Env}{st:St}
theorem qV{st:St}{d:Option Nat}{v:V}{m:Nat}{b:BX}:st.app d {val:=v,wr:=some (m,b)}=({st with bx:=upd st.bx m (some b)}:St).set d v:=by cases d <;> rfl
end
section
variable [Glb]{P:Program}{N:Nat}{w0:World}{S0:aa}{o:Oper}{a:Act}{E:Env}{st:St}
theorem je{x:DOp}(j:x.plain=true){d:Option Nat}{K:St->Prop}(h:wpO P x d st K): ∃e,cL P x (st.nm d) st e/\K (st.app d e):=by
 have s: ∀x:DOp,(wpO P x d st K->wpR (eff x (st.nm d) st.sl st.bx) d st K)->(∀ e,inR (eff x (st.nm d) st.sl st.bx) e->cL P x (st.nm d) st e)->wpO P x d st K-> ∃e,cL P x (st.nm d) st e/\K (st.app d e):=fun x c g h=>by
  obtain ⟨e,u,w⟩:=sK (c h);exact ⟨e,g e u,w⟩
 cases x with
 |append=>cases j
 |appV=>cases j
 |buildS=>cases j
 |inl=>cases j
 |fcall=>cases j
 |mrng=>cases j
 |mnext=>cases j
 |call f i=>
  obtain ⟨ts,n,r,c,g,l,k⟩:=iR h;exact ⟨_,⟨ts,n,r,c,g,l,rfl⟩,by rw [iU];exact k⟩
 |bY x i=>
  unfold wpO at h;simp only at h;split at h
  ·rename_i f caps q;obtain ⟨ts,n,r,c,g,l,k⟩:=iR h;exact ⟨_,⟨f,caps.map .t,by rw [q];rfl,ts,n,r,c,g,l,rfl⟩,by rw [iU];exact k⟩
  ·rename_i f caps q;obtain ⟨ts,n,r,c,g,l,k⟩:=iR h;exact ⟨_,⟨f,caps,by rw [q];rfl,ts,n,r,c,g,l,rfl⟩,by rw [iU];exact k⟩
  ·exact h.elim
 |mcall ms f i=>
  obtain ⟨p,z,m,b,r,c,g,l,k,v,y⟩:=h;exact ⟨_,⟨p,z,m,b,r,c,g,l,k,v,rfl⟩,by rw [qV];exact y⟩
 |_=>exact s _ id (fun _ h=>h) h
end
section
variable {P:Program}{N:Nat}{w0:World}{S0:aa}{o:Oper}{a:Act}{E:Env}{st:St}
theorem iT{e:TypeId}{j:TypeInfo}(f:P.info? e=some j){c:List T}(d:cq P e=some c): ∃z,j.zero=some z/\z.cells.size=j.size:=by
 obtain ⟨i,z,hi,b,g,h,_⟩:=dm d;rw [f] at hi;cases hi;exact ⟨z,b,by omega⟩
theorem bQ.nil(r:Nat)(e:TypeId)(size:Nat):bQ E (.slice none 0 0) r e size []:=
 ⟨⟨[],World.ownsRow_nil _ _ _ _,rfl,fun i x t b=>by simp at b⟩,fun x b=>by simp at b,fun t d=>by simp at d,fun g c=>by simp [Value.ownBlock] at c⟩
theorem nE{e:Op}{f:FuncId}{d:List O}(b:ah P e=some (.inl f d)):False:=by
 have h: ∀{y:DOp},some y=some (DOp.inl f d)->(match y with|.inl _ _=>true|_=>false)=false->False:=fun j k=>by cases j;cases k
 cases e with
 |call c=>
  obtain ⟨i,az,g⟩:=c;simp only [ah,bJ] at b
  repeat' (first|exact h b rfl|(split at b)|(simp only [cond_eq_ite] at b)|(cases b;done))
 |unOp e t X=>
  cases e <;> simp only [ah,Option.map_eq_some_iff] at b <;> first|(obtain ⟨_,_,b⟩:=b;cases b)|cases b
 |slice t X lo hi mx=>
  cases lo <;> cases hi <;> cases mx <;> simp only [ah] at b <;> repeat' (first|exact h b rfl|(split at b)|(simp only [cond_eq_ite] at b)|(cases b;done))
 |binOp e t X Y ty=>
  cases e <;> simp only [ah] at b <;> repeat' (first|exact h b rfl|(split at b)|(simp only [cond_eq_ite] at b)|(cases b;done))
 |_=>
  simp only [ah] at b
  repeat' (first|exact h b rfl|(split at b)|(simp only [cond_eq_ite] at b)|(simp only [Option.map_eq_some_iff] at b;obtain ⟨_,_,b⟩:=b;cases b;done)|(cases b;done))
theorem oU{e:Op}{f:FuncId}{d:List O}(b:ah P e=some (.fcall f d)):False:=by
 have h: ∀{y:DOp},some y=some (DOp.fcall f d)->(match y with|.fcall _ _=>true|_=>false)=false->False:=fun j k=>by cases j;cases k
 cases e with
 |call c=>
  obtain ⟨i,az,g⟩:=c;simp only [ah,bJ] at b
  repeat' (first|exact h b rfl|(split at b)|(simp only [cond_eq_ite] at b)|(cases b;done))
 |unOp e t X=>
  cases e <;> simp only [ah,Option.map_eq_some_iff] at b <;> first|(obtain ⟨_,_,b⟩:=b;cases b)|cases b
 |slice t X lo hi mx=>
  cases lo <;> cases hi <;> cases mx <;> simp only [ah] at b <;> repeat' (first|exact h b rfl|(split at b)|(simp only [cond_eq_ite] at b)|(cases b;done))
 |binOp e t X Y ty=>
  cases e <;> simp only [ah] at b <;> repeat' (first|exact h b rfl|(split at b)|(simp only [cond_eq_ite] at b)|(cases b;done))
 |_=>
  simp only [ah] at b
  repeat' (first|exact h b rfl|(split at b)|(simp only [cond_eq_ite] at b)|(simp only [Option.map_eq_some_iff] at b;obtain ⟨_,_,b⟩:=b;cases b;done)|(cases b;done))
theorem oV{e:Op}{size d:Nat}{s x:O}(b:ah P e=some (.appV size d s x)):False:=by
 have g: ∀{y:DOp},some y=some (DOp.appV size d s x)->(match y with|.appV _ _ _ _=>true|_=>false)=false->False:=fun i j=>by cases i;cases j
 cases e with
 |call c=>
  obtain ⟨h,az,f⟩:=c;simp only [ah,bJ] at b
  repeat' (first|exact g b rfl|(split at b)|(simp only [cond_eq_ite] at b)|(cases b;done))
 |unOp e t X=>
  cases e <;> simp only [ah,Option.map_eq_some_iff] at b <;> first|(obtain ⟨_,_,b⟩:=b;cases b)|cases b
 |slice t X lo hi mx=>
  cases lo <;> cases hi <;> cases mx <;> simp only [ah] at b <;> repeat' (first|exact g b rfl|(split at b)|(simp only [cond_eq_ite] at b)|(cases b;done))
 |binOp e t X Y ty=>
  cases e <;> simp only [ah] at b <;> repeat' (first|exact g b rfl|(split at b)|(simp only [cond_eq_ite] at b)|(cases b;done))
 |_=>
  simp only [ah] at b
  repeat' (first|exact g b rfl|(split at b)|(simp only [cond_eq_ite] at b)|(simp only [Option.map_eq_some_iff] at b;obtain ⟨_,_,b⟩:=b;cases b;done)|(cases b;done))
theorem iN{e:TypeId}{size n:Nat}{m:List T}{f:List (Nat×O)}(d:ah P o.op=some (.buildS e size n m f)): ∃t q j,o.op= .buildSlice t n q/\P.underlying t=some (.slice e)/\P.info? e=some j/\cq P e=some m/\size=j.size/\0<j.size/\n * j.size<=16777216/\ ∃k,aZ (fun i=>some (i,0)) q.toList=some k/\(∀ p∈k,p.1<n)/\f=k.map fun p=>(p.1,p.2.2):=by
 have l: ∀{y:DOp},some y=some (DOp.buildS e size n m f)->y.plain=true->False:=fun u D=>by cases u;cases D
 have w: ∀{t x s b X Y},some (DOp.append t x s b X Y)=some (DOp.buildS e size n m f)->False:=fun u=>by cases u
 cases g:o.op with
 |buildSlice t K q=>
  rw [g] at d;simp only [ah] at d;split at d
  ·rename_i x A;split at d
   ·rename_i j C J I H F;split at d
    ·rename_i k B;simp only [cond_eq_ite] at d;split at d
     ·rename_i r;simp only [Bool.and_eq_true,List.all_eq_true] at r;cases d;have lt: ∀{n},Nat.blt 0 n=true->0<n:=fun h=>Nat.lt_of_lt_of_le (Nat.lt_succ_self 0) (nlZ h)
      exact ⟨t,q,j,rfl,A,I,H,rfl,lt r.1.1.2,nlZ r.1.1.1,k,B,fun p G=>nlZ (r.2 p G),rfl⟩
     ·cases d
    ·cases d
   ·cases d
  ·cases d
 |call c=>
  exfalso;rw [g] at d;simp only [ah,bJ] at d
  repeat' (first|exact l d rfl|exact w d|(split at d)|(simp only [cond_eq_ite] at d)|(cases d;done))
 |unOp v z X=>
  exfalso;rw [g] at d;cases v <;> simp only [ah,Option.map_eq_some_iff] at d <;> first|(obtain ⟨_,_,d⟩:=d;cases d)|cases d
 |slice z X lo hi mx=>
  exfalso;rw [g] at d;cases lo <;> cases hi <;> cases mx <;> simp only [ah] at d <;> repeat' (first|exact l d rfl|(split at d)|(simp only [cond_eq_ite] at d)|(cases d;done))
 |binOp v z X Y ty=>
  exfalso;rw [g] at d;cases v <;> simp only [ah] at d <;> repeat' (first|exact l d rfl|(split at d)|(simp only [cond_eq_ite] at d)|(cases d;done))
 |_=>
  exfalso;rw [g] at d;simp only [ah] at d
  repeat' (first|exact l d rfl|(split at d)|(simp only [cond_eq_ite] at d)|(simp only [Option.map_eq_some_iff] at d;obtain ⟨_,_,d⟩:=d;cases d;done)|(cases d;done))
end
section
variable [Glb]{P:Program}{N:Nat}{w0:World}{S0:aa}{o:Oper}{a:Act}{E:Env}{st:St}
theorem pV(h:SR N w0 S0 E st a.tmps)(hd:ay N o.dst){x:DOp}(l:ah P o.op=some x)(k:x.bF=false){e:Eff}(m:cL P x (st.nm o.dst) st e):Did P N w0 S0 o a E (st.app o.dst e):=by
 have plain:inR (eff x (st.nm o.dst) st.sl st.bx) e->Did P N w0 S0 o a E (st.app o.dst e):=fun hi=>by
  have d:=lu h hd l;cases i:eff x (st.nm o.dst) st.sl st.bx with
  |no=>rw [i] at hi;exact hi.elim
  |yes e0=>rw [i] at hi d;cases hi;exact d
  |need c e0=>rw [i] at hi d;obtain ⟨j,rfl⟩:=hi;exact d j
  |alt c b f=>rw [i] at hi d;obtain ⟨j,rfl⟩:=hi;exact d j
  |eq c t f=>rw [i] at hi d;obtain ⟨j,rfl⟩:=hi;exact d j
 cases x with
 |call f g=>cases k
 |bY y g=>cases k
 |mcall ms f g=>exact (lF l).elim
 |_=>exact plain m
end
section
variable {P:Program}{N:Nat}{w0:World}{S0:aa}{o:Oper}{a:Act}{E:Env}{st:St}
theorem oA{f:Op}{m:O}(d:ah P f=some (.mrng m)): ∃t i e X,f= .range t X/\P.underlying t=some (.map i e)/\ak X=some m:=by
 cases f with
 |range t X=>
  simp only [ah] at d;split at d
  ·rename_i i e y k l;cases d;exact ⟨t,i,e,X,rfl,k,l⟩
  ·cases d
 |next X b=>cases b <;> simp only [ah,cond_false,cond_true,Option.map_eq_some_iff] at d <;> first|(cases d;done)|(obtain ⟨_,_,d⟩:=d;cases d)
 |call c=>
  exfalso;obtain ⟨h,az,g⟩:=c;simp only [ah,bJ] at d
  repeat' (first|(split at d)|(simp only [cond_eq_ite] at d)|(cases d;done))
 |unOp f j X=>
  exfalso;cases f <;> simp only [ah,Option.map_eq_some_iff] at d <;> first|(obtain ⟨_,_,d⟩:=d;cases d)|cases d
 |slice j X lo hi mx=>
  exfalso;cases lo <;> cases hi <;> cases mx <;> simp only [ah] at d <;> repeat' (first|(split at d)|(simp only [cond_eq_ite] at d)|(cases d;done))
 |binOp f j X Y ty=>
  exfalso;cases f <;> simp only [ah] at d <;> repeat' (first|(split at d)|(simp only [cond_eq_ite] at d)|(cases d;done))
 |_=>
  exfalso;simp only [ah] at d
  repeat' (first|(split at d)|(simp only [cond_eq_ite] at d)|(simp only [Option.map_eq_some_iff] at d;obtain ⟨_,_,d⟩:=d;cases d;done)|(cases d;done))
theorem nD{e:Op}{m:O}(d:ah P e=some (.mnext m)): ∃X,e= .next X false/\ak X=some m:=by
 cases e with
 |next X b=>
  cases b with
  |true=>cases d
  |false=>
   simp only [ah,cond_false,Option.map_eq_some_iff] at d;obtain ⟨y,i,d⟩:=d;cases d;exact ⟨X,rfl,i⟩
 |call c=>
  exfalso;obtain ⟨g,az,f⟩:=c;simp only [ah,bJ] at d
  repeat' (first|(split at d)|(simp only [cond_eq_ite] at d)|(cases d;done))
 |unOp e h X=>
  exfalso;cases e <;> simp only [ah,Option.map_eq_some_iff] at d <;> first|(obtain ⟨_,_,d⟩:=d;cases d)|cases d
 |slice h X lo hi mx=>
  exfalso;cases lo <;> cases hi <;> cases mx <;> simp only [ah] at d <;> repeat' (first|(split at d)|(simp only [cond_eq_ite] at d)|(cases d;done))
 |binOp e h X Y ty=>
  exfalso;cases e <;> simp only [ah] at d <;> repeat' (first|(split at d)|(simp only [cond_eq_ite] at d)|(cases d;done))
 |_=>
  exfalso;simp only [ah] at d
  repeat' (first|(split at d)|(simp only [cond_eq_ite] at d)|(simp only [Option.map_eq_some_iff] at d;obtain ⟨_,_,d⟩:=d;cases d;done)|(cases d;done))
end
section
variable [Glb]{P:Program}{N:Nat}{w0:World}{S0:aa}{o:Oper}{a:Act}{E:Env}{st:St}
theorem qu(h:SR N w0 S0 E st a.tmps)(hd:ay N o.dst){m:O}(B:ah P o.op=some (.mrng m)){K:St->Prop}(k:wpO P (.mrng m) o.dst st K): ∃C,K C/\Did P N w0 S0 o a E C:=by
 obtain ⟨t,kt,e,X,ho,Y,hX⟩:=oA B;have G:=af h.sl hX;unfold wpO at k;cases J:o.dst with
 |none=>rw [J] at k;exact k.elim
 |some d=>
  rw [J] at k hd;simp only at k;cases L:ev st.sl m with
  |mp b=>
   rw [L] at k G;simp only at k;obtain ⟨M,Q⟩:=G.eH;split at k
   ·rename_i r s D mb I u;obtain ⟨j,f,A,q⟩:=(h.bx b _ I).map;have z:=k (j.toList.map (·.born)) f (by simp [q.size]) q.apart (fun x H=>by
     obtain ⟨y,hy,rfl⟩:=List.mem_map.1 H;exact q.lt y hy)
    refine ⟨_,z,?_⟩;have h1:SR N w0 S0 E {st with bx:=upd st.bx b (some (.m r s D (some (j.toList.map (·.born),f))))} a.tmps:=by
     refine {h with bx:=fun n c u=>?_,live:=fun n=>?_ }
     ·by_cases l:n=b
      ·subst l
       have:upd st.bx n (some (BX.m r s D (some (j.toList.map (·.born),f)))) n=some c:=u
       rw [aj] at this;cases this;have hB:=h.bx n _ I;exact ⟨hB.old,hB.free,_,A,.map j f r s D _ ⟨q.size,q.at_,q.lt,q.apart,fun p U=>by cases U;rfl⟩⟩
      ·have:upd st.bx b (some (BX.m r s D (some (j.toList.map (·.born),f)))) n=some c:=u
       rw [ae _ _ _ _ l] at this;exact h.bx n c this
     ·show E.live n=(upd st.bx b _ n).isSome
      by_cases l:n=b
      ·subst l;rw [aj,h.live,I];rfl
      ·rw [ae _ _ _ _ l];exact h.live n
    have l:d+st.off≠b:=fun e=>by rw [e,I] at u;cases u
    have R:(upd st.bx b (some (BX.m r s D (some (j.toList.map (·.born),f))))) (d+st.off)=none:=by rw [ae _ _ _ _ l];exact u
    have h2:=h1.jX (n:=d+st.off) R (.mapIter (some (E.κ b)) f #[] f) (.it b (j.toList.map (·.born)) f []) (fun T g=>by
      obtain ⟨l1,l2⟩:=g.κ b Q;rw [<- l2];exact bP.it b _ f [] l1) (.pointer (some ⟨E.w.heap.size,0,none⟩)) (.ptr (d+st.off) 0) (fun T z B=>by rw [<- z];exact .ptr _ _ B) hd
    refine ⟨.value (.pointer (some ⟨E.w.heap.size,0,none⟩)),.pointer (some ⟨E.w.heap.size,0,none⟩),{E with w:=E.w.alloc (.mapIter (some (E.κ b)) f #[] f),κ:=upd E.κ (d+st.off) E.w.heap.size,live:=upd E.live (d+st.off) true },?_,.inl rfl,?_⟩
    ·unfold execOp;simp [ho,Instr.range,M,run_underlying Y,Go.MapKept.run_getObj_map A]
    ·rw [J];exact h2
   ·exact k.elim
  |t x=>
   rw [L] at k G;cases x with
   |mapd r s ks vs=>
    simp only at k;split at k
    ·rename_i u;have Z:=G.ax;generalize M:a.eval X=v at Z;cases Z with
     |mapd g j f _ _ _ _ z W A r1 r2 ok lt apart=>
     have q:bL E j f r s (ks.zip vs) none:=⟨by rw [List.length_zip,z,W];simp,fun i x e H F=>by
      rw [List.getElem?_zip_eq_some] at F;exact ⟨r1 i x e.1 H F.1,r2 i x e.2 H F.2,ok _ (List.mem_of_getElem? F.1)⟩,lt,apart,fun p U=>by cases U⟩
     refine ⟨_,k,.value (.pointer (some ⟨E.w.heap.size,0,none⟩)),.pointer (some ⟨E.w.heap.size,0,none⟩),{E with w:=E.w.alloc (.mapIter (some g) f #[] f),κ:=upd E.κ (d+st.off) E.w.heap.size,live:=upd E.live (d+st.off) true },?_,.inl rfl,?_⟩
     ·unfold execOp;simp [ho,Instr.range,M,run_underlying Y,Go.MapKept.run_getObj_map A.1]
     ·rw [J];exact h.jX (n:=d+st.off) u (.mapIter (some g) f #[] f) (.itd (ks.zip vs) []) (fun T V=>bP.itd g j f r s _ [] ((V.cell g 0 A.2).map _ _ A.1) (V.S _ _ A.2) (q.grow V)) (.pointer (some ⟨E.w.heap.size,0,none⟩)) (.ptr (d+st.off) 0) (fun T z B=>by rw [<- z];exact .ptr _ _ B) hd
    ·exact k.elim
   |_=>exact k.elim
  |_=>rw [L] at k;exact k.elim
end
section
variable {P:Program}{N:Nat}{w0:World}{S0:aa}{o:Oper}{a:Act}{E:Env}{st:St}
theorem mZ{n:Nat}(b:0<n)(w:World): ∃i w',i<n/\(choose (.mapNext n)).run P w= .ok i w'/\(w'=w\/w'=w.drew):=by
 rw [run_choose_drew];cases c:(Question.mapNext n).forced with
 |true=>exact ⟨0,w,b,rfl,.inl rfl⟩
 |false=>exact ⟨_,w.drew,Nat.mod_lt _ b,rfl,.inr rfl⟩
theorem lG{X:Operand}(ho:o.op= .next X false){g k:Nat}(hP:a.eval X= .pointer (some ⟨k,0,none⟩)){b:Array MapEntry}{c:Nat}{bs:List Nat}(p:bs=b.toList.map (·.born))(M:bs.Nodup){ix:List Nat}(F: ∀j∈ix,j<b.size)
  (m: ∀x∈b,x.born<c) (hg:E.w.heap[g]? =some (.map b c)) (r:E.w.heap[k]? =some (.mapIter (some g) c (ix.map fun j=>bs.getD j 0).toArray c)):
  ∃w',(w'=E.w\/w'=E.w.drew)/\(((∀ j,j<b.size->j∈ix)/\(execOp a.eval o).run P E.w= .ok (.value (.tuple #[.bool false])) w')\/
   ∃(j:Nat) (x:MapEntry),b[j]? =some x/\ ¬j∈ix/\(execOp a.eval o).run P E.w= .ok (.value (.tuple #[.bool true,x.key,x.val])) {w' with heap:=w'.heap.setIfInBounds k (.mapIter (some g) c ((ix++[j]).map fun j=>bs.getD j 0).toArray c)}):=by
 have u:bs.length=b.size:=by rw [p];simp
 have K: ∀(j:Nat) (x:MapEntry),b[j]? =some x->((ix.map fun j=>bs.getD j 0).toArray.contains x.born=true↔j∈ix):=fun j x f=>by
  have l:bs[j]? =some x.born:=by rw [p];simp [f]
  have L:j<bs.length:=(gsZ l).1;simp only [List.contains_toArray,List.contains_iff_mem,List.mem_map];constructor
  ·rintro ⟨i,hi,s⟩;have H:i<bs.length:=by rw [u];exact F i hi
   rw [List.getD_eq_getElem?_getD,ggZ H,Option.getD_some] at s;have R:bs[j]=x.born:=by rw [ggZ L] at l;exact Option.some.inj l
   have:=(List.getElem_inj M).1 (s.trans R.symm)
   exact this▸hi
  ·intro hi;exact ⟨j,hi,by rw [List.getD_eq_getElem?_getD,l];rfl⟩
 generalize hS:(ix.map fun j=>bs.getD j 0).toArray=seen at K r;generalize Q:(b.filter fun e=> !seen.contains e.born)=left;have G: ∀x∈left,x∈b/\seen.contains x.born=false:=fun x f=>by
  rw [<- Q,Array.mem_filter] at f;exact ⟨f.1,by simpa using f.2⟩
 have z:(left.filter fun x=>decide (x.born<c))=left:=Array.filter_eq_self.2 fun x f=>by simpa using m x (G x f).1
 have iJ:(left.filter fun x=>decide (x.born>=c))= #[]:=Array.filter_eq_empty_iff.2 fun x f=>by
  have:=m x (G x f).1
  simp;omega
 have s8:(!seen.isEmpty&& !b.isEmpty&&b.all fun x=>decide (x.born>=c))=false:=by
  cases s:b.isEmpty with
  |true=>simp
  |false=>
   have A:0<b.size:=by
    rw [Array.isEmpty_eq_false_iff] at s;exact Array.size_pos_iff.2 s
   have:(b.all fun x=>decide (x.born>=c))=false:=by
    rw [Bool.eq_false_iff];intro V;rw [Array.all_eq_true] at V;have D:=V 0 A;have U:=m b[0] (Array.getElem_mem A);simp at D;omega
   simp [this]
 have h:(execOp a.eval o).run P E.w=((choose (.mapNext ((if left.isEmpty then #[none] else #[])++left.map some).size)).run P E.w).andThen fun i w'=>
   ((match ((if left.isEmpty then #[none] else #[])++left.map some)[i]? with
   |some (some e)=>(do setObj k (.mapIter (some g) c (seen.push e.born) c);pure (.tuple #[.bool true,e.key,e.val]))
   |some none=>pure (.tuple #[.bool false])
   |none=>stuck "Next: no such candidate" :Sem Value).run P w').andThen fun v O=>.ok (.value v) O:=by
  unfold execOp;simp only [ho,hP,Instr.next,Sem.run_bind,fI r,Result.andThen_ok,Go.MapKept.run_getObj_map hg,s8,Q,z,iJ];simp only [Bool.false_eq_true,if_false,Array.append_empty,Sem.run_bind,Sem.run_pure];cases (choose (.mapNext ((if left.isEmpty=true then #[none] else #[])++left.map some).size)).run P E.w <;> rfl
 have Y: ∀w',(w'=E.w\/w'=E.w.drew)->w'.heap=E.w.heap:=fun w' d=>by
  rcases d with rfl|rfl <;> rfl
 cases B:left.isEmpty with
 |true=>
  have C:left= #[]:=Array.isEmpty_iff.1 B;rw [B] at h;simp only [if_true] at h;obtain ⟨i,w',hi,q,d⟩:=mZ (P:=P) (n:=(#[none]++left.map some).size) (by rw [C];simp) E.w;have S:i=0:=by rw [C] at hi;simpa using hi
  subst S;rw [q,C] at h;refine ⟨w',d,.inl ⟨fun j t=>?_,by rw [h];simp⟩⟩
  by_cases y:j∈ix
  ·exact y
  ·exfalso;have f:=Array.getElem?_eq_getElem t;have J:seen.contains (b[j]).born=false:=by
    rw [Bool.eq_false_iff];intro hc;exact y ((K j _ f).1 hc)
   have:b[j]∈left:=by
    rw [<- Q,Array.mem_filter];exact ⟨Array.getElem_mem t,by rw [J];rfl⟩
   rw [C] at this;simp at this
 |false=>
  rw [B] at h;simp only [Bool.false_eq_true,if_false,Array.empty_append] at h;have A:0<left.size:=Array.size_pos_iff.2 (Array.isEmpty_eq_false_iff.1 B);obtain ⟨i,w',hi,q,d⟩:=mZ (P:=P) (n:=(left.map some).size) (by simpa using A) E.w;have hi:i<left.size:=by simpa using hi
  have T:(left.map some)[i]? =some (some left[i]):=by simp [hi]
  rw [q] at h;simp only [Result.andThen_ok,T] at h;obtain ⟨D,U⟩:=G left[i] (Array.getElem_mem hi);obtain ⟨j,l⟩:=Array.mem_iff_getElem?.1 D;have mE: ¬j∈ix:=fun Z=>by
   have:=(K j _ l).2 Z
   rw [U] at this;cases this
  have I:bs.getD j 0=left[i].born:=by
   rw [List.getD_eq_getElem?_getD,p];simp [l]
  have W:seen.push left[i].born=((ix++[j]).map fun j=>bs.getD j 0).toArray:=by
   rw [<- hS, <-I];simp
  refine ⟨w',d,.inr ⟨j,left[i],l,mE,?_⟩⟩;have tN:(setObj k (.mapIter (some g) c (seen.push left[i].born) c)).run P w'= .ok () {w' with heap:=w'.heap.setIfInBounds k (.mapIter (some g) c (seen.push left[i].born) c)}:=by
   have:w'.heap[k]? =some (.mapIter (some g) c seen c):=by rw [Y w' d];exact r
   simp [setObj,Sem.run,this]
  rw [h, <-W];simp [tN]
end
section
variable [Glb]{P:Program}{N:Nat}{w0:World}{S0:aa}{o:Oper}{a:Act}{E:Env}{st:St}
theorem mR(h:SR N w0 S0 E st a.tmps){d k:Nat}(hd:d<N)(H:o.dst=some d){B:BX}(i:st.bx k=some B){A:Obj}(p:E.w.heap[E.κ k]? =some A){w':World}(m:w'=E.w\/w'=E.w.drew)(b:Obj)(l:BX)
  (I: ∀y:Env,Grow {E with w:=w' } y->bP y b l) {x:MapEntry} {e:T×T} (j:Rep E.S E.w x.key e.1/\Rep E.S E.w x.val e.2)
  (D:(execOp a.eval o).run P E.w= .ok (.value (.tuple #[.bool true,x.key,x.val])) {w' with heap:=w'.heap.setIfInBounds (E.κ k) b }) (_: ∀q c,A≠ .map q c):
  Did P N w0 S0 o a E {st with sl:=upd st.sl d (.t (.tup [.bool true,e.1,e.2])),bx:=upd st.bx k (some l)}:=by
 have world:SR N w0 S0 {E with w:=w' } st a.tmps/\w'.heap=E.w.heap:=by
  rcases m with rfl|rfl
  ·exact ⟨h,rfl⟩
  ·exact ⟨h.drew,rfl⟩
 refine ⟨.value (.tuple #[.bool true,x.key,x.val]),.tuple #[.bool true,x.key,x.val],{E with w:={w' with heap:=w'.heap.setIfInBounds (E.κ k) b }},D,.inl rfl,?_⟩;rw [H];have s:=world.1.pG i b l I;refine s.put hd (.t _ _ (.tup _ _ rfl fun C z u f g=>?_));have up: ∀{v:Value} {t:T},Rep E.S E.w v t->Rep E.S {w' with heap:=w'.heap.setIfInBounds (E.κ k) b } v t:=fun j=>j.mono (fun _ _ h=>h) (fun n F G=>by
  refine aC.dD ?_;have r:n≠E.κ k:=fun e=>(h.bx k _ i).free F (e▸G)
  show (w'.heap.setIfInBounds (E.κ k) b)[n]? =_
  rw [world.2];exact (Go.MapKept.heap_set p).2 n r)
 match C,f,g with
 |0,f,g=>simp at f g;subst f;subst g;exact .bool _
 |1,f,g=>simp at f g;subst f;subst g;exact up j.1
 |2,f,g=>simp at f g;subst f;subst g;exact up j.2
 |C+3,f,g=>simp at f
theorem oY(h:SR N w0 S0 E st a.tmps)(hd:ay N o.dst){y:O}(hl:ah P o.op=some (.mnext y)){K:St->Prop}(m:wpO P (.mnext y) o.dst st K): ∃I,K I/\Did P N w0 S0 o a E I:=by
 obtain ⟨X,ho,hX⟩:=nD hl;have hv:=af h.sl hX;unfold wpO at m;cases J:o.dst with
 |none=>rw [J] at m;exact m.elim
 |some d=>
  rw [J] at m hd;simp only at m;have over: ∀{w':World},(w'=E.w\/w'=E.w.drew)->(execOp a.eval o).run P E.w= .ok (.value (.tuple #[.bool false])) w'->Did P N w0 S0 o a E (st.put d (.t (.tup [.bool false]))):=fun {w'} f v=>by
   have world:SR N w0 S0 {E with w:=w' } st a.tmps:=by
    rcases f with rfl|rfl
    ·exact h
    ·exact h.drew
   refine ⟨.value (.tuple #[.bool false]),.tuple #[.bool false],{E with w:=w' },v,.inl rfl,?_⟩;rw [J];exact world.put hd (.t _ _ (.tup _ _ rfl fun i x u B hu=>by
    cases i with
    |zero=>simp at B hu;subst B;subst hu;exact .bool _
    |succ i=>simp at B))
  split at m
  ·rename_i k hk;rw [hk] at hv;obtain ⟨hP,hlk⟩:=hv.bd;split at m
   ·rename_i b bs c ix p;split at m
    ·rename_i ag sh M q hbb;obtain ⟨hq,V,hlt,hlen,A,Q,W⟩:=m;obtain ⟨F,U,L,l⟩:=(h.bx b _ hbb).map;have D:=l.mb q rfl;rw [hq] at D;simp only [Prod.mk.injEq] at D;obtain ⟨hbs,rfl⟩:=D;obtain ⟨ob,s,z⟩:=(h.bx k _ p).at_;cases z with
     |cells _ _ _ hc=>cases hc
     |it _ _ _ _ T=>
     obtain ⟨w',f,⟨fQ,v⟩|⟨j,x,n,mE,v⟩⟩:=lG (P:=P) (a:=a) (E:=E) ho hP hbs V (fun j n=>by rw [l.size];exact A j n) (fun x B=>l.lt x (by simpa using B)) L s
     ·exact ⟨_,W fun j n=>fQ j (by rw [l.size];exact n),over f v⟩
     ·have C:j<M.length:=by rw [<- l.size];exact (Array.getElem?_eq_some_iff.1 n).1
      have G:=ggZ C;have H:=l.at_ j _ _ n G;exact ⟨_,Q j _ G mE,mR h hd J p s f _ _ (fun E' g=>by
       obtain ⟨l1,Z⟩:=g.κ b T;have Z:E'.κ b=E.κ b:=Z;rw [<- Z];exact bP.it b bs c (ix++[j]) l1) ⟨H.1,H.2.1⟩ v (fun _ _ e=>by cases e)⟩
    ·exact m.elim
   ·rename_i M ix p;obtain ⟨A,Q,W⟩:=m;obtain ⟨ob,s,z⟩:=(h.bx k _ p).at_;cases z with
    |cells _ _ _ hc=>cases hc
    |itd g F c ag sh _ _ L hS l=>
    obtain ⟨w',f,⟨fQ,v⟩|⟨j,x,n,mE,v⟩⟩:=lG (P:=P) (a:=a) (E:=E) ho hP rfl l.apart (fun j n=>by rw [l.size];exact A j n) (fun x B=>l.lt x (by simpa using B)) L s
    ·exact ⟨_,W fun j n=>fQ j (by rw [l.size];exact n),over f v⟩
    ·have C:j<M.length:=by rw [<- l.size];exact (Array.getElem?_eq_some_iff.1 n).1
     have G:=ggZ C;have H:=l.at_ j _ _ n G;have R:w'.heap=E.w.heap:=by rcases f with rfl|rfl <;> rfl
     exact ⟨_,Q j _ G mE,mR h hd J p s f _ _ (fun E' g'=>by
      have g0:Grow E {E with w:=w' }:=⟨rfl,fun _ hl=>⟨hl,rfl⟩,fun r k hr=>⟨hr,by show w'.heap[_]? =_;rw [R],fun _=>Iff.rfl⟩,fun _ _ hs=>hs,fun b o hs=>aC.dD (by show w'.heap[_]? =_;rw [R])⟩
      have Y:({E with w:=w' }:Env).w.heap[g]? =some (.map F c):=by show w'.heap[g]? =_;rw [R];exact L
      exact bP.itd g F c ag sh M (ix++[j]) ((g'.cell g 0 hS).map _ _ Y) (g'.S _ _ hS) ((l.grow g0).grow g')) ⟨H.1,H.2.1⟩ v (fun _ _ e=>by cases e)⟩
   ·exact m.elim
  ·exact m.elim
end
section
variable {P:Program}{N:Nat}{w0:World}{S0:aa}{o:Oper}{a:Act}{E:Env}{st:St}
theorem fj{t e:TypeId}{size d:Nat}{s x:O}(b:ah P o.op=some (.append t e size d s x)):
  ∃X Y u j z,o.op= .call {callee:=.builtin .append,args:= #[X,Y],argTypes:= #[t,u]}/\((∃ i,P.underlying u=some (.slice i))\/P.underlying u=some .string)/\P.underlying t=some (.slice e)/\P.info? e=some j/\cq P e=some z/\size=j.size/\d=j.bytes/\0<j.size/\0<j.bytes/\ak X=some s/\ak Y=some x:=by
 have f: ∀{y:DOp},some y=some (DOp.append t e size d s x)->y.plain=true->False:=fun l n=>by cases l;cases n
 cases g:o.op with
 |call c=>
  rw [g] at b;obtain ⟨callee,az,argTypes⟩:=c;simp only [ah,bJ] at b;split at b
  ·repeat' (first|exact (f b rfl).elim|(split at b)|(simp only [cond_eq_ite] at b)|(cases b;done))
  ·repeat' (first|exact (f b rfl).elim|(split at b)|(simp only [cond_eq_ite] at b)|(cases b;done))
  ·repeat' (first|exact (f b rfl).elim|(split at b)|(simp only [cond_eq_ite] at b)|(cases b;done))
  ·repeat' (first|exact (f b rfl).elim|(split at b)|(simp only [cond_eq_ite] at b)|(cases b;done))
  ·repeat' (first|exact (f b rfl).elim|(split at b)|(simp only [cond_eq_ite] at b)|(cases b;done))
  ·split at b
   ·rename_i X Y q u l n;split at b
    ·rename_i i s' G r F p;split at b
     ·rename_i j z D C;simp only [cond_eq_ite] at b;split at b
      ·rename_i k;simp only [Bool.and_eq_true] at k;cases b;have A:az= #[X,Y]:=Array.toList_inj.1 (by simpa using l);have B:(∃ i,P.underlying u=some (.slice i))\/P.underlying u=some .string:=by
        rcases Bool.or_eq_true _ _▸k.1.1 with h|h
        ·have w:t=u:=Nat.eq_of_beq_eq_true h;exact .inl ⟨_,w▸r⟩
        ·unfold oS at h;split at h
         ·exact .inr (by assumption)
         ·cases h
       have v:argTypes= #[t,u]:=Array.toList_inj.1 (by simpa using n);subst A;subst v;exact ⟨X,Y,u,j,z,rfl,B,r,D,C,rfl,rfl,Nat.lt_of_lt_of_le (Nat.lt_succ_self 0) (nlZ k.1.2),Nat.lt_of_lt_of_le (Nat.lt_succ_self 0) (nlZ k.2),F,p⟩
      ·cases b
     ·cases b
    ·cases b
   ·cases b
  ·repeat' (first|exact (f b rfl).elim|(split at b)|(simp only [cond_eq_ite] at b)|(cases b;done))
  ·repeat' (first|exact (f b rfl).elim|(split at b)|(simp only [cond_eq_ite] at b)|(cases b;done))
  ·repeat' (first|exact (f b rfl).elim|(split at b)|(simp only [cond_eq_ite] at b)|(cases b;done))
  ·cases b
 |unOp m q X=>
  exfalso;rw [g] at b;cases m <;> simp only [ah,Option.map_eq_some_iff] at b <;> first|(obtain ⟨_,_,b⟩:=b;cases b)|cases b
 |slice q X lo hi mx=>
  exfalso;rw [g] at b;cases lo <;> cases hi <;> cases mx <;> simp only [ah] at b <;> repeat' (first|exact f b rfl|(split at b)|(simp only [cond_eq_ite] at b)|(cases b;done))
 |binOp m q X Y ty=>
  exfalso;rw [g] at b;cases m <;> simp only [ah] at b <;> repeat' (first|exact f b rfl|(split at b)|(simp only [cond_eq_ite] at b)|(cases b;done))
 |_=>
  exfalso;rw [g] at b;simp only [ah] at b
  repeat' (first|exact f b rfl|(split at b)|(simp only [cond_eq_ite] at b)|(simp only [Option.map_eq_some_iff] at b;obtain ⟨_,_,b⟩:=b;cases b;done)|(cases b;done))
end
section
variable [Glb]{P:Program}{N:Nat}{w0:World}{S0:aa}{o:Oper}{a:Act}{E:Env}{st:St}
theorem nV(h:SR N w0 S0 E st a.tmps)(hd:ay N o.dst){x:DOp}(C:ah P o.op=some x)(cP:x.bF=false){K:St->Prop}(b:wpO P x o.dst st K): ∃i,K i/\Did P N w0 S0 o a E i:=by
 by_cases hx:x.plain=true
 ·obtain ⟨e,he,hk⟩:=je hx b;exact ⟨_,hk,pV h hd C cP he⟩
 ·have S: ∀(d:Nat) (i:St),o.dst=some d->(∃ (q:Value) (L:Env),(execOp a.eval o).run P E.w= .ok (.value q) L.w/\SR N w0 S0 L i (a.tmps.setIfInBounds d q))->Did P N w0 S0 o a E i:=by
   rintro d i B ⟨q,L,O,G⟩;exact ⟨_,q,L,O,.inl rfl,by rw [B];exact G⟩
  cases x with
  |append t e size bytes s x=>
   have D:=fj C;obtain ⟨X,Y,u,j,zs,ho,hku,hu,Z,hz,rfl,rfl,A,hby,hX,hY⟩:=D;obtain ⟨z,hjz,hzs⟩:=iT Z hz;have k:=af h.sl hX;have I:=af h.sl hY;have Q: ∀(v y q:Value) (w':World),a.eval X=v->a.eval Y=y->(Builtin.append_ #[t,u] o.type #[v,y]).run P E.w= .ok q w'->(execOp a.eval o).run P E.w= .ok (.value q) w':=fun v y q w' U V O=>
    aD ho (by simp [builtin,U,V,O])
   unfold wpO at b;cases B:o.dst with
   |none=>rw [B] at b;exact b.elim
   |some d=>
    rw [B] at b hd;simp only at b;have W: ∀(r:Nat) (xs ys:List T),bQ E (a.eval X) r e j.size xs->(∃ g,cC P E (a.eval Y) j.size ys g)->(xs.length+ys.length) * j.bytes<=140737488355328->K ((st.dg r (d+st.off)).put d (.own (d+st.off) e j.size (xs++ys)))->
      ∃i,K i/\Did P N w0 S0 o a E i:=fun r xs ys hv ⟨g,M⟩ bp hk=>by
     obtain ⟨q,L,O,G⟩:=nY (ty:=o.type) h hd hu Z hjz hzs A hby hv M hku bp;exact ⟨_,hk,S d _ B ⟨q,L,Q _ _ _ _ rfl rfl O,G⟩⟩
    unfold ft at b;split at b
    ·rename_i n ys M;obtain ⟨hn,b⟩:=b;have p: ∃g,cC P E (a.eval Y) j.size ys g:=by
      rcases hn with rfl|rfl
      ·exact eT h I M A
      ·exact kM h I M
     split at b
     ·rename_i H;rw [H] at k;have F:a.eval X= .slice none 0 0:=by
       have:=k.ax
       generalize a.eval X=v at this;cases this;rfl
      exact W (d+st.off) [] ys (by rw [F];exact bQ.nil (d+st.off) e j.size) p (by simpa using b.1) (by simpa using b.2)
     ·rename_i r e' l xs H;rw [H] at k;simp only [cond_eq_ite] at b;split at b
      ·rename_i J;rw [Bool.and_eq_true] at J;have U:e'=e:=Nat.eq_of_beq_eq_true J.1;have V:l=j.size:=Nat.eq_of_beq_eq_true J.2;subst U;subst V;exact W r xs ys k.eY p b.1 b.2
      ·exact b.elim
     ·exact b.elim
    ·rename_i M;have p: ∃g,cC P E (a.eval Y) j.size [] g:=jR h I M;split at b
     ·rename_i H;rw [H] at k;have F:a.eval X= .slice none 0 0:=by
       have:=k.ax
       generalize a.eval X=v at this;cases this;rfl
      exact W (d+st.off) [] [] (by rw [F];exact bQ.nil (d+st.off) e j.size) p (by simp) (by simpa using b)
     ·rename_i r e' l xs H;rw [H] at k;simp only [cond_eq_ite] at b;split at b
      ·rename_i J;rw [Bool.and_eq_true] at J;have U:e'=e:=Nat.eq_of_beq_eq_true J.1;have V:l=j.size:=Nat.eq_of_beq_eq_true J.2;subst U;subst V;exact W r xs [] k.eY p (by simpa using b.1) (by simpa using b.2)
      ·exact b.elim
     ·exact b.elim
    ·exact b.elim
  |buildS e size n zs parts=>
   have D:=iN C;obtain ⟨t,ps,j,ho,hu,Z,hz,rfl,A,iI,qs,hqs,hin,rfl⟩:=D;unfold wpO at b;cases B:o.dst with
   |none=>rw [B] at b;exact b.elim
   |some d=>
    rw [B] at b hd;simp only at b;split at b
    ·rename_i es c hf;exact ⟨_,b.2,S d _ B (by obtain ⟨v2,E2,_,q1,q2⟩:=jZ h hd ho hu Z hz A iI hqs hin hf b.1;exact ⟨v2,E2,q1,q2⟩)⟩
    ·exact b.elim
  |inl f R=>exact (nE C).elim
  |appV=>exact (oV C).elim
  |fcall f R=>exact (oU C).elim
  |mrng m=>exact qu h hd C b
  |mnext y=>exact oY h hd C b
  |_=>exact absurd rfl hx
theorem nv(h:SR N w0 S0 E st a.tmps)(hd:ay N o.dst){x:DOp}(j:ah P o.op=some x){K:St->Prop}(g:wpO P x o.dst st K){Q:Exit->Act->World->Prop}: ∃b,K b/\o.wp P a E.w (bw N w0 S0 a b) Q:=by
 cases k:x.bF with
 |true=>
  have m:x.plain=true:=by cases x <;> first|rfl|cases k
  obtain ⟨e,l,f⟩:=je m g;exact ⟨_,f,ry h hd j l⟩
 |false=>
  obtain ⟨b,f,p,v,i,n,d,c⟩:=nV h hd j k g;refine ⟨b,f,?_⟩;unfold Oper.wp;rw [n];rcases d with rfl|⟨rfl,rfl⟩
  ·exact ⟨i,rfl,c,by cases o.dst <;> rfl⟩
  ·exact ⟨i,rfl,c,by cases o.dst <;> rfl⟩
end
end Go.DL
end
section
namespace Go.DL
open Go.RowKit
section
variable [Glb]{P:Program}{X:List FuncId}{N:Nat}{w0:World}{S0:aa}{o:Oper}{a:Act}{E:Env}{st:St}
end
section
variable {P:Program}{X:List FuncId}{N:Nat}{w0:World}{S0:aa}{o:Oper}{a:Act}{E:Env}{st:St}
theorem fi{l:Array Oper}{i:DI}(b:jM P N X l o=some i):(∃ x,ah P o.op=some x/\i.op=di X o.dst x)/\i.dst=o.dst/\ay N o.dst/\i.after=(o.after.toList.filter fun e=>Region.binds .any e).map (·.on)/\
  ((o.guard=none/\i.guard=none)\/ ∃j c g,o.guard=some (j,c)/\(l[j]?).bind (·.dst)=some g/\i.guard=some (g,c)/\g<N):=by
 have f: ∀{d:Option Nat},okB N d=true->ay N d:=fun {d} h=>by
  cases d with
  |none=>trivial
  |some n=>exact nlZ h
 unfold jM at b;split at b
 ·rename_i d hd;simp only at b;split at b
  ·rename_i m;simp only [cond_eq_ite] at b;split at b
   ·rename_i k;cases b;exact ⟨⟨d,hd,rfl⟩,rfl,f k,rfl,.inl ⟨m,rfl⟩⟩
   ·cases b
  ·rename_i j c m;split at b
   ·rename_i g p;simp only [cond_eq_ite] at b;split at b
    ·rename_i k;cases b;rw [Bool.and_eq_true] at k;exact ⟨⟨d,hd,rfl⟩,rfl,f k.1,rfl,.inr ⟨j,c,g,m,p,rfl,nlZ k.2⟩⟩
    ·cases b
   ·cases b
 ·cases b
end
section
variable [Glb]{P:Program}{X:List FuncId}{N:Nat}{w0:World}{S0:aa}{o:Oper}{a:Act}{E:Env}{st:St}
theorem lV(h:SR N w0 S0 E st a.tmps){n:Nat}(c:E.live n=true):E.κ n<E.w.heap.size:=by
 rw [h.live] at c;obtain ⟨e,b⟩:=Option.isSome_iff_exists.1 c;obtain ⟨_,d,_⟩:=(h.bx n e b).at_;exact (Array.getElem?_eq_some_iff.1 d).1
end
section
variable {P:Program}{X:List FuncId}{N:Nat}{w0:World}{S0:aa}{o:Oper}{a:Act}{E:Env}{st:St}
theorem pd: ∀(n:Nat) (g:Nat->Nat),(∀ i,i<=n->g i<n)-> ∃i j,i<j/\j<=n/\g i=g j
 |0,g,h=>absurd (h 0 (Nat.le_refl 0)) (Nat.not_lt_zero _)
 |n+1,g,h=>by
  by_cases d: ∃i,i<=n/\g i=g (n+1)
  ·obtain ⟨i,hi,k⟩:=d;exact ⟨i,n+1,by omega,Nat.le_refl _,k⟩
  ·obtain ⟨i,j,l,m,f⟩:=pd n (fun i=>if g (n+1)<g i then g i - 1 else g i) (fun i hi=>by
    have a:=h i (by omega);have b:=h (n+1) (Nat.le_refl _);have c:g i≠g (n+1):=fun e=>d ⟨i,hi,e⟩
    split <;> omega)
   refine ⟨i,j,l,by omega,?_⟩;have q:g i≠g (n+1):=fun e=>d ⟨i,by omega,e⟩
   have p:g j≠g (n+1):=fun e=>d ⟨j,m,e⟩
   split at f <;> split at f <;> omega
end
section
variable [Glb]{P:Program}{X:List FuncId}{N:Nat}{w0:World}{S0:aa}{o:Oper}{a:Act}{E:Env}{st:St}
theorem SR.spare{b:Array Value}(h:SR N w0 S0 E st b): ∃q,E.ρ q=none:=by
 apply Classical.byContradiction
 intro d;have c: ∀q,E.ρ q=some ((E.ρ q).getD 0):=fun q=>by
  cases f:E.ρ q with
  |none=>exact absurd ⟨q,f⟩ d
  |some g=>rfl
 obtain ⟨i,j,k,_,e⟩:=pd E.w.heap.size (fun q=>(E.ρ q).getD 0) (fun i _=>(h.rows i _ (c i)).2.1)
 have:=h.rinj i j _ (c i) (by rw [e];exact c j)
 omega
theorem SR.lZ{b:Array Value}(h:SR N w0 S0 E st b){q g k:Nat}(H:E.ρ q=none)(A: ∀m,E.live m=true->E.κ m≠g)(p: ∀r,E.ρ r≠some g)(t:g<E.w.heap.size)(l:E.B<=g):
  SR N w0 S0 {E with S:=fun b o=>E.S b o\/(b=g/\o<k),ρ:=upd E.ρ q (some g)} st b:=by
 have F:Grow E {E with S:=fun b o=>E.S b o\/(b=g/\o<k),ρ:=upd E.ρ q (some g)}:=by
  refine ⟨rfl,fun m C=>⟨C,rfl⟩,fun r s d=>?_,fun b o c=>.inl c,fun _ _ _=>aC.rfl⟩;have f:r≠q:=fun e=>by rw [e,H] at d;cases d
  refine ⟨(ae _ _ _ _ f).trans d,rfl,fun o=>⟨fun c=>c.elim id fun D=>absurd (D.1▸d) (p r),.inl⟩⟩
 refine h.step F rfl rfl (fun n z=>⟨rfl,fun o c=>?_⟩) (fun r s d=>?_) (fun r x s i j=>?_) (fun b o c=>?_) h.below (fun b o c=>?_) (fun k o _ G=>G)
 ·rcases c with c|⟨c,_⟩
  ·rw [h.live] at z;obtain ⟨I,y⟩:=Option.isSome_iff_exists.1 z;exact (h.bx n I y).free o c
  ·exact A n z c
 ·have d:upd E.ρ q (some g) r=some s:=d
  by_cases f:r=q
  ·subst f;rw [aj] at d;cases d;exact ⟨l,t,A⟩
  ·rw [ae _ _ _ _ f] at d;exact h.rows r s d
 ·have i:upd E.ρ q (some g) r=some s:=i;have j:upd E.ρ q (some g) x=some s:=j
  by_cases v:r=q <;> by_cases u:x=q
  ·rw [v,u]
  ·subst v;rw [aj] at i;rw [ae _ _ _ _ u] at j;cases i;exact absurd j (p x)
  ·subst u;rw [aj] at j;rw [ae _ _ _ _ v] at i;cases j;exact absurd i (p r)
  ·rw [ae _ _ _ _ v] at i;rw [ae _ _ _ _ u] at j;exact h.rinj r x s i j
 ·rcases c with c|⟨rfl,_⟩
  ·exact h.lt b o c
  ·exact t
 ·rcases c with c|⟨rfl,_⟩
  ·exact h.s1 b o c
  ·right;rw [<- h.base];exact l
theorem jl{f:FuncId}{us:List V}{ts:List T}{c:List Nat}{e:TypeId}{size:Nat}{xs rest:List T}(G:bq st.bx us=some (ts,c))(C:eC P f ts e size xs rest)
  (h:SR N w0 S0 E st a.tmps) {vs:Array Value} (s:vs.size=us.length) (y: ∀(i:Nat) (v:Value) (u:V),vs[i]? =some v->us[i]? =some u->VR E v u):
  Calls P f vs E.w fun p w'=> ∃(v:Value) (us:List Value),p= .returned (jd v us)/\Below E.w.heap.size E.w w'/\gK E.w w' v e size xs/\
   us.length=rest.length/\(∀ (i:Nat) (u:Value) (t:T),us[i]? =some u->rest[i]? =some t->t.flat=true/\Rep (fun _ _=>False) w' u t)/\SR N w0 S0 {E with w:=w' } st a.tmps:=by
 obtain ⟨H,B⟩:=fO h.bx G;have j: ∀b x,Sx E c b x->b<E.w.heap.size:=by
  rintro b x (z|⟨n,_,l,rfl⟩)
  ·exact h.lt b x z
  ·exact lV h l
 have F:=C.2 (Sx E c) E.w vs.toList j (h.qX c) (by simp;omega) (fun i v t m q=>by
  have hi:i<us.length:=by rw [H];exact (gsZ q).1
  exact B i v _ t (y i v _ (by simpa using m) (ggZ hi)) (ggZ hi) q)
 refine Calls.mono (by simpa using F) ?_;rintro p w' ⟨v,g,rfl,r,d,l,D⟩;exact ⟨v,g,rfl,r,d,l,D,h.world r E.S (fun b o=>⟨.inl,fun A=>A.elim id fun k=>k.1⟩)⟩
end
section
variable {P:Program}{X:List FuncId}{N:Nat}{w0:World}{S0:aa}{o:Oper}{a:Act}{E:Env}{st:St}
theorem Rep.narrow{S:ar}{w:World}{v:Value}{cs:List T}(h:Rep S w v (.cptr cs 0))(n:Nat):Rep S w v (.cptr (cs.take n) 0):=by
 cases h with
 |cptr b d _ _ g e f j=>
  refine .cptr b d 0 _ g (fun t c=>e t (List.mem_of_mem_take c)) (fun i hi=>f i (by rw [List.length_take] at hi;omega)) fun i t c=>j i t ?_
  rw [List.getElem?_take] at c;split at c
  ·exact c
  ·cases c
end
section
variable [Glb]{P:Program}{X:List FuncId}{N:Nat}{w0:World}{S0:aa}{o:Oper}{a:Act}{E:Env}{st:St}
theorem SR.narrow{b:Array Value}{d n:Nat}{cs:List T}(h:SR N w0 S0 E (st.set (some d) (.t (.cptr cs 0))) b):SR N w0 S0 E (st.set (some d) (.t (.cptr (cs.take n) 0))) b:=by
 refine ⟨h.size,h.base,h.glob,fun m=>?_,h.gh,h.bx,h.live,h.inj,h.rows,h.rinj,h.lt,h.below,h.s0,h.s1,h.obj,h.cx⟩;have c:=h.sl m;show VR E _ (upd st.sl d (.t (.cptr (cs.take n) 0)) m)
 have c:VR E (b.getD m undef) (upd st.sl d (.t (.cptr cs 0)) m):=c
 by_cases e:m=d
 ·subst e;rw [aj] at c ⊢;exact .t _ _ (c.ax.narrow n)
 ·rw [ae _ _ _ _ e] at c ⊢;exact c
theorem sL(h:SR N w0 S0 E st a.tmps)(hd:ay N o.dst){x:DOp}(hl:ah P o.op=some x){K:St->Prop}(l:wpO P (di X o.dst x) o.dst st K){Q:Exit->Act->World->Prop}:
  o.wp P a E.w (fun M w'=> ∃C,K C/\bw N w0 S0 a C M w') Q:=by
 have plain:wpO P x o.dst st K->o.wp P a E.w (fun M w'=> ∃C,K C/\bw N w0 S0 a C M w') Q:=fun l=>by
  obtain ⟨C,H,hh⟩:=nv h hd hl l (Q:=Q);exact Oper.wp_mono (fun M w' W=>⟨C,H,W⟩) hh
 have did: ∀{C:St},K C->Did P N w0 S0 o a E C->o.wp P a E.w (fun M w'=> ∃C,K C/\bw N w0 S0 a C M w') Q:=by
  rintro C H ⟨nx,v,E',hr,hnx,J⟩;unfold Oper.wp;rw [hr];rcases hnx with rfl|⟨rfl,rfl⟩
  ·exact ⟨_,H,E',rfl,J,by cases o.dst <;> rfl⟩
  ·exact ⟨_,H,E',rfl,J,by cases o.dst <;> rfl⟩
 cases x with
 |call f F=>
  have inl:WC P f (F.map (ev st.sl)) o.dst st K->o.wp P a E.w (fun M w'=> ∃C,K C/\bw N w0 S0 a C M w') Q:=fun l=>by
   obtain ⟨hc,l⟩:=l;obtain ⟨⟨callee,az,argTypes⟩,ho,hl'⟩:=eR hl rfl;obtain ⟨rfl,has⟩:=(ey hl').1 f F rfl;obtain ⟨h1,h2⟩:=gj h.sl has;have hex:=fl (E:=E) (a:=a) (caps:= #[]) ho rfl hc;rw [Array.append_empty] at hex
   have:=l N w0 S0 E a.tmps (az.map a.eval) h (by simp [h1]) h2 (fun n W=>by rw [W] at hd;exact hd)
   unfold Oper.wp;rw [hex];refine Calls.mono this ?_;rintro e w' ⟨v,rfl,E',C,rfl,H,J⟩;refine ⟨C,H,E',rfl,?_,by cases o.dst <;> rfl⟩;cases G:o.dst with
   |none=>rw [G] at J;exact J
   |some n=>rw [G] at J;exact J
  have low:wpO P (fD X (.call f F)) o.dst st K->o.wp P a E.w (fun M w'=> ∃C,K C/\bw N w0 S0 a C M w') Q:=fun l=>by
   have l:wpO P (cond (X.contains f) (.inl f F) (.call f F)) o.dst st K:=l;cases L:X.contains f with
   |false=>rw [L] at l;exact plain l
   |true=>rw [L] at l;exact inl l
  cases G:o.dst with
  |none=>
   rw [G] at l;exact low (by rw [G];exact l)
  |some d=>
   have D:wpO P (cond (X.contains (3000000+d)) (.fcall f F) (match qv X d with
     |[]=>fD X (.call f F)
     |n::ns=>.mcall (n::ns) f F)) o.dst st K:=by
    rw [G] at l ⊢;exact l
   cases L:X.contains (3000000+d) with
   |false=>
    rw [L] at D;cases hM:qv X d with
    |nil=>rw [hM] at D;exact low D
    |cons n ns=>
     rw [hM] at D;obtain ⟨need,fr,m,b,r,h1,h2,h3,_,_,h6⟩:=D;exact inl (h1 o.dst st K h2 h3 h6)
   |true=>
    rw [L] at D;have l:dG P f (F.map (ev st.sl)) o.dst st K:=D;rw [G] at l;unfold dG at l;simp only at l;split at l
    ·rename_i ts rd hc;obtain ⟨e,size,xs,hF,H⟩:=l;obtain ⟨q,hq⟩:=h.spare;obtain ⟨⟨callee,az,argTypes⟩,ho,hl'⟩:=eR hl rfl;obtain ⟨rfl,has⟩:=(ey hl').1 f F rfl;obtain ⟨h1,h2⟩:=gj h.sl has;have hex:=fl (E:=E) (a:=a) (caps:= #[]) ho rfl hF.1;rw [Array.append_empty] at hex;have hd':ay N (some d):=by rw [G] at hd;exact hd
     have klt: ∀m,E.live m=true->E.κ m<E.w.heap.size:=fun m hm=>lV h hm
     have H:=H q;unfold Oper.wp;rw [hex];refine Calls.mono (jl (a:=a) hc hF h (by simp [h1]) h2) ?_;rintro en w' ⟨v,us,rfl,hb,hfr,hul,_,h'⟩;have hus:us=[]:=List.eq_nil_of_length_eq_zero hul;subst hus;obtain ⟨cells,k1,k2,k3⟩:=hfr.ex;rcases k1.2 with ⟨rfl,W⟩|⟨g,cap,cur,rfl,hbg,hg,cT,hm,Z,htk⟩
     ·have hx:xs=[]:=List.eq_nil_of_length_eq_zero W;subst hx;refine ⟨_,H,{E with w:=w' },rfl,?_,by cases o.dst <;> rfl⟩;rw [G];exact h'.cN (d:=some d) hd' (.own _ _ _ _ _ (bQ.nil _ _ _))
     ·have hlt:g<w'.heap.size:=(Array.getElem?_eq_some_iff.1 hg).1;have h2:=h'.lZ (q:=q) (g:=g) (k:=(xs.flatMap T.cells).length) hq (fun m hm=>by have:=klt m hm;show E.κ m≠g;omega) (fun r hr=>by
       have:=(h.rows r g hr).2.1;omega) hlt (by show E.B<=g;rw [h.base];have:=h.below.size;omega)
      refine ⟨_,H,{({E with w:=w' }:Env) with S:=fun b o=>E.S b o\/(b=g/\o<(xs.flatMap T.cells).length),ρ:=upd E.ρ q (some g)},rfl,?_,by cases o.dst <;> rfl⟩;rw [G];refine h2.cN (d:=some d) hd' (.own _ _ _ _ _ ⟨⟨cells,⟨k1.1,.inr ⟨g,cap,cur,rfl,?_,hg,cT,hm,Z,htk⟩⟩,k2,fun i x t hx ht=>(k3 i x t hx ht).of_flat (hfr.flat t (List.mem_of_getElem? ht))⟩,hfr.uni,hfr.one,fun g' hg'=>?_⟩)
      ·show E.B<=g;rw [h.base];have:=h.below.size;omega
      ·have hg2:g=g':=Option.some.inj (show some g=some g' from hg');subst hg2;refine ⟨aj _ _ _,fun o=>?_⟩;show (E.S g o\/(g=g/\o<_))↔_
       exact ⟨fun hh=>hh.elim (fun Z=>absurd (h.lt g o Z) (by omega)) (·.2),fun hh=>.inr ⟨rfl,hh⟩⟩
    ·exact l.elim
 |append t e size V s x=>
  cases s with
  |const c=>exact plain (by unfold di at l;exact l)
  |tmp k=>
   have l:wpO P (cond (X.contains (8000000+k)) (cond (X.contains (9000000+k)) (.appV size V (.tmp k) x) (.appT size V (.tmp k) x)) (.append t e size V (.tmp k) x)) o.dst st K:=by
    unfold di at l;exact l
   cases L:X.contains (8000000+k) with
   |false=>rw [L] at l;exact plain l
   |true=>
   cases hX9:X.contains (9000000+k) with
   |true=>
    rw [L,hX9] at l;obtain ⟨Xo,Y,u,j,U,ho,hku,hu,hj,hz,rfl,rfl,hsz,hby,hXo,hY⟩:=fj hl;obtain ⟨z,hjz,hzs⟩:=iT hj hz;have I:=af h.sl hXo;have hvY:=af h.sl hY;have l:wpO P (.appV j.size j.bytes (.tmp k) x) o.dst st K:=l;cases G:o.dst with
    |none=>rw [G] at l;exact l.elim
    |some d=>
     rw [G] at l;have l:kN j.size j.bytes d (d+st.off) (ev st.sl (.tmp k)) (ev st.sl x) st K:=l;unfold kN at l;split at l
     ·rename_i n ys Z hq;simp only [cond_eq_ite] at l;split at l
      ·rename_i hnr;obtain ⟨⟨rfl,aH,bp⟩,H⟩:=l;obtain ⟨O,hsy⟩:=eT h hvY Z hsz;have hA: ∃A,a.eval Xo= .slice A 0 0:=by
        cases R:ev st.sl (.tmp k) with
        |t y=>
         rw [R] at hnr I;cases y <;> first|exact absurd hnr Bool.false_ne_true|skip
         have:=I.ax
         generalize a.eval Xo=v at this;cases this;exact ⟨none,rfl⟩
        |full sz xs=>
         rw [R] at hnr I;cases xs with
         |cons x xs=>exact absurd hnr Bool.false_ne_true
         |nil=>
          generalize a.eval Xo=v at I;cases I with
          |full A len _ _ hr=>
           cases hr with
           |slice _ _ _ _ _ _ _ _ hlen=>cases hlen;exact ⟨A,rfl⟩
        |_=>rw [R] at hnr;exact absurd hnr Bool.false_ne_true
       obtain ⟨A,hA⟩:=hA;obtain ⟨v',E',aJ,J,hvr⟩:=pM (ty:=o.type) (t:=t) (e:=e) (u:=u) (A:=A) h hu hj hjz hby hsy hku aH bp hq;refine did H ⟨.value v',v',E',aD ho ?_,.inl rfl,?_⟩
       ·simp [builtin,hA,aJ]
       ·rw [G] at hd ⊢;exact J.cN (d:=some d) hd hvr
      ·exact l.elim
     ·exact l.elim
   |false=>
    rw [L,hX9] at l;obtain ⟨Xo,Y,u,j,U,ho,hku,hu,hj,hz,rfl,rfl,hsz,hby,hXo,hY⟩:=fj hl;obtain ⟨z,hjz,hzs⟩:=iT hj hz;have I:=af h.sl hXo;have hvY:=af h.sl hY;have l:wpR (eff (.appT j.size j.bytes (.tmp k) x) (st.nm o.dst) st.sl st.bx) o.dst st K:=l;have go: ∀{A:Option Addr} {len:Nat} {xs ys:List T},a.eval Xo= .slice A len len->Rep E.S E.w (.slice A len len) (.slice j.size xs)->(∃ O,cC P E (a.eval Y) j.size ys O)->(xs.length+ys.length) * j.bytes<=140737488355328->
      K (st.app o.dst {val:=.t (.slice j.size (xs++ys))})->o.wp P a E.w (fun M w'=> ∃C,K C/\bw N w0 S0 a C M w') Q:=fun L hr ⟨O,hsy⟩ bp H=>by
     obtain ⟨v',E',aJ,J,aq⟩:=pL (ty:=o.type) (t:=t) (e:=e) (u:=u) h hu hj hjz hzs hsz hby hr hsy hku bp;refine did H ⟨.value v',v',E',aD ho ?_,.inl rfl,?_⟩
     ·simp [builtin,L,aJ]
     ·rw [iU];exact J.cN hd (.t _ _ aq)
    have src: ∀{n:Nat} {ys:List T},cU st.bx (ev st.sl x)=some (.slice n ys)->(n=j.size\/ys=[])-> ∃O,cC P E (a.eval Y) j.size ys O:=fun Z W=>by
     rcases W with rfl|rfl
     ·exact eT h hvY Z hsz
     ·exact kM h hvY Z
    have nilX:ev st.sl (.tmp k)= .t .nil->a.eval Xo= .slice none 0 0:=fun R=>by
     rw [R] at I
     have:=I.ax
     generalize a.eval Xo=v at this;cases this;rfl
    have nilR:Rep E.S E.w (.slice none 0 0) (.slice j.size []):=
     .slice none 0 0 0 0 j.size [] (fun _=>undef) rfl (Nat.le_refl _) (fun x hx=>by simp at hx) (fun t ht=>by simp at ht) (fun hh=>by simp at hh) (fun i hi=>by simp at hi) (fun i t ht=>by simp at ht)
    unfold eff at l;simp only at l;split at l
    ·rename_i n ys Z;split at l
     ·rename_i sz xs R;simp only [cond_eq_ite] at l;split at l
      ·rename_i hb;have hb:=Nat.eq_of_beq_eq_true hb;subst hb;obtain ⟨⟨W,bp⟩,H⟩:=l;rw [R] at I;generalize hXv:a.eval Xo=vX at I;cases I with
       |full A len _ _ hr=>exact go hXv hr (src Z W) bp H
      ·exact l.elim
     ·rename_i R;obtain ⟨⟨W,bp⟩,H⟩:=l;exact go (nilX R) nilR (src Z W) (by simpa using bp) (by simpa using H)
     ·exact l.elim
    ·rename_i Z;split at l
     ·rename_i sz xs R;simp only [cond_eq_ite] at l;split at l
      ·rename_i hb;have hb:=Nat.eq_of_beq_eq_true hb;subst hb;obtain ⟨bp,H⟩:=l;rw [R] at I;generalize hXv:a.eval Xo=vX at I;cases I with
       |full A len _ _ hr=>exact go (ys:=[]) hXv hr (jR h hvY Z) (by simpa using bp) (by simpa using H)
      ·exact l.elim
     ·rename_i R;obtain ⟨_,H⟩:=l;exact go (ys:=[]) (nilX R) nilR (jR h hvY Z) (by simp) (by simpa using H)
     ·exact l.elim
    ·exact l.elim
 |buildS e size n U parts=>
  obtain ⟨t,ps,j,ho,hu,hj,hz,rfl,hsz,iI,qs,hqs,hin,rfl⟩:=iN hl;have mk: ∀{es:List T} {c:Prop} {d:Nat},o.dst=some d->aY st.sl j.size (List.replicate n (cond (Nat.beq j.size 1) (U.headD .nil) (.agg U))) True (qs.map fun p=>(p.1,p.2.2))=some (es,c)->c->
    Did P N w0 S0 o a E (st.app (some d) {val:=.t (.slice j.size es)})/\Did P N w0 S0 o a E (st.app (some d) {val:=.full j.size es }):=fun G hf hc=>
   oe h (by rw [G] at hd;exact hd) ho hu hj hz hsz iI hqs hin hf hc G
  have low:wpO P (fD X (.buildS e j.size n U (qs.map fun p=>(p.1,p.2.2)))) o.dst st K->o.wp P a E.w (fun M w'=> ∃C,K C/\bw N w0 S0 a C M w') Q:=fun l=>by
   have l:wpO P (cond (X.contains 2000000) (.buildT j.size n U (qs.map fun p=>(p.1,p.2.2))) (.buildS e j.size n U (qs.map fun p=>(p.1,p.2.2)))) o.dst st K:=l;cases L:X.contains 2000000 with
   |false=>rw [L] at l;exact plain l
   |true=>
    rw [L] at l;have l:wpR (eff (.buildT j.size n U (qs.map fun p=>(p.1,p.2.2))) (st.nm o.dst) st.sl st.bx) o.dst st K:=l;cases G:o.dst with
    |none=>rw [G] at l;exact l.elim
    |some d=>
     rw [G] at l;simp only [eff,St.nm] at l;cases hf:aY st.sl j.size (List.replicate n (cond (Nat.beq j.size 1) (U.headD .nil) (.agg U))) True (qs.map fun p=>(p.1,p.2.2)) with
     |none=>rw [hf] at l;exact l.elim
     |some ec=>
      obtain ⟨es,c⟩:=ec;rw [hf] at l;obtain ⟨hc,H⟩:=l;exact did H (mk G hf hc).1
  cases G:o.dst with
  |none=>
   rw [G] at l low;unfold di at l;exact low l
  |some d=>
   have D:wpO P (cond (X.contains (8000000+d)) (.buildF j.size n U (qs.map fun p=>(p.1,p.2.2))) (fD X (.buildS e j.size n U (qs.map fun p=>(p.1,p.2.2))))) o.dst st K:=by
    rw [G] at l ⊢;unfold di at l;exact l
   cases L:X.contains (8000000+d) with
   |false=>rw [L] at D;exact low D
   |true=>
    rw [L] at D;have l:wpR (eff (.buildF j.size n U (qs.map fun p=>(p.1,p.2.2))) (st.nm o.dst) st.sl st.bx) o.dst st K:=D;rw [G] at l;simp only [eff,St.nm] at l;cases hf:aY st.sl j.size (List.replicate n (cond (Nat.beq j.size 1) (U.headD .nil) (.agg U))) True (qs.map fun p=>(p.1,p.2.2)) with
    |none=>rw [hf] at l;exact l.elim
    |some ec=>
     obtain ⟨es,c⟩:=ec;rw [hf] at l;obtain ⟨hc,H⟩:=l;exact did H (mk G hf hc).2
 |offA k y=>
  have base: ∀{k},wpO P (.offA k y) o.dst st K->ah P o.op=some (.offA k y)->o.wp P a E.w (fun M w'=> ∃C,K C/\bw N w0 S0 a C M w') Q:=fun l hl=>by
   obtain ⟨C,H,hh⟩:=nv h hd hl l (Q:=Q);exact Oper.wp_mono (fun M w' W=>⟨C,H,W⟩) hh
  cases k with
  |succ k=>exact base (by unfold di at l;exact l) hl
  |zero=>
   cases G:o.dst with
   |none=>
    rw [G] at l;exact base (by rw [G];unfold di at l;exact l) hl
   |some d=>
    have D:wpO P (match qw X d with
      |[]=>.offA 0 y
      |n::_=>.nar n y) o.dst st K:=by
     rw [G] at l ⊢;unfold di at l;exact l
    cases L:qw X d with
    |nil=>rw [L] at D;exact base D hl
    |cons n ns=>
     rw [L] at D;have l:wpR (eff (.nar n y) (st.nm o.dst) st.sl st.bx) o.dst st K:=D;unfold eff at l;simp only at l;split at l
     ·rename_i cs R;obtain ⟨W,H⟩:=l;have hw0:wpO P (.offA 0 y) o.dst st (fun C=>C=st.app o.dst {val:=.t (.cptr cs 0)}):=by
       have e:wpR (eff (.offA 0 y) (st.nm o.dst) st.sl st.bx) o.dst st (fun C=>C=st.app o.dst {val:=.t (.cptr cs 0)}):=by
        unfold eff;simp only [R];exact rfl
       exact e
      obtain ⟨C,rfl,hh⟩:=nv h hd hl hw0 (Q:=Q);rw [G] at hh H;rw [G] at hd;refine Oper.wp_mono (fun M w' hn'=>⟨_,H,?_⟩) hh;obtain ⟨E',h1,h2,h3⟩:=hn';exact ⟨E',h1,h2.narrow,h3⟩
     ·exact l.elim
 |_=>exact plain (by unfold di at l;exact l)
end
section
variable {P:Program}{X:List FuncId}{N:Nat}{w0:World}{S0:aa}{o:Oper}{a:Act}{E:Env}{st:St}
theorem nT(E:Env):VR E undef bH:=.t _ _ (.tup #[] [] rfl (fun i x t b _=>by simp at b))
theorem nc{v:Value}(h:VR E v bH):v= .tuple #[]:=by
 cases h with
 |t _ _ h=>
  cases h with
  |tup cs ts b _=>
   have:cs= #[]:=by
    cases cs with
    |mk l=>cases l with
     |nil=>rfl
     |cons a r=>simp at b
   rw [this]
end
section
variable [Glb]{P:Program}{X:List FuncId}{N:Nat}{w0:World}{S0:aa}{o:Oper}{a:Act}{E:Env}{st:St}
theorem pF(h:SR N w0 S0 E st a.tmps){c:Array Oper}{k:Nat}(B:c[k]? =some o){i:DI}(I:jM P N X c o=some i){K:St->Prop}(e:wpI P i st K){Q:Exit->Act->World->Prop}:
  wpOp P c Q k (fun s w'=> ∃d,K d/\bw N w0 S0 a d s w') a E.w:=by
 obtain ⟨⟨x,C,F⟩,y,z,_,H⟩:=fi I;have p:wpO P i.op i.dst st K->Region.wanted o (yielded c a.tmps)=true->wpOp P c Q k (fun s w'=> ∃d,K d/\bw N w0 S0 a d s w') a E.w:=fun e v=>by
  rw [y,F] at e;unfold wpOp;simp only [B,v,if_true];exact .inl (sL h z C e)
 have skip:K (st.set i.dst bH)->Region.wanted o (yielded c a.tmps)=false->wpOp P c Q k (fun s w'=> ∃d,K d/\bw N w0 S0 a d s w') a E.w:=fun G v=>by
  unfold wpOp;simp only [B,v,Bool.false_eq_true,if_false];refine ⟨_,G,?_⟩;rw [y];exact ⟨E,rfl,h.cN z (nT E),by cases o.dst <;> rfl⟩
 unfold wpI at e;rcases H with ⟨u,hi⟩|⟨j,l,g,u,A,hi,r⟩
 ·rw [hi] at e;exact p e (by unfold Region.wanted;rw [u])
 ·rw [hi] at e;simp only at e;have D: ∀b,st.sl g= .t (.bool b)->yielded c a.tmps j=some b:=fun b n=>by
   have q:=h.sl g;rw [n] at q;have q:=q.aP;have f:g<a.tmps.size:=by rw [h.size];exact r
   have:a.tmps[g]? =some (.bool b):=by
    rw [Array.getElem?_eq_getElem f];simpa [f] using q
   unfold yielded;rw [A];simp [this]
  have J: ∀b,st.sl g= .t (.bool b)->Region.wanted o (yielded c a.tmps)=(b==l):=fun b n=>by
   unfold Region.wanted;rw [u];simp only [D b n];cases b <;> cases l <;> rfl
  split at e
  ·rename_i b n;have m:=J b n;cases b <;> cases l <;> simp only at e
   ·exact p e m
   ·exact skip e m
   ·exact skip e m
   ·exact p e m
  ·rename_i n;refine skip e ?_;have q:=nc (n▸h.sl g);unfold Region.wanted;rw [u]
   have:yielded c a.tmps j=none:=by
    have f:g<a.tmps.size:=by rw [h.size];exact r
    have:a.tmps[g]? =some (.tuple #[]):=by
     rw [Array.getElem?_eq_getElem f];simpa [f] using q
    unfold yielded;rw [A];simp [this]
   simp only [this];rfl
  ·exact e.elim
end
section
variable {P:Program}{X:List FuncId}{N:Nat}{w0:World}{S0:aa}{o:Oper}{a:Act}{E:Env}{st:St}
theorem bu{c:Array Oper}: ∀{l:List Oper} {is:List DI},dw P N X c l=some is->l.length=is.length/\ ∀(k:Nat) (o:Oper),l[k]? =some o-> ∃i,is[k]? =some i/\jM P N X c o=some i
 |[],is,h=>by simp [dw] at h;subst h;exact ⟨rfl,fun k o b=>by simp at b⟩
 |o::l,is,h=>by
  unfold dw at h;split at h
  ·rename_i d ds hd e;cases h;obtain ⟨g,j⟩:=bu e;refine ⟨by simp [g],fun k f b=>?_⟩;cases k with
   |zero=>simp at b;subst b;exact ⟨d,rfl,hd⟩
   |succ k=>simp at b;simpa using j k f b
  ·cases h
end
section
variable [Glb]{P:Program}{X:List FuncId}{N:Nat}{w0:World}{S0:aa}{o:Oper}{a:Act}{E:Env}{st:St}
def kH(is:List DI)(ks:List Nat):List DI:=ks.map fun k=>is[k]?.getD default
theorem lh{b:Array Oper}{is:List DI}(n:dw P N X b b.toList=some is){Q:Exit->Act->World->Prop}{K:St->Prop}{ds:List Deferred}(m: ∀a w,bW N w0 S0 ds K a w->Q .normal a w):
  ∀(ks:List Nat) (_: ∀k∈ks,k<b.size) {a:Act} {E:Env} {st:St} (_:SR N w0 S0 E st a.tmps) (_:a.defers=ds) (_:cW P (kH is ks) st K),wpOps P b Q ks a E.w
 |[],_,a,E,st,h,hd,hw=>m a E.w ⟨E,st,rfl,h,hd,hw⟩
 |k::ks,hk,a,E,st,h,hd,hw=>by
  have g:=hk k (by simp);have p:b[k]? =some b[k]:=Array.getElem?_eq_getElem g;obtain ⟨i,hi,l⟩:=(bu n).2 k _ (Array.getElem?_toList.trans p);have j:wpI P i st fun d=>cW P (kH is ks) d K:=by
   have:=hw
   unfold kH at this;rw [List.map_cons,hi] at this;exact this
  rw [wpOps_cons];refine wpOp_mono ?_ (pF h p l j (Q:=Q));rintro r w' ⟨d,c,q,rfl,f,e⟩;exact lh n m ks (fun k c=>hk k (List.mem_cons_of_mem _ c)) f (e.trans hd) c
end
section
variable {P:Program}{X:List FuncId}{N:Nat}{w0:World}{S0:aa}{o:Oper}{a:Act}{E:Env}{st:St}
theorem kI(is:List DI):kH is (List.range is.length)=is:=by
 apply List.ext_getElem?
 intro k;unfold kH
 by_cases b:k<is.length
 ·simp [b]
 ·simp [b]
end
section
variable [Glb]{P:Program}{X:List FuncId}{N:Nat}{w0:World}{S0:aa}{o:Oper}{a:Act}{E:Env}{st:St}
theorem pj(h:SR N w0 S0 E st a.tmps){b:Array Oper}{is:List DI}(c:dw P N X b b.toList=some is){Q:Exit->Act->World->Prop}{K:St->Prop}(e: ∀d w,bW N w0 S0 a.defers K d w->Q .normal d w)
  (f:cW P is st K) {i:Nat}:(Code.region i b false).wp P Q a E.w:=by
 refine wp_region (lh c e _ (fun k g=>by simpa using g) h rfl ?_)
 have:b.size=is.length:=by simpa using (bu c).1
 rw [this,kI];exact f
end
end Go.DL
end
section
namespace Go.DL
open Go.RowKit
section
variable [Glb]{P:Program}
end
section
variable {P:Program}
theorem iw{v:V}{n:Nat}(h:n∈bx1 v):n∈bx2 v:=by
 cases v with
 |fn f caps=>simp [bx1] at h
 |_=>exact h
theorem iy{v:V}{n:Nat}(h:n∈bx2 v):n∈bxs v:=by
 cases v with
 |fn f caps=>
  obtain ⟨c,b,d⟩:=List.mem_flatMap.1 h;exact List.mem_flatMap.2 ⟨c,b,iw d⟩
 |_=>exact h
theorem aO{e f:Nat->Option BX}{v:V}(h: ∀n∈bx1 v, ∀b,e n=some b->f n=some b){r:T×List Nat}(c:aX e v=some r):aX f v=some r:=by
 cases v with
 |ptr n off=>
  simp only [aX] at c ⊢;cases d:e n with
  |none=>rw [d] at c;cases c
  |some b=>rw [d] at c;rw [h n (by simp [bx1]) b d];exact c
 |view n off len size=>
  simp only [aX] at c ⊢;cases d:e n with
  |none=>rw [d] at c;cases c
  |some b=>rw [d] at c;rw [h n (by simp [bx1]) b d];exact c
 |mp n=>
  simp only [aX] at c ⊢;cases d:e n with
  |none=>rw [d] at c;cases c
  |some b=>rw [d] at c;rw [h n (by simp [bx1]) b d];exact c
 |_=>exact c
theorem jf{e f:Nat->Option BX}: ∀{vs:List V},(∀ n∈vs.flatMap bx1, ∀b,e n=some b->f n=some b)-> ∀{r:List T×List Nat},cO e vs=some r->cO f vs=some r
 |[],_,r,hc=>hc
 |v::vs,h,r,hc=>by
  unfold cO at hc ⊢;split at hc
  ·rename_i x i xs rs g d;rw [aO (fun n c=>h n (by simp [c])) g,jf (fun n c=>h n (by simp only [List.flatMap_cons,List.mem_append];exact .inr c)) d];exact hc
  ·cases hc
theorem oh{g i:Nat->Option BX}{v:V}(h: ∀n∈bx2 v, ∀b,g n=some b->i n=some b){r:T×List Nat}(c:conv g v=some r):conv i v=some r:=by
 cases v with
 |fn f caps=>
  unfold conv at c ⊢;simp only at c ⊢;split at c
  ·rename_i ts j d;rw [jf h d];exact c
  ·cases c
 |top=>exact aO (v:=.top) h c
 |t x=>exact aO (v:=.t x) h c
 |ptr n off=>exact aO (v:=.ptr n off) h c
 |view n off len size=>exact aO (v:=.view n off len size) h c
 |own r e n xs=>exact aO (v:=.own r e n xs) h c
 |full n xs=>exact aO (v:=.full n xs) h c
 |tup vs=>exact aO (v:=.tup vs) h c
 |agv vs=>exact aO (v:=.agv vs) h c
 |raw x=>exact aO (v:=.raw x) h c
 |mp n=>exact aO (v:=.mp n) h c
theorem et{e f:Nat->Option BX}: ∀{vs:List V},(∀ n∈vs.flatMap bx2, ∀b,e n=some b->f n=some b)-> ∀{r:List T×List Nat},bq e vs=some r->bq f vs=some r
 |[],_,r,hc=>hc
 |v::vs,h,r,hc=>by
  unfold bq at hc ⊢;split at hc
  ·rename_i x i xs rs g d;rw [oh (fun n c=>h n (by simp [c])) g,et (fun n c=>h n (by simp only [List.flatMap_cons,List.mem_append];exact .inr c)) d];exact hc
  ·cases hc
theorem av{s1 s2:Nat->V}{x:O}(h: ∀m∈x.reads,s2 m=s1 m):ev s2 x=ev s1 x:=by
 cases x with
 |tmp n=>exact h n (by simp [O.reads])
 |const t=>rfl
theorem dM{s1 s2:Nat->V}: ∀{xs:List O},(∀ m∈aM xs,s2 m=s1 m)->xs.map (ev s2)=xs.map (ev s1)
 |[],_=>rfl
 |x::xs,h=>by
  rw [List.map_cons,List.map_cons,av (fun m b=>h m (by simp [aM,b])),dM (fun m b=>h m (by simp [aM,b]))]
theorem gm{s1 s2:Nat->V}{x:Option O}(h: ∀m∈qy x,s2 m=s1 m):x.map (ev s2)=x.map (ev s1):=by
 cases x with
 |none=>rfl
 |some x=>rw [Option.map_some,Option.map_some,av h]
theorem jC{s1 s2:Nat->V}: ∀{d:List (Nat×Nat×O)} {e:List T} {c:Prop},(∀ m∈aM (d.map (·.2.2)),s2 m=s1 m)->cZ s2 e c d=cZ s1 e c d
 |[],_,_,_=>rfl
 |(off,size,x)::d,e,c,h=>by
  unfold cZ;rw [av (s1:=s1) (fun m b=>h m (by simp [aM,b]))];split
  ·rfl
  ·rw [jC fun m b=>h m (by simp [aM,b])]
  ·rw [jC fun m b=>h m (by simp [aM,b])]
  ·rfl
theorem jD{s1 s2:Nat->V}: ∀{d:List (Nat×Nat×O)} {b:List V} {c:Prop},(∀ m∈aM (d.map (·.2.2)),s2 m=s1 m)->da s2 b c d=da s1 b c d
 |[],b,c,_=>rfl
 |(off,size,x)::rest,b,c,h=>by
  unfold da;rw [av (s1:=s1) (fun m e=>h m (by simp [aM,e]))];have f: ∀m∈aM (rest.map (·.2.2)),s2 m=s1 m:=fun m e=>h m (by simp [aM,e])
  split
  ·rfl
  ·rw [jD f]
  ·rfl
  ·rfl
  ·rfl
  ·rw [jD f]
theorem gP{s1 s2:Nat->V}{size:Nat}: ∀{d:List (Nat×O)} {e:List T} {c:Prop},(∀ m∈aM (d.map (·.2)),s2 m=s1 m)->aY s2 size e c d=aY s1 size e c d
 |[],_,_,_=>rfl
 |(i,x)::d,e,c,h=>by
  unfold aY;rw [av (s1:=s1) (fun m b=>h m (by simp [aM,b]))];split
  ·rfl
  ·rw [gP fun m b=>h m (by simp [aM,b])]
  ·rw [gP fun m b=>h m (by simp [aM,b])]
  ·rfl
theorem kr{b:Nat->V}{x:O}{n:Nat}(h:n∈bxs (ev b x)): ∃m∈x.reads,n∈bxs (b m):=by
 cases x with
 |tmp m=>exact ⟨m,by simp [O.reads],h⟩
 |const t=>simp [ev,bxs,bx1] at h
theorem jr{d:Nat->V}: ∀{xs:List O} {n:Nat},n∈(xs.map (ev d)).flatMap bx2-> ∃m∈aM xs,n∈bxs (d m)
 |[],n,h=>by simp at h
 |x::xs,n,h=>by
  simp only [List.map_cons,List.flatMap_cons,List.mem_append] at h;rcases h with h|h
  ·obtain ⟨m,b,c⟩:=kr (iy h);exact ⟨m,by simp [aM,b],c⟩
  ·obtain ⟨m,b,c⟩:=jr h;exact ⟨m,by simp [aM,b],c⟩
theorem oE{d e:Nat->Option BX}{v:V}(h: ∀n∈bx1 v, ∀b,d n=some b->e n=some b){r:T}(c:cU d v=some r):cU e v=some r:=by
 unfold cU at c ⊢;split at c
 ·exact c
 ·split at c
  ·rename_i t g f;rw [aO h f];exact c
  ·cases c
 ·exact c
end
section
variable [Glb]{P:Program}
theorem oj{x:DOp}(hx:x.cls.std=true){d:Option Nat}{s1 s2:St}(u: ∀m∈x.reads,s2.sl m=s1.sl m)(I: ∀n∈x.tch s1.sl, ∀b,s1.bx n=some b->s2.bx n=some b)
  (hd:x.cls= .make-> ∀n,d=some n->s1.bx n=none->s2.bx n=none) (hM:x.cls= .mut->s2.bx=s1.bx) {e:Eff} (h:cL P x d s1 e):cL P x d s2 e:=by
 have j:eff x d s2.sl s2.bx=eff x d s1.sl s1.bx->inR (eff x d s1.sl s1.bx) e->inR (eff x d s2.sl s2.bx) e:=fun O S=>by rw [O];exact S
 cases x with
 |append|appV|bad|buildS|inl|fcall|clr|cM|mclr|mrng|mnext|ment|copy=>exact absurd hx Bool.false_ne_true
 |mov x=>exact j (by simp only [eff,av u]) h
 |pick c a b=>
  refine j ?_ h;simp only [DOp.reads,List.mem_append] at u;simp only [eff];rw [av fun m w=>u m (.inl (.inl w)),av fun m w=>u m (.inl (.inr w)),av fun m w=>u m (.inr w)]
 |alloc H=>
  cases d with
  |none=>exact h
  |some n=>
   have h:inR (eff (.alloc H) (some n) s1.sl s1.bx) e:=h;show inR (eff (.alloc H) (some n) s2.sl s2.bx) e
   simp only [eff] at h ⊢;cases B:s1.bx n with
   |some c=>rw [B] at h;exact h.elim
   |none=>rw [hd rfl n rfl B];rw [B] at h;exact h
 |mkmap J K=>
  cases d with
  |none=>exact h
  |some n=>
   have h:inR (eff (.mkmap J K) (some n) s1.sl s1.bx) e:=h;show inR (eff (.mkmap J K) (some n) s2.sl s2.bx) e
   simp only [eff] at h ⊢;cases B:s1.bx n with
   |some c=>rw [B] at h;exact h.elim
   |none=>rw [hd rfl n rfl B];rw [B] at h;exact h
 |mkslice size C H l c=>
  simp only [DOp.reads,List.mem_append] at u;have W:=av (s1:=s1.sl) (s2:=s2.sl) (x:=l) fun q F=>u q (.inl F)
  have hec:=av (s1:=s1.sl) (s2:=s2.sl) (x:=c) fun q F=>u q (.inr F)
  cases d with
  |none=>exact h
  |some n=>
   have h:inR (eff (.mkslice size C H l c) (some n) s1.sl s1.bx) e:=h;show inR (eff (.mkslice size C H l c) (some n) s2.sl s2.bx) e
   simp only [eff] at h ⊢;rw [W,hec];cases B:s1.bx n with
   |some c=>rw [B] at h;exact h.elim
   |none=>rw [hd rfl n rfl B];rw [B] at h;exact h
 |mlook J K z ok m k=>
  simp only [DOp.reads,List.mem_append] at u;have D:=av (s1:=s1.sl) (s2:=s2.sl) (x:=m) fun q F=>u q (.inl F)
  have R:=av (s1:=s1.sl) (s2:=s2.sl) (x:=k) fun q F=>u q (.inr F)
  have h:inR (eff (.mlook J K z ok m k) d s1.sl s1.bx) e:=h;show inR (eff (.mlook J K z ok m k) d s2.sl s2.bx) e
  simp only [eff] at h ⊢;rw [D,R];cases A:ev s1.sl m with
  |mp b=>
   rw [A] at h;simp only at h ⊢;cases y:s1.bx b with
   |none=>rw [y] at h;exact h.elim
   |some c=>
    rw [I b (by show b∈bx1 (ev s1.sl m);rw [A];simp [bx1]) c y];rw [y] at h;exact h
  |t x=>rw [A] at h;cases x <;> exact h
  |_=>rw [A] at h;exact h
 |bC J K m k v=>
  simp only [DOp.reads,List.mem_append] at u;have D:=av (s1:=s1.sl) (s2:=s2.sl) (x:=m) fun q F=>u q (.inl (.inl F))
  have R:=av (s1:=s1.sl) (s2:=s2.sl) (x:=k) fun q F=>u q (.inl (.inr F))
  have Z:=av (s1:=s1.sl) (s2:=s2.sl) (x:=v) fun q F=>u q (.inr F)
  have h:inR (eff (.bC J K m k v) d s1.sl s1.bx) e:=h;show inR (eff (.bC J K m k v) d s2.sl s2.bx) e
  simp only [eff] at h ⊢;rw [D,R,Z];cases A:ev s1.sl m with
  |mp b=>
   rw [A] at h;simp only at h ⊢;cases y:s1.bx b with
   |none=>rw [y] at h;exact h.elim
   |some c=>
    rw [I b (by show b∈bx1 (ev s1.sl m);rw [A];simp [bx1]) c y];rw [y] at h;exact h
  |_=>rw [A] at h;exact h
 |mlen m=>
  have D:=av u;have h:inR (eff (.mlen m) d s1.sl s1.bx) e:=h;show inR (eff (.mlen m) d s2.sl s2.bx) e
  simp only [eff] at h ⊢;rw [D];cases A:ev s1.sl m with
  |mp b=>
   rw [A] at h;simp only at h ⊢;cases y:s1.bx b with
   |none=>rw [y] at h;exact h.elim
   |some c=>
    rw [I b (by show b∈bx1 (ev s1.sl m);rw [A];simp [bx1]) c y];rw [y] at h;exact h
  |t x=>rw [A] at h;cases x <;> exact h
  |_=>rw [A] at h;exact h
 |box m x=>
  cases d with
  |none=>exact h
  |some n=>
   have h:inR (eff (.box m x) (some n) s1.sl s1.bx) e:=h;show inR (eff (.box m x) (some n) s2.sl s2.bx) e
   simp only [eff] at h ⊢;rw [av u];cases B:s1.bx n with
   |some c=>
    rw [B] at h;cases U:od m (ev s1.sl x) with
    |none=>rw [U] at h;exact h.elim
    |some q=>rw [U] at h;exact h.elim
   |none=>rw [hd rfl n rfl B];rw [B] at h;exact h
 |load n agg a=>
  have D:=av u;have h:inR (eff (.load n agg a) d s1.sl s1.bx) e:=h;show inR (eff (.load n agg a) d s2.sl s2.bx) e
  simp only [eff] at h ⊢;rw [D];cases A:ev s1.sl a with
  |ptr b off=>
   rw [A] at h;simp only at h ⊢;cases y:s1.bx b with
   |none=>rw [y] at h;exact h.elim
   |some c=>
    rw [I b (by show b∈bx1 (ev s1.sl a);rw [A];simp [bx1]) c y];rw [y] at h;exact h
  |t x=>rw [A] at h;cases x <;> exact h
  |_=>rw [A] at h;exact h
 |store n a x=>
  simp only [DOp.reads,List.mem_append] at u;have D:=av (s1:=s1.sl) (s2:=s2.sl) (x:=a) fun m w=>u m (.inl w)
  have Q:=av (s1:=s1.sl) (s2:=s2.sl) (x:=x) fun m w=>u m (.inr w)
  have h:inR (eff (.store n a x) d s1.sl s1.bx) e:=h;show inR (eff (.store n a x) d s2.sl s2.bx) e
  simp only [eff] at h ⊢;rw [D,Q];cases A:ev s1.sl a with
  |ptr b off=>
   rw [A] at h;simp only at h ⊢;cases y:s1.bx b with
   |none=>rw [y] at h;exact h.elim
   |some c=>
    rw [I b (by show b∈bx1 (ev s1.sl a);rw [A];simp [bx1]) c y];rw [y] at h;exact h
  |_=>rw [A] at h;exact h
 |offA k x=>exact j (by simp only [eff,av u]) h
 |nar k x=>exact j (by simp only [eff,av u]) h
 |fld off size agg x=>exact j (by simp only [eff,av u]) h
 |not x=>exact j (by simp only [eff,av u]) h
 |neg x=>exact j (by simp only [eff,av u]) h
 |conv k x=>exact j (by simp only [eff,av u]) h
 |len x=>exact j (by simp only [eff,av u]) h
 |lenS x=>exact j (by simp only [eff,av u]) h
 |ext x i=>exact j (by simp only [eff,av u]) h
 |nilck x=>exact j (by simp only [eff,av u]) h
 |arrP n x=>exact j (by simp only [eff,av u]) h
 |isnil k n x=>exact j (by simp only [eff,av u]) h
 |cpl x=>exact j (by simp only [eff,av u]) h
 |slice3 size x hi mx=>
  simp only [DOp.reads,List.mem_append] at u;exact j (by simp only [eff];rw [av fun m w=>u m (.inl (.inl w)),av fun m w=>u m (.inl (.inr w)),av fun m w=>u m (.inr w)]) h
 |buildF size n H T=>
  have:aY s2.sl size (List.replicate n (cond (Nat.beq size 1) (H.headD .nil) (.agg H))) True T=aY s1.sl size (List.replicate n (cond (Nat.beq size 1) (H.headD .nil) (.agg H))) True T:=gP u
  exact j (by simp only [eff];rw [this]) h
 |appT size C s x=>
  simp only [DOp.reads,List.mem_append] at u;have hes:=av (s1:=s1.sl) (s2:=s2.sl) (x:=s) fun q F=>u q (.inl F)
  have Q:=av (s1:=s1.sl) (s2:=s2.sl) (x:=x) fun q F=>u q (.inr F)
  have h:inR (eff (.appT size C s x) d s1.sl s1.bx) e:=h;show inR (eff (.appT size C s x) d s2.sl s2.bx) e
  simp only [eff] at h ⊢;rw [hes,Q];cases A:cU s1.bx (ev s1.sl x) with
  |none=>rw [A] at h;exact h.elim
  |some r=>
   rw [oE (fun n G=>I n G) A];rw [A] at h;exact h
 |prim p x=>
  have D:=av u;have h:inR (eff (.prim p x) d s1.sl s1.bx) e:=h;show inR (eff (.prim p x) d s2.sl s2.bx) e
  simp only [eff] at h ⊢;rw [D];cases A:aX s1.bx (ev s1.sl x) with
  |none=>rw [A] at h;exact h.elim
  |some r=>
   rw [aO (fun n G=>I n G) A];rw [A] at h;exact h
 |idxA _ _ a x=>
  simp only [DOp.reads,List.mem_append] at u;exact j (by simp only [eff];rw [av fun m w=>u m (.inl w),av fun m w=>u m (.inr w)]) h
 |idxL _ a x=>
  simp only [DOp.reads,List.mem_append] at u;exact j (by simp only [eff];rw [av fun m w=>u m (.inl w),av fun m w=>u m (.inr w)]) h
 |idxV _ _ _ a x=>
  simp only [DOp.reads,List.mem_append] at u;exact j (by simp only [eff];rw [av fun m w=>u m (.inl w),av fun m w=>u m (.inr w)]) h
 |idxS a x=>
  simp only [DOp.reads,List.mem_append] at u;exact j (by simp only [eff];rw [av fun m w=>u m (.inl w),av fun m w=>u m (.inr w)]) h
 |bin _ a x=>
  simp only [DOp.reads,List.mem_append] at u;exact j (by simp only [eff];rw [av fun m w=>u m (.inl w),av fun m w=>u m (.inr w)]) h
 |eqv _ _ a x=>
  simp only [DOp.reads,List.mem_append] at u;exact j (by simp only [eff];rw [av fun m w=>u m (.inl w),av fun m w=>u m (.inr w)]) h
 |eqB _ a x=>
  simp only [DOp.reads,List.mem_append] at u;exact j (by simp only [eff];rw [av fun m w=>u m (.inl w),av fun m w=>u m (.inr w)]) h
 |maxI a x=>
  simp only [DOp.reads,List.mem_append] at u;exact j (by simp only [eff];rw [av fun m w=>u m (.inl w),av fun m w=>u m (.inr w)]) h
 |minI a x=>
  simp only [DOp.reads,List.mem_append] at u;exact j (by simp only [eff];rw [av fun m w=>u m (.inl w),av fun m w=>u m (.inr w)]) h
 |slice _ x lo hi=>
  simp only [DOp.reads,List.mem_append] at u;exact j (by simp only [eff];rw [av fun m w=>u m (.inl (.inl w)),gm fun m w=>u m (.inl (.inr w)),gm fun m w=>u m (.inr w)]) h
 |sliceS x lo hi=>
  simp only [DOp.reads,List.mem_append] at u;exact j (by simp only [eff];rw [av fun m w=>u m (.inl (.inl w)),gm fun m w=>u m (.inl (.inr w)),gm fun m w=>u m (.inr w)]) h
 |sliceA _ _ x lo hi=>
  simp only [DOp.reads,List.mem_append] at u;exact j (by simp only [eff];rw [av fun m w=>u m (.inl (.inl w)),gm fun m w=>u m (.inl (.inr w)),gm fun m w=>u m (.inr w)]) h
 |build H T=>exact j (by simp only [eff];rw [jC u,jD u]) h
 |buildT size n H T=>
  have:aY s2.sl size (List.replicate n (cond (Nat.beq size 1) (H.headD .nil) (.agg H))) True T=aY s1.sl size (List.replicate n (cond (Nat.beq size 1) (H.headD .nil) (.agg H))) True T:=gP u
  exact j (by simp only [eff];rw [this]) h
 |mkfn f xs=>exact j (by simp only [eff];rw [dM u]) h
 |call f M=>
  obtain ⟨ts,Y,r,O,S⟩:=h;refine ⟨ts,Y,r,?_,S⟩;rw [dM (s1:=s1.sl) u];exact et (fun n G=>I n G) O
 |mcall ms f M=>
  have y:=hM rfl;obtain ⟨V,fr,m,b,r,O,S,h3,h4,h5,h6⟩:=h;refine ⟨V,fr,m,b,r,?_,fun p hp=>by rw [y];exact S p hp,fun n G=>by rw [y];exact h3 n G,h4,by rw [y];exact h5,h6⟩;rw [dM (s1:=s1.sl) u];exact O
 |bY x M=>
  simp only [DOp.reads,List.mem_append] at u;simp only [DOp.tch,List.mem_append] at I;obtain ⟨f,caps,L,ts,Y,r,O,S⟩:=h;refine ⟨f,caps,?_,ts,Y,r,?_,S⟩
  ·rw [av (s1:=s1.sl) fun m w=>u m (.inl w)];exact L
  ·rw [dM (s1:=s1.sl) fun m w=>u m (.inr w)];refine et (fun n G=>?_) O;rw [List.flatMap_append,List.mem_append] at G;rcases G with G|G
   ·exact I n (.inr G)
   ·have:n∈bxs (ev s1.sl x):=by
     unfold jF at L;split at L
     ·simp only [Option.some.injEq,Prod.mk.injEq] at L;obtain ⟨-,rfl⟩:=L;obtain ⟨c,hc,G⟩:=List.mem_flatMap.1 G;obtain ⟨t,_,rfl⟩:=List.mem_map.1 hc;cases G
     ·rename_i g cs A;simp only [Option.some.injEq,Prod.mk.injEq] at L;obtain ⟨-,rfl⟩:=L;rw [A];exact G
     ·cases L
    exact I n (.inl this)
theorem nO{x:DOp}(C:x.cls.std=true){d:Option Nat}{st:St}{e:Eff}(h:cL P x d st e):e.wr=none\/(∃ n b,x.cls= .make/\d=some n/\st.bx n=none/\e.wr=some (n,b))\/(∃ n b,x.cls.wr=true/\n∈x.tch st.sl/\(st.bx n).isSome=true/\e.wr=some (n,b)):=by
 cases x with
 |append|appV|bad|buildS|inl|fcall|clr|cM|mclr|mrng|mnext|ment|copy=>exact absurd C Bool.false_ne_true
 |call f j=>obtain ⟨ts,I,r,_,_,_,rfl⟩:=h;exact .inl rfl
 |bY x j=>obtain ⟨_,_,_,ts,I,r,_,_,_,rfl⟩:=h;exact .inl rfl
 |mcall ms f j=>obtain ⟨F,M,m,b,r,_,_,_,J,H,rfl⟩:=h;exact .inr (.inr ⟨m,b,rfl,J,H,rfl⟩)
 |alloc z=>
  have h:inR (eff (.alloc z) d st.sl st.bx) e:=h;cases d with
  |none=>exact h.elim
  |some n=>
   simp only [eff] at h;cases g:st.bx n with
   |none=>rw [g] at h;cases h;exact .inr (.inl ⟨n,_,rfl,rfl,g,rfl⟩)
   |some b=>rw [g] at h;exact h.elim
 |mkmap u w=>
  have h:inR (eff (.mkmap u w) d st.sl st.bx) e:=h;cases d with
  |none=>exact h.elim
  |some n=>
   simp only [eff] at h;cases g:st.bx n with
   |none=>rw [g] at h;cases h;exact .inr (.inl ⟨n,_,rfl,rfl,g,rfl⟩)
   |some b=>rw [g] at h;exact h.elim
 |mkslice size q z l c=>
  have h:inR (eff (.mkslice size q z l c) d st.sl st.bx) e:=h;cases d with
  |none=>exact h.elim
  |some n=>
   simp only [eff] at h;split at h
   ·rename_i g _ _;obtain ⟨_,rfl⟩:=h;exact .inr (.inl ⟨n,_,rfl,rfl,g,rfl⟩)
   ·exact h.elim
 |bC u w m k v=>
  have h:inR (eff (.bC u w m k v) d st.sl st.bx) e:=h;simp only [eff] at h;split at h
  ·rename_i b t;split at h
   ·rename_i B A L _ i;split at h
    ·rename_i key x K C;cases D:ct u w B A with
     |false=>rw [D] at h;exact h.elim
     |true=>
      rw [D] at h;obtain ⟨_,rfl⟩:=h;exact .inr (.inr ⟨b,_,rfl,by show b∈bx1 (ev st.sl m);rw [t];simp [bx1],by rw [i];rfl,rfl⟩)
    ·exact h.elim
   ·exact h.elim
  ·exact h.elim
 |box m x=>
  have h:inR (eff (.box m x) d st.sl st.bx) e:=h;cases d with
  |none=>exact h.elim
  |some n=>
   simp only [eff] at h;cases g:st.bx n with
   |none=>
    rw [g] at h;cases G:od m (ev st.sl x) with
    |none=>rw [G] at h;exact h.elim
    |some p=>rw [G] at h;obtain ⟨_,rfl⟩:=h;exact .inr (.inl ⟨n,_,rfl,rfl,g,rfl⟩)
   |some b=>rw [g] at h;exact h.elim
 |store k a x=>
  have h:inR (eff (.store k a x) d st.sl st.bx) e:=h;simp only [eff] at h;cases t:ev st.sl a with
  |ptr b off=>
   rw [t] at h;simp only at h;cases i:st.bx b with
   |none=>rw [i] at h;exact h.elim
   |some c=>
    rw [i] at h;have y: ∃s,e.wr=some (b,s):=by
     simp only [gG,cond_eq_ite] at h
     repeat' (first|exact h.elim|(obtain ⟨_,rfl⟩:=h;exact ⟨_,rfl⟩)|(split at h)|(unfold inR at h;simp only at h;first|exact h.elim|(obtain ⟨_,rfl⟩:=h;exact ⟨_,rfl⟩)))
    obtain ⟨s,y⟩:=y;exact .inr (.inr ⟨b,s,rfl,by show b∈bx1 (ev st.sl a);rw [t];simp [bx1],by rw [i];rfl,y⟩)
  |_=>rw [t] at h;exact h.elim
 |_=>
  refine .inl ?_;simp only [cL,eff,eQ,lW,n5,n9,val,aK,aU,cond_eq_ite] at h
  repeat' (first|exact h.elim|(subst h;rfl)|(obtain ⟨_,rfl⟩:=h;rfl)|(split at h)|(unfold inR at h;simp only at h;first|exact h.elim|(subst h;rfl)|(obtain ⟨_,rfl⟩:=h;rfl)))
end
end Go.DL
end
section
namespace Go.DL
open Go.RowKit
section
variable [Glb]{P:Program}{X:List FuncId}{N:Nat}{w0:World}{S0:aa}{o:Oper}{a:Act}{E:Env}{st:St}
end
section
variable {P:Program}{X:List FuncId}{N:Nat}{w0:World}{S0:aa}{o:Oper}{a:Act}{E:Env}{st:St}
theorem sj{r:cr}{d:Option Nat}{K:St->Prop}{e:Eff}(h:inR r e)(i:K (st.app d e)):wpR r d st K:=by
 cases r with
 |no=>exact h
 |yes e0=>cases h;exact i
 |need c e0=>obtain ⟨g,rfl⟩:=h;exact ⟨g,i⟩
 |alt c b f=>obtain ⟨g,rfl⟩:=h;exact ⟨g,fun k j=>j▸i⟩
 |eq c t f=>obtain ⟨g,rfl⟩:=h;exact ⟨g,fun k j=>j▸i⟩
end
section
variable [Glb]{P:Program}{X:List FuncId}{N:Nat}{w0:World}{S0:aa}{o:Oper}{a:Act}{E:Env}{st:St}
theorem iL{f:FuncId}{b:List V}{d:Option Nat}{K:St->Prop}{ts:List T}{e:List Nat}{r:T}(i:bq st.bx b=some (ts,e))(g:DCalls P f ts r)(c:e=[]\/r.flat=true)(h:K (st.set d (.t r))):du P f b d st K:=by
 unfold du;rw [i];cases e with
 |nil=>exact ⟨r,g,h⟩
 |cons x xs=>
  rcases c with c|c
  ·cases c
  ·exact ⟨r,g,c,h⟩
theorem nP{x:DOp}(u:x.cls.std=true){d:Option Nat}{K:St->Prop}{e:Eff}(h:cL P x (st.nm d) st e)(j:K (st.app d e)):wpO P x d st K:=by
 have s: ∀x:DOp,(wpR (eff x (st.nm d) st.sl st.bx) d st K->wpO P x d st K)->(cL P x (st.nm d) st e->inR (eff x (st.nm d) st.sl st.bx) e)->cL P x (st.nm d) st e->wpO P x d st K:=fun x c i h=>c (sj (i h) j)
 cases x with
 |append|appV|bad|buildS|inl|fcall|clr|cM|mclr|mrng|mnext|ment|copy=>exact absurd u Bool.false_ne_true
 |call f k=>
  obtain ⟨ts,v,r,c,i,n,rfl⟩:=h;rw [iU] at j;exact iL c i n j
 |mcall ms f k=>
  obtain ⟨p,y,m,b,r,c,i,n,w,t,rfl⟩:=h;rw [qV] at j;exact ⟨p,y,m,b,r,c,i,n,w,t,j⟩
 |bY x k=>
  obtain ⟨f,caps,l,ts,v,r,c,i,n,rfl⟩:=h;rw [iU] at j;unfold jF at l;unfold wpO;simp only;split at l
  ·rename_i g cs q;simp only [Option.some.injEq,Prod.mk.injEq] at l;obtain ⟨rfl,rfl⟩:=l
   try rw [q]
   exact iL c i n j
  ·rename_i g cs q;simp only [Option.some.injEq,Prod.mk.injEq] at l;obtain ⟨rfl,rfl⟩:=l
   try rw [q]
   exact iL c i n j
  ·cases l
 |_=>exact s _ id id h
end
section
variable {P:Program}{X:List FuncId}{N:Nat}{w0:World}{S0:aa}{o:Oper}{a:Act}{E:Env}{st:St}
theorem DOp.mU{x:DOp}(h:x.cls.std=true):x.plain=true:=by cases x <;> first|rfl|exact absurd h Bool.false_ne_true
end
section
variable [Glb]{P:Program}{X:List FuncId}{N:Nat}{w0:World}{S0:aa}{o:Oper}{a:Act}{E:Env}{st:St}
theorem gI{i:DI}(n:i.op.cls.std=true){K:St->Prop}(h:wpI P i st K): ∃e,cE P i st e/\K (st.app i.dst e):=by
 unfold wpI at h;cases d:i.guard with
 |none=>
  rw [d] at h;obtain ⟨e,k,m⟩:=je (DOp.mU n) h;exact ⟨e,by unfold cE;rw [d];exact k,m⟩
 |some p=>
  obtain ⟨g,c⟩:=p;rw [d] at h;simp only at h;split at h
  ·rename_i b j;have f:b=c->wpO P i.op i.dst st K-> ∃e,cE P i st e/\K (st.app i.dst e):=fun l h=>by
    obtain ⟨e,k,m⟩:=je (DOp.mU n) h;exact ⟨e,by unfold cE;rw [d];exact .inl ⟨b,j,.inl ⟨l,k⟩⟩,m⟩
   have skip:b≠c->K (st.set i.dst bH)-> ∃e,cE P i st e/\K (st.app i.dst e):=fun l h=>⟨{val:=bH },by unfold cE;rw [d];exact .inl ⟨b,j,.inr ⟨l,rfl⟩⟩,h⟩
   cases b <;> cases c <;> simp only at h
   ·exact f rfl h
   ·exact skip (by decide) h
   ·exact skip (by decide) h
   ·exact f rfl h
  ·rename_i j;exact ⟨{val:=bH },by unfold cE;rw [d];exact .inr ⟨j,rfl⟩,h⟩
  ·exact h.elim
theorem iY{i:DI}(k:i.op.cls.std=true){K:St->Prop}{e:Eff}(h:cE P i st e)(d:K (st.app i.dst e)):wpI P i st K:=by
 unfold cE at h;unfold wpI;cases l:i.guard with
 |none=>rw [l] at h;exact nP k h d
 |some n=>
  obtain ⟨g,c⟩:=n;rw [l] at h;rcases h with ⟨b,j,h⟩|⟨j,rfl⟩
  ·simp only [j];rcases h with ⟨rfl,m⟩|⟨f,rfl⟩
   ·cases b <;> exact nP k m d
   ·cases b <;> cases c <;> simp only <;> first|exact absurd rfl f|exact d
  ·simp only [j];exact d
def jV(j:DI)(st:St):Prop:=j.op.cls≠ .mut-> ∀n∈j.op.tch st.sl,(st.bx n).isSome=true
theorem eN{i:DI}(s:i.op.cls.std=true){s1 s2:St}(j: ∀m∈i.reads,s2.sl m=s1.sl m)(t: ∀n∈i.op.tch s1.sl, ∀b,s1.bx n=some b->s2.bx n=some b)
  (u:s2.off=s1.off) (hd: ∀n,s1.nm i.dst=some n->s1.bx n=none->s2.bx n=none) (r:i.op.cls= .mut->s2.bx=s1.bx) {e:Eff} (h:cE P i s1 e):cE P i s2 e:=by
 have f:s2.nm i.dst=s1.nm i.dst:=by unfold St.nm;rw [u]
 have k:cL P i.op (s1.nm i.dst) s1 e->cL P i.op (s2.nm i.dst) s2 e:=by
  rw [f];exact oj s (fun m p=>j m (by unfold DI.reads;simp [p])) t (fun _=>hd) r
 unfold cE at h ⊢;cases d:i.guard with
 |none=>rw [d] at h;exact k h
 |some q=>
  obtain ⟨g,l⟩:=q;rw [d] at h;rcases h with ⟨b,c,h⟩|⟨c,h⟩
  ·exact .inl ⟨b,(j g (by unfold DI.reads;rw [d];simp)).trans c,h.imp (fun h=>⟨h.1,k h.2⟩) id⟩
  ·exact .inr ⟨(j g (by unfold DI.reads;rw [d];simp)).trans c,h⟩
def qU(i:DI)(st:St)(e:Eff):Prop:=e.wr=none\/(∃ n b,i.op.cls= .make/\st.nm i.dst=some n/\st.bx n=none/\e.wr=some (n,b))\/ ∃n b,i.op.cls.wr=true/\n∈i.op.tch st.sl/\(st.bx n).isSome=true/\e.wr=some (n,b)
theorem iX{i:DI}(c:i.op.cls.std=true){e:Eff}(h:cE P i st e):qU i st e:=by
 unfold cE at h;split at h
 ·exact nO c h
 ·obtain ⟨b,_,⟨_,h⟩|⟨_,rfl⟩⟩|⟨_,rfl⟩:=h
  ·exact nO c h
  ·exact .inl rfl
  ·exact .inl rfl
end
section
variable {P:Program}{X:List FuncId}{N:Nat}{w0:World}{S0:aa}{o:Oper}{a:Act}{E:Env}{st:St}
theorem dq(d:Option Nat)(e:Eff)(m:Nat)(h:d≠some m):(st.app d e).sl m=st.sl m:=by
 unfold St.app;cases d with
 |none=>split <;> rfl
 |some n=>
  have b:m≠n:=fun c=>h (by rw [c])
  split <;> exact ae _ _ _ _ b
theorem fY(d:Option Nat)(e:Eff)(n:Nat)(h: ∀b,e.wr≠some (n,b)):(st.app d e).bx n=st.bx n:=by
 unfold St.app;simp only;split
 ·rename_i k c g;have f:n≠k:=fun i=>h c (by rw [i];exact g)
  show upd (st.set d e.val).bx k (some c) n=_
  rw [ae _ _ _ _ f];cases d <;> rfl
 ·cases d <;> rfl
theorem nn{α:Type}(f:Nat->α){n m:Nat}(h:n≠m)(x y:α):upd (upd f n x) m y=upd (upd f m y) n x:=by
 funext k
 by_cases b:k=m
 ·subst b;rw [aj,ae _ _ _ _ (fun d=>h d.symm),aj]
 ·rw [ae _ _ _ _ b]
  by_cases c:k=n
  ·subst c;rw [aj,aj]
  ·rw [ae _ _ _ _ c,ae _ _ _ _ c,ae _ _ _ _ b]
theorem St.ext'{s1 s2:St}(b:s1.sl=s2.sl)(c:s1.bx=s2.bx)(f:s1.gh=s2.gh)(e:s1.off=s2.off)(d:s1.cx=s2.cx):s1=s2:=by cases s1;cases s2;cases b;cases c;cases f;cases e;cases d;rfl
theorem sH(s:St)(d:Option Nat)(v:V):(s.set d v).gh=s.gh:=by cases d <;> rfl
theorem rG(s:St)(d:Option Nat)(v:V):(s.set d v).off=s.off:=by cases d <;> rfl
theorem rV(s:St)(d:Option Nat)(e:Eff):(s.app d e).gh=s.gh:=by unfold St.app;simp only;split <;> exact sH _ _ _
theorem fZ(s:St)(d:Option Nat)(e:Eff):(s.app d e).off=s.off:=by unfold St.app;simp only;split <;> exact rG _ _ _
theorem rU(s:St)(d:Option Nat)(e:Eff):(s.app d e).cx=s.cx:=by
 have: ∀(s:St) (d:Option Nat) (v:V),(s.set d v).cx=s.cx:=fun s d v=>by cases d <;> rfl
 unfold St.app;simp only;split <;> exact this _ _ _
theorem rh{s s':St}(f:s'.off=s.off){b c:Option Nat}(hd: ∀n,b=some n->c≠some n){n:Nat}(e:s.nm b=some n)(d:s'.nm c=some n):False:=by
 cases b with
 |none=>cases e
 |some m=>
  cases c with
  |none=>cases d
  |some k=>
   simp only [St.nm,Option.some.injEq] at e d;exact hd m rfl (by rw [f] at d;have:k=m:=(by omega);rw [this])
theorem jy{i h:Option Nat}(hd: ∀n,i=some n->h≠some n){k j:Eff}(t: ∀n b m c,k.wr=some (n,b)->j.wr=some (m,c)->n≠m):
  (st.app i k).app h j=(st.app h j).app i k:=by
 have f: ∀(s:St) d e,(s.app d e).sl=(s.set d e.val).sl:=fun s d e=>by unfold St.app;simp only;split <;> rfl
 have g: ∀(s:St) d e,(s.app d e).bx=match e.wr with|some (n,c)=>upd s.bx n (some c)|none=>s.bx:=fun s d e=>by
  unfold St.app;simp only;cases e.wr with
  |none=>cases d <;> rfl
  |some p=>cases d <;> rfl
 refine St.ext' ?_ ?_ (by simp only [rV]) (by simp only [fZ]) (by simp only [rU])
 ·rw [f,f];cases i with
  |none=>cases h <;> simp only [St.set,f]
  |some v=>
   cases h with
   |none=>simp only [St.set,f]
   |some w=>
    simp only [St.set,f];exact nn _ (fun e=>hd v rfl (by rw [e])) _ _
 ·rw [g,g,g,g];cases r:k.wr with
  |none=>rfl
  |some q=>
   cases u:j.wr with
   |none=>rfl
   |some l=>exact nn _ (t q.1 q.2 l.1 l.2 r u) _ _
theorem jN{n:Nat}: ∀{l:List Nat},kZ n l=true↔n∈l
 |[]=>by simp [kZ]
 |m::l=>by
  unfold kZ;cases h:Nat.beq n m with
  |true=>simp [Nat.eq_of_beq_eq_true h]
  |false=>
   have:n≠m:=fun e=>by rw [e,cD] at h;cases h
   simp [jN,this]
end
section
variable [Glb]{P:Program}{X:List FuncId}{N:Nat}{w0:World}{S0:aa}{o:Oper}{a:Act}{E:Env}{st:St}
def Cls.det:Cls->Bool
 |.pure=>true
 |.load=>true
 |.make=>true
 |_=>false
end
section
variable {P:Program}{X:List FuncId}{N:Nat}{w0:World}{S0:aa}{o:Oper}{a:Act}{E:Env}{st:St}
theorem kn{i j:DI}(h:i.indep j=true):((i.op.cls.std=true/\j.op.cls.std=true)\/(i.op.cls= .fresh/\j.op.cls.det=true)\/(i.op.cls.det=true/\j.op.cls= .fresh))/\(∀ d,i.dst=some d->d ∉ j.reads)/\(∀ d,i.dst=some d->j.dst≠some d)/\(∀ d,j.dst=some d->d ∉ i.reads)/\
  (aW i.op.cls j.op.cls=some false\/aW i.op.cls j.op.cls=some true)/\(i.op.cls= .mut->j.op.cls.rdo=true)/\(j.op.cls= .mut->i.op.cls.rdo=true):=by
 unfold DI.indep at h;rw [Bool.and_eq_true] at h;obtain ⟨c,e⟩:=h;unfold DI.apart at c;rw [Bool.and_eq_true] at c;refine ⟨?_,fun d hd f=>?_,fun d hd g=>?_,fun d hd f=>?_,?_,?_,?_⟩
 ·revert e
  cases i.op.cls <;> cases j.op.cls <;> simp [aW,Cls.std,Cls.det]
 ·have:=c.1;rw [hd] at this;simp [jN.2 f] at this
 ·have:=c.1;rw [hd] at this;simp [g,isD] at this
 ·have:=c.2;rw [hd] at this;simp [jN.2 f] at this
 ·cases k:aW i.op.cls j.op.cls with
  |none=>rw [k] at e;cases e
  |some b=>cases b <;> simp
 ·revert e
  cases i.op.cls <;> cases j.op.cls <;> simp [aW,Cls.rdo]
 ·revert e
  cases i.op.cls <;> cases j.op.cls <;> simp [aW,Cls.rdo]
theorem Cls.cY{c:Cls}(h:c.det=true):c.std=true:=by cases c <;> first|rfl|cases h
end
section
variable [Glb]{P:Program}{X:List FuncId}{N:Nat}{w0:World}{S0:aa}{o:Oper}{a:Act}{E:Env}{st:St}
def gu(P:Program)(b:DOp)(d:Option Nat)(st:St)(vs:Nat->V):Prop:=
 match b with
 |.fcall f args=>d.isSome=true/\ ∃ts c e size xs,bq st.bx (args.map (ev st.sl))=some (ts,c)/\eC P f ts e size xs []/\vs=fun q=>.own q e size xs
 |_=>False
def cJ(P:Program)(i:DI)(st:St)(vs:Nat->V):Prop:=
 match i.guard with
 |none=>gu P i.op i.dst st vs
 |some (g,want)=>(∃ b,st.sl g= .t (.bool b)/\((b=want/\gu P i.op i.dst st vs)\/(b≠want/\vs=fun _=>bH)))\/(st.sl g=bH/\vs=fun _=>bH)
end
section
variable {P:Program}{X:List FuncId}{N:Nat}{w0:World}{S0:aa}{o:Oper}{a:Act}{E:Env}{st:St}
theorem lq{x:DOp}(h:x.cls= .fresh): ∃f b,x= .fcall f b:=by
 cases x <;> first|exact ⟨_,_,rfl⟩|cases h
end
section
variable [Glb]{P:Program}{X:List FuncId}{N:Nat}{w0:World}{S0:aa}{o:Oper}{a:Act}{E:Env}{st:St}
theorem fL{x:DOp}(j:x.cls= .fresh){d:Option Nat}{K:St->Prop}:wpO P x d st K↔ ∃vs,gu P x d st vs/\ ∀q,K (st.set d (vs q)):=by
 obtain ⟨f,b,rfl⟩:=lq j;show dG P f (b.map (ev st.sl)) d st K↔_
 unfold dG gu;cases d with
 |none=>simp
 |some n=>
  simp only [Option.isSome_some,true_and];cases m:bq st.bx (b.map (ev st.sl)) with
  |none=>exact ⟨False.elim,fun ⟨vs,⟨ts,i,e,size,xs,h,_⟩,_⟩=>by cases h⟩
  |some p=>
   obtain ⟨ts,i⟩:=p;refine ⟨fun ⟨e,size,xs,c,g⟩=>⟨_,⟨ts,i,e,size,xs,rfl,c,rfl⟩,g⟩,?_⟩;rintro ⟨vs,⟨l,k,e,size,xs,h,c,rfl⟩,g⟩;cases h;exact ⟨e,size,xs,c,g⟩
theorem iS{i:DI}(m:i.op.cls= .fresh){K:St->Prop}(h:wpI P i st K): ∃vs,cJ P i st vs/\ ∀q,K (st.app i.dst {val:=vs q }):=by
 unfold wpI at h;cases d:i.guard with
 |none=>
  rw [d] at h;obtain ⟨vs,j,l⟩:=(fL m).1 h;exact ⟨vs,by unfold cJ;rw [d];exact j,l⟩
 |some n=>
  obtain ⟨g,c⟩:=n;rw [d] at h;simp only at h;split at h
  ·rename_i b f;have e:b=c->wpO P i.op i.dst st K-> ∃vs,cJ P i st vs/\ ∀q,K (st.app i.dst {val:=vs q }):=fun k h=>by
    obtain ⟨vs,j,l⟩:=(fL m).1 h;exact ⟨vs,by unfold cJ;rw [d];exact .inl ⟨b,f,.inl ⟨k,j⟩⟩,l⟩
   have skip:b≠c->K (st.set i.dst bH)-> ∃vs,cJ P i st vs/\ ∀q,K (st.app i.dst {val:=vs q }):=fun k h=>⟨fun _=>bH,by unfold cJ;rw [d];exact .inl ⟨b,f,.inr ⟨k,rfl⟩⟩,fun _=>h⟩
   cases b <;> cases c <;> simp only at h
   ·exact e rfl h
   ·exact skip (by decide) h
   ·exact skip (by decide) h
   ·exact e rfl h
  ·rename_i f;exact ⟨fun _=>bH,by unfold cJ;rw [d];exact .inr ⟨f,rfl⟩,fun _=>h⟩
  ·exact h.elim
theorem lD{i:DI}(j:i.op.cls= .fresh){K:St->Prop}{vs:Nat->V}(h:cJ P i st vs)(d: ∀q,K (st.app i.dst {val:=vs q })):wpI P i st K:=by
 unfold cJ at h;unfold wpI;cases k:i.guard with
 |none=>rw [k] at h;exact (fL j).2 ⟨vs,h,d⟩
 |some m=>
  obtain ⟨g,c⟩:=m;rw [k] at h;rcases h with ⟨b,f,h⟩|⟨f,rfl⟩
  ·simp only [f];rcases h with ⟨rfl,l⟩|⟨e,rfl⟩
   ·cases b <;> exact (fL j).2 ⟨vs,l,d⟩
   ·cases b <;> cases c <;> simp only <;> first|exact absurd rfl e|exact d 0
  ·simp only [f];exact d 0
theorem iH{i:DI}(v:i.op.cls= .fresh){s1 s2:St}(k: ∀m∈i.reads,s2.sl m=s1.sl m)(p: ∀n∈i.op.tch s1.sl, ∀b,s1.bx n=some b->s2.bx n=some b){vs:Nat->V}(h:cJ P i s1 vs):cJ P i s2 vs:=by
 obtain ⟨f,r,d⟩:=lq v;have l:gu P i.op i.dst s1 vs->gu P i.op i.dst s2 vs:=by
  rw [d] at p ⊢;rintro ⟨hd,ts,w,e,size,xs,s,x⟩;refine ⟨hd,ts,w,e,size,xs,?_,x⟩;rw [dM (s1:=s1.sl) (fun m t=>k m (by unfold DI.reads;rw [d];exact List.mem_append_left _ t))];exact et (fun n y=>p n y) s
 unfold cJ at h ⊢;cases j:i.guard with
 |none=>rw [j] at h;exact l h
 |some u=>
  obtain ⟨g,q⟩:=u;rw [j] at h;rcases h with ⟨b,c,h⟩|⟨c,h⟩
  ·exact .inl ⟨b,(k g (by unfold DI.reads;rw [j];simp)).trans c,h.imp (fun h=>⟨h.1,l h.2⟩) id⟩
  ·exact .inr ⟨(k g (by unfold DI.reads;rw [j];simp)).trans c,h⟩
end
section
variable {P:Program}{X:List FuncId}{N:Nat}{w0:World}{S0:aa}{o:Oper}{a:Act}{E:Env}{st:St}
theorem kW{r:cr}{e g:Eff}(h:inR r e)(d:inR r g):e=g:=by
 cases r with
 |no=>exact h.elim
 |yes e0=>cases h;cases d;rfl
 |need c e0=>obtain ⟨_,rfl⟩:=h;obtain ⟨_,rfl⟩:=d;rfl
 |alt c b f=>obtain ⟨_,rfl⟩:=h;obtain ⟨_,rfl⟩:=d;rfl
 |eq c t f=>obtain ⟨_,rfl⟩:=h;obtain ⟨_,rfl⟩:=d;rfl
end
section
variable [Glb]{P:Program}{X:List FuncId}{N:Nat}{w0:World}{S0:aa}{o:Oper}{a:Act}{E:Env}{st:St}
theorem pU{i:DI}(p:i.op.cls.det=true){e l:Eff}(h:cE P i st e)(j:cE P i st l):e=l:=by
 have q:cL P i.op (st.nm i.dst) st e->cL P i.op (st.nm i.dst) st l->e=l:=by
  generalize i.op=x at p;intro a b;cases x with
  |mov y=>exact kW (r:=eff (.mov y) (st.nm i.dst) st.sl st.bx) a b
  |mkfn f c=>exact kW (r:=eff (.mkfn f c) (st.nm i.dst) st.sl st.bx) a b
  |_=>first|exact absurd p Bool.false_ne_true|exact kW (r:=eff _ (st.nm i.dst) st.sl st.bx) a b
 unfold cE at h j;cases t:i.guard with
 |none=>rw [t] at h j;exact q h j
 |some u=>
  obtain ⟨g,s⟩:=u;rw [t] at h j;rcases h with ⟨b,m,h⟩|⟨m,rfl⟩ <;> rcases j with ⟨v,d,j⟩|⟨d,rfl⟩
  ·rw [m] at d;cases d;rcases h with ⟨n,h⟩|⟨n,rfl⟩ <;> rcases j with ⟨k,j⟩|⟨k,rfl⟩
   ·exact q h j
   ·exact absurd n k
   ·exact absurd k n
   ·rfl
  ·rw [m] at d;cases d
  ·rw [m] at d;cases d
  ·rfl
theorem qQ{i:DI}(b:i.op.cls.std=true\/i.op.cls= .fresh){K:St->Prop}(h:wpI P i st K): ∃e,K (st.app i.dst e):=by
 rcases b with b|b
 ·obtain ⟨e,_,h⟩:=gI b h;exact ⟨e,h⟩
 ·obtain ⟨vs,_,h⟩:=iS b h;exact ⟨_,h 0⟩
end
section
variable {P:Program}{X:List FuncId}{N:Nat}{w0:World}{S0:aa}{o:Oper}{a:Act}{E:Env}{st:St}
theorem nN{a b:List Nat}(h:mw a b=true){n:Nat}(c:n∈a)(d:n∈b):False:=by
 unfold mw at h;rw [List.all_eq_true] at h
 have:=h n c
 rw [List.contains_iff_mem.2 d] at this;cases this
theorem ie{i j:DI}(e:aW i.op.cls j.op.cls=some false\/mw (i.op.tch st.sl) (j.op.tch st.sl)=true){n:Nat}:
  (i.op.cls.wr=true->n∈i.op.tch st.sl->n∈j.op.tch st.sl->False)/\(j.op.cls.wr=true->n∈i.op.tch st.sl->n∈j.op.tch st.sl->False):=by
 rcases e with e|hd
 ·have key: ∀x y:DOp,x.cls.wr=true->(aW x.cls y.cls=some false\/aW y.cls x.cls=some false)-> ∀h,y.tch h=[]:=fun x y f g h=>by
   generalize x.cls=c at f g;cases c <;> first|(cases f;done)|(cases y <;> first|rfl|(simp [DOp.cls,aW] at g;done))
  refine ⟨fun hi _ d=>?_,fun k b _=>?_⟩
  ·rw [key i.op j.op hi (.inl e)] at d;cases d
  ·rw [key j.op i.op k (.inr e)] at b;cases b
 ·exact ⟨fun _ b d=>nN hd b d,fun _ b d=>nN hd b d⟩
theorem gH{x:DOp}{s1 s2:Nat->V}(h: ∀m∈x.reads,s2 m=s1 m):x.tch s2=x.tch s1:=by
 cases x with
 |load n agg a=>show bx1 _=bx1 _;rw [av h]
 |store n a y=>show bx1 _=bx1 _;rw [av fun m b=>h m (by simp [DOp.reads,b])]
 |mlook e g z ok a k=>show bx1 _=bx1 _;rw [av fun m b=>h m (by simp [DOp.reads,b])]
 |bC e g a k v=>show bx1 _=bx1 _;rw [av fun m b=>h m (by simp [DOp.reads,b])]
 |mlen a=>show bx1 _=bx1 _;rw [av h]
 |prim p a=>show bx1 _=bx1 _;rw [av h]
 |appT size d s a=>show bx1 _=bx1 _;rw [av fun m b=>h m (by simp [DOp.reads,b])]
 |call f c=>show List.flatMap _ _=List.flatMap _ _;rw [dM h]
 |fcall f c=>show List.flatMap _ _=List.flatMap _ _;rw [dM h]
 |bY y c=>show bxs _++List.flatMap _ _=bxs _++List.flatMap _ _;rw [av fun m b=>h m (by simp [DOp.reads,b]),dM fun m b=>h m (by simp [DOp.reads,b])]
 |_=>rfl
theorem ru{l:List Nat}{acc b:Nat->List Nat}{t:List Nat}(h: ∀k,b k=acc k\/b k=[])(c:chk l acc t=true):chk l b t=true:=by
 unfold chk at c ⊢;rw [List.all_eq_true] at c ⊢;intro i hi;rcases h i with e|e
 ·rw [e];exact c i hi
 ·rw [e];rfl
theorem qS{r:cr}{d:Option Nat}{K i:St->Prop}(g: ∀s,K s->i s)(h:wpR r d st K):wpR r d st i:=by
 cases r with
 |no=>exact h
 |yes e=>exact g _ h
 |need c e=>exact ⟨h.1,g _ h.2⟩
 |alt c b f=>exact ⟨h.1,fun j e=>g _ (h.2 j e)⟩
 |eq c t f=>exact ⟨h.1,fun k e=>g _ (h.2 k e)⟩
end
section
variable [Glb]{P:Program}{X:List FuncId}{N:Nat}{w0:World}{S0:aa}{o:Oper}{a:Act}{E:Env}{st:St}
theorem fV{f:FuncId}{b:List V}{d:Option Nat}{K g:St->Prop}(i: ∀s,K s->g s)(h:du P f b d st K):du P f b d st g:=by
 unfold du at h ⊢;split at h
 ·obtain ⟨r,c,e⟩:=h;exact ⟨r,c,i _ e⟩
 ·obtain ⟨r,c,e,j⟩:=h;exact ⟨r,c,e,i _ j⟩
 ·exact h
theorem rp{f:FuncId}{us:List V}{d:Option Nat}{K c:St->Prop}(k: ∀s,K s->c s)(h:WC P f us d st K):WC P f us d st c:=
 ⟨h.1,fun N w0 S0 E a vs g j p l=>(h.2 N w0 S0 E a vs g j p l).mono fun _ _ ⟨v,e,m,b,i,n,q⟩=>⟨v,e,m,b,i,k _ n,q⟩⟩
end
section
variable {P:Program}{X:List FuncId}{N:Nat}{w0:World}{S0:aa}{o:Oper}{a:Act}{E:Env}{st:St}
theorem lr{b:Bool}{A B C:Prop}(h:A->B):(cond b A C)->cond b B C:=by cases b <;> simp;exact h
theorem lQ{e:TypeId}{size b d q:Nat}{s x:V}{K f:St->Prop}(c: ∀s,K s->f s)(h:ft e size b d q s x st K):ft e size b d q s x st f:=by
 unfold ft at h ⊢;split at h
 ·refine ⟨h.1,?_⟩;have h:=h.2;split at h
  ·exact ⟨h.1,c _ h.2⟩
  ·exact lr (fun h=>⟨h.1,c _ h.2⟩) h
  ·exact h
 ·split at h
  ·exact c _ h
  ·exact lr (fun h=>⟨h.1,c _ h.2⟩) h
  ·exact h
 ·exact h
end
section
variable [Glb]{P:Program}{X:List FuncId}{N:Nat}{w0:World}{S0:aa}{o:Oper}{a:Act}{E:Env}{st:St}
theorem nu{f:FuncId}{us:List V}{d:Option Nat}{K b:St->Prop}(g: ∀s,K s->b s)(h:dG P f us d st K):dG P f us d st b:=by
 unfold dG at h ⊢;cases d with
 |none=>exact h
 |some n=>
  revert h
  simp only;split
  ·exact fun ⟨e,size,xs,c,i⟩=>⟨e,size,xs,c,fun q=>g _ (i q)⟩
  ·exact id
theorem jU{o:DOp}{d:Option Nat}{K y:St->Prop}(f: ∀s,K s->y s)(h:wpO P o d st K):wpO P o d st y:=by
 unfold wpO at h ⊢;split at h
 ·cases d with
  |none=>exact h
  |some n=>exact lQ f h
 ·cases d with
  |none=>exact h
  |some n=>
   revert h
   simp only [kN];split
   ·simp only [cond_eq_ite];split
    ·exact fun h=>⟨h.1,f _ h.2⟩
    ·exact fun h=>h
   ·exact fun h=>h
 ·cases d with
  |none=>exact h
  |some n=>
   revert h
   simp only;split
   ·exact fun h=>⟨h.1,f _ h.2⟩
   ·exact fun h=>h
 ·cases d with
  |none=>exact h
  |some n=>
   revert h
   simp only;split
   ·split
    ·exact fun h bs c g k p=>f _ (h bs c g k p)
    ·exact fun h=>h
   ·split
    ·exact f _
    ·exact fun h=>h
   ·exact fun h=>h
 ·cases d with
  |none=>exact h
  |some n=>
   revert h
   simp only;split
   ·split
    ·split
     ·exact fun ⟨g,k,p,v,i,l,w⟩=>⟨g,k,p,v,i,fun j e t x=>f _ (l j e t x),fun u=>f _ (w u)⟩
     ·exact fun h=>h
    ·exact fun ⟨i,l,w⟩=>⟨i,fun j e t x=>f _ (l j e t x),fun u=>f _ (w u)⟩
    ·exact fun h=>h
   ·exact fun h=>h
 ·exact fV f h
 ·exact rp f h
 ·exact nu f h
 ·obtain ⟨q,z,m,b,r,g,k,p,v,i,l⟩:=h;exact ⟨q,z,m,b,r,g,k,p,v,i,f _ l⟩
 ·revert h
  split
  ·exact fV f
  ·exact fV f
  ·exact fun h=>h
 ·exact qS f h
theorem cV{i:DI}{K c:St->Prop}(b: ∀s,K s->c s)(h:wpI P i st K):wpI P i st c:=by
 unfold wpI at h ⊢;split at h
 ·exact jU b h
 ·revert h
  split
  ·split
   ·exact jU b
   ·exact jU b
   ·exact b _
   ·exact b _
  ·exact b _
  ·exact fun h=>h
theorem lL{d:List (List Nat)}{K:St->Prop}: ∀{l:List (Nat×DI)} {acc b:Nat->List Nat} {st:St},(∀ k,b k=acc k\/b k=[])->bO P d acc l st K->bO P d b l st K
 |[],_,_,_,_,h=>h
 |(j,i)::l,acc,b,st,ha,h=>by
  refine ⟨ru ha h.1,cV (fun s e=>?_) h.2⟩;refine lL (fun k=>?_) e
  by_cases c:k=j
  ·subst c;rw [aj,aj];exact .inl rfl
  ·rw [ae _ _ _ _ c,ae _ _ _ _ c];exact ha k
theorem lM{l:List (List Nat)}{g:Nat}{j:DI}{d:List (Nat×DI)}{K:St->Prop}: ∀{c:List (Nat×DI)} {acc:Nat->List Nat} {st:St},(∀ p∈c,p.2.indep j=true)->
  bO P l acc (c++(g,j)::d) st K-> ∃b,(∀ k,k ∉ c.map (·.1)->b k=acc k)/\chk (l[g]?.getD []) b (j.op.tch st.sl)=true
 |[],acc,st,_,h=>⟨acc,fun _ _=>rfl,h.1⟩
 |(ik,i)::c,acc,st,hp,h=>by
  obtain ⟨u,v,w,y,s,_⟩:=kn (hp (ik,i) (by simp));obtain ⟨x,e⟩:=qQ (u.elim (fun h=>.inl h.1) fun h=>h.elim (fun h=>.inr h.1) fun h=>.inl (Cls.cY h.1)) h.2;obtain ⟨b,q,t⟩:=lM (fun p f=>hp p (List.mem_cons_of_mem _ f)) e;refine ⟨b,fun k e=>?_,?_⟩
  ·simp only [List.map_cons,List.mem_cons,not_or] at e;rw [q k e.2,ae _ _ _ _ e.1]
  ·rwa [gH fun m r=>dq _ _ _ fun n=>v m n (by unfold DI.reads;simp [r])] at t
theorem fW{ck:List (List Nat)}{jk:Nat}{j:DI}{F:List (Nat×DI)}{K:St->Prop}: ∀{t:List (Nat×DI)} {acc:Nat->List Nat} {st:St},
  (∀ p∈t,p.2.indep j=true/\(aW p.2.op.cls j.op.cls=some true->p.1∈ck[jk]?.getD []))->((t.map (·.1)).Nodup)->(∀ p∈t,p.1≠jk)->(∀ p∈t,acc p.1=[])->acc jk=[]->jV j st->
  bO P ck acc (t++(jk,j)::F) st K->wpI P j st fun T=>bO P ck acc (t++F) T K
 |[],acc,st,_,_,_,_,O,_,h=>cV (fun s hs=>lL (fun k=>(by
   by_cases x:k=jk
   ·exact .inr (x▸O)
   ·exact .inl (ae _ _ _ _ x).symm)) hs) h.2
 |(ik,i)::t,acc,st,hp,hnd,hne,jH,O,hl,h=>by
  obtain ⟨hij,hik⟩:=hp (ik,i) (by simp);obtain ⟨cc,a1,a2,a3,hcp,am1,am2⟩:=kn hij;have L: ∀{k:DI} {s:St} {e:Eff},k.op.cls.rdo=true->qU k s e->e.wr=none:=fun x l=>by
   rcases l with l|⟨n,b,O,_⟩|⟨n,b,O,_⟩
   ·exact l
   ·rw [O] at x;cases x
   ·revert x O;generalize (DI.op _).cls=c;cases c <;> simp [Cls.rdo,Cls.wr]
  have Y: ∀{s:St} {d:Option Nat} {e:Eff},e.wr=none->(s.app d e).bx=s.bx:=fun {s d e} B=>by unfold St.app;rw [B];cases d <;> rfl
  obtain ⟨qe,h⟩:=h;have nd:(ik ∉ t.map (·.1))/\(t.map (·.1)).Nodup:=List.nodup_cons.1 hnd
  have hp': ∀p∈t,p.2.indep j=true/\(aW p.2.op.cls j.op.cls=some true->p.1∈ck[jk]?.getD []):=fun p u=>hp p (List.mem_cons_of_mem _ u)
  have rest: ∀T,jV j T->bO P ck (upd acc ik (i.op.tch st.sl)) (t++(jk,j)::F) T K->wpI P j T fun st''=>bO P ck (upd acc ik (i.op.tch st.sl)) (t++F) st'' K:=fun T hl' hk'=>
   fW hp' nd.2 (fun p u=>hne p (List.mem_cons_of_mem _ u)) (fun p u=>by
    by_cases x:p.1=ik
    ·exact absurd (x▸List.mem_map_of_mem u) nd.1
    ·rw [ae _ _ _ _ x];exact jH p (List.mem_cons_of_mem _ u)) (by
    by_cases x:jk=ik
    ·exact absurd x.symm (hne (ik,i) (by simp))
    ·rw [ae _ _ _ _ x];exact O) hl' hk'
  have f: ∀(d:Option Nat) (v:V) (s:St),(s.app d {val:=v }).bx=s.bx:=fun d v s=>by cases d <;> rfl
  have tchj: ∀v,j.op.tch (st.app i.dst {val:=v }).sl=j.op.tch st.sl:=fun v=>gH fun m w=>dq _ _ _ fun B=>a1 m B (by unfold DI.reads;simp [w])
  have Q: ∀e:Eff,i.op.tch (st.app j.dst e).sl=i.op.tch st.sl:=fun e=>gH fun m w=>dq _ _ _ fun B=>a3 m B (by unfold DI.reads;simp [w])
  rcases cc with ⟨M,H⟩|⟨M,H⟩|⟨M,H⟩
  case inr.inl=>
   obtain ⟨vs,hvs,x⟩:=iS M h;have one: ∀q, ∃ej,cE P j st ej/\bO P ck (upd acc ik (i.op.tch st.sl)) (t++F) ((st.app i.dst {val:=vs q }).app j.dst ej) K:=fun q=>by
    obtain ⟨ej,A,z⟩:=gI (Cls.cY H) (rest _ (fun y n g=>by rw [tchj] at g;rw [f];exact hl y n g) (x q));refine ⟨ej,eN (Cls.cY H) (fun m w=>(dq _ _ _ fun B=>a1 m B w).symm) (fun n _ b I=>by rw [f] at I;exact I) (fZ _ _ _).symm (fun n _ g=>by rw [f] at g;exact g) (fun _=>(f _ _ _).symm) A,z⟩
   obtain ⟨ej,Z,_⟩:=one 0;have D:=iX (Cls.cY H) Z;refine iY (Cls.cY H) Z ⟨by rw [Q];exact qe,?_⟩;refine lD M (iH M (fun m w=>dq _ _ _ fun B=>a3 m B w) (fun n g b I=>?_) hvs) fun q=>?_
   ·rw [fY];exact I;intro b' l;rcases D with D|⟨n',J,O,A,z,R⟩|⟨n',J,A,_⟩
    ·rw [D] at l;cases l
    ·rw [R] at l;cases l;rw [z] at I;cases I
    ·revert H A;generalize j.op.cls=c;cases c <;> simp [Cls.det,Cls.wr]
   ·obtain ⟨ej',tH,hk2⟩:=one q
    have:=pU H Z tH
    subst this;rw [Q,jy (fun n A z=>a2 n z A) (fun n b m c _ C=>by cases C)];exact hk2
  case inr.inr=>
   obtain ⟨U,hei,x⟩:=gI (Cls.cY M) h;have W:=iX (Cls.cY M) hei;have mJ: ∀m∈j.reads,(st.app i.dst U).sl m=st.sl m:=fun m w=>dq _ _ _ fun B=>a1 m B w
   have S:j.op.tch (st.app i.dst U).sl=j.op.tch st.sl:=gH fun m w=>mJ m (by unfold DI.reads;simp [w])
   have G: ∀n∈j.op.tch st.sl,(st.app i.dst U).bx n=st.bx n:=fun n g=>by
    refine fY _ _ _ fun b' l=>?_
    rcases W with W|⟨n',J,O,A,z,R⟩|⟨n',J,A,_⟩
    ·rw [W] at l;cases l
    ·rw [R] at l;cases l
     have:=hl (by rw [H];simp) n g
     rw [z] at this;cases this
    ·revert M A;generalize i.op.cls=c;cases c <;> simp [Cls.det,Cls.wr]
   obtain ⟨vs,hvs,hk2⟩:=iS H (rest _ (fun y n g=>by rw [S] at g;rw [G n g];exact hl y n g) x);refine lD H (iH H (fun m w=>(mJ m w).symm) (fun n g b I=>by rw [S] at g;rw [<- G n g];exact I) hvs) fun q=>⟨by rw [Q];exact qe,?_⟩
   refine iY (e:=U) (Cls.cY M) (eN (Cls.cY M) (fun m w=>dq _ _ _ fun B=>a3 m B w) (fun n _ b I=>by rw [f];exact I) (fZ _ _ _) (fun n _ g=>by rw [f];exact g) (fun _=>f _ _ _) hei) ?_;rw [Q,jy (fun n A z=>a2 n z A) (fun n b m c r _=>by cases r)];exact hk2 q
  obtain ⟨U,hei,x⟩:=gI M h;have W:=iX M hei;have mJ: ∀m∈j.reads,(st.app i.dst U).sl m=st.sl m:=fun m w=>dq _ _ _ fun B=>a1 m B w
  have S:j.op.tch (st.app i.dst U).sl=j.op.tch st.sl:=gH fun m w=>mJ m (by unfold DI.reads;simp [w])
  have qf:aW i.op.cls j.op.cls=some false\/mw (i.op.tch st.sl) (j.op.tch st.sl)=true:=by
   rcases hcp with hcp|hcp
   ·exact .inl hcp
   ·refine .inr ?_;obtain ⟨acc',q1,q2⟩:=lM (fun p u=>(hp' p u).1) x;rw [S] at q2;unfold chk at q2;rw [List.all_eq_true] at q2;have z:=q2 ik (hik hcp);rwa [q1 ik nd.1,aj] at z
  have G: ∀n∈j.op.tch st.sl,(st.app i.dst U).bx n=st.bx n:=fun n g=>by
   refine fY _ _ _ fun b' l=>?_
   rcases W with W|⟨n',J,O,A,z,R⟩|⟨n',J,A,z,R,h4⟩
   ·rw [W] at l;cases l
   ·rw [R] at l;cases l
    have:=hl (fun y=>by have:=am2 y;rw [O] at this;cases this) n g
    rw [z] at this;cases this
   ·rw [h4] at l;cases l;exact (ie qf).1 A z g
  have none_i: ∀n,(st.app i.dst U).bx n=none->st.bx n=none:=fun n g=>by
   rw [<- g];refine (fY _ _ _ fun b' l=>?_).symm
   have:(st.app i.dst U).bx n=some b':=by
    unfold St.app;simp only [l];exact aj _ _ _
   rw [this] at g;cases g
  have hl':jV j (st.app i.dst U):=fun y n g=>by
   rw [S] at g;rw [G n g];exact hl y n g
  have tM:=fW hp' nd.2 (fun p u=>hne p (List.mem_cons_of_mem _ u)) (fun p u=>by
    by_cases x:p.1=ik
    ·exact absurd (x▸List.mem_map_of_mem u) nd.1
    ·rw [ae _ _ _ _ x];exact jH p (List.mem_cons_of_mem _ u)) (by
    by_cases x:jk=ik
    ·exact absurd x.symm (hne (ik,i) (by simp))
    ·rw [ae _ _ _ _ x];exact O) hl' x
  obtain ⟨ej,Z,hk2⟩:=gI H tM;have r6:cE P j st ej:=by
   refine eN H (fun m w=>(mJ m w).symm) (fun n g b I=>?_) (fZ _ _ _).symm (fun n _ g=>none_i n g) (fun y=>(Y (L (am2 y) W)).symm) Z;rw [S] at g;rw [<- G n g];exact I
  have D:=iX H r6;refine iY H r6 ?_;have hti:i.op.tch (st.app j.dst ej).sl=i.op.tch st.sl:=gH fun m w=>dq _ _ _ fun B=>a3 m B (by unfold DI.reads;simp [w])
  refine ⟨by rw [hti];exact qe,?_⟩;refine iY (e:=U) M (eN M (fun m w=>dq _ _ _ fun B=>a3 m B w) (fun n g b I=>?_) (fZ _ _ _) (fun n g hbn=>?_) (fun y=>Y (L (am1 y) D)) hei) ?_
  ·rw [fY];exact I;intro b' l;rcases D with D|⟨n',J,O,A,z,R⟩|⟨n',J,A,z,R,h4⟩
   ·rw [D] at l;cases l
   ·rw [R] at l;cases l;rw [z] at I;cases I
   ·rw [h4] at l;cases l;exact (ie qf).2 A g z
  ·rw [fY];exact hbn;intro b l;rcases D with D|⟨n',b',O,A,z,R⟩|⟨n',b',A,z,R,h4⟩
   ·rw [D] at l;cases l
   ·rw [R] at l;cases l;exact rh (s:=st) (s':=st) rfl a2 g A
   ·rw [h4] at l;cases l;rw [hbn] at R;cases R
  ·rw [hti,jy (fun n A z=>a2 n z A) (fun n b m c r C hnm=>?_)]
   ·exact hk2
   ·subst hnm;rcases W with W|⟨n1,b1,k0,k1,k2,k3⟩|⟨n1,b1,k1,k2,k3,k4⟩
    ·rw [W] at C;cases C
    ·rw [k3] at C;cases C;rcases D with D|⟨n2,b2,l0,l1,l2,l3⟩|⟨n2,b2,l1,l2,l3,l4⟩
     ·rw [D] at r;cases r
     ·rw [l3] at r;cases r;exact rh (s:=st) (s':=st) rfl a2 k1 l1
     ·rw [l4] at r;cases r;rw [k2] at l3;cases l3
    ·rw [k4] at C;cases C;rcases D with D|⟨n2,b2,l0,l1,l2,l3⟩|⟨n2,b2,l1,l2,l3,l4⟩
     ·rw [D] at r;cases r
     ·rw [l3] at r;cases r;rw [l2] at k3;cases k3
     ·rw [l4] at r;cases r;exact (ie qf).1 k1 k2 l2
theorem jS{K:St->Prop}: ∀{l:List (Nat×DI)} {acc:Nat->List Nat} {st:St},cW P (l.map (·.2)) st K->bO P [] acc l st K
 |[],_,_,h=>h
 |(_,_)::_,_,_,h=>⟨rfl,cV (fun _ b=>jS b) h⟩
end
section
variable {P:Program}{X:List FuncId}{N:Nat}{w0:World}{S0:aa}{o:Oper}{a:Act}{E:Env}{st:St}
theorem dB{v:Value}{u:V}(h:VR E v u)(n:Nat)(b:n∈bx1 u):E.live n=true:=by
 cases h <;> simp [bx1] at b <;> subst b <;> assumption
theorem pN{v:Value}{u:V}(h:VR E v u)(n:Nat)(b:n∈bx2 u):E.live n=true:=by
 cases u with
 |fn f vs=>
  cases h with
  |fn _ cs _ g e=>
   obtain ⟨c,j,b⟩:=List.mem_flatMap.1 b;obtain ⟨i,hi⟩:=List.mem_iff_getElem?.1 j;have d:i<cs.size:=by rw [g];exact (gsZ hi).1
   exact dB (e i _ c (Array.getElem?_eq_getElem d) hi) n b
 |ptr k off=>exact dB h n b
 |view k off len size=>exact dB h n b
 |mp k=>exact dB h n b
 |_=>cases b
theorem mh{v:Value}{u:V}(h:VR E v u)(n:Nat)(b:n∈bxs u):E.live n=true:=by
 cases u with
 |fn f vs=>
  cases h with
  |fn _ cs _ g e=>
   obtain ⟨c,j,b⟩:=List.mem_flatMap.1 b;obtain ⟨i,hi⟩:=List.mem_iff_getElem?.1 j;have d:i<cs.size:=by rw [g];exact (gsZ hi).1
   exact pN (e i _ c (Array.getElem?_eq_getElem d) hi) n b
 |ptr k off=>exact dB h n b
 |view k off len size=>exact dB h n b
 |mp k=>exact dB h n b
 |_=>cases b
end
section
variable [Glb]{P:Program}{X:List FuncId}{N:Nat}{w0:World}{S0:aa}{o:Oper}{a:Act}{E:Env}{st:St}
theorem SR.sq{t:Array Value}(h:SR N w0 S0 E st t)(j:DI):jV j st:=fun e n d=>by
 have b: ∀(x:O),n∈bxs (ev st.sl x)->(st.bx n).isSome=true:=fun x g=>by
  obtain ⟨m,_,i⟩:=kr g;rw [<- h.live];exact mh (h.sl m) n i
 have c: ∀(xs:List O),n∈(xs.map (ev st.sl)).flatMap bx2->(st.bx n).isSome=true:=fun xs g=>by
  obtain ⟨m,_,i⟩:=jr g;rw [<- h.live];exact mh (h.sl m) n i
 unfold DOp.tch at d;split at d
 ·exact b _ (iy (iw d))
 ·exact b _ (iy (iw d))
 ·exact b _ (iy (iw d))
 ·exact b _ (iy (iw d))
 ·exact b _ (iy (iw d))
 ·exact b _ (iy (iw d))
 ·exact b _ (iy (iw d))
 ·exact c _ d
 ·exact c _ d
 ·rename_i f;rw [f] at e;exact absurd rfl e
 ·rcases List.mem_append.1 d with d|d
  ·exact b _ d
  ·exact c _ d
 ·cases d
end
end Go.DL
end
section
namespace Go.DL
open Go.RowKit
section
variable [Glb]{P:Program}{X:List FuncId}{N:Nat}{w0:World}{S0:aa}{a:Act}{E:Env}{st:St}
def aft(is:List DI)(k:Nat):List Nat:=(is[k]?.getD default).after
end
section
variable {P:Program}{X:List FuncId}{N:Nat}{w0:World}{S0:aa}{a:Act}{E:Env}{st:St}
theorem eX{m k:Nat}:has m k=true↔m.testBit k=true:=by
 unfold has Nat.testBit;have h:Nat.land (Nat.shiftRight m k) 1=1 &&& (m >>> k):=Nat.and_comm _ _;rw [h];have b:(1 &&& (m >>> k))=(m >>> k) % 2:=by rw [Nat.and_comm];exact Nat.and_one_is_mod _
 rw [b];rcases Nat.mod_two_eq_zero_or_one (m >>> k) with e|e <;> rw [e] <;> simp
theorem mC{acc:List Nat}: ∀{l:List Nat} {i:Nat},has (gB acc l) i=true->i∈l\/ ∃k∈l,has (acc[k]?.getD 0) i=true
 |[],i,h=>by
  rw [eX] at h;simp [gB] at h
 |k::ks,i,h=>by
  rw [eX] at h;have e:gB acc (k::ks)=((1 <<< k) ||| (acc[k]?.getD 0)) ||| gB acc ks:=rfl
  rw [e,Nat.testBit_or,Nat.testBit_or,Bool.or_eq_true,Bool.or_eq_true] at h;rcases h with (h|h)|h
  ·left;rw [Nat.testBit_shiftLeft] at h;simp only [Bool.and_eq_true,decide_eq_true_eq] at h
   have:i - k=0:=by
    rcases Nat.eq_zero_or_pos (i - k) with b|b
    ·exact b
    ·exfalso
     have:=h.2
     rw [Nat.testBit_lt_two_pow (x:=1) (by exact Nat.one_lt_two_pow (by omega))] at this;cases this
   have:i=k:=by omega
   simp [this]
  ·exact .inr ⟨k,by simp,eX.2 h⟩
  ·rcases mC (eX.2 h) with h|⟨d,c,f⟩
   ·exact .inl (List.mem_cons_of_mem _ h)
   ·exact .inr ⟨d,List.mem_cons_of_mem _ c,f⟩
theorem jg{L:Nat->Prop}{is0:List DI}(b: ∀k,L k-> ∀e∈aft is0 k,L e): ∀(is:List DI) (acc:List Nat),(∀ k,is0[acc.length+k]? =is[k]?)->
  (∀ k,(∀ e∈aft is0 k,L e)-> ∀i,has (acc[k]?.getD 0) i=true->L i)-> ∀k,(∀ e∈aft is0 k,L e)-> ∀i,has ((cS acc is)[k]?.getD 0) i=true->L i
 |[],acc,_,jH=>jH
 |d::is,acc,his,jH=>by
  unfold cS;refine jg b is _ (fun k=>?_) (fun k c i hi=>?_)
  ·have:=his (k+1)
   simp only [List.length_append,List.length_cons,List.length_nil];rw [show acc.length+(0+1)+k=acc.length+(k+1) by omega,this];simp
  ·rcases Nat.lt_trichotomy k acc.length with h|h|h
   ·rw [List.getElem?_append_left h] at hi;exact jH k c i hi
   ·subst h;have hd:is0[acc.length]? =some d:=by simpa using his 0
    have j:aft is0 acc.length=d.after:=by unfold aft;rw [hd];rfl
    rw [List.getElem?_append_right (Nat.le_refl _)] at hi;simp only [Nat.sub_self,List.getElem?_cons_zero,Option.getD_some] at hi;rw [j] at c;rcases mC hi with hi|⟨g,f,hi⟩
    ·exact c i hi
    ·exact jH g (b g (c g f)) i hi
   ·rw [List.getElem?_eq_none (by simp;omega)] at hi;rw [eX] at hi;simp at hi
theorem kC{m:Nat}{j:DI}: ∀{c k:Nat} {is:List DI},fF m j k c is=true-> ∀x i,x<c->is[x]? =some i->has m (k+x)=true\/i.indep j=true
 |0,_,_,_,x,_,hx,_=>absurd hx (by omega)
 |c+1,k,[],_,x,i,_,hi=>by simp at hi
 |c+1,k,i0::is,h,x,i,hx,hi=>by
  unfold fF at h;simp only [cond_eq_ite,Bool.if_true_left,Bool.decide_eq_true,Bool.or_eq_true] at h;cases x with
  |zero=>
   simp at hi;subst hi
   revert h
   cases has m k <;> cases i0.indep j <;> simp_all
  |succ x=>
   have b:fF m j (k+1) c is=true:=by
    revert h
    cases has m k <;> cases i0.indep j <;> simp_all
   have:=kC b x i (by omega) (by simpa using hi)
   rwa [show k+1+x=k+(x+1) by omega] at this
theorem kz{is:List DI}: ∀{rest:List DI} {n:Nat} {ms:List Nat},jc is n rest ms=true-> ∀x j,rest[x]? =some j->(∀ e∈j.after,e<n+x)/\fF (ms[x]?.getD 0) j 0 (n+x) is=true
 |[],n,ms,_,x,j,hj=>by simp at hj
 |j0::rest,n,[],h,x,j,hj=>by simp [jc] at h
 |j0::rest,n,m::ms,h,x,j,hj=>by
  unfold jc at h;have b:(j0.after.all fun i=>Nat.blt i n)=true/\fF m j0 0 n is=true/\jc is (n+1) rest ms=true:=by
   revert h
   cases (j0.after.all fun i=>Nat.blt i n) <;> cases fF m j0 0 n is <;> simp
  cases x with
  |zero=>
   simp at hj;subst hj;refine ⟨fun e c=>?_,b.2.1⟩;exact nlZ (List.all_eq_true.1 b.1 e c)
  |succ x=>
   have:=kz b.2.2 x j (by simpa using hj)
   rw [show n+1+x=n+(x+1) by omega] at this;simpa using this
theorem jh{is:List DI}(h:iD is=true){j:Nat}(f:j<is.length):(∀ e∈aft is j,e<j)/\ ∀i,i<j->has ((cS [] is)[j]?.getD 0) i=true\/(is[i]?.getD default).indep (is[j]?.getD default)=true:=by
 have d:=kz h j _ (ggZ f);rw [Nat.zero_add] at d;refine ⟨fun e c=>?_,fun i hi=>?_⟩
 ·unfold aft at c;rw [ggZ f] at c;exact d.1 e c
 ·have b:i<is.length:=by omega
  have:=kC d.2 i _ hi (ggZ b)
  rw [Nat.zero_add] at this;rw [ggZ f,ggZ b];exact this
theorem j9{m:Nat}{j:DI}: ∀{c k:Nat} {is:List DI} (x:Nat) (i:DI),x<c->is[x]? =some i->has m (k+x)=false->aW i.op.cls j.op.cls=some true->k+x∈iW m j k c is
 |0,_,_,x,_,hx,_,_,_=>absurd hx (by omega)
 |c+1,k,[],x,i,_,hi,_,_=>by simp at hi
 |c+1,k,i0::is,x,i,hx,hi,hn,hc=>by
  unfold iW;cases x with
  |zero=>
   simp at hi;subst hi;rw [Nat.add_zero] at hn;rw [hn,hc];simp [isTrue]
  |succ x=>
   have h:=j9 (m:=m) (j:=j) (c:=c) (k:=k+1) (is:=is) x i (by omega) (by simpa using hi) (by rwa [show k+1+x=k+(x+1) by omega]) hc;rw [show k+1+x=k+(x+1) by omega] at h;cases (bif has m k then false else isTrue (aW i0.op.cls j.op.cls)) with
   |true=>exact List.mem_cons_of_mem _ h
   |false=>exact h
theorem j7{is:List DI}: ∀{rest:List DI} {n:Nat} {ms:List Nat},rest.length<=ms.length-> ∀x j,rest[x]? =some j->(lR is n rest ms)[x]?.getD []=iW (ms[x]?.getD 0) j 0 (n+x) is
 |[],n,ms,_,x,j,hj=>by simp at hj
 |j0::rest,n,[],h,x,j,hj=>by simp at h
 |j0::rest,n,m::ms,h,x,j,hj=>by
  unfold lR;cases x with
  |zero=>simp at hj;subst hj;simp
  |succ x=>
   have:=j7 (is:=is) (rest:=rest) (n:=n+1) (ms:=ms) (by simpa using h) x j (by simpa using hj)
   rw [show n+1+x=n+(x+1) by omega] at this;simpa using this
theorem kh: ∀(is:List DI) (acc:List Nat),(cS acc is).length=acc.length+is.length
 |[],acc=>by simp [cS]
 |i::is,acc=>by unfold cS;rw [kh is];simp;omega
end
section
variable [Glb]{P:Program}{X:List FuncId}{N:Nat}{w0:World}{S0:aa}{a:Act}{E:Env}{st:St}
def fH(is:List DI)(ks:List Nat):List (Nat×DI):=ks.map fun k=>(k,is[k]?.getD default)
def pH(is:List DI)(b:List (List Nat)):Prop:= ∀j,j<is.length-> ∀i,i<j->has ((cS [] is)[j]?.getD 0) i=false->aW (is[i]?.getD default).op.cls (is[j]?.getD default).op.cls=some true->i∈b[j]?.getD []
end
section
variable {P:Program}{X:List FuncId}{N:Nat}{w0:World}{S0:aa}{a:Act}{E:Env}{st:St}
theorem j8(is:List DI):pH is (eV is):=fun j d i hi e c=>by
 unfold eV;have b:i<is.length:=by omega
 rw [j7 (by rw [kh];simp) j _ (ggZ d),Nat.zero_add];rw [ggZ d,ggZ b] at c
 have:=j9 (k:=0) (is:=is) i _ hi (ggZ b) (by rwa [Nat.zero_add]) c
 rwa [Nat.zero_add] at this
theorem nM(is:List DI):pH is (eJ is):=by
 unfold eJ;cases h:(eV is).all (·.isEmpty) with
 |false=>exact j8 is
 |true=>
  intro j f i hi e d;exfalso
  have:=j8 is j f i hi e d
  rw [List.all_eq_true] at h;cases b:(eV is)[j]? with
  |none=>rw [b] at this;simp at this
  |some l=>
   rw [b,Option.getD_some] at this
   have:=h l (List.mem_of_getElem? b)
   cases l with
   |nil=>rename_i c;cases c
   |cons a r=>cases this
theorem iO{is:List DI}: ∀(l:List DI) (k:Nat),(∀ m,is[k+m]? =l[m]?)->eK k l=(List.range' k l.length).map fun k=>(k,is[k]?.getD default)
 |[],k,_=>rfl
 |i::l,k,h=>by
  have b:is[k]? =some i:=by simpa using h 0
  show (k,i)::eK (k+1) l=_
  rw [iO l (k+1) fun m=>by have:=h (m+1);simp at this;rw [<- this];congr 1;omega];rw [List.length_cons,List.range'_succ,List.map_cons,b];rfl
end
section
variable [Glb]{P:Program}{X:List FuncId}{N:Nat}{w0:World}{S0:aa}{a:Act}{E:Env}{st:St}
theorem nq{ck:List (List Nat)}{c:Array Oper}{is:List DI}(hl:dw P N X c c.toList=some is)(W:iD is=true)(hck:pH is ck){Q:Exit->Act->World->Prop}{K:St->Prop}{ds:List Deferred}(hQ: ∀a w,bW N w0 S0 ds K a w->Q .normal a w):
  ∀(l:Nat) (b:Array Bool) (d:List Nat) {a:Act} {E:Env} {st:St} (_:SR N w0 S0 E st a.tmps) (_:a.defers=ds) (_:b.size=c.size) (_:d=(List.range c.size).filter (fun k=> !b.getD k true)) (_:d.length=l)
   (_: ∀k,b.getD k false=true-> ∀e∈aft is k,b.getD e false=true) (_:bO P ck (fun _=>[]) (fH is d) st K),wpAny P .any c Q l b a E.w:=by
 have hlen:c.size=is.length:=by simpa using (bu hl).1
 have O: ∀(b:Array Bool) (j:Nat),j∈Region.ready .any c b->j<c.size/\b.getD j true=false/\ ∀e∈aft is j,b.getD e false=true:=fun b j hj=>by
  obtain ⟨Y,o,C,J⟩:=mem_ready.1 hj;refine ⟨(Array.getElem?_eq_some_iff.1 C).1,Y,fun e n=>?_⟩;obtain ⟨i,hi,s⟩:=(bu hl).2 j o (Array.getElem?_toList.trans C);obtain ⟨_,_,_,ha,_⟩:=fi s;unfold aft at n;rw [hi,Option.getD_some,ha,List.mem_map] at n;obtain ⟨x,g,rfl⟩:=n;rw [List.mem_filter] at g;exact J x (by simpa using g.1) g.2
 have T: ∀(b:Array Bool) (j:Nat),j<c.size->b.getD j true=false->(∀ e∈aft is j,b.getD e false=true)->j∈Region.ready .any c b:=fun b j v Y J=>by
  have C:c[j]? =some c[j]:=Array.getElem?_eq_getElem v;refine mem_ready.2 ⟨Y,_,C,fun e n hb=>?_⟩;obtain ⟨i,hi,s⟩:=(bu hl).2 j _ (Array.getElem?_toList.trans C);obtain ⟨_,_,_,ha,_⟩:=fi s;refine J _ ?_;unfold aft;rw [hi,Option.getD_some,ha,List.mem_map];exact ⟨e,List.mem_filter.2 ⟨by simpa using n,hb⟩,rfl⟩
 have u: ∀(b:Array Bool) (j:Nat),j∈(List.range c.size).filter (fun k=> !b.getD k true)↔j<c.size/\b.getD j true=false:=fun b j=>by
  rw [List.mem_filter,List.mem_range];simp
 have D: ∀(b:Array Bool) (j:Nat),j<b.size->(b.getD j true=b.getD j false):=fun b j h=>by simp [h]
 intro l
 induction l with
 |zero=>
  intro b d a E st h hd R z q G F;have h0:d=[]:=List.eq_nil_of_length_eq_zero q;refine ⟨?_,?_⟩
  ·cases hr:Region.ready .any c b with
   |nil=>rfl
   |cons x xs=>
    have g:=O b x (by rw [hr];simp)
    have:x∈d:=by rw [z];exact (u b x).2 ⟨g.1,g.2.1⟩
    rw [h0] at this;cases this
  ·rw [h0] at F;exact hQ a E.w ⟨E,st,rfl,h,hd,F⟩
 |succ l ih=>
  intro b d a E st h hd R z q G F;refine ⟨fun hr=>?_,fun j hj=>?_⟩
  ·exfalso;cases hm:d with
   |nil=>rw [hm] at q;cases q
   |cons k rest=>
    have M:k<c.size/\b.getD k true=false:=(u b k).1 (by rw [<- z,hm];simp);have I:d.Pairwise (· < ·):=by rw [z];exact List.Pairwise.filter _ List.pairwise_lt_range
    have:k∈Region.ready .any c b:=by
     refine T b k M.1 M.2 fun e n=>?_
     have v:=(jh W (by omega)).1 e n;cases hle:b.getD e false with
     |true=>rfl
     |false=>
      exfalso;have B:e∈d:=by rw [z];exact (u b e).2 ⟨by omega,by rw [D _ _ (by omega)];exact hle⟩
      rw [hm] at B I;rcases List.mem_cons.1 B with rfl|B
      ·omega
      ·have:=(List.pairwise_cons.1 I).1 e B;omega
    rw [hr] at this;cases this
  ·obtain ⟨S,hj2,U⟩:=O b j hj;have hjr:j∈d:=by rw [z];exact (u b j).2 ⟨S,hj2⟩
   obtain ⟨f,t,m⟩:=List.append_of_mem hjr;have I:d.Pairwise (· < ·):=by rw [z];exact List.Pairwise.filter _ List.pairwise_lt_range
   have C:c[j]? =some c[j]:=Array.getElem?_eq_getElem S;obtain ⟨i,hi,s⟩:=(bu hl).2 j _ (Array.getElem?_toList.trans C);have A: ∀p∈f,p<j/\b.getD p true=false:=fun p y=>by
    rw [m] at I;exact ⟨(List.pairwise_append.1 I).2.2 p y j (by simp),((u b p).1 (by rw [<- z,m];simp [y])).2⟩
   have r8: ∀p∈f,has ((cS [] is)[j]?.getD 0) p=false:=fun p y=>by
    refine Bool.eq_false_iff.2 fun ov=>?_
    have:=jg (L:=fun k=>b.getD k false=true) (is0:=is) G is [] (by simp) (fun k _ i hi=>by rw [eX] at hi;simp at hi) j U p ov
    have J:=(A p y).2;rw [D _ _ (by have:=(A p y).1;omega)] at J;rw [J] at this;cases this
   have ql: ∀x∈fH is f,x.2.indep i=true/\(aW x.2.op.cls i.op.cls=some true->x.1∈ck[j]?.getD []):=fun x g=>by
    obtain ⟨p,y,rfl⟩:=List.mem_map.1 g;have v:=(A p y).1;refine ⟨?_,fun hc=>?_⟩
    ·rcases (jh W (by omega)).2 p v with ov|r7
     ·rw [r8 p y] at ov;cases ov
     ·rw [hi,Option.getD_some] at r7;exact r7
    ·refine hck j (by omega) p v (r8 p y) ?_;rw [hi,Option.getD_some];exact hc
   have oQ:d.Nodup:=I.imp (fun h=>Nat.ne_of_lt h);have tK:f.Nodup:=by rw [m] at oQ;exact (List.nodup_append.1 oQ).1
   have tI:(fH is f).map (·.1)=f:=by unfold fH;rw [List.map_map];exact List.map_id' _
   have hw1:wpI P i st fun Z=>bO P ck (fun _=>[]) (fH is f++fH is t) Z K:=by
    refine fW ql (by rw [tI];exact tK) (fun x g=>?_) (fun _ _=>rfl) rfl (h.sq i) ?_
    ·obtain ⟨p,y,rfl⟩:=List.mem_map.1 g;exact Nat.ne_of_lt (A p y).1
    ·rw [m] at F;unfold fH at F ⊢;rw [List.map_append,List.map_cons,hi] at F;exact F
   refine wpOp_mono ?_ (pF h C s hw1 (Q:=Q));rintro a' w' ⟨Z,V,E',rfl,hsr,hdf⟩;refine ih _ (f++t) hsr (hdf.trans hd) (by simp [R]) ?_ ?_ (fun k M e n=>?_) ?_
   ·have H:d.Nodup:=I.imp (fun h=>Nat.ne_of_lt h);have Y:(List.range c.size).filter (fun k=> !(b.setIfInBounds j true).getD k true)=d.filter (fun k=>decide (k≠j)):=by
     rw [z,List.filter_filter];refine List.filter_congr fun k M=>?_
     by_cases r:j=k
     ·subst r
      have:j<b.size:=by omega
      simp [this]
     ·rw [getD_set_ne _ r]
      have:(k≠j):=fun e=>r e.symm
      simp [this]
    rw [Y,m,List.filter_append,List.filter_cons];rw [m] at H;have hn1: ∀x∈f,x≠j:=fun x g n=>(List.nodup_append.1 H).2.2 x g j (by simp) n
    have hn2: ∀x∈t,x≠j:=fun x g n=>(List.nodup_cons.1 (List.nodup_append.1 H).2.1).1 (n▸g)
    rw [List.filter_eq_self.2 (fun x g=>by simpa using hn1 x g),List.filter_eq_self.2 (fun x g=>by simpa using hn2 x g)];simp
   ·rw [m] at q;simp at q ⊢;omega
   ·by_cases r:j=k
    ·subst r;exact getD_set_true (U e n)
    ·rw [getD_set_ne _ r] at M;exact getD_set_true (G k M e n)
   ·unfold fH at V ⊢;rw [List.map_append];exact V
theorem mW(l:P.follows .mixedOrders=true)(h:SR N w0 S0 E st a.tmps){b:Array Oper}{is:List DI}(g:dw P N X b b.toList=some is)(f:iD is=true){Q:Exit->Act->World->Prop}{K:St->Prop}
  (j: ∀i w,bW N w0 S0 a.defers K i w->Q .normal i w) (e:bO P (eJ is) (fun _=>[]) (eK 0 is) st K) {n:Nat}:(Code.region n b true).wp P Q a E.w:=by
 refine wp_region_any l (nq (E:={E with w:=E.w.drew }) g f (nM is) j _ _ _ h.drew rfl (by simp) rfl ?_ ?_ ?_)
 ·rw [List.filter_eq_self.2]
  ·simp
  ·intro k c;rw [List.mem_range] at c;simp [c]
 ·intro k c;exfalso
  by_cases d:k<b.size
  ·simp [d] at c
  ·simp [d] at c
 ·rw [List.filter_eq_self.2]
  ·have:b.size=is.length:=by simpa using (bu g).1
   rw [this];rw [iO (is:=is) is 0 (fun m=>by simp)] at e;rw [<- List.range_eq_range'] at e;exact e
  ·intro k c;rw [List.mem_range] at c;simp [c]
end
end Go.DL
end
section
namespace Go.DL
open Go.RowKit
section
variable [Glb]{P:Program}{X:List FuncId}{N:Nat}{w0:World}{S0:aa}{a:Act}{E:Env}{st:St}
end
section
variable {P:Program}{X:List FuncId}{N:Nat}{w0:World}{S0:aa}{a:Act}{E:Env}{st:St}
theorem iM{α:Type}{d:α}: ∀{l:List (Nat×α)} {n:Nat},lk d l n=d\/(n,lk d l n)∈l
 |[],n=>.inl rfl
 |(k,v)::r,n=>by
  unfold lk
  by_cases h:n=k
  ·subst h;rw [cD];exact .inr (by simp)
  ·rw [iu h];rcases iM (d:=d) (l:=r) (n:=n) with h|h
   ·exact .inl h
   ·exact .inr (List.mem_cons_of_mem _ h)
theorem jL{ks:List Nat}{bx:Nat->Option BX}: ∀{l:List (Nat×V)} {c:Nat->V},mP ks bx l c-> ∀p∈l,LeV ks bx p.2 (c p.1)
 |[],_,_,p,b=>by simp at b
 |(n,v)::r,c,h,p,b=>by
  rcases List.mem_cons.1 b with rfl|b
  ·exact h.1
  ·exact jL h.2 p b
theorem mO{ks:List Nat}{bx:Nat->Option BX}: ∀{l:List (Nat×List (Nat×V))} {c:Nat->Nat->V},qo ks bx l c-> ∀p∈l,mP ks bx p.2 (c p.1)
 |[],_,_,p,b=>by simp at b
 |(n,v)::r,sl,h,p,b=>by
  rcases List.mem_cons.1 b with rfl|b
  ·exact h.1
  ·exact mO h.2 p b
theorem mN{ks:List Nat}{bx:Nat->Option BX}: ∀{l:List (Nat×BX)},qn ks bx l-> ∀p∈l,LeB ks bx p.2 (bx p.1)
 |[],_,p,b=>by simp at b
 |(n,v)::r,h,p,b=>by
  rcases List.mem_cons.1 b with rfl|b
  ·exact h.1
  ·exact mN h.2 p b
theorem hU{ks:List Nat}: ∀{vs:List V},gZ.go ks vs=true-> ∀v∈vs,gZ ks v=true
 |[],_,v,b=>by simp at b
 |u::us,h,v,b=>by
  simp only [gZ.go,Bool.and_eq_true] at h;rcases List.mem_cons.1 b with rfl|b
  ·exact h.1
  ·exact hU h.2 v b
end
section
variable [Glb]{P:Program}{X:List FuncId}{N:Nat}{w0:World}{S0:aa}{a:Act}{E:Env}{st:St}
def Env.cR(E:Env)(live:Nat->Bool):Env:={E with live:=live,S:=fun b o=>E.S b o\/ ∃n,E.live n=true/\live n=false/\b=E.κ n }
end
section
variable {P:Program}{X:List FuncId}{N:Nat}{w0:World}{S0:aa}{a:Act}{E:Env}{st:St}
theorem VR.live{v:Value}{u:V}(h:VR E v u): ∀{ks:List Nat} {live:Nat->Bool},(∀ n,ks.contains n=true->live n=true)->(∀ r g,E.ρ r=some g-> ∀n,E.live n=true->E.κ n≠g)->gZ ks u=true->VR (E.cR live) v u:=by
 have up: ∀{live:Nat->Bool} {v:Value} {t:T},Rep E.S E.w v t->Rep (E.cR live).S (E.cR live).w v t:=fun h=>h.mono (fun b o h=>.inl h) (fun _ _ _=>aC.rfl)
 induction h with
 |top v=>intro _ _ _ _ _;exact .top v
 |t v x h=>intro _ _ _ _ _;exact .t v x (up h)
 |ptr n off _=>intro ks live c _ hi;exact VR.ptr (E:=E.cR live) n off (c n hi)
 |view n off len size cap _ D=>intro ks live c _ hi;exact VR.view (E:=E.cR live) n off len size cap (c n hi) D
 |own v r e size xs h=>
  intro _ live _ k _;obtain ⟨cells,m,z,B⟩:=h.ex;refine .own v r e size xs ⟨⟨cells,m,z,fun i x t j y=>up (B i x t j y)⟩,h.uni,h.one,fun g q=>⟨(h.row g q).1,fun o=>⟨?_,fun C=>.inl (((h.row g q).2 o).2 C)⟩⟩⟩;rintro (l|⟨n,A,_,s⟩)
  ·exact ((h.row g q).2 o).1 l
  ·exact absurd s.symm (k r g (h.row g q).1 n A)
 |full a len size xs h=>intro _ _ _ _ _;exact .full a len size xs (up h)
 |fn f cs vs l _ p=>intro ks live c k hi;exact .fn f cs vs l fun i x u j d=>p i x u j d c k (hU hi u (List.mem_of_getElem? d))
 |raw v m=>intro _ _ _ _ _;exact .raw v m
 |mp n _=>intro ks live c _ hi;exact VR.mp (E:=E.cR live) n (c n hi)
 |tup cs vs l _ p=>intro ks live c k hi;exact .tup cs vs l fun i x u j d=>p i x u j d c k (hU hi u (List.mem_of_getElem? d))
 |agv cs vs l m _ p=>intro ks live c k hi;exact .agv cs vs l m fun i x u j d=>p i x u j d c k (hU hi u (List.mem_of_getElem? d))
theorem fS{ks:List Nat}{bx:Nat->Option BX}: ∀{us vs:List V},jb ks bx us vs->us.length=vs.length/\ ∀(i:Nat) (u v:V),us[i]? =some u->vs[i]? =some v->LeV ks bx u v
 |[],[],_=>⟨rfl,fun i u v e=>by simp at e⟩
 |u::us,v::vs,h=>by
  obtain ⟨d,f⟩:=fS h.2;refine ⟨by simp [d],fun i x y b c=>?_⟩;cases i with
  |zero=>simp at b c;subst b;subst c;exact h.1
  |succ i=>simp at b c;exact f i x y b c
 |[],_::_,h=>h.elim
 |_::_,[],h=>h.elim
theorem jA{cs:Array Value}{A B:List V}{v:V}(r:cs.size=(A++v::B).length)(h: ∀(i:Nat) (x:Value) (u:V),cs[i]? =some x->(A++v::B)[i]? =some u->VR E x u):
  ∃(c d:Array Value) (p:Value),cs=c++ #[p]++d/\VR E p v/\c.size=A.length/\d.size=B.length/\(∀ (i:Nat) (x:Value) (u:V),c[i]? =some x->A[i]? =some u->VR E x u)/\(∀ (i:Nat) (x:Value) (u:V),d[i]? =some x->B[i]? =some u->VR E x u):=by
 have b:cs.toList.length=A.length+(1+B.length):=by simp at r ⊢;omega
 obtain ⟨f,l,e,n⟩: ∃f l,cs.toList=f++l/\f.length=A.length:=⟨cs.toList.take A.length,cs.toList.drop A.length,(List.take_append_drop _ _).symm,by simp;simp at b;omega⟩
 match l,e with
 |[],e=>rw [e] at b;simp at b;omega
 |p::l3,e=>
  have j:cs=f.toArray++ #[p]++l3.toArray:=Array.toList_inj.1 (by rw [e];simp);have q:l3.length=B.length:=by rw [e] at b;simp at b;omega
  have get: ∀i,cs[i]? =(f++p::l3)[i]? :=fun i=>by rw [<- Array.getElem?_toList,e]
  refine ⟨f.toArray,l3.toArray,p,j,?_,by simpa using n,by simpa using q,fun i x u k g=>?_,fun i x u k g=>?_⟩
  ·exact h A.length p v (by rw [get, <-n];simp) (by simp)
  ·have m:i<A.length:=(gsZ g).1;exact h i x u (by rw [get,List.getElem?_append_left (by omega)];simpa using k) (by rw [List.getElem?_append_left m];exact g)
  ·exact h (A.length+(i+1)) x u (by
    rw [get,List.getElem?_append_right (by omega)];rw [show A.length+(i+1) - f.length=i+1 by omega];simpa using k) (by
    rw [List.getElem?_append_right (by omega)];rw [show A.length+(i+1) - A.length=i+1 by omega];simpa using g)
end
section
variable [Glb]{P:Program}{X:List FuncId}{N:Nat}{w0:World}{S0:aa}{a:Act}{E:Env}{st:St}
theorem SR.bU(h:SR N w0 S0 E st a.tmps){s:Wk}(hw:bU s st): ∃E':Env,E'.w=E.w/\SR N w0 S0 E' s.mk' a.tmps:=by
 obtain ⟨h1,h2,h4,_,hcx,h3⟩:=hw;have m1:=jL h1;have m2:=mN h2;have m3:=mO h4;unfold Wk.closed at h3;simp only [Bool.and_eq_true,List.all_eq_true] at h3;obtain ⟨⟨c1,c2⟩,c3⟩:=h3;have inb: ∀n b,s.mk'.bx n=some b->(n,b)∈s.bx:=fun n b K=>by
  have H:lk none (s.bx.map fun p=>(p.1,some p.2)) n=some b:=K;rcases iM (d:=none) (l:=s.bx.map fun p=>(p.1,some p.2)) (n:=n) with q|q
  ·rw [q] at H;cases H
  ·rw [H,List.mem_map] at q;obtain ⟨p,hp,J⟩:=q;cases J;exact hp
 have isB: ∀n,s.keys.contains n=true->(s.mk'.bx n).isSome=true:=fun n z=>by
  show (lk none (s.bx.map fun p=>(p.1,some p.2)) n).isSome=true
  unfold Wk.keys at z
  revert z
  generalize s.bx=l
  induction l with
  |nil=>intro z;simp at z
  |cons p l ih=>
   intro z;simp only [List.map_cons];unfold lk
   by_cases hk:n=p.1
   ·rw [hk,cD];rfl
   ·rw [iu hk];refine ih ?_;simp only [List.map_cons,List.contains_cons,Bool.or_eq_true,beq_iff_eq] at z;exact z.resolve_left hk
 have old: ∀n b,s.mk'.bx n=some b-> ∃b0,st.bx n=some b0/\LeB s.keys st.bx b (some b0)/\mL s.keys b=true:=fun n b K=>by
  have D:=inb n b K;have C:=m2 _ D;have G:=c2 _ D;simp only at C;cases hb0:st.bx n with
  |none=>rw [hb0] at C;cases C
  |some b0=>rw [hb0] at C;exact ⟨b0,rfl,C,G⟩
 have lv: ∀n,(s.mk'.bx n).isSome=true->E.live n=true:=fun n z=>by
  obtain ⟨b,K⟩:=Option.isSome_iff_exists.1 z;obtain ⟨b0,h0,_⟩:=old n b K;rw [h.live,h0];rfl
 have M: ∀n, ¬n∈s.keys->(s.mk'.bx n).isSome=false:=fun n z=>by
  cases K:s.mk'.bx n with
  |none=>rfl
  |some b=>exact absurd (List.mem_map.2 ⟨_,inb n b K,rfl⟩) z
 have klt: ∀n,E.live n=true->E.κ n<E.w.heap.size:=fun n Z=>by
  rw [h.live] at Z;obtain ⟨b',H⟩:=Option.isSome_iff_exists.1 Z;obtain ⟨_,hg,_⟩:=(h.bx n b' H).at_;exact (Array.getElem?_eq_some_iff.1 hg).1
 have hrk: ∀r g,E.ρ r=some g-> ∀n,E.live n=true->E.κ n≠g:=fun r g hr=>(h.rows r g hr).2.2
 let F:Nat->Bool:=fun n=>(s.mk'.bx n).isSome
 have Y: ∀{v:Value} {u u':V},VR E v u->LeV s.keys st.bx u' u->gZ s.keys u'=true->VR (E.cR F) v u':=fun {v u u'} hv Z hi=>by
  have up: ∀{v:Value} {t:T},Rep E.S E.w v t->Rep (E.cR F).S (E.cR F).w v t:=fun h=>h.mono (fun b o h=>.inl h) (fun _ _ _=>aC.rfl)
  cases Z with
  |same=>exact hv.live isB hrk hi
  |nil r e n=>
   have:=hv.ax
   cases this;exact .own _ r e n [] (bQ.nil r e n)
  |data r e n xs=>
   cases hv with
   |own _ _ _ _ _ h=>exact .t _ _ (up h.rep)
  |empty n=>
   have:=hv.ax
   cases this;exact .t _ _ (.slice none 0 0 0 0 _ [] (fun _=>undef) rfl (Nat.le_refl _) (fun x y=>by simp at y) (fun t L=>by simp at L) (fun q=>by simp at q) (fun i hi=>by simp at hi) (fun i t L=>by simp at L))
  |conv _ x rd hc hk=>
   refine .t _ _ ((eM h.bx hv hc).mono ?_ (fun _ _ _=>aC.rfl));rintro b o (j|⟨n,z,I,rfl⟩)
   ·exact .inl j
   ·exact .inr ⟨n,I,M n (hk n z),rfl⟩
  |top=>exact .top _
  |knot n f A B xa ra xb rb K ha hbb hk=>
   obtain ⟨rfl,I⟩:=hv.bd;obtain ⟨cs,e,hg,hcr⟩:=(h.bx n _ K).cells rfl;obtain ⟨L1,M1⟩:=bI h.bx ha;obtain ⟨L2,M2⟩:=bI h.bx hbb;have sx: ∀{rd:List Nat},(∀ m∈rd,m∈n::(ra++rb))-> ∀b o,Sx E rd b o->(E.cR F).S b o:=fun {rd} dN b o j=>by
    rcases j with j|⟨m,D,hlm,rfl⟩
    ·exact .inl j
    ·exact .inr ⟨m,hlm,M m (hk m (dN m D)),rfl⟩
   cases hcr with
   |v _ j q=>
    have j:1<=cs.size:=j;have g0:cs[0]? =some cs[0]:=Array.getElem?_eq_getElem (by omega);have v0:=(q 0 _ _ g0 rfl).1;generalize hc0:cs[0]=z0 at v0 g0;cases v0 with
    |fn _ d1 _ hs1 hv1=>
     obtain ⟨p1,p2,p3,rfl,p4,p5,p6,p7,p8⟩:=jA hs1 hv1;have z1':=p4.bd.1;subst z1';refine .t _ _ (.knot (E.κ n) 0 f p1 p2 xa xb (by omega) (by omega) ⟨?_,.inr ⟨n,I,M n (hk n (by simp)),rfl⟩⟩ (fun i x t y L=>?_) fun i x t y L=>?_)
     ·show E.w.cell? _=_
      rw [cell_of_row _ _ _ _ _ _ hg];exact g0
     ·have hi:i<A.length:=by rw [L1];exact (gsZ L).1
      exact (M1 i x _ t (p7 i x _ y (ggZ hi)) (ggZ hi) L).mono (sx fun m D=>by simp [D]) (fun _ _ _=>aC.rfl)
     ·have hi:i<B.length:=by rw [L2];exact (gsZ L).1
      exact (M2 i x _ t (p8 i x _ y (ggZ hi)) (ggZ hi) L).mono (sx fun m D=>by simp [D]) (fun _ _ _=>aC.rfl)
 refine ⟨E.cR F,rfl,h.size,h.base,h.glob,fun m=>?_,fun k m=>?_,fun n b K=>?_,fun n=>rfl,fun n m z D J=>h.inj n m (lv n z) (lv m D) J,fun r g hr=>?_,h.rinj,fun b o j=>?_,h.below,fun b o j=>.inl (h.s0 b o j),fun b o j=>?_,h.obj,hcx _ _ h.cx⟩
 ·show VR _ _ (lk .top s.sl m)
  rcases iM (d:=V.top) (l:=s.sl) (n:=m) with q|q
  ·rw [q];exact .top _
  ·exact Y (h.sl m) (m1 _ q) (c1 _ q)
 ·show VR _ _ (lk .top (lk [] s.gh k) m)
  rcases iM (d:=([]:List (Nat×V))) (l:=s.gh) (n:=k) with q|q
  ·rw [q];exact .top _
  ·rcases iM (d:=V.top) (l:=lk [] s.gh k) (n:=m) with hg|hg
   ·rw [hg];exact .top _
   ·exact Y (h.gh k m) (jL (m3 _ q) _ hg) (c3 _ q _ hg)
 ·obtain ⟨b0,h0,C,G⟩:=old n b K;obtain ⟨g1,g2,ob,g3,gob⟩:=h.bx n b0 h0;have I:F n=true:=by show (s.mk'.bx n).isSome=true;rw [K];rfl
  refine ⟨g1,fun o j=>?_,ob,g3,?_⟩
  ·rcases j with j|⟨m,D,hmd,J⟩
   ·exact g2 o j
   ·have:=h.inj n m (lv n I) D J
    subst this;rw [I] at hmd;cases hmd
  ·cases gob with
   |map W O ag sh es mb D=>
    have base: ∀U,(U=mb\/U=none)->bP (E.cR F) (.map W O) (.m ag sh es U):=fun U hmb=>.map W O ag sh es U ⟨D.size,fun i x e y J=>⟨(D.at_ i x e y J).1.mono (fun b o h=>.inl h) (fun _ _ _=>aC.rfl),(D.at_ i x e y J).2.1.mono (fun b o h=>.inl h) (fun _ _ _=>aC.rfl),(D.at_ i x e y J).2.2⟩,D.lt,D.apart,fun p hp=>by
     rcases hmb with rfl|rfl
     ·exact D.mb p hp
     ·cases hp⟩
    cases C with
    |same=>exact base _ (.inl rfl)
    |m=>exact base _ (.inr rfl)
   |itd k W c ag sh es ix hgk hS hR=>
    cases C with
    |same=>exact bP.itd (E:=E.cR F) k W c ag sh es ix hgk (.inl hS) ⟨hR.size,fun i x e y J=>⟨(hR.at_ i x e y J).1.mono (fun b o h=>.inl h) (fun _ _ _=>aC.rfl),(hR.at_ i x e y J).2.1.mono (fun b o h=>.inl h) (fun _ _ _=>aC.rfl),(hR.at_ i x e y J).2.2⟩,hR.lt,hR.apart,hR.mb⟩
   |it m bs c ix Z=>
    cases C with
    |same=>exact bP.it (E:=E.cR F) m bs c ix (isB m G)
   |cells cs e _ g4=>
   refine .cells cs e _ ?_;cases C with
   |m ag sh es mb=>cases g4
   |same=>
    cases g4 with
    |d n ts Z j q=>exact .d n ts Z j fun i x t y L=>⟨(q i x t y L).1.mono (fun b o h=>.inl h) (fun _ _ _=>aC.rfl),(q i x t y L).2⟩
    |v vs j q=>
     simp only [mL,List.all_eq_true] at G;exact .v vs j fun i x u y R=>⟨(q i x u y R).1.live isB hrk (G u (List.mem_of_getElem? R)),(q i x u y R).2⟩
   |v us vs hc=>
    obtain ⟨k1,k2⟩:=fS hc;simp only [mL,List.all_eq_true] at G;cases g4 with
    |v _ j q=>
     refine .v us (by omega) fun i x u y R=>?_
     have Q:i<vs.length:=by rw [<- k1];exact (gsZ R).1
     have:=q i x vs[i] y (ggZ Q)
     exact ⟨Y this.1 (k2 i u _ R (ggZ Q)) (G u (List.mem_of_getElem? R)),this.2⟩
   |dv n us ts hc=>
    obtain ⟨k1,k2⟩:=fS hc;simp only [mL,List.all_eq_true] at G;cases g4 with
    |d _ _ Z j q=>
     rw [List.length_map] at k1;refine .v us (by omega) fun i x u y R=>?_
     have Q:i<ts.length:=by rw [<- k1];exact (gsZ R).1
     have:=q i x ts[i] y (ggZ Q)
     exact ⟨Y (.t _ _ this.1) (k2 i u _ R (by rw [List.getElem?_map,ggZ Q];rfl)) (G u (List.mem_of_getElem? R)),this.1.one this.2⟩
 ·obtain ⟨k1,k2,k3⟩:=h.rows r g hr;exact ⟨k1,k2,fun n z=>k3 n (lv n z)⟩
 ·rcases j with j|⟨n,z,_,rfl⟩
  ·exact h.lt b o j
  ·exact klt n z
 ·rcases j with j|⟨n,z,_,rfl⟩
  ·exact h.s1 b o j
  ·right;rw [h.live] at z;obtain ⟨b',H⟩:=Option.isSome_iff_exists.1 z
   have:=(h.bx n b' H).old
   rw [h.base] at this;exact this
theorem cd{K:St->Prop}: ∀{is:List DI} {st:St},cW P (is.map DI.bare) st K↔cW P is st K
 |[],_=>Iff.rfl
 |i::_,_=>⟨fun h=>cV (i:=i) (fun _=>cd.1) h,fun h=>cV (i:=i.bare) (fun _=>cd.2) h⟩
theorem eU{b:List (List Nat)}{K:St->Prop}: ∀{is:List DI} {k:Nat} {acc:Nat->List Nat} {st:St},bO P b acc (eK k (is.map DI.bare)) st K↔bO P b acc (eK k is) st K
 |[],_,_,_=>Iff.rfl
 |i::_,_,_,_=>⟨fun h=>⟨h.1,cV (i:=i) (fun _=>eU.1) h.2⟩,fun h=>⟨h.1,cV (i:=i.bare) (fun _=>eU.2) h.2⟩⟩
end
section
variable {P:Program}{X:List FuncId}{N:Nat}{w0:World}{S0:aa}{a:Act}{E:Env}{st:St}
theorem mj{a:Code}{d:aV}: ∃b,cutAt X a d=cond b (.cut d) d:=by
 cases a with
 |region c e f=>exact ⟨X.contains (5000000+c),rfl⟩
 |_=>exact ⟨false,rfl⟩
end
section
variable [Glb]{P:Program}{X:List FuncId}{N:Nat}{w0:World}{S0:aa}{a:Act}{E:Env}{st:St}
theorem bo.mono{N:Nat}{w0:World}{S0:aa}{ds:List Deferred}{Q f:aG->St->Prop}(j: ∀e s,Q e s->f e s): ∀{e:Exit} {b:Act} {w':World},bo N w0 S0 ds Q e b w'->bo N w0 S0 ds f e b w':=by
 have key: ∀(i:aG) (b:Act) (w':World),bW N w0 S0 ds (Q i) b w'->bW N w0 S0 ds (f i) b w':=by
  rintro i b w' ⟨m,g,rfl,d,c,k⟩;exact ⟨m,g,rfl,d,c,j _ _ k⟩
 intro e b w' h;cases e with
 |normal=>exact key .normal _ _ h
 |exit n=>exact key (.exit n) _ _ h
 |ret=>exact key .ret _ _ h
 |goto l=>exact h
 |panic p=>exact h
 |outgrown=>exact h
theorem bo.less{ds:List Deferred}{K:aG->St->Prop}: ∀{e:Exit} {c:Act} {w':World},bo N w0 S0 ds (jW K) e c w'->bo N w0 S0 ds K e c w':=by
 have key: ∀(m:aG) (c:Act) (w':World),bW N w0 S0 ds (jW K m) c w'->bW N w0 S0 ds (K m) c w':=by
  rintro m c w' ⟨p,k,rfl,f,d,i|⟨s',g,i⟩⟩
  ·exact ⟨p,k,rfl,f,d,i⟩
  ·obtain ⟨j,n,b⟩:=f.bU g;exact ⟨j,s'.mk',n,b,d,i⟩
 intro e c w' h;cases e with
 |normal=>exact key .normal _ _ h
 |exit q=>exact key (.exit q) _ _ h
 |ret=>exact key .ret _ _ h
 |goto l=>exact h
 |panic r=>exact h
 |outgrown=>exact h
theorem mr{c:Code}{b:Bool}{d:aV}{a:Act}{E:Env}{st:St}{K:aG->St->Prop}(_:SR N w0 S0 E st a.tmps)(f:wpC P (cond b (.cut d) d) st K)
  (g: ∀K,wpC P d st K->c.wp P (bo N w0 S0 a.defers K) a E.w):c.wp P (bo N w0 S0 a.defers K) a E.w:=by
 cases b with
 |false=>exact g K f
 |true=>
  have f:gJ (wpC P d) st K:=f;unfold gJ at f;obtain ⟨R,i,j⟩:=f;exact wp_mono (g R i) fun e k w' h=>bo.less (bo.mono j h)
theorem nr(hm:P.follows .mixedOrders=true): ∀{c:Code} {d:aV} (_:bt P N X c=some d) {a:Act} {E:Env} {st:St} {K:aG->St->Prop} (_:SR N w0 S0 E st a.tmps) (_:wpC P d st K),
  c.wp P (bo N w0 S0 a.defers K) a E.w:=by
 intro c
 induction c with
 |skip=>
  intro d f a E st K h g;cases f;exact wp_skip ⟨E,st,rfl,h,rfl,g⟩
 |ret=>
  intro d f a E st K h g;cases f;exact wp_ret ⟨E,st,rfl,h,rfl,g⟩
 |exit v=>
  intro d f a E st K h g;cases f;exact wp_exit ⟨E,st,rfl,h,rfl,g⟩
 |region v ops C=>
  intro d f a E st K h g;unfold bt at f;cases hX:X.contains (1000000+v) with
  |true=>
   rw [hX] at f;cases f;exact g w0 S0 E a h
  |false=>
  rw [hX] at f;simp only [cond_false] at f;split at f
  ·rename_i is S;rw [cond_eq_ite] at f;split at f
   ·rename_i hc;obtain rfl:=(Option.some.inj f).symm;refine mr h (c:=.region v ops C) g fun K g=>?_
    cases C with
    |false=>exact pj h S (fun B w j=>j) (cd.1 g)
    |true=>
     have g:wpC P (.region (is.map DI.bare) (eJ is)) st K:=g;have hw':bO P (eJ is) (fun _=>[]) (eK 0 is) st (K .normal):=by
      revert g
      cases eJ is with
      |nil=>
       intro g;refine jS ?_
       have: ∀(l:List DI) (k:Nat),(eK k l).map (·.2)=l:=fun l=>by
        induction l with
        |nil=>exact fun _=>rfl
        |cons i l L=>exact fun k=>congrArg (i:: ·) (L (k+1))
       rw [this];exact cd.1 g
      |cons p r=>exact fun g=>eU.1 g
     exact mW hm h S (by simpa using hc) (fun B w j=>j) hw'
   ·cases f
  ·cases f
 |seq x y F H=>
  intro d f a E st K h g;unfold bt at f;split at f
  ·rename_i dx dy hx hy;obtain rfl:=(Option.some.inj f).symm;obtain ⟨cb,hcb⟩:=mj (X:=X) (a:=x) (d:=.seq dx dy);rw [hcb] at g;refine mr h (c:=.seq x y) g fun K g=>?_
   refine wp_seq (wp_mono (F hx h g) ?_);intro e B w' j;cases e with
   |normal=>
    obtain ⟨u,q,rfl,A,D,Q⟩:=j;rw [<- D];exact H hy A Q
   |exit v=>exact j
   |ret=>exact j
   |goto l=>exact j
   |panic ch=>exact j
   |outgrown=>exact j
  ·cases f
 |cond c x y F H=>
  intro d f a E st K h g;unfold bt at f;split at f
  ·rename_i z dx dy hz hx hy;cases f;have V:=af h.sl hz;have g:kd z (wpC P dx) (wpC P dy) st K:=g;unfold kd at g;split at g
   ·rename_i J;rw [J] at V;exact wp_cond_true V.aP (F hx h g)
   ·rename_i J;rw [J] at V;exact wp_cond_false V.aP (H hy h g)
   ·exact g.elim
  ·cases f
 |block v b L=>
  intro d f a E st K h g;unfold bt at f;split at f
  ·rename_i db J;obtain rfl:=(Option.some.inj f).symm;refine mr h (c:=.block v b) g fun K g=>?_
   refine wp_block (wp_mono (L J h g) ?_);intro e B w' j;cases e with
   |normal=>exact j
   |exit k=>
    have j:bW N w0 S0 a.defers (fun q=>bif Nat.beq k v then K .normal q else K (.exit k) q) B w':=j;show if k=v then _ else _
    by_cases Q:k=v
    ·rw [if_pos Q];obtain ⟨u,q,e1,e2,e3,U⟩:=j;rw [Q,cD] at U;exact ⟨u,q,e1,e2,e3,U⟩
    ·rw [if_neg Q];obtain ⟨u,q,e1,e2,e3,U⟩:=j;rw [iu Q] at U;exact ⟨u,q,e1,e2,e3,U⟩
   |ret=>exact j
   |goto l=>exact j
   |panic ch=>exact j
   |outgrown=>exact j
  ·cases f
 |loop b L=>
  intro d f a E st K h g;unfold bt at f;split at f
  ·rename_i db J;cases f;have g:eE (wpC P db) st K:=g;unfold eE at g;obtain ⟨I,n0,s0,hs0,hi0,O⟩:=g;refine wp_loop_ghost (fun n B w'=>B.defers=a.defers/\ ∃(u:Env) (s:Wk),u.w=w'/\SR N w0 S0 u s.mk' B.tmps/\I n s) n0 ?_ ?_
   ·obtain ⟨u,T,A⟩:=h.bU hs0;exact ⟨rfl,u,s0,T,A,hi0⟩
   ·rintro n a1 w1 ⟨D,E1,s,rfl,A,hi⟩;obtain ⟨R,hR,jJ⟩:=O n s hi;refine wp_mono (L J A hR) ?_;intro e B w' j;have j:=bo.mono jJ j;rw [D] at j;cases e with
    |normal=>
     obtain ⟨u,q,rfl,Y,W,m,s',hlt,G,hi'⟩:=j;obtain ⟨M,T,t⟩:=Y.bU G;exact ⟨m,hlt,W,M,s',T,t,hi'⟩
    |exit v=>
     obtain ⟨u,q,rfl,Y,W,Z|⟨s',G,Z⟩⟩:=j
     ·exact ⟨u,q,rfl,Y,W,Z⟩
     ·obtain ⟨M,T,t⟩:=Y.bU G;exact ⟨M,s'.mk',T,t,W,Z⟩
    |ret=>exact j
    |goto l=>exact j
    |panic ch=>exact j
    |outgrown=>exact j
  ·cases f
 |label l=>
  intro d f a E st K h g;cases f;exact wp_label ⟨E,st,rfl,h,rfl,g⟩
 |scope b L=>
  intro d f a E st K h g;unfold bt at f;refine wp_scope_straight (wp_mono (L f h g) ?_);intro e B w' j;cases e with
  |normal=>exact j
  |exit v=>exact j
  |ret=>exact j
  |goto l=>exact j
  |panic ch=>exact j
  |outgrown=>exact j
 |_=>intro d f;cases f
end
end Go.DL
end
