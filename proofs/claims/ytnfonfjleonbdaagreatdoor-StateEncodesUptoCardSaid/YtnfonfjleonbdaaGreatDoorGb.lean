/- Joined by program: parts of a data level over the model, of the program's functions over it, and of the statement's proof. -/
import Derived.Test.YtnfonfjleonbdaaGreatDoorGa
import Derived.Lib.ConvBytes
import Derived.Laws.BytesArg
import Derived.Laws.CopyRow
import Derived.Laws.IdiomCopy
import Derived.Laws.MakeOwn
import Derived.Lib.AtoiErrMem
import Derived.Deep.AppendSrc
import Derived.Deep.Upon
import Derived.Laws.NewFold
import Derived.Scope
section
namespace Go.DL
open Go.RowKit
section
variable [Glb]{P:Program}{N:Nat}{w0:World}{S0:aa}{o:Oper}{a:Act}{E:Env}{st:St}
def Sx(E:Env)(rd:List Nat):ar:=fun b o=>E.S b o\/ ∃n∈rd,E.live n=true/\b=E.κ n
end
section
variable {P:Program}{N:Nat}{w0:World}{S0:aa}{o:Oper}{a:Act}{E:Env}{st:St}
theorem fM{E:Env}{r r':List Nat}(h: ∀n∈r,n∈r'): ∀b o,Sx E r b o->Sx E r' b o:=by
 rintro b o (h1|⟨n,hn,h2⟩)
 ·exact .inl h1
 ·exact .inr ⟨n,h n hn,h2⟩
end
section
variable [Glb]{P:Program}{N:Nat}{w0:World}{S0:aa}{o:Oper}{a:Act}{E:Env}{st:St}
theorem SR.nF{b:Array Value}(h:SR N w0 S0 E st b)(rd:List Nat):bo (Sx E rd) E.w:=h.iJ.up (fun _ _ hs=>.inl hs) (Below.refl _ _)
end
section
variable {P:Program}{N:Nat}{w0:World}{S0:aa}{o:Oper}{a:Act}{E:Env}{st:St}
theorem eB: ∀{l:List T},(∀ t∈l,t.one=true)->l.flatMap T.cells=l
 |[],_=>rfl
 |t::l,h=>by rw [List.flatMap_cons,T.cells_one (h t (by simp)),eB (fun u hu=>h u (List.mem_cons_of_mem _ hu))];rfl
theorem jc: ∀{vs:List V} {ts:List T},eE vs=some ts->vs.length=ts.length/\ ∀(i:Nat) (v:V) (t:T),vs[i]? =some v->ts[i]? =some t->asT v=some t
 |[],ts,h=>by simp [eE] at h;subst h;exact ⟨rfl,fun i v t hv=>by simp at hv⟩
 |v::vs,ts,h=>by
  unfold eE at h;split at h
  ·rename_i x xs hx hxs;cases h;obtain ⟨h1,h2⟩:=jc hxs;refine ⟨by simp [h1],fun i v t hv ht=>?_⟩;cases i with
   |zero=>simp at hv ht;subst hv;subst ht;exact hx
   |succ i=>simp at hv ht;exact h2 i v t hv ht
  ·cases h
theorem lD{n:Nat}{b:BX}(hb:bD E (E.κ n) b)(hl:E.live n=true){ts:List T}(ht:(∃ m,b= .d m ts)\/ ∃vs,b= .v vs/\eE vs=some ts){rd:List Nat}(hn:n∈rd)(off:Nat):
  Rep (Sx E rd) E.w (.pointer (some ⟨E.κ n,off,none⟩)) (.cptr ts off):=by
 have hM:b.isM=false:=by rcases ht with ⟨m,rfl⟩|⟨vs,rfl,_⟩ <;> rfl
 obtain ⟨cs,e,hg,hc⟩:=hb.cells hM;have key:ts.length<=cs.size/\ ∀(i:Nat) (x:Value) (t:T),cs[i]? =some x->ts[i]? =some t->Rep E.S E.w x t/\t.one=true:=by
  rcases ht with ⟨m,rfl⟩|⟨vs,rfl,hv⟩
  ·cases hc with
   |d _ _ h1 h2 h3=>exact ⟨by omega,h3⟩
  ·cases hc with
   |v _ h1 h2=>
    obtain ⟨g1,g2⟩:=jc hv;refine ⟨by omega,fun i x t hx ht=>?_⟩;have hlt:i<vs.length:=by rw [g1];exact (gsZ ht).1
    have hvi:=ggZ hlt;obtain ⟨k1,k2⟩:=h2 i x _ hx hvi
    have:=aC k1 (g2 i _ t hvi ht)
    exact ⟨this,this.jZ k2⟩
 have:=Rep.cptr (S:=Sx E rd) (w:=E.w) (E.κ n) 0 off ts (fun i=>cs[i]?.getD undef)
  (fun t ht=>by
   obtain ⟨i,hi⟩:=List.mem_iff_getElem?.1 ht;have hlt:i<cs.size:=Nat.lt_of_lt_of_le (gsZ hi).1 key.1;exact (key.2 i cs[i] t (by simp [hlt]) hi).2)
  (fun i hi=>by
   have hlt:i<cs.size:=Nat.lt_of_lt_of_le hi key.1;rw [Nat.zero_add,cell_of_row _ _ _ _ _ _ hg];exact ⟨by simp [hlt],.inr ⟨n,hn,hl,rfl⟩⟩)
  (fun i t ht=>by
   have hlt:i<cs.size:=Nat.lt_of_lt_of_le (gsZ ht).1 key.1
   have:=(key.2 i cs[i] t (by simp [hlt]) ht).1
   simp only [hlt,getElem?_pos,Option.getD_some];exact this.mono (fun b o h=>.inl h) (fun _ _ _=>aB.rfl))
 rwa [Nat.zero_add] at this
theorem dY{bx:Nat->Option BX}(hbx: ∀n b,bx n=some b->bD E (E.κ n) b){v:Value}{u:V}(h:VR E v u){t:T}{rd:List Nat}(hc:aX bx u=some (t,rd)):Rep (Sx E rd) E.w v t:=by
 have up: ∀{v t},Rep E.S E.w v t->Rep (Sx E rd) E.w v t:=fun h=>h.mono (fun b o h=>.inl h) (fun _ _ _=>aB.rfl)
 cases h with
 |t v x h=>simp [aX] at hc;rw [<- hc.1];exact up h
 |own v r e size xs h=>simp [aX] at hc;rw [<- hc.1];exact up h.rep
 |full a len size xs h=>simp [aX] at hc;rw [<- hc.1];exact up h
 |ptr n off hl=>
  simp only [aX] at hc;split at hc
  ·rename_i m ts hb;simp only [Option.some.injEq,Prod.mk.injEq] at hc;obtain ⟨rfl,rfl⟩:=hc;exact lD (hbx n _ hb) hl (.inl ⟨m,rfl⟩) (by simp) off
  ·rename_i vs hb;split at hc
   ·rename_i ts hts;simp only [Option.some.injEq,Prod.mk.injEq] at hc;obtain ⟨rfl,rfl⟩:=hc;exact lD (hbx n _ hb) hl (.inr ⟨vs,rfl,hts⟩) (by simp) off
   ·cases hc
  ·cases hc
  ·cases hc
  ·cases hc
  ·cases hc
 |mp n hl=>
  simp only [aX] at hc;split at hc
  ·rename_i ag sh es mb hb;simp only [Option.some.injEq,Prod.mk.injEq] at hc;obtain ⟨rfl,rfl⟩:=hc;obtain ⟨arr,clock,hg,hR⟩:=(hbx n _ hb).map;have get: ∀(i:Nat) (x:MapEntry),arr[i]? =some x-> ∃e,es[i]? =some e/\Rep E.S E.w x.key e.1/\Rep E.S E.w x.val e.2/\aR ag sh e.1:=fun i x hx=>by
    have hlt:i<es.length:=by rw [<- hR.size];exact (Array.getElem?_eq_some_iff.1 hx).1
    exact ⟨_,ggZ hlt,hR.at_ i x _ hx (ggZ hlt)⟩
   refine .mapd (E.κ n) arr clock ag sh _ _ (by simp [hR.size]) (by simp) ⟨hg,.inr ⟨n,by simp,hl,rfl⟩⟩ (fun i x t hx ht=>?_) (fun i x t hx ht=>?_) (fun k hk=>?_) hR.lt hR.apart
   ·obtain ⟨e,he,h1,_⟩:=get i x hx;rw [List.getElem?_map,he] at ht;cases ht;exact up h1
   ·obtain ⟨e,he,_,h2,_⟩:=get i x hx;rw [List.getElem?_map,he] at ht;cases ht;exact up h2
   ·obtain ⟨e,he,rfl⟩:=List.mem_map.1 hk;obtain ⟨i,hi⟩:=List.mem_iff_getElem?.1 he;have hlt:i<arr.size:=by rw [hR.size];exact (gsZ hi).1
    exact (hR.at_ i _ e (Array.getElem?_eq_getElem hlt) hi).2.2
  ·cases hc
 |view n off len size cap hl cO=>
  simp only [aX] at hc;split at hc
  ·rename_i m ts hb;cases hcd:(Nat.blt 0 size&&Nat.ble (off+len * size) m) with
   |false=>rw [hcd] at hc;cases hc
   |true=>
    rw [hcd] at hc;simp only [cond_true,Option.some.injEq,Prod.mk.injEq] at hc;obtain ⟨rfl,rfl⟩:=hc;rw [Bool.and_eq_true] at hcd;have hle:off+len * size<=m:=nlZ hcd.2;have aH:0<size:=Nat.lt_of_lt_of_le (Nat.lt_succ_self 0) (nlZ hcd.1);obtain ⟨cs,e,hg,hcr⟩:=(hbx n _ hb).cells rfl;cases hcr with
    |d _ _ h1 h2 h3=>
     have ones: ∀t∈ts.drop off,t.one=true:=fun t ht=>by
      have ht:=List.mem_of_mem_drop ht;obtain ⟨i,hi⟩:=List.mem_iff_getElem?.1 ht;have hlt:i<cs.size:=by have:=(gsZ hi).1;omega
      exact (h3 i cs[i] t (by simp [hlt]) hi).2
     obtain ⟨hfl,hL,hu⟩:=cS aH len (ts.drop off) (by simp;omega) ones;have nf:((ts.drop off).take (len * size)).length=len * size:=by simp;omega
     refine .slice _ (E.κ n) off len cap size _ (fun i=>cs[off+i]?.getD undef) hL cO hu (by rw [hfl];exact fun t ht=>ones t (List.mem_of_mem_take ht)) (fun _=>rfl) (fun i hi=>?_) (fun i t ht=>?_)
     ·rw [hfl,nf] at hi;have hlt:off+i<cs.size:=by omega
      rw [cell_of_row _ _ _ _ _ _ hg];exact ⟨by simp [hlt],.inr ⟨n,by simp,hl,rfl⟩⟩
     ·rw [hfl] at ht;have hi:i<len * size:=by rw [<- nf];exact (gsZ ht).1
      have hlt:off+i<cs.size:=by omega
      rw [aF,if_pos hi] at ht
      have:=(h3 (off+i) cs[off+i] t (by simp [hlt]) ht).1
      simp only [hlt,getElem?_pos,Option.getD_some];exact up this
  ·cases hc
 |_=>simp [aX] at hc
theorem bF{bx:Nat->Option BX}(hbx: ∀n b,bx n=some b->bD E (E.κ n) b): ∀{us:List V} {ts:List T} {rd:List Nat},cK bx us=some (ts,rd)->us.length=ts.length/\
  ∀(i:Nat) (v:Value) (u:V) (t:T),VR E v u->us[i]? =some u->ts[i]? =some t->Rep (Sx E rd) E.w v t
 |[],ts,rd,h=>by simp [cK] at h;obtain ⟨rfl,rfl⟩:=h;exact ⟨rfl,fun i v u t _ hu=>by simp at hu⟩
 |u::us,ts,rd,h=>by
  unfold cK at h;split at h
  ·rename_i x r xs rs hx hxs;simp only [Option.some.injEq,Prod.mk.injEq] at h;obtain ⟨rfl,rfl⟩:=h;obtain ⟨h1,h2⟩:=bF hbx hxs;refine ⟨by simp [h1],fun i v u' t hv hu ht=>?_⟩;cases i with
   |zero=>
    simp at hu ht;subst hu;subst ht;exact (dY hbx hv hx).mono (fM fun n hn=>by simp [hn]) (fun _ _ _=>aB.rfl)
   |succ i=>
    simp at hu ht;exact (h2 i v u' t hv hu ht).mono (fM fun n hn=>by simp [hn]) (fun _ _ _=>aB.rfl)
  ·cases h
theorem eI{bx:Nat->Option BX}(hbx: ∀n b,bx n=some b->bD E (E.κ n) b){v:Value}{u:V}(h:VR E v u){t:T}{rd:List Nat}(hc:conv bx u=some (t,rd)):Rep (Sx E rd) E.w v t:=by
 cases u with
 |fn f caps=>
  unfold conv at hc;simp only at hc;split at hc
  ·rename_i ts r hts;simp only [Option.some.injEq,Prod.mk.injEq] at hc;obtain ⟨rfl,rfl⟩:=hc;obtain ⟨h1,h2⟩:=bF hbx hts;cases h with
   |fn _ cs _ hs hv=>
    refine .clos f cs ts (by omega) (fun i x t hx ht=>?_);have hlt:i<caps.length:=by rw [h1];exact (gsZ ht).1
    exact h2 i x _ t (hv i x _ hx (ggZ hlt)) (ggZ hlt) ht
  ·cases hc
 |_=>exact dY hbx h hc
theorem ed{bx:Nat->Option BX}(hbx: ∀n b,bx n=some b->bD E (E.κ n) b): ∀{us:List V} {ts:List T} {rd:List Nat},bm bx us=some (ts,rd)->us.length=ts.length/\
  ∀(i:Nat) (v:Value) (u:V) (t:T),VR E v u->us[i]? =some u->ts[i]? =some t->Rep (Sx E rd) E.w v t
 |[],ts,rd,h=>by simp [bm] at h;obtain ⟨rfl,rfl⟩:=h;exact ⟨rfl,fun i v u t _ hu=>by simp at hu⟩
 |u::us,ts,rd,h=>by
  unfold bm at h;split at h
  ·rename_i x r xs rs hx hxs;simp only [Option.some.injEq,Prod.mk.injEq] at h;obtain ⟨rfl,rfl⟩:=h;obtain ⟨h1,h2⟩:=ed hbx hxs;refine ⟨by simp [h1],fun i v u' t hv hu ht=>?_⟩;cases i with
   |zero=>
    simp at hu ht;subst hu;subst ht;exact (eI hbx hv hx).mono (fM fun n hn=>by simp [hn]) (fun _ _ _=>aB.rfl)
   |succ i=>
    simp at hu ht;exact (h2 i v u' t hv hu ht).mono (fM fun n hn=>by simp [hn]) (fun _ _ _=>aB.rfl)
  ·cases h
end
section
variable [Glb]{P:Program}{N:Nat}{w0:World}{S0:aa}{o:Oper}{a:Act}{E:Env}{st:St}
end
section
variable {P:Program}{N:Nat}{w0:World}{S0:aa}{o:Oper}{a:Act}{E:Env}{st:St}
theorem fc: ∀{xs:List T},jE xs-> ∀(i:Nat) (t:T),xs[i]? =some t-> ∃n,t= .int .u8 n
 |[],_,i,t,h=>by simp at h
 |.int .u8 n::xs,hx,i,t,h=>by
  cases i with
  |zero=>simp at h;exact ⟨n,h.symm⟩
  |succ i=>exact fc (xs:=xs) hx i t (by simpa using h)
theorem nT{xs:List T}(h:jE xs):xs.flatMap T.cells=xs:=eB fun t ht=>by
 obtain ⟨i,hi⟩:=List.mem_iff_getElem?.1 ht;obtain ⟨n,rfl⟩:=fc h i t hi;rfl
end
section
variable [Glb]{P:Program}{N:Nat}{w0:World}{S0:aa}{o:Oper}{a:Act}{E:Env}{st:St}
def numOf:T->Int
 |.int _ n=>n
 |_=>0
end
section
variable {P:Program}{N:Nat}{w0:World}{S0:aa}{o:Oper}{a:Act}{E:Env}{st:St}
theorem oK{xs:List T}(h:jE xs):nQ xs=strOfNums (xs.map numOf):=by
 unfold nQ strOfNums
 congr 1
 rw [List.map_map]
 congr 1
 refine List.map_congr_left fun t ht=>?_
 obtain ⟨i,hi⟩:=List.mem_iff_getElem?.1 ht;obtain ⟨n,rfl⟩:=fc h i t hi;rfl
end
section
variable [Glb]{P:Program}{N:Nat}{w0:World}{S0:aa}{o:Oper}{a:Act}{E:Env}{st:St}
theorem mR(h:SR N w0 S0 E st a.tmps)(hd:ay N o.dst){s t:TypeId}{X:Operand}(ho:o.op= .convert s t X){x:DOp}(hl:ah P o.op=some x):Sound P N w0 S0 o a E st (eff x (st.nm o.dst) st.sl st.bx):=by
 rw [ho] at hl;simp only [ah] at hl;have ex: ∀{v:Value} {w:World},(convert s t (a.eval X)).run P E.w= .ok v w->(execOp a.eval o).run P E.w= .ok (.value v) w:=fun hr=>by unfold execOp;simp [ho,hr]
 have see: ∀{y:O} {u:T} {rd:List Nat},ak X=some y->aX st.bx (ev st.sl y)=some (u,rd)->Rep (Sx E rd) E.w (a.eval X) u:=fun hy hc=>dY h.bx (af h.sl hy) hc
 split at hl
 ·rename_i k0 k y hs ht hy;simp only [Option.some.injEq] at hl;subst hl;have he:=af h.sl hy;unfold eff;simp only;split
  ·rename_i k1 n hv;rw [hv] at he;exact ai h hd (v:=.int k (k.wrap n)) (ex (by simp [he.aA,convert,run_underlying hs,run_underlying ht,Conv.intToInt])) (.t _ _ (.int _ _))
  ·trivial
 ·rename_i y hs ht hy;simp only [Option.some.injEq] at hl;subst hl;unfold eff;simp only;split
  ·rename_i u rd hc;have hr:=see hy hc;split
   ·rename_i c r hp;cases u <;> simp only [lp,reduceCtorEq] at hp
    rename_i sx;cases hp;intro _;have hX:=hr.bf;exact ai h hd (v:=.string sx) (ex (by simp [hX,convert,run_underlying hs,run_underlying ht])) (.t _ _ (.str _))
   ·trivial
  ·trivial
 ·rename_i e y hs ht hy;cases hu8:kp P e with
  |false=>rw [hu8] at hl;cases hl
  |true=>
  rw [hu8] at hl;simp only [cond_true,Option.some.injEq] at hl;subst hl;have he8:P.underlying e=some (.int .u8):=by
   unfold kp at hu8;split at hu8
   ·assumption
   ·cases hu8
  unfold eff;simp only;split
  ·rename_i u rd hc;have hr:=see hy hc;split
   ·rename_i c r hp;cases u <;> simp only [lp,reduceCtorEq] at hp
    ·rename_i n xs;cases hp;intro hu;generalize hX:a.eval X=v at hr;cases hr with
     |slice A b off len cap _ _ g hlen cO hun h1 ha hg aq=>
     subst hlen;rw [nT hu] at ha hg aq;have b9: ∀i,i<xs.length->E.w.cell? ⟨b,off+i,none⟩=some (.int .u8 ((xs.map numOf).getD i 0)):=fun i hi=>by
      rw [(hg i hi).1];obtain ⟨n,hn⟩:=fc hu i xs[i] (ggZ hi)
      have:=aq i xs[i] (ggZ hi)
      rw [hn] at this;rw [this.aA];simp [List.getD,hi,hn,numOf]
     refine ai h hd (v:=.string (nQ xs)) (ex ?_) (.t _ _ (.str _));rw [hX,oK hu]
     by_cases h0:0<xs.length
     ·rw [ha h0];exact run_convert_bytes_arg E.w s e hs he8 b off xs.length cap (xs.map numOf) (by simp) b9 t ht
     ·have h0:xs=[]:=List.eq_nil_of_length_eq_zero (by omega);subst h0;cases A with
      |none=>exact run_convert_bytes_nil E.w s e hs he8 _ _ t ht
      |some A=>
       rw [run_convert_bytes_string E.w s t e _ _ _ hs he8 ht,run_bytesToString E.w A _ _ [] (by simp [loadCells,loadCellsFrom])];rfl
    ·cases hp;intro _;generalize hX:a.eval X=v at hr;cases hr;refine ai h hd (v:=.string ByteArray.empty) (ex ?_) (.t _ _ (.str _));rw [hX];exact run_convert_bytes_nil E.w s e hs he8 _ _ t ht
   ·trivial
  ·trivial
 ·rename_i e y hs ht hy;cases hu8:kp P e with
  |false=>rw [hu8] at hl;cases hl
  |true=>
  rw [hu8] at hl;simp only [cond_true,Option.some.injEq] at hl;subst hl;have he8:P.underlying e=some (.int .u8):=by
   unfold kp at hu8;split at hu8
   ·assumption
   ·cases hu8
  unfold eff;simp only;split
  ·rename_i u rd hc;have hr:=see hy hc;split
   ·rename_i c r hp;cases u <;> simp only [lp,reduceCtorEq] at hp
    ·rename_i sx;cases hp;intro _;have hX:=hr.bf;have aJ:=Lib.run_convert_string_bytes (P:=P) E.w s t e sx hs ht he8;have hb:Below E.w.heap.size E.w (Lib.bytesWorld E.w e sx):=⟨Lib.bytesWorld_below _ _ _,Nat.le_succ _⟩
     have hge:=grownCap_ge E.w sx.size 0 e;have h':=h.world hb (fun b o=>E.S b o\/(E.w.heap.size<=b/\b<(Lib.bytesWorld E.w e sx).heap.size)) (fun b o=>⟨fun hh=>hh.elim .inl fun k=>.inr ⟨.inr k,k⟩,fun hh=>hh.elim .inl fun k=>k.1⟩);have hlen:(bU sx).length=sx.size:=by unfold bU;rw [List.length_map,Array.length_toList];rfl
     have bP: ∀t∈bU sx,t.one=true/\t.cells=[t]:=fun t ht=>by
      obtain ⟨_,_,rfl⟩:=List.mem_map.1 ht;exact ⟨rfl,rfl⟩
     have hfl:(bU sx).flatMap T.cells=bU sx:=eB fun t ht=>(bP t ht).1
     refine ⟨_,_,{E with w:=Lib.bytesWorld E.w e sx,S:=fun b o=>E.S b o\/(E.w.heap.size<=b/\b<(Lib.bytesWorld E.w e sx).heap.size)},ex (by rw [hX];exact aJ),.inl rfl,?_⟩;refine h'.cJ hd (.t _ _ (.slice _ E.w.heap.size 0 sx.size _ 1 _ (fun i=>.int .u8 (sx.data.toList.getD i 0).toNat) hlen hge (fun x hx=>by rw [(bP x hx).2];rfl) (fun t ht=>?_) (fun _=>rfl) (fun i hi=>?_) (fun i t ht=>?_)))
     ·rw [hfl] at ht;exact (bP t ht).1
     ·rw [hfl,hlen] at hi;rw [Nat.zero_add];exact ⟨Lib.bytesWorld_cell E.w e sx i hi,.inr ⟨Nat.le_refl _,by rw [Lib.bytesWorld_size];omega⟩⟩
     ·rw [hfl] at ht;unfold bU at ht;rw [List.getElem?_map,Option.map_eq_some_iff] at ht;obtain ⟨b,hb,rfl⟩:=ht
      have:sx.data.toList.getD i 0=b:=by simp [List.getD,hb]
      rw [this];exact .int _ _
   ·trivial
  ·trivial
 ·cases hl
theorem pU(h:SR N w0 S0 E st a.tmps)(hd:ay N o.dst){t e:TypeId}{n:Nat}{X:Operand}{y:O}(ho:o.op= .sliceToArrayPointer t X)(hu:P.underlying t=some (.array n e))(hy:ak X=some y):
  Sound P N w0 S0 o a E st (eff (.arrP n y) (st.nm o.dst) st.sl st.bx):=by
 have he:=af h.sl hy;have ex: ∀{A:Option Addr} {len cap:Nat},a.eval X= .slice A len cap->n<=len->(execOp a.eval o).run P E.w= .ok (.value (.pointer A)) E.w:=fun hX hn=>by
  unfold execOp;simp [ho,Instr.arrayAt,run_underlying hu,hX,Nat.not_lt.2 hn]
 unfold eff;simp only;split
 ·rename_i b off len sz hv;rw [hv] at he;obtain ⟨cap,hX,_,hlv⟩:=he.bJ;intro hn;exact ai h hd (ex hX hn) (.ptr b off hlv)
 ·split
  ·rename_i sz xs ha;have hr:=aC he ha;rintro ⟨hn,hp⟩;generalize hX:a.eval X=v at hr;cases hr with
   |slice A b off len cap _ _ g hlen cO hun h1 hA hg aq=>
   subst hlen;rw [hA hp] at hX;refine ai h hd (ex hX (by omega)) (.t _ _ ?_)
   have:=Rep.cptr (S:=E.S) (w:=E.w) b off 0 (xs.flatMap T.cells) g h1 hg aq
   rwa [Nat.add_zero] at this
  ·trivial
end
section
variable {P:Program}{N:Nat}{w0:World}{S0:aa}{o:Oper}{a:Act}{E:Env}{st:St}
theorem gM(s:ByteArray):(bU s).flatMap T.cells=bU s:=eB fun t ht=>by
 obtain ⟨_,_,rfl⟩:=List.mem_map.1 ht;rfl
theorem dG(s:ByteArray):(bU s).length=s.size:=by
 unfold bU;rw [List.length_map,Array.length_toList];rfl
end
section
variable [Glb]{P:Program}{N:Nat}{w0:World}{S0:aa}{o:Oper}{a:Act}{E:Env}{st:St}
structure ct (P:Program) (E:Env) (y:Value) (n:Nat) (ys:List T) (news:List Value):Prop where
 len:news.length=(ys.flatMap T.cells).length
 rep: ∀(i:Nat) (x:Value) (t:T),news[i]? =some x->(ys.flatMap T.cells)[i]? =some t->Rep E.S E.w x t
 uni: ∀x∈ys,x.cells.length=n
 one: ∀t∈ys.flatMap T.cells,t.one=true
 src:(∃ (ad:Addr) (c:Nat),y= .slice (some ad) ys.length c/\ ∀j v,news[j]? =some v->E.w.cell? (ad.add j)=some v)\/(∃ A c,y= .slice A 0 c/\ys=[])\/(∃ s,y= .string s/\ys=bU s/\(n=1\/ys=[])/\news=byteCells s)
end
section
variable {P:Program}{N:Nat}{w0:World}{S0:aa}{o:Oper}{a:Act}{E:Env}{st:St}
theorem ct.dR{y:Value}{n:Nat}{ys:List T}{news:List Value}(h:ct P E y n ys news): ∀v∈news,v.oneCell'=true:=fun v hv=>by
 obtain ⟨i,hi⟩:=List.mem_iff_getElem?.1 hv;have hlt:i<(ys.flatMap T.cells).length:=by rw [<- h.len];exact (gsZ hi).1
 exact (h.rep i v _ hi (ggZ hlt)).one (h.one _ (List.mem_of_getElem? (ggZ hlt)))
theorem mV{y:Value}{n:Nat}{ys:List T}(h:Rep E.S E.w y (.slice n ys))(hn:0<n): ∃news,ct P E y n ys news:=by
 cases h with
 |slice A b off len cap _ _ g hlen cO hu h1 ha hg aq=>
 subst hlen;have get: ∀j v,((List.range (ys.flatMap T.cells).length).map g)[j]? =some v->j<(ys.flatMap T.cells).length/\g j=v:=fun j v hj=>by
  have hlt:j<(ys.flatMap T.cells).length:=by simpa using (gsZ hj).1
  rw [List.getElem?_map,List.getElem?_range hlt] at hj;exact ⟨hlt,by simpa using hj⟩
 refine ⟨(List.range (ys.flatMap T.cells).length).map g,by simp,fun i x t hx ht=>?_,hu,h1,?_⟩
 ·obtain ⟨_,rfl⟩:=get i x hx;exact aq i t ht
 ·by_cases h0:ys=[]
  ·subst h0;exact .inr (.inl ⟨A,cap,rfl,rfl⟩)
  ·have hp:0<(ys.flatMap T.cells).length:=by rw [aI hu];exact Nat.mul_pos (List.length_pos_iff.2 h0) hn
   rw [ha hp];refine .inl ⟨_,cap,rfl,fun j v hj=>?_⟩;obtain ⟨hlt,rfl⟩:=get j v hj;rw [bg];exact (hg j hlt).1
end
section
variable [Glb]{P:Program}{N:Nat}{w0:World}{S0:aa}{o:Oper}{a:Act}{E:Env}{st:St}
theorem eP(h:SR N w0 S0 E st a.tmps){y:Value}{u:V}(hv:VR E y u){n:Nat}{ys:List T}(hs:cP st.bx u=some (.slice n ys))(hn:0<n): ∃news,ct P E y n ys news:=by
 have data:asT u=some (.slice n ys)-> ∃news,ct P E y n ys news:=fun hd=>mV (aC hv hd) hn
 unfold cP at hs;split at hs
 ·rename_i s;cases hs;have hy:=hv.bf;refine ⟨byteCells s,by rw [gM,dG,byteCells_length],fun i x t hx ht=>?_,fun x hx=>?_,fun t ht=>?_,.inr (.inr ⟨s,hy,rfl,.inl rfl,rfl⟩)⟩
  ·rw [gM] at ht;unfold byteCells at hx;unfold bU at ht;rw [List.getElem?_map,Option.map_eq_some_iff] at hx ht;obtain ⟨b,hb,rfl⟩:=hx;obtain ⟨b',hb',rfl⟩:=ht;rw [hb] at hb';cases hb';exact .int _ _
  ·obtain ⟨_,_,rfl⟩:=List.mem_map.1 hx;rfl
  ·rw [gM] at ht;obtain ⟨_,_,rfl⟩:=List.mem_map.1 ht;rfl
 ·rename_i k off len size;split at hs
  ·rename_i t rd hc;cases hs;simp only [aX] at hc;split at hc
   ·rename_i m ts hb;cases cB:(Nat.blt 0 size&&Nat.ble (off+len * size) m) with
    |false=>rw [cB] at hc;cases hc
    |true=>
    rw [cB] at hc;simp only [cond_true,Option.some.injEq,Prod.mk.injEq,T.slice.injEq] at hc;obtain ⟨⟨rfl,rfl⟩, -⟩:=hc;rw [Bool.and_eq_true] at cB;have hle:=nlZ cB.2;obtain ⟨cap,hX,cO,hlv⟩:=hv.bJ;obtain ⟨cs,e',hg,hcr⟩:=(h.bx k _ hb).cells rfl;cases hcr with
    |d _ _ hl hsz hh=>
    obtain ⟨k1,k2,k3⟩:=cS hn len (ts.drop off) (by rw [List.length_drop];omega) (fun t ht=>by
     obtain ⟨i,hi⟩:=List.mem_iff_getElem?.1 (List.mem_of_mem_drop ht);have hlt:i<cs.size:=by have:=(gsZ hi).1;omega
     exact (hh i cs[i] t (Array.getElem?_eq_getElem hlt) hi).2)
    have hK:((ts.drop off).take (len * size)).length=len * size:=by rw [List.length_take,List.length_drop];omega
    have key: ∀(i:Nat) (t:T),((ts.drop off).take (len * size))[i]? =some t->i<len * size/\ts[off+i]? =some t:=fun i t ht=>by
     have hi:i<len * size:=by rw [<- hK];exact (gsZ ht).1
     rw [aF,if_pos hi] at ht;exact ⟨hi,ht⟩
    refine ⟨(cs.toList.drop off).take (len * size),?_,fun i x t hx ht=>?_,k3,fun t ht=>?_,?_⟩
    ·rw [k1,hK,List.length_take,List.length_drop,Array.length_toList];omega
    ·rw [k1] at ht;obtain ⟨hi,ht⟩:=key i t ht;rw [aF,if_pos hi] at hx;exact (hh (off+i) x t (by simpa using hx) ht).1
    ·rw [k1] at ht;obtain ⟨i,hi⟩:=List.mem_iff_getElem?.1 ht;obtain ⟨hi,ht⟩:=key i t hi;have hlt:off+i<cs.size:=by omega
     exact (hh (off+i) cs[off+i] t (Array.getElem?_eq_getElem hlt) ht).2
    ·refine .inl ⟨_,cap,by rw [k2];exact hX,fun j v hj=>?_⟩;have hj':j<len * size:=by
      have:=(gsZ hj).1
      rw [List.length_take] at this;omega
     rw [aF,if_pos hj'] at hj;rw [bg,cell_of_row _ _ _ _ _ _ hg];simpa using hj
   ·cases hc
  ·cases hs
 ·exact data hs
end
section
variable {P:Program}{N:Nat}{w0:World}{S0:aa}{o:Oper}{a:Act}{E:Env}{st:St}
theorem qd{u:V}{t:T}(hs:cP st.bx u=some t)(h: ∀n ys,t≠ .slice n ys):asT u=some t:=by
 unfold cP at hs;split at hs
 ·cases hs;exact absurd rfl (h _ _)
 ·split at hs
  ·rename_i t' rd hc;cases hs;simp only [aX] at hc;split at hc
   ·simp only [cond_eq_ite] at hc;split at hc
    ·cases hc;exact absurd rfl (h _ _)
    ·cases hc
   ·cases hc
  ·cases hs
 ·exact hs
end
section
variable [Glb]{P:Program}{N:Nat}{w0:World}{S0:aa}{o:Oper}{a:Act}{E:Env}{st:St}
theorem jy(_:SR N w0 S0 E st a.tmps){y:Value}{u:V}(hv:VR E y u)(hs:cP st.bx u=some .nil){n:Nat}: ∃news,ct P E y n [] news:=by
 have hr:=aC hv (qd hs (fun _ _=>by simp));cases hr;exact ⟨[],rfl,fun i x t hx=>by simp at hx,fun x hx=>by simp at hx,fun t ht=>by simp at ht,.inr (.inl ⟨none,0,rfl,rfl⟩)⟩
theorem kd(_:SR N w0 S0 E st a.tmps){y:Value}{u:V}(hv:VR E y u){k:Nat}(hs:cP st.bx u=some (.slice k [])){n:Nat}: ∃news,ct P E y n [] news:=by
 have fin:(∃ A c,y= .slice A 0 c)-> ∃news,ct P E y n [] news:=fun ⟨A,c,hy⟩=>⟨[],rfl,fun i x t hx=>by simp at hx,fun x hx=>by simp at hx,fun t ht=>by simp at ht,.inr (.inl ⟨A,c,hy,rfl⟩)⟩
 unfold cP at hs;split at hs
 ·rename_i s;simp only [Option.some.injEq,T.slice.injEq] at hs;have h0:=dG s;rw [hs.2] at h0;have hb:byteCells s=[]:=List.eq_nil_of_length_eq_zero (by rw [byteCells_length, <-h0];rfl);exact ⟨[],rfl,fun i x t hx=>by simp at hx,fun x hx=>by simp at hx,fun t ht=>by simp at ht,.inr (.inr ⟨s,hv.bf,hs.2.symm,.inr rfl,hb.symm⟩)⟩
 ·rename_i b0 off0 len0 sz0;split at hs
  ·rename_i t rd hc;cases hs;obtain ⟨cap,hX,_⟩:=hv.bJ;simp only [aX] at hc;split at hc
   ·simp only [cond_eq_ite] at hc;split at hc
    ·simp only [Option.some.injEq,Prod.mk.injEq,T.slice.injEq] at hc;cases len0 with
     |zero=>exact fin ⟨_,_,hX⟩
     |succ k=>exact absurd hc.1.2 (by simp [chunk])
    ·cases hc
   ·cases hc
  ·cases hs
 ·obtain ⟨A,cap,hX,_⟩:=dU (aC hv hs);exact fin ⟨A,cap,hX⟩
end
section
variable {P:Program}{N:Nat}{w0:World}{S0:aa}{o:Oper}{a:Act}{E:Env}{st:St}
theorem ct.nO{y:Value}{n:Nat}{ys:List T}{news:List Value}(h:ct P E y n ys news){u:TypeId}(hk:(∃ e',P.underlying u=some (.slice e'))\/P.underlying u=some .string):Src P n u y ys.length news E.w:=by
 have hl:news.length=ys.length * n:=by rw [h.len,aI h.uni]
 rcases h.src with ⟨ad,c,rfl,hc⟩|⟨A,c,rfl,rfl⟩|⟨s,rfl,rfl,hn1,rfl⟩
 ·exact ⟨hk,fun _=>rfl,run_firstCells_some E.w n ys.length ad ys.length c news hl hc,run_firstCells_some E.w.drew n ys.length ad ys.length c news hl (by simpa using hc),hl,h.dR⟩
 ·have h0:news=[]:=List.eq_nil_of_length_eq_zero (by simpa using hl);subst h0;refine ⟨hk,fun _=>rfl,?_,?_,hl,h.dR⟩ <;> cases A with
   |none=>simp [Builtin.firstCells]
   |some ad=>simp [Builtin.firstCells,loadCells,loadCellsFrom]
 ·have e:=dG s;rcases hn1 with rfl|h0
  ·rw [e];exact ⟨hk,fun _=>rfl,firstCells_string s E.w,firstCells_string s E.w.drew,by rw [byteCells_length,Nat.mul_one],h.dR⟩
  ·rw [h0] at e hl;have hb:byteCells s=[]:=List.eq_nil_of_length_eq_zero (by simpa using hl);have hs:s.size=0:=by simpa using e.symm
   rw [h0,hb];refine ⟨hk,fun w'=>?_,?_,?_,by simp,fun _ hu=>by cases hu⟩
   ·show Sem.run P (pure s.size) w'=_
    rw [hs];rfl
   ·simp [Builtin.firstCells]
   ·simp [Builtin.firstCells]
theorem mq{y:Value}{ys:List T}{news:List Value}(h:ct P E y 1 ys news){dT sT ty e:TypeId}{i:TypeInfo}(hu:P.underlying dT=some (.slice e))(hi:P.info? e=some i)(h1:i.size=1){g off len cap:Nat}{cs:Array Value}{te:TypeId}
  (hg:E.w.heap[g]? =some (.cells cs te (0,0))) (hle:off+len<=cs.size):
  (Builtin.copy_ #[dT,sT] ty #[.slice (some ⟨g,off,none⟩) len cap,y]).run P E.w= .ok (goInt (Nat.min ys.length len)) (E.w.setRow g (cs.toList.take off++news.take (Nat.min ys.length len)++cs.toList.drop (off+(news.take (Nat.min ys.length len)).length)).toArray):=by
 have hl:news.length=ys.length:=by rw [h.len,aI h.uni,Nat.mul_one]
 generalize hk:Nat.min ys.length len=k;have hk1:k<=ys.length:=by rw [<- hk];exact Nat.min_le_left _ _
 have hk2:k<=len:=by rw [<- hk];exact Nat.min_le_right _ _
 have htl:(news.take k).length=k:=by rw [List.length_take];omega
 have hlen:(Builtin.lenOf y).run P E.w= .ok ys.length E.w:=by
  rcases h.src with ⟨ad,c,rfl,hc⟩|⟨A,c,rfl,rfl⟩|⟨s,rfl,rfl,_,rfl⟩
  ·rfl
  ·rfl
  ·rw [dG];rfl
 have b9:(Builtin.firstCells 1 k y).run P E.w= .ok (news.take k).toArray E.w:=by
  rcases h.src with ⟨ad,c,rfl,hc⟩|⟨A,c,rfl,rfl⟩|⟨s,rfl,rfl,_,rfl⟩
  ·have:=run_loadCells_list (P:=P) E.w ad (news.take k) (fun j v hj=>hc j v (by
    rw [List.getElem?_take] at hj;split at hj
    ·exact hj
    ·cases hj))
   rw [htl] at this;simp [Builtin.firstCells,this]
  ·have h0:k=0:=by simpa using hk1
   subst h0;cases A with
   |none=>simp [Builtin.firstCells]
   |some ad=>simp [Builtin.firstCells,loadCells,loadCellsFrom]
  ·simp only [Builtin.firstCells,Sem.run_pure]
   congr 1
   apply Array.ext'
   rw [dG] at hk1;simp [byteCells]
 have hst:=run_storeCells_at (P:=P) g off te (news.take k) 0 cs E.w hg (by rw [htl];omega) (fun v hv=>h.dR v (List.mem_of_mem_take hv));simp only [Nat.add_zero] at hst;simp only [Builtin.copy_,Sem.run_bind,run_underlying hu,Result.andThen_ok,hlen,run_sizeOf hi,h1,hk,b9,hst,Sem.run_pure,List.getElem?_toArray,List.getElem?_cons_zero,List.getElem?_cons_succ]
end
section
variable [Glb]{P:Program}{N:Nat}{w0:World}{S0:aa}{o:Oper}{a:Act}{E:Env}{st:St}
theorem pV(h:SR N w0 S0 E st a.tmps)(hd:ay N o.dst){X Y:Operand}{t t2 e:TypeId}{i:TypeInfo}{x y:O}(ho:o.op= .call {callee:=.builtin .copy,args:= #[X,Y],argTypes:= #[t,t2]})(hx:ak X=some x)(hy:ak Y=some y)
  (hu:P.underlying t=some (.slice e)) (hi:P.info? e=some i) (h1:i.size=1):Sound P N w0 S0 o a E st (eff (.copy x y) (st.nm o.dst) st.sl st.bx):=by
 have hex:=af h.sl hx;have hey:=af h.sl hy;unfold eff;simp only;split
 ·rename_i b off len sz hv;rw [hv] at hex;obtain ⟨cap,hX,_,hlv⟩:=hex.bJ;split
  ·rename_i m ts n ys hb hs;cases hc:(Nat.beq sz 1&&Nat.beq n 1) with
   |false=>trivial
   |true=>
   rw [Bool.and_eq_true] at hc;have hn:=Nat.eq_of_beq_eq_true hc.2;subst hn;rintro ⟨hle,fF⟩;obtain ⟨news,hsr⟩:=eP (P:=P) (y:=a.eval Y) h hey hs (by omega);obtain ⟨cs,e',hg,hcr⟩:=(h.bx b _ hb).cells rfl;cases hcr with
   |d _ _ hl hsz hh=>
   have run:=mq (ty:=o.type) (sT:=t2) (cap:=cap) hsr hu hi h1 hg (show off+len<=cs.size by omega);have hlN:news.length=ys.length:=by rw [hsr.len,aI hsr.uni,Nat.mul_one]
   have hfl:ys.flatMap T.cells=ys:=eB fun t ht=>List.all_eq_true.1 fF t ht
   generalize hk:Nat.min ys.length len=k at run ⊢;have hk1:k<=ys.length:=by rw [<- hk];exact Nat.min_le_left _ _
   have hk2:k<=len:=by rw [<- hk];exact Nat.min_le_right _ _
   have htl:(news.take k).length=k:=by rw [List.length_take];omega
   have hyl:(ys.take k).length=k:=by rw [List.length_take];omega
   have runX:(execOp a.eval o).run P E.w= .ok (.value (goInt k)) (E.w.setRow (E.κ b) (cs.toList.take off++news.take k++cs.toList.drop (off+(news.take k).length)).toArray):=by
    refine aD ho ?_;have run':=run;rw [<- hX] at run';simp [builtin,run']
   refine ⟨_,_,{E with w:=E.w.setRow (E.κ b) (cs.toList.take off++news.take k++cs.toList.drop (off+(news.take k).length)).toArray },runX,.inl rfl,?_⟩;rw [fP];refine (h.write hb rfl _ _ fun E' g=>?_).cJ hd (.t _ _ (.int _ _));refine .d m _ (by rw [bK _ _ _ _ hyl (by omega)];exact hl) (by simp;omega) (fun j v w hv' hw=>?_);rw [List.getElem?_toArray,bu _ _ _ (by simp;omega)] at hv';rw [bB _ _ _ _ hyl (by omega)] at hw
   by_cases g1:j<off
   ·rw [if_pos g1] at hv' hw
    have:=hh j v w (by simpa using hv') hw
    exact ⟨g.rep this.1,this.2⟩
   ·rw [if_neg g1] at hv' hw
    by_cases g2:j<off+k
    ·rw [if_pos (by rw [htl];exact g2)] at hv';rw [if_pos g2] at hw;rw [List.getElem?_take,if_pos (by omega)] at hv' hw;have hw':(ys.flatMap T.cells)[j - off]? =some w:=by rw [hfl];exact hw
     exact ⟨g.rep (hsr.rep _ v w hv' hw'),hsr.one w (List.mem_of_getElem? hw')⟩
    ·rw [if_neg (by rw [htl];exact g2)] at hv';rw [if_neg g2] at hw
     have:=hh j v w (by simpa using hv') hw
     exact ⟨g.rep this.1,this.2⟩
  ·rename_i m ts hb hs;intro hle;have hY:a.eval Y= .slice none 0 0:=by
    have:asT (ev st.sl y)=some .nil:=by
     unfold cP at hs;split at hs
     ·cases hs
     ·split at hs
      ·rename_i t rd hc;cases hs;simp only [aX] at hc;split at hc
       ·simp only [cond_eq_ite] at hc;split at hc <;> cases hc
       ·cases hc
      ·cases hs
     ·exact hs
    have hr:=aC hey this;generalize a.eval Y=v at hr;cases hr;rfl
   have run:=run_copy_nil (P:=P) E.w t t2 o.type e ⟨E.κ b,off,none⟩ len cap hu (by rw [hi];rfl);refine ai h hd (aD ho ?_) (.t _ _ (.int _ _));rw [<- hX, <-hY] at run;simp [builtin,run];rfl
  ·trivial
 ·trivial
theorem mU(h:SR N w0 S0 E st a.tmps)(hd:ay N o.dst){t e:TypeId}{L C:Operand}{l c:O}{j:TypeInfo}{zs:List T}(ho:o.op= .makeSlice t L C)(hL:ak L=some l)(hC:ak C=some c)(hu:P.underlying t=some (.slice e))(hj:P.info? e=some j)(hz:cj P e=some zs)(aH:0<j.size):
  Sound P N w0 S0 o a E st (eff (.mkslice j.size j.bytes zs l c) (st.nm o.dst) st.sl st.bx):=by
 have hel:=af h.sl hL;have hec:=af h.sl hC;obtain ⟨i,z,hi,hiz,bj,jq,aq,_⟩:=cZ hz;rw [hj] at hi;cases hi;unfold eff;cases aw:o.dst with
 |none=>trivial
 |some d=>
  rw [aw] at hd;simp only [St.nm];split
  ·rename_i k1 n k2 k hn hl hc;rw [hl] at hel;rw [hc] at hec;rintro ⟨h1,rfl,h2,h3⟩;have aJ:=run_make (P:=P) E.w t e j z hu hj hiz k1 k2 n n h1 (Int.le_refl _) h2 h3;rw [<- hel.aA, <-hec.aA] at aJ;show Did P N w0 S0 o a E (st.app o.dst _)
   rw [aw];refine ⟨.value (.slice (some ⟨E.w.heap.size,0,none⟩) n.toNat n.toNat),_,{E with w:=E.w.alloc (.cells (madeCells z.cells (n.toNat * j.size)) e),κ:=upd E.κ (d+st.off) E.w.heap.size,live:=upd E.live (d+st.off) true },?_,.inl rfl,?_⟩
   ·unfold execOp;simp [ho,aJ]
   ·rw [aw];refine h.jD hn _ _ (fun E' g=>.cells _ e _ ?_) _ _ (fun E' hk hl=>by rw [<- hk];exact .view _ _ _ _ _ hl (Nat.le_refl _)) hd;have hfl:(List.replicate n.toNat zs).flatten.length=n.toNat * j.size:=by simp [bj]
    refine .d _ _ hfl (by rw [size_madeCells];exact Nat.le_refl _) (fun i x t hx ht=>?_);have hi:i<n.toNat * j.size:=by rw [<- hfl];exact (gsZ ht).1
    rw [ef (by omega) _ _ (by rw [<- bj];exact hi)] at ht;have lU:i % z.cells.size<z.cells.size:=Nat.mod_lt _ (by omega);have hx':z.cells[i % z.cells.size]? =some x:=by
     have:(madeCells z.cells (n.toNat * j.size))[i]? =some (z.cells[i % z.cells.size]!):=by simp [madeCells,hi]
     rw [this] at hx;rw [<- hx];simp [lU]
    rw [jq] at hx';exact aq _ _ _ _ _ hx' ht
  ·trivial
end
section
variable {P:Program}{N:Nat}{w0:World}{S0:aa}{o:Oper}{a:Act}{E:Env}{st:St}
theorem pN{S:ar}{w:World}{A:Option Addr}{len cap n:Nat}{xs:List T}(h:Rep S w (.slice A len cap) (.slice n xs)):Rep S w (.slice A len len) (.slice n xs):=by
 cases h with
 |slice _ b off _ _ _ _ g hlen hc hu h1 ha hg aq=>exact .slice A b off _ _ _ _ g hlen (Nat.le_refl _) hu h1 ha hg aq
theorem pe{t e:TypeId}(hu:P.underlying t=some (.pointer e))(n:Nat)(w:World)(ad:Addr):(Op.equalIn (n+1) t (.pointer (some ad)) (.pointer none)).run P w= .ok false w:=by simp [Op.equalIn,run_underlying hu]
theorem nY{t e:TypeId}(hu:P.underlying t=some (.pointer e))(n:Nat)(w:World):(Op.equalIn (n+1) t (.pointer none) (.pointer none)).run P w= .ok true w:=by simp [Op.equalIn,run_underlying hu]
theorem qC{t e:TypeId}(hu:P.underlying t=some (.slice e))(n:Nat)(w:World)(ad:Addr)(l c:Nat):(Op.equalIn (n+1) t (.slice (some ad) l c) (.slice none 0 0)).run P w= .ok false w:=by simp [Op.equalIn,run_underlying hu]
theorem pg{t e:TypeId}(hu:P.underlying t=some (.slice e))(n:Nat)(w:World):(Op.equalIn (n+1) t (.slice none 0 0) (.slice none 0 0)).run P w= .ok true w:=by simp [Op.equalIn,run_underlying hu]
theorem qB{t k e:TypeId}(hu:P.underlying t=some (.map k e))(n:Nat)(w:World)(g:Nat):(Op.equalIn (n+1) t (.map (some g)) (.map none)).run P w= .ok false w:=by simp [Op.equalIn,run_underlying hu]
theorem pd{t k e:TypeId}(hu:P.underlying t=some (.map k e))(n:Nat)(w:World):(Op.equalIn (n+1) t (.map none) (.map none)).run P w= .ok true w:=by simp [Op.equalIn,run_underlying hu]
theorem qA{t:TypeId}{a b c}(hu:P.underlying t=some (.func a b c))(n:Nat)(w:World)(f:Fn)(x y:Array Value):(Op.equalIn (n+1) t (.func f x y) .nilFunc).run P w= .ok false w:=by simp [Op.equalIn,run_underlying hu]
theorem pc{t:TypeId}{a b c}(hu:P.underlying t=some (.func a b c))(n:Nat)(w:World):(Op.equalIn (n+1) t .nilFunc .nilFunc).run P w= .ok true w:=by simp [Op.equalIn,run_underlying hu]
end
section
variable [Glb]{P:Program}{N:Nat}{w0:World}{S0:aa}{o:Oper}{a:Act}{E:Env}{st:St}
theorem nN(h:SR N w0 S0 E st a.tmps)(hd:ay N o.dst){t:TypeId}{X:Operand}{lo hi:Option Operand}{mx:Operand}(ho:o.op= .slice t X lo hi (some mx)){x:DOp}(hl:ah P o.op=some x):Sound P N w0 S0 o a E st (eff x (st.nm o.dst) st.sl st.bx):=by
 rw [ho] at hl;cases lo with
 |some lo=>simp [ah] at hl
 |none=>
 cases hi with
 |none=>simp [ah] at hl
 |some hi=>
 simp only [ah] at hl;split at hl
 ·rename_i e y hy' my hu hy hh hm;split at hl
  ·rename_i j hj;simp only [cond_eq_ite] at hl;split at hl
   ·rename_i aH;cases hl;have he:=af h.sl hy;have heh:=af h.sl hh;have hem:=af h.sl hm;unfold eff;simp only;split
    ·rename_i k1 hn k2 mn h1 h2;rw [h1] at heh;rw [h2] at hem;have run: ∀{A:Option Addr} {len cap:Nat},a.eval X= .slice A len cap->0<=hn->hn=mn->hn<=cap->(execOp a.eval o).run P E.w= .ok (.value (.slice (if hn.toNat=0 then A else A.map (·.add (0 * j.size))) hn.toNat hn.toNat)) E.w:=fun hX k1 k2 k3=>by
      subst k2;have e2:((hn.toNat:Nat):Int)=hn:=Int.toNat_of_nonneg k1;have e3:hn<=((hn.toNat:Nat):Int):=by omega
      unfold execOp;simp [ho,heh.aA,hem.aA,hX,Instr.sliceAt,Instr.slice,run_underlying hu,Instr.sliceBounds,Instr.sliceBound,asIntOf,k1,k3,run_sizeOf hj];intro hc;omega
     split
     ·rename_i sz xs ha;have hr:=aC he ha;cases hb:Nat.beq j.size sz with
      |false=>trivial
      |true=>
      have hs:j.size=sz:=Nat.eq_of_beq_eq_true hb;subst hs;have aH:0<j.size:=Nat.lt_of_lt_of_le (Nat.lt_succ_self 0) (nlZ aH);rintro ⟨q1,q2,q3⟩;generalize hX:a.eval X=v at hr;have hr0:=hr;obtain ⟨A,cap,rfl,cO⟩:=dU hr;have aJ:=run hX q1 q2 (by omega)
      by_cases h0:hn.toNat=0
      ·rw [if_pos h0,h0] at aJ;rw [h0,List.take_zero];exact ai h hd aJ (.full A 0 j.size [] (.slice A 0 0 0 0 j.size [] (fun _=>undef) rfl (Nat.le_refl _) (fun x hx=>by simp at hx) (fun t ht=>by simp at ht) (fun hh=>by simp at hh) (fun i hi=>by simp at hi) (fun i t ht=>by simp at ht)))
      ·rw [if_neg h0] at aJ;have dJ:=gR hr 0 hn.toNat (Nat.zero_le _) (by omega);rw [if_neg (by omega)] at dJ;simp only [Nat.sub_zero,List.drop_zero] at dJ;refine ai h hd aJ (.full _ _ _ _ ?_);exact pN dJ
     ·rename_i ha;have hr:=aC he ha;rintro ⟨q1,q2⟩;have hX:a.eval X= .slice none 0 0:=by
       generalize a.eval X=v at hr;cases hr;rfl
      have aJ:=run hX (by omega) (by omega) (by omega);rw [if_pos (by omega)] at aJ;have e0:hn.toNat=0:=by omega
      rw [e0] at aJ;clear e0;exact ai h hd aJ (.full none 0 j.size [] (.slice none 0 0 0 0 j.size [] (fun _=>undef) rfl (Nat.le_refl _) (fun x hx=>by simp at hx) (fun t ht=>by simp at ht) (fun hh=>by simp at hh) (fun i hi=>by simp at hi) (fun i t ht=>by simp at ht)))
     ·trivial
    ·trivial
   ·cases hl
  ·cases hl
 ·cases hl
theorem qI(h:SR N w0 S0 E st a.tmps)(hd:ay N o.dst){t:TypeId}{X:Operand}{y:O}(ho:o.op= .unOp .xor t X)(hy:ak X=some y):Sound P N w0 S0 o a E st (eff (.cpl y) (st.nm o.dst) st.sl st.bx):=by
 have he:=af h.sl hy;unfold eff;simp only;split
 ·rename_i k n hv;rw [hv] at he;exact ai h hd (v:=.int k (iF .xor k (if k.signed then -1 else k.max) n)) (by unfold execOp;simp [ho,he.aA,Op.unary];rfl) (.t _ _ (.int _ _))
 ·trivial
theorem oD(h:SR N w0 S0 E st a.tmps)(hd:ay N o.dst){op:BinOp}{t ty:TypeId}{X Y:Operand}{x y:O}(hop:op= .eql\/op= .neq)(ho:o.op= .binOp op t X Y ty)(hx:ak X=some x)(hy:ak Y=some y)
  {k:Nat} (hn:jW P t y=some k):Sound P N w0 S0 o a E st (eff (.isnil k (aL op) x) (st.nm o.dst) st.sl st.bx):=by
 have he:=af h.sl hx;have hy':=af h.sl hy;have fin: ∀{vx vy:Value} {b:Bool},a.eval X=vx->a.eval Y=vy->(binOp op t vx vy).run P E.w= .ok (.bool (cond (aL op) (!b) b)) E.w->eqGuard op t X Y vx vy=pure ()->
   Did P N w0 S0 o a E (st.app o.dst {val:=.t (.bool (cond (aL op) (!b) b))}):=fun {vx vy b} h1 h2 hb hg=>by
  refine ai h hd (v:=.bool (cond (aL op) (!b) b)) ?_ (.t _ _ (.bool _));unfold execOp;simp [ho,h1,h2,hg,hb]
 have eqrun: ∀{vx vy:Value} {b:Bool},(binOp .eql t vx vy=do pure (.bool (<- Op.equal t vx vy)))->(binOp .neq t vx vy=do pure (.bool (!(<- Op.equal t vx vy))))->(Op.equal t vx vy).run P E.w= .ok b E.w->(binOp op t vx vy).run P E.w= .ok (.bool (cond (aL op) (!b) b)) E.w:=fun {vx vy b} h0 h1 h2=>by
  rcases hop with rfl|rfl
  ·rw [h0];simp [h2,aL]
  ·rw [h1];simp [h2,aL]
 have no: ∀{r:cm},r= .no->Sound P N w0 S0 o a E st r:=fun hr=>by rw [hr];trivial
 have e0:cond (aL op) (!false) false=aL op:=by cases aL op <;> rfl
 have e1:cond (aL op) (!true) true= !aL op:=by cases aL op <;> rfl
 unfold jW at hn;split at hn
 ·
  rename_i el hu;cases hn;have hY:a.eval Y= .pointer none:=by
   have:=hy'.ax
   generalize a.eval Y=v at this;cases this;rfl
  have ne: ∀{ad:Addr},a.eval X= .pointer (some ad)->Did P N w0 S0 o a E (st.app o.dst {val:=.t (.bool (aL op))}):=fun {ad} hX=>by
   rw [<- e0];refine fin hX hY ?_ (by unfold eqGuard;rcases hop with rfl|rfl <;> rfl);exact eqrun rfl rfl (pe hu 9999 _ _)
  have nil:a.eval X= .pointer none->Did P N w0 S0 o a E (st.app o.dst {val:=.t (.bool (!aL op))}):=fun hX=>by
   rw [<- e1];refine fin hX hY ?_ (by unfold eqGuard;rcases hop with rfl|rfl <;> rfl);exact eqrun rfl rfl (nY hu 9999 _)
  cases hv:ev st.sl x with
  |ptr b off=>
   rw [hv] at he;simp only [eff,hv];exact ne he.bd.1
  |t u=>
   rw [hv] at he;have hr:=he.ax;cases u with
   |cptr cs off=>
    simp only [eff,hv];generalize hX:a.eval X=v at hr;cases hr;exact ne hX
   |glob g off=>
    simp only [eff,hv];generalize hX:a.eval X=v at hr;cases hr;exact ne hX
   |nilptr=>
    simp only [eff,hv];generalize hX:a.eval X=v at hr;cases hr;exact nil hX
   |_=>exact no (by simp only [eff,hv])
  |_=>exact no (by simp only [eff,hv])
 ·
  rename_i el hu;cases hn;have hY:a.eval Y= .slice none 0 0:=by
   have:=hy'.ax
   generalize a.eval Y=v at this;cases this;rfl
  have ne: ∀{ad:Addr} {len cap:Nat},a.eval X= .slice (some ad) len cap->Did P N w0 S0 o a E (st.app o.dst {val:=.t (.bool (aL op))}):=fun {ad len cap} hX=>by
   rw [<- e0];refine fin hX hY ?_ (by unfold eqGuard;rcases hop with rfl|rfl <;> rfl);exact eqrun rfl rfl (qC hu 9999 _ _ _ _)
  have data: ∀{v:V} {n:Nat} {xs:List T},VR E (a.eval X) v->asT v=some (.slice n xs)->0<(xs.flatMap T.cells).length->Did P N w0 S0 o a E (st.app o.dst {val:=.t (.bool (aL op))}):=fun hv ha hp=>by
   have hr:=aC hv ha;generalize hX:a.eval X=v at hr;cases hr with
   |slice A b off len cap _ _ g hlen hc hu h1 hA hg aq=>
   rw [hA hp] at hX;exact ne hX
  have gen: ∀{v:V},VR E (a.eval X) v->Sound P N w0 S0 o a E st (match asT v with
   |some (.slice _ xs)=>.need (0<(xs.flatMap T.cells).length) {val:=.t (.bool (aL op))}
   |_=>.no):=fun {v} hv=>by
   split
   ·rename_i n xs ha;intro hp;exact data hv ha hp
   ·trivial
  cases hv:ev st.sl x with
  |view b off len sz=>
   rw [hv] at he;simp only [eff,hv];obtain ⟨cap,hX,_⟩:=he.bJ;exact ne hX
  |t u=>
   rw [hv] at he;cases u with
   |nil=>
    simp only [eff,hv];have hr:=he.ax;generalize hX:a.eval X=v at hr;cases hr;show Did P N w0 S0 o a E (st.app o.dst {val:=.t (.bool (!aL op))})
    rw [<- e1];refine fin hX hY ?_ (by unfold eqGuard;rcases hop with rfl|rfl <;> rfl);exact eqrun rfl rfl (pg hu 9999 _)
   |_=>simp only [eff,hv];exact gen he
  |_=>rw [hv] at he;simp only [eff,hv];exact gen he
 ·
  rename_i kt el hu;cases hn;have hY:a.eval Y= .map none:=by
   have:=hy'.ax
   generalize a.eval Y=v at this;cases this;rfl
  have ne: ∀{g:Nat},a.eval X= .map (some g)->Did P N w0 S0 o a E (st.app o.dst {val:=.t (.bool (aL op))}):=fun {g} hX=>by
   rw [<- e0];refine fin hX hY ?_ (by unfold eqGuard;rcases hop with rfl|rfl <;> rfl);exact eqrun rfl rfl (qB hu 9999 _ _)
  cases hv:ev st.sl x with
  |mp b=>
   rw [hv] at he;simp only [eff,hv];exact ne he.eC.1
  |t u=>
   rw [hv] at he;have hr:=he.ax;cases u with
   |mapd ag sh ks vs=>
    simp only [eff,hv];generalize hX:a.eval X=v at hr;cases hr;exact ne hX
   |nilmap=>
    simp only [eff,hv];generalize hX:a.eval X=v at hr;cases hr;show Did P N w0 S0 o a E (st.app o.dst {val:=.t (.bool (!aL op))})
    rw [<- e1];refine fin hX hY ?_ (by unfold eqGuard;rcases hop with rfl|rfl <;> rfl);exact eqrun rfl rfl (pd hu 9999 _)
   |_=>exact no (by simp only [eff,hv])
  |_=>exact no (by simp only [eff,hv])
 ·
  rename_i p1 p2 p3 hu;cases hn;have hY:a.eval Y= .nilFunc:=by
   have:=hy'.ax
   generalize a.eval Y=v at this;cases this;rfl
  have ne: ∀{f:Fn} {c1 c2:Array Value},a.eval X= .func f c1 c2->Did P N w0 S0 o a E (st.app o.dst {val:=.t (.bool (aL op))}):=fun {f c1 c2} hX=>by
   rw [<- e0];refine fin hX hY ?_ (by unfold eqGuard;rcases hop with rfl|rfl <;> rfl);exact eqrun rfl rfl (qA hu 9999 _ _ _ _)
  cases hv:ev st.sl x with
  |fn f caps=>
   rw [hv] at he;simp only [eff,hv];generalize hX:a.eval X=v at he;cases he;exact ne hX
  |t u=>
   rw [hv] at he;have hr:=he.ax;cases u with
   |clos f caps=>
    simp only [eff,hv];generalize hX:a.eval X=v at hr;cases hr;exact ne hX
   |nilfn=>
    simp only [eff,hv];generalize hX:a.eval X=v at hr;cases hr;show Did P N w0 S0 o a E (st.app o.dst {val:=.t (.bool (!aL op))})
    rw [<- e1];refine fin hX hY ?_ (by unfold eqGuard;rcases hop with rfl|rfl <;> rfl);exact eqrun rfl rfl (pc hu 9999 _)
   |_=>exact no (by simp only [eff,hv])
  |_=>exact no (by simp only [eff,hv])
 ·cases hn
end
end Go.DL
end
section
namespace Go.DL
open Go.RowKit
section
variable [Glb]{P:Program}{N:Nat}{w0:World}{S0:aa}{o:Oper}{a:Act}{E:Env}{st:St}
theorem kI(h:SR N w0 S0 E st a.tmps)(hd:ay N o.dst){x:DOp}(hl:ah P o.op=some x):Sound P N w0 S0 o a E st (eff x (st.nm o.dst) st.sl st.bx):=by
 cases ho:o.op with
 |move X=>
  rw [ho] at hl;simp only [ah,Option.map_eq_some_iff] at hl;obtain ⟨y,hy,rfl⟩:=hl;exact nk h hd (.inl ho) hy
 |assign X=>
  rw [ho] at hl;simp only [ah,Option.map_eq_some_iff] at hl;obtain ⟨y,hy,rfl⟩:=hl;exact nk h hd (.inr ho) hy
 |pick c p q=>
  rw [ho] at hl;simp only [ah] at hl;split at hl
  ·rename_i h1 h2 h3;cases hl;exact qc h hd ho h1 h2 h3
  ·cases hl
 |alloc t=>exact oy h hd ho hl
 |box t X=>exact qH h hd ho hl
 |load t A=>exact pX h hd ho hl
 |store t A X=>exact oJ h hd ho hl
 |fieldAddr s X f=>exact qa h hd ho hl
 |field s X f=>exact oB h hd ho hl
 |indexAddr t X I=>exact kX h hd ho hl
 |index t X I=>exact oC h hd ho hl
 |build t ps=>exact oz h hd ho hl
 |extract X i=>
  rw [ho] at hl;simp only [ah,Option.map_eq_some_iff] at hl;obtain ⟨y,hy,rfl⟩:=hl;exact mS h hd ho hy
 |makeMap t r=>
  rw [ho] at hl;simp only [ah] at hl;split at hl
  ·split at hl
   ·cases hl;exact oE h hd ho _ _
   ·cases hl
  ·cases hl
 |range t M=>
  rw [ho] at hl;simp only [ah] at hl;split at hl
  ·cases hl;trivial
  ·cases hl
 |next X b=>
  rw [ho] at hl;cases b with
  |true=>cases hl
  |false=>
   simp only [ah,cond_false,Option.map_eq_some_iff] at hl;obtain ⟨y,hy,rfl⟩:=hl;trivial
 |entry X=>
  rw [ho] at hl;simp only [ah,Option.map_eq_some_iff] at hl;obtain ⟨y,hy,rfl⟩:=hl;exact p0 h hd ho hy
 |lookup t M K ok=>
  rw [ho] at hl;simp only [ah] at hl;split at hl
  ·rename_i kt e m k hu hm hk;split at hl
   ·rename_i sh z hs hz;cases hl;exact oG h hd ho hm hk hu hs hz
   ·cases hl
  ·cases hl
 |mapUpdate t M K V=>
  rw [ho] at hl;simp only [ah] at hl;split at hl
  ·rename_i kt e m k v hu hm hk hv;split at hl
   ·rename_i sh hs;cases hl;exact mA h hd (.inl ho) hm hk hv hu hs
   ·cases hl
  ·cases hl
 |insert t M K V=>
  rw [ho] at hl;simp only [ah] at hl;split at hl
  ·rename_i kt e m k v hu hm hk hv;split at hl
   ·rename_i sh hs;cases hl;exact mA h hd (.inr ho) hm hk hv hu hs
   ·cases hl
  ·cases hl
 |makeSlice t L C=>
  rw [ho] at hl;simp only [ah] at hl;split at hl
  ·rename_i e l c hu hL hC;split at hl
   ·rename_i j zs hj hz;simp only [cond_eq_ite] at hl;split at hl
    ·rename_i hp;cases hl;exact mU h hd ho hL hC hu hj hz (Nat.lt_of_lt_of_le (Nat.lt_succ_self 0) (nlZ hp))
    ·cases hl
   ·cases hl
  ·cases hl
 |sliceToArrayPointer t X=>
  rw [ho] at hl;simp only [ah] at hl;split at hl
  ·rename_i hu hy;cases hl;exact pU h hd ho hu hy
  ·cases hl
 |nilCheck X=>
  rw [ho] at hl;simp only [ah,Option.map_eq_some_iff] at hl;obtain ⟨y,hy,rfl⟩:=hl;exact oH h hd ho hy
 |convert s t X=>exact mR h hd ho hl
 |unOp op t X=>
  rw [ho] at hl;cases op with
  |not=>
   simp only [ah,Option.map_eq_some_iff] at hl;obtain ⟨y,hy,rfl⟩:=hl;exact qP h hd ho hy
  |xor=>
   simp only [ah,Option.map_eq_some_iff] at hl;obtain ⟨y,hy,rfl⟩:=hl;exact qI h hd ho hy
  |neg=>
   simp only [ah,Option.map_eq_some_iff] at hl;obtain ⟨y,hy,rfl⟩:=hl;exact qO h hd ho hy
  |_=>cases hl
 |makeFunc fn first caps=>
  rw [ho] at hl;simp only [ah] at hl;split at hl
  ·rename_i f cs hcs;cases hb:Nat.beq first.size 0 with
   |false=>rw [hb] at hl;cases hl
   |true=>
    rw [hb] at hl;simp only [cond_true,Option.some.injEq] at hl;subst hl
    have:first= #[]:=Array.eq_empty_of_size_eq_zero (Nat.eq_of_beq_eq_true hb)
    subst this;exact mz h hd ho hcs
  ·cases hl
 |slice t X lo hi mx=>
  cases mx with
  |none=>exact oI h hd ho hl
  |some m=>exact nN h hd ho hl
 |binOp op t X Y ty=>
  rw [ho] at hl;simp only [ah] at hl;split at hl
  ·rename_i x' y' hx hy;have hex:=af h.sl hx;have hey:=af h.sl hy;have bin:Sound P N w0 S0 o a E st (eff (.bin op x' y') (st.nm o.dst) st.sl st.bx):=by
    unfold eff;simp only;split
    ·rename_i k m k' n h1 h2;rw [h1] at hex;rw [h2] at hey;exact pR op k k' m n t ty h hd X Y ho hex.aA hey.aA
    ·rename_i s s' h1 h2;rw [h1] at hex;rw [h2] at hey;exact pS op s s' t ty h hd X Y ho hex.bf hey.bf
    ·trivial
   have eqs:op= .eql\/op= .neq->(match P.underlying t with
     |some (.int _)=>some (DOp.bin op x' y')
     |some .string=>some (.bin op x' y')
     |some .bool=>some (.eqB (aL op) x' y')
     |_=>match shapeOf P 100 t with
      |some sh=>cond (P.eqGuardType P.depth t|| !au P t) none (some (.eqv (aL op) sh x' y'))
      |none=>none)=some x->Sound P N w0 S0 o a E st (eff x (st.nm o.dst) st.sl st.bx):=by
    intro hop hm;split at hm
    ·cases hm;exact bin
    ·cases hm;exact bin
    ·rename_i hu;cases hm;exact qJ h hd hop ho hx hy hu
    ·split at hm
     ·rename_i sh hsh;cases hc:(P.eqGuardType P.depth t|| !au P t) with
      |true=>rw [hc] at hm;cases hm
      |false=>
       rw [hc] at hm;simp only [cond_false,Option.some.injEq] at hm;subst hm;rw [Bool.or_eq_false_iff] at hc;exact qK h hd hop ho hx hy hsh hc.1 (by simpa using hc.2)
     ·cases hm
   have eqs0:op= .eql\/op= .neq->(match jW P t y' with
     |some k=>some (DOp.isnil k (aL op) x')
     |none=>match P.underlying t with
     |some (.int _)=>some (DOp.bin op x' y')
     |some .string=>some (.bin op x' y')
     |some .bool=>some (.eqB (aL op) x' y')
     |_=>match shapeOf P 100 t with
      |some sh=>cond (P.eqGuardType P.depth t|| !au P t) none (some (.eqv (aL op) sh x' y'))
      |none=>none)=some x->Sound P N w0 S0 o a E st (eff x (st.nm o.dst) st.sl st.bx):=by
    intro hop hm;cases pz:jW P t y' with
    |some k=>
     rw [pz] at hm;simp only [Option.some.injEq] at hm;subst hm;exact oD h hd hop ho hx hy pz
    |none=>
     rw [pz] at hm;exact eqs hop hm
   cases op with
   |eql=>exact eqs0 (.inl rfl) hl
   |neq=>exact eqs0 (.inr rfl) hl
   |_=>cases hl;exact bin
  ·cases hl
 |call c=>
  rw [ho] at hl;obtain ⟨callee,args,argTypes⟩:=c;simp only [ah,bG] at hl;split at hl
  ·split at hl
   ·rename_i fn az hf has;cases hc:(fn.body.isSome&&fn.name != "runtime.NumGoroutine") with
    |false=>rw [hc] at hl;cases hl
    |true=>rw [hc] at hl;cases hl;trivial
   ·cases hl
  ·split at hl
   ·cases hl;trivial
   ·cases hl
  ·split at hl
   ·rename_i X t h1 h2;have e1:args= #[X]:=Array.toList_inj.1 (by simpa using h1);have e2:argTypes= #[t]:=Array.toList_inj.1 (by simpa using h2);subst e1;subst e2;split at hl
    ·rename_i e y hu hy;cases hl;exact qL h hd ho hy hu
    ·rename_i y hu hy;cases hl;exact pW h hd ho hy hu
    ·rename_i y hu hy;cases hl;exact p9 h hd ho hy hu
    ·cases hl
   ·cases hl
  ·split at hl
   ·rename_i X Y h1;have e1:args= #[X,Y]:=Array.toList_inj.1 (by simpa using h1);subst e1;split at hl
    ·rename_i x' y' hx hy;cases hl;exact qM h hd ho hx hy
    ·cases hl
   ·cases hl
  ·split at hl
   ·rename_i X Y h1;have e1:args= #[X,Y]:=Array.toList_inj.1 (by simpa using h1);subst e1;split at hl
    ·rename_i x' y' hx hy;cases hl;exact qN h hd ho hx hy
    ·cases hl
   ·cases hl
  ·split at hl
   ·split at hl
    ·split at hl
     ·simp only [cond_eq_ite] at hl;split at hl
      ·cases hl;trivial
      ·cases hl
     ·cases hl
    ·cases hl
   ·cases hl
  ·split at hl
   ·rename_i X t h1 h2;have e1:args= #[X]:=Array.toList_inj.1 (by simpa using h1);have e2:argTypes= #[t]:=Array.toList_inj.1 (by simpa using h2);subst e1;subst e2;split at hl
    ·rename_i e y hu hy;split at hl
     ·rename_i j zs hj hz;simp only [cond_eq_ite] at hl;split at hl
      ·rename_i hp;cases hl;exact oA h hd ho hy hu hj hz (Nat.lt_of_lt_of_le (Nat.lt_succ_self 0) (nlZ hp))
      ·cases hl
     ·cases hl
    ·rename_i y hu hy;cases hl;exact pY h hd ho hy hu
    ·cases hl
   ·cases hl
  ·split at hl
   ·rename_i X Y t t2 h1 h2;have e1:args= #[X,Y]:=Array.toList_inj.1 (by simpa using h1);have e2:argTypes= #[t,t2]:=Array.toList_inj.1 (by simpa using h2);subst e1;subst e2;split at hl
    ·rename_i e x' y' hu hx hy;split at hl
     ·rename_i j hj;simp only [cond_eq_ite] at hl;split at hl
      ·rename_i hp;cases hl;exact pV h hd ho hx hy hu hj (Nat.eq_of_beq_eq_true hp)
      ·cases hl
     ·cases hl
    ·cases hl
   ·cases hl
  ·split at hl
   ·rename_i X K t t2 h1 h2;have e1:args= #[X,K]:=Array.toList_inj.1 (by simpa using h1);have e2:argTypes= #[t,t2]:=Array.toList_inj.1 (by simpa using h2);subst e1;subst e2;split at hl
    ·rename_i kt e m k hu hm hk;split at hl
     ·rename_i sh hs;cases hl;exact pZ h hd ho hm hk hu hs
     ·cases hl
    ·cases hl
   ·cases hl
  ·cases hl
 |buildSlice t n ps=>
  rw [ho] at hl;simp only [ah] at hl;split at hl
  ·split at hl
   ·split at hl
    ·simp only [cond_eq_ite] at hl;split at hl
     ·cases hl;trivial
     ·cases hl
    ·cases hl
   ·cases hl
  ·cases hl
 |panic X=>rw [ho] at hl;simp only [ah] at hl;cases hl;trivial
 |makeInterface t X=>rw [ho] at hl;simp only [ah] at hl;cases hl;trivial
 |_=>rw [ho] at hl;simp [ah] at hl
end
end Go.DL
end
section
namespace Go.DL
open Go.RowKit
section
variable [Glb]{P:Program}{N:Nat}{w0:World}{S0:aa}{o:Oper}{a:Act}{E:Env}{st:St}
def bt(N:Nat)(w0:World)(S0:aa)(a:Act)(st':St)(a':Act)(w':World):Prop:= ∃E':Env,E'.w=w'/\SR N w0 S0 E' st' a'.tmps/\a'.defers=a.defers
theorem mW(h:SR N w0 S0 E st a.tmps)(hd:ay N o.dst){f:FuncId}{vs:Array Value}{us:List V}(hex:(execOp a.eval o).run P E.w= .ok (.enter f vs) E.w)(hlen:vs.size=us.length)
  (hv: ∀(i:Nat) (v:Value) (u:V),vs[i]? =some v->us[i]? =some u->VR E v u) {ts:List T} {rd:List Nat} (hc:bm st.bx us=some (ts,rd)) {r:T} (hr:DCalls P f ts r) (hf:rd=[]\/r.flat=true)
  {Q:Exit->Act->World->Prop} {rd':List Nat}:o.wp P a E.w (bt N w0 S0 a (st.app o.dst {val:=.t r,rd:=rd' })) Q:=by
 obtain ⟨c1,c2⟩:=ed h.bx hc;have hlt: ∀b x,Sx E rd b x->b<E.w.heap.size:=by
  rintro b x (h1|⟨n,_,hl,rfl⟩)
  ·exact h.lt b x h1
  ·rw [h.live] at hl;obtain ⟨b',hb'⟩:=Option.isSome_iff_exists.1 hl;obtain ⟨_,hg,_⟩:=(h.bx n b' hb').at_;exact (Array.getElem?_eq_some_iff.1 hg).1
 have bZ:=hr.2 (Sx E rd) E.w vs.toList hlt (h.nF rd) (by simp;omega) (fun i v t hvi ht=>by
  have hi:i<us.length:=by rw [c1];exact (gsZ ht).1
  exact c2 i v _ t (hv i v _ (by simpa using hvi) (ggZ hi)) (ggZ hi) ht)
 unfold Oper.wp;rw [hex];show Calls P f vs E.w _
 refine Calls.mono (by simpa using bZ) ?_;rintro e w' ⟨v,rfl,hb,aq⟩;rcases hf with rfl|hf
 ·have h':=h.world hb (fun b o=>E.S b o\/(E.w.heap.size<=b/\b<w'.heap.size)) (fun b o=>⟨fun hh=>hh.elim .inl fun k=>.inr ⟨.inr k,k⟩,fun hh=>hh.elim .inl fun k=>k.1⟩);refine ⟨_,rfl,h'.cJ hd (.t _ _ (aq.mono (fun b o hh=>?_) (fun _ _ _=>aB.rfl))),by cases o.dst <;> rfl⟩;rcases hh with (h1|⟨n,hn,_⟩)|h1
  ·exact .inl h1
  ·simp at hn
  ·exact .inr h1
 ·have h':=h.world hb E.S (fun b o=>⟨.inl,fun hh=>hh.elim id fun k=>k.1⟩);exact ⟨_,rfl,h'.cJ hd (.t _ _ (aq.of_flat hf)),by cases o.dst <;> rfl⟩
def inR:cm->Eff->Prop
 |.no,_=>False
 |.yes e0,e=>e=e0
 |.need c e0,e=>c/\e=e0
 |.alt c b f,e=>c/\e=f b
 |.eq c t f,e=>c/\e=f t
def jl:V->Option (FuncId×List V)
 |.t (.clos f caps)=>some (f,caps.map .t)
 |.fn f caps=>some (f,caps)
 |_=>none
def cG(P:Program)(op:DOp)(d:Option Nat)(st:St)(e:Eff):Prop:=
 match op with
 |.call f args=> ∃ts rd r,bm st.bx (args.map (ev st.sl))=some (ts,rd)/\DCalls P f ts r/\(rd=[]\/r.flat=true)/\e={val:=.t r,rd:=rd }
 |.bV x args=> ∃f caps,jl (ev st.sl x)=some (f,caps)/\ ∃ts rd r,bm st.bx (args.map (ev st.sl)++caps)=some (ts,rd)/\DCalls P f ts r/\(rd=[]\/r.flat=true)/\e={val:=.t r,rd:=rd }
 |.mcall ms f args=> ∃(need:List (Nat×BX)) (fr:List Nat) (m:Nat) (b:BX) (r:T),MC P f (args.map (ev st.sl)) need fr m b r/\(∀ p∈need,st.bx p.1=some p.2)/\(∀ n∈fr,st.bx n=none)/\m∈ms/\(st.bx m).isSome=true/\e={val:=.t r,wr:=some (m,b)}
 |op=>inR (eff op d st.sl st.bx) e
def cA(P:Program)(i:DI)(st:St)(e:Eff):Prop:=
 match i.guard with
 |none=>cG P i.op (st.nm i.dst) st e
 |some (g,want)=>(∃ b,st.sl g= .t (.bool b)/\((b=want/\cG P i.op (st.nm i.dst) st e)\/(b≠want/\e={val:=bE })))\/(st.sl g=bE/\e={val:=bE })
def DOp.plain:DOp->Bool
 |.append _ _ _ _ _ _=>false
 |.appV _ _ _ _=>false
 |.buildS _ _ _ _ _=>false
 |.inl _ _=>false
 |.fcall _ _=>false
 |.mrng _=>false
 |.mnext _=>false
 |_=>true
end
section
variable {P:Program}{N:Nat}{w0:World}{S0:aa}{o:Oper}{a:Act}{E:Env}{st:St}
theorem e6{f:FuncId}{args:Array Operand}{ts:Array TypeId}{X:Operand}{caps:Array Value}(ho:o.op= .call {callee:=.value X,args:=args,argTypes:=ts })(hX:a.eval X= .func (.func f) #[] caps)(hc:bH P f):
  (execOp a.eval o).run P E.w= .ok (.enter f (args.map a.eval++caps)) E.w:=by
 unfold execOp;simp [ho,resolve,hX,Deferred.ofValue,invoke,hc _ _]
theorem fQ(hs: ∀m,VR E (a.tmps.getD m undef) (st.sl m)){args:Array Operand}{ys:List O}(hy:dM args.toList=some ys):
  args.size=ys.length/\ ∀(i:Nat) (v:Value) (u:V),(args.map a.eval)[i]? =some v->(ys.map (ev st.sl))[i]? =some u->VR E v u:=by
 obtain ⟨h1,h2⟩:=gL _ _ _ hy;refine ⟨by simpa using h1,fun i v u hv hu=>?_⟩;simp only [Array.getElem?_map,Option.map_eq_some_iff] at hv;simp only [List.getElem?_map,Option.map_eq_some_iff] at hu;obtain ⟨X,hX,rfl⟩:=hv;obtain ⟨y,hy,rfl⟩:=hu;exact af hs (h2 i X y (by simpa using hX) hy)
theorem eh{callee:Callee}{az:Array Operand}{argTypes:Array TypeId}{x:DOp}(hl:bG P {callee:=callee,args:=az,argTypes:=argTypes }=some x):
  (∀ f args,x= .call f args->callee= .value (.func f)/\dM az.toList=some args)/\(∀ y args,x= .bV y args-> ∃X,callee= .value X/\ak X=some y/\dM az.toList=some args):=by
 simp only [bG] at hl;split at hl
 ·split at hl
  ·rename_i fn as' hfn has;simp only [cond_eq_ite] at hl;split at hl
   ·cases hl;exact ⟨(fun f args e=>by cases e;exact ⟨rfl,has⟩),(fun y args e=>by cases e)⟩
   ·cases hl
  ·cases hl
 ·rename_i X _;split at hl
  ·rename_i y' as' hy has;cases hl;exact ⟨(fun f args e=>by cases e),fun y args e=>by cases e;exact ⟨X,rfl,hy,has⟩⟩
  ·cases hl
 all_goals (repeat (first|(split at hl)|(simp only [cond_eq_ite] at hl))) <;> cases hl <;> exact ⟨(fun f args e=>by cases e),fun y args e=>by cases e⟩
end
section
variable [Glb]{P:Program}{N:Nat}{w0:World}{S0:aa}{o:Oper}{a:Act}{E:Env}{st:St}
def DOp.bC:DOp->Bool
 |.call _ _=>true
 |.bV _ _=>true
 |_=>false
end
section
variable {P:Program}{N:Nat}{w0:World}{S0:aa}{o:Oper}{a:Act}{E:Env}{st:St}
theorem eN{op:Op}{x:DOp}(hl:ah P op=some x)(hx:x.bC=true): ∃c,op= .call c/\bG P c=some x:=by
 have no: ∀{y:DOp},some y=some x->y.bC=false->False:=fun h1 h2=>by cases h1;rw [hx] at h2;cases h2
 cases op with
 |call c=>exact ⟨c,rfl,hl⟩
 |unOp op t X=>
  exfalso;cases op <;> simp only [ah,Option.map_eq_some_iff] at hl <;> first|(obtain ⟨_,_,rfl⟩:=hl;cases hx)|cases hl
 |slice t X lo hi mx=>
  exfalso;cases lo <;> cases hi <;> cases mx <;> simp only [ah] at hl <;> repeat' (first|exact no hl rfl|(split at hl)|(simp only [cond_eq_ite] at hl)|(cases hl;done))
 |binOp op t X Y ty=>
  exfalso;cases op <;> simp only [ah] at hl <;> repeat' (first|exact no hl rfl|(split at hl)|(simp only [cond_eq_ite] at hl)|(cases hl;done))
 |_=>
  exfalso;simp only [ah] at hl
  repeat' (first|exact no hl rfl|(split at hl)|(simp only [cond_eq_ite] at hl)|(simp only [Option.map_eq_some_iff] at hl;obtain ⟨_,_,rfl⟩:=hl;cases hx)|(cases hl;done))
theorem kM{op:Op}{ms:List Nat}{f:FuncId}{args:List O}(hl:ah P op=some (.mcall ms f args)):False:=by
 have no: ∀{y:DOp},some y=some (DOp.mcall ms f args)->(match y with|.mcall _ _ _=>true|_=>false)=false->False:=fun h1 h2=>by cases h1;cases h2
 cases op with
 |call c=>
  obtain ⟨callee,az,argTypes⟩:=c;simp only [ah,bG] at hl
  repeat' (first|exact no hl rfl|(split at hl)|(simp only [cond_eq_ite] at hl)|(cases hl;done))
 |unOp op t X=>
  cases op <;> simp only [ah,Option.map_eq_some_iff] at hl <;> first|(obtain ⟨_,_,hl⟩:=hl;cases hl)|cases hl
 |slice t X lo hi mx=>
  cases lo <;> cases hi <;> cases mx <;> simp only [ah] at hl <;> repeat' (first|exact no hl rfl|(split at hl)|(simp only [cond_eq_ite] at hl)|(cases hl;done))
 |binOp op t X Y ty=>
  cases op <;> simp only [ah] at hl <;> repeat' (first|exact no hl rfl|(split at hl)|(simp only [cond_eq_ite] at hl)|(cases hl;done))
 |_=>
  simp only [ah] at hl
  repeat' (first|exact no hl rfl|(split at hl)|(simp only [cond_eq_ite] at hl)|(simp only [Option.map_eq_some_iff] at hl;obtain ⟨_,_,hl⟩:=hl;cases hl;done)|(cases hl;done))
end
section
variable [Glb]{P:Program}{N:Nat}{w0:World}{S0:aa}{o:Oper}{a:Act}{E:Env}{st:St}
theorem qz(h:SR N w0 S0 E st a.tmps)(hd:ay N o.dst){x:DOp}(hl:ah P o.op=some x){e:Eff}(he:cG P x (st.nm o.dst) st e){Q:Exit->Act->World->Prop}:o.wp P a E.w (bt N w0 S0 a (st.app o.dst e)) Q:=by
 have did:Did P N w0 S0 o a E (st.app o.dst e)->o.wp P a E.w (bt N w0 S0 a (st.app o.dst e)) Q:=by
  rintro ⟨nx,v,E',hr,hnx,hsr⟩;unfold Oper.wp;rw [hr];rcases hnx with rfl|⟨rfl,rfl⟩
  ·exact ⟨E',rfl,hsr,by cases o.dst <;> rfl⟩
  ·exact ⟨E',rfl,hsr,by cases o.dst <;> rfl⟩
 have plain:inR (eff x (st.nm o.dst) st.sl st.bx) e->o.wp P a E.w (bt N w0 S0 a (st.app o.dst e)) Q:=fun hi=>by
  have hs:=kI h hd hl;cases hr:eff x (st.nm o.dst) st.sl st.bx with
  |no=>rw [hr] at hi;exact hi.elim
  |yes e0=>rw [hr] at hi hs;cases hi;exact did hs
  |need c e0=>rw [hr] at hi hs;obtain ⟨hc,rfl⟩:=hi;exact did (hs hc)
  |alt c b f=>rw [hr] at hi hs;obtain ⟨hc,rfl⟩:=hi;exact did (hs hc)
  |eq c t f=>rw [hr] at hi hs;obtain ⟨hc,rfl⟩:=hi;exact did (hs hc)
 cases x with
 |call f args=>
  obtain ⟨ts,rd,r,hc,hr,hf,rfl⟩:=he;obtain ⟨⟨callee,az,argTypes⟩,ho,hl'⟩:=eN hl rfl;obtain ⟨rfl,has⟩:=(eh hl').1 f args rfl;obtain ⟨h1,h2⟩:=fQ h.sl has;have hex:=e6 (E:=E) (a:=a) (caps:= #[]) ho rfl hr.1;rw [Array.append_empty] at hex;exact mW h hd hex (by simp [h1]) h2 hc hr hf
 |bV x args=>
  obtain ⟨f,caps,hfn,ts,rd,r,hc,hr,hf,rfl⟩:=he;obtain ⟨⟨callee,az,argTypes⟩,ho,hl'⟩:=eN hl rfl;obtain ⟨X,rfl,hX,has⟩:=(eh hl').2 x args rfl;obtain ⟨h1,h2⟩:=fQ h.sl has;have hx:=af h.sl hX;have key: ∃cv:Array Value,a.eval X= .func (.func f) #[] cv/\cv.size=caps.length/\ ∀(i:Nat) (v:Value) (u:V),cv[i]? =some v->caps[i]? =some u->VR E v u:=by
   unfold jl at hfn;split at hfn
   ·rename_i g cs hv;simp only [Option.some.injEq,Prod.mk.injEq] at hfn;obtain ⟨rfl,rfl⟩:=hfn;rw [hv] at hx;have aq:=hx.ax;generalize a.eval X=v at aq;cases aq with
    |clos _ cv _ hs hh=>
     refine ⟨cv,rfl,by simpa using hs,fun i v u hv hu=>?_⟩;simp only [List.getElem?_map,Option.map_eq_some_iff] at hu;obtain ⟨t,ht,rfl⟩:=hu;exact .t _ _ (hh i v t hv ht)
   ·rename_i g cs hv;simp only [Option.some.injEq,Prod.mk.injEq] at hfn;obtain ⟨rfl,rfl⟩:=hfn;rw [hv] at hx;generalize a.eval X=v at hx;cases hx with
    |fn _ cv _ hs hh=>exact ⟨cv,rfl,hs,hh⟩
   ·cases hfn
  obtain ⟨cv,hX',hsz,hcv⟩:=key;have hex:=e6 (E:=E) (a:=a) ho hX' hr.1;refine mW h hd hex (by simp [h1,hsz]) (fun i v u hv hu=>?_) hc hr hf
  by_cases hi:i<az.size
  ·rw [Array.getElem?_append_left (by simpa using hi)] at hv;rw [List.getElem?_append_left (by simp;omega)] at hu;exact h2 i v u hv hu
  ·rw [Array.getElem?_append_right (by simp;omega)] at hv;rw [List.getElem?_append_right (by simp;omega)] at hu;simp only [Array.size_map,List.length_map] at hv hu;rw [<- h1] at hu;exact hcv _ v u hv hu
 |mcall ms f args=>exact (kM hl).elim
 |_=>exact plain he
end
end Go.DL
end
section
namespace Go.DL
open Go.RowKit
section
variable [Glb]{P:Program}{N:Nat}{w0:World}{S0:aa}{o:Oper}{a:Act}{E:Env}{st:St}
theorem SR.step{E':Env}{b:Array Value}(h:SR N w0 S0 E st b)(g:Grow E E')(hk:E'.κ=E.κ)(hl:E'.live=E.live)(hbx: ∀n,E.live n=true->E'.w.heap[E.κ n]? =E.w.heap[E.κ n]? /\ ∀o, ¬E'.S (E.κ n) o)
  (rZ: ∀r g,E'.ρ r=some g->E'.B<=g/\g<E'.w.heap.size/\ ∀n,E'.live n=true->E'.κ n≠g) (rY: ∀r r' g,E'.ρ r=some g->E'.ρ r'=some g->r=r') (hlt: ∀b o,E'.S b o->b<E'.w.heap.size)
  (hb:Below w0.heap.size w0 E'.w) (hs1: ∀b o,E'.S b o->S0.S b o\/w0.heap.size<=b) (hob: ∀(k:Nat) (o:Obj),cp o=true->E.w.heap[k]? =some o->E'.w.heap[k]? =some o):SR N w0 S0 E' st b:=by
 refine ⟨h.size,g.B.trans h.base,h.glob,fun m=>(h.sl m).grow g,fun k m=>(h.gh k m).grow g,fun n b' hn=>?_,fun n=>by rw [hl];exact h.live n,by rw [hk,hl];exact h.inj,rZ,rY,hlt,hb,fun b o hs=>g.S b o (h.s0 b o hs),hs1,fun k o hk=>⟨(h.obj k o hk).1,hob k o (h.obj k o hk).1 (h.obj k o hk).2⟩,h.cx⟩;have ql:E.live n=true:=by rw [h.live,hn];rfl
 obtain ⟨h1,h2⟩:=hbx n ql;rw [hk];exact (h.bx n b' hn).grow g h1 h2
end
section
variable {P:Program}{N:Nat}{w0:World}{S0:aa}{o:Oper}{a:Act}{E:Env}{st:St}
mutual
theorem VR.dg{ρ':Nat->Option Nat}{r d:Nat}(hρ: ∀q,q≠r->q≠d->ρ' q=E.ρ q): ∀{u:V} {v:Value},VR E v u->VR {E with ρ:=ρ' } v (DL.dg r d u)
 |.top,v,_=>.top v
 |.raw x,v,h=>by
  cases h with
  |raw _ h1=>exact .raw _ h1
 |.t x,v,h=>.t v x h.ax
 |.ptr n off,v,h=>by
  obtain ⟨rfl,hl⟩:=h.bd;exact .ptr (E:={E with ρ:=ρ' }) n off hl
 |.mp n,v,h=>by
  obtain ⟨rfl,hl⟩:=h.eC;exact .mp (E:={E with ρ:=ρ' }) n hl
 |.view n off len size,v,h=>by
  obtain ⟨cap,rfl,hc,hl⟩:=h.bJ;exact .view (E:={E with ρ:=ρ' }) n off len size cap hl hc
 |.own q e n xs,v,h=>by
  have ho:=h.eU;unfold DL.dg;cases hc:(Nat.beq q r||Nat.beq q d) with
  |true=>exact .t _ _ ho.rep
  |false=>
   rw [Bool.or_eq_false_iff] at hc;have h1:q≠r:=fun e=>by rw [e,cz] at hc;cases hc.1
   have h2:q≠d:=fun e=>by rw [e,cz] at hc;cases hc.2
   exact .own _ _ _ _ _ ⟨ho.ex,ho.uni,ho.one,fun g hg=>⟨(hρ q h1 h2).trans (ho.row g hg).1,(ho.row g hg).2⟩⟩
 |.full size xs,v,h=>by
  cases h with
  |full a len _ _ hr=>exact .full (E:={E with ρ:=ρ' }) a len size xs hr
 |.fn f caps,v,h=>by
  cases h with
  |fn _ cs _ hs hh=>
   obtain ⟨h1,h2⟩:=VR.dgs hρ (cs:=cs) (us:=caps) hs hh;exact .fn f cs _ h1 h2
 |.tup vs,v,h=>by
  cases h with
  |tup cs _ hs hh=>
   obtain ⟨h1,h2⟩:=VR.dgs hρ (cs:=cs) (us:=vs) hs hh;exact .tup cs _ h1 h2
 |.agv vs,v,h=>by
  cases h with
  |agv cs _ hs h1 hh=>
   obtain ⟨k1,k2⟩:=VR.dgs hρ (cs:=cs) (us:=vs) hs hh;exact .agv cs _ k1 h1 k2
theorem VR.dgs{ρ':Nat->Option Nat}{r d:Nat}(hρ: ∀q,q≠r->q≠d->ρ' q=E.ρ q): ∀{us:List V} {cs:Array Value},cs.size=us.length->(∀ (i:Nat) (x:Value) (u:V),cs[i]? =some x->us[i]? =some u->VR E x u)->
  cs.size=(DL.dgs r d us).length/\ ∀(i:Nat) (x:Value) (u:V),cs[i]? =some x->(DL.dgs r d us)[i]? =some u->VR {E with ρ:=ρ' } x u
 |[],cs,hs,_=>⟨hs,fun i x u _ hu=>by simp [DL.dgs] at hu⟩
 |u0::us,cs,hs,h=>by
  have aH:0<cs.size:=by simp at hs;omega
  have h0:=VR.dg hρ (h 0 cs[0] u0 (by simp [aH]) rfl);obtain ⟨h1,h2⟩:=VR.dgs hρ (us:=us) (cs:=cs.extract 1 cs.size) (by simp at hs ⊢;omega) (fun i x u hx hu=>h (i+1) x u (by
   rw [Array.getElem?_extract] at hx;split at hx
   ·rwa [Nat.add_comm] at hx
   ·cases hx) (by simpa using hu))
  refine ⟨by simp [DL.dgs] at h1 ⊢;omega,fun i x u hx hu=>?_⟩;cases i with
  |zero=>
   simp [DL.dgs,aH] at hx hu;subst hx;subst hu;exact h0
  |succ i=>
   have hlt:i+1<cs.size:=(Array.getElem?_eq_some_iff.1 hx).1;exact h2 i x u (by rw [Array.getElem?_extract,if_pos (by omega),Nat.add_comm];exact hx) (by simpa [DL.dgs] using hu)
end
theorem kj(r d:Nat): ∀vs:List V,DL.dgs r d vs=vs.map (DL.dg r d)
 |[]=>rfl
 |v::vs=>by unfold DL.dgs;rw [kj r d vs];rfl
end
section
variable [Glb]{P:Program}{N:Nat}{w0:World}{S0:aa}{o:Oper}{a:Act}{E:Env}{st:St}
theorem SR.dg{b:Array Value}(h:SR N w0 S0 E st b)(r d:Nat):SR N w0 S0 {E with ρ:=fun q=>if q=r\/q=d then none else E.ρ q } (st.dg r d) b:=by
 have hρ: ∀q,q≠r->q≠d->(fun q=>if q=r\/q=d then none else E.ρ q) q=E.ρ q:=fun q h1 h2=>by simp [h1,h2]
 have gG: ∀q g,(if q=r\/q=d then none else E.ρ q)=some g->E.ρ q=some g:=fun q g hq=>by
  split at hq
  ·cases hq
  ·exact hq
 refine ⟨h.size,h.base,h.glob,fun m=>(h.sl m).dg hρ,fun k m=>(h.gh k m).dg hρ,fun n b' hn=>?_,fun n=>?_,h.inj,fun q g hq=>h.rows q g (gG q g hq),fun q q' g h1 h2=>h.rinj q q' g (gG q g h1) (gG q' g h2),h.lt,h.below,h.s0,h.s1,h.obj,h.cx⟩
 ·have hn:(st.bx n).map (dgB r d)=some b':=hn;simp only [Option.map_eq_some_iff] at hn;obtain ⟨b0,hb0,rfl⟩:=hn;have hB:=h.bx n b0 hb0;obtain ⟨ob,hg,hob⟩:=hB.at_;refine ⟨hB.old,hB.free,ob,hg,?_⟩;cases hob with
  |map arr clock ag sh es mb hm=>exact .map arr clock ag sh es mb ⟨hm.size,hm.at_,hm.lt,hm.apart,hm.mb⟩
  |itd k arr c ag sh es ix hgk hS hR=>exact bM.itd (E:={E with ρ:=fun q=>if q=r\/q=d then none else E.ρ q }) k arr c ag sh es ix hgk hS ⟨hR.size,hR.at_,hR.lt,hR.apart,hR.mb⟩
  |it m bs c ix hl=>exact bM.it (E:={E with ρ:=fun q=>if q=r\/q=d then none else E.ρ q }) m bs c ix hl
  |cells cs e _ hc=>
  refine .cells cs e _ ?_;cases hc with
  |d m ts hl hs hh=>exact .d m ts hl hs hh
  |v vs hs hh=>
   refine .v _ (by rw [kj,List.length_map];exact hs) (fun i x u hx hu=>?_);rw [kj,List.getElem?_map,Option.map_eq_some_iff] at hu;obtain ⟨u0,hu0,rfl⟩:=hu;obtain ⟨h1,h2⟩:=hh i x u0 hx hu0;exact ⟨h1.dg hρ,h2⟩
 ·show E.live n=((st.bx n).map (dgB r d)).isSome
  rw [h.live,Option.isSome_map]
structure fC (E:Env) (size:Nat) (ys:List T) (news:List Value):Prop where
 len:news.length=(ys.flatMap T.cells).length
 rep: ∀(i:Nat) (x:Value) (t:T),news[i]? =some x->(ys.flatMap T.cells)[i]? =some t->Rep E.S E.w x t
 uni: ∀x∈ys,x.cells.length=size
 one: ∀t∈ys.flatMap T.cells,t.one=true
theorem SR.newRow(h:SR N w0 S0 E st a.tmps){d q:Nat}(hd:d<N){e:TypeId}{size:Nat}{xs:List T}{cells:List Value}{rest:Array Value}{cap:Nat}(hn:fC E size xs cells)(cC:E.ρ q=none){w':World}(hw:w'=E.w\/w'=E.w.drew)
  (cO:xs.length<=cap) (hm:cap<=maxLen) (hsz:(cells.toArray++rest).size=cap * size):
  ∃E':Env,E'.w=w'.alloc (.cells (cells.toArray++rest) e)/\SR N w0 S0 E' (st.put d (.own q e size xs)) (a.tmps.setIfInBounds d (.slice (some ⟨w'.heap.size,0,none⟩) xs.length cap)):=by
 have hws:w'.heap.size=E.w.heap.size:=by rcases hw with rfl|rfl <;> rfl
 have hwb:Below E.w.heap.size E.w w':=by rcases hw with rfl|rfl;exact Below.refl _ _;exact (Below.refl _ _).drew
 let cs:Array Value:=cells.toArray++rest
 let E':Env:={E with w:=w'.alloc (.cells cs e),S:=fun b o=>E.S b o\/(b=E.w.heap.size/\o<cells.length),ρ:=upd E.ρ q (some E.w.heap.size)}
 have hb:Below E.w.heap.size E.w (w'.alloc (.cells cs e)):=hwb.trans ((Below.refl _ _).alloc (by omega) _);have notnew: ∀b o,E.S b o->b≠E.w.heap.size:=fun b o hs e=>by have:=h.lt b o hs;omega
 have g:Grow E E':=by
  refine ⟨rfl,fun n hl=>⟨hl,rfl⟩,fun r k hr=>?_,fun b o hs=>.inl hs,fun b o hs=>aB.dw hb (h.lt b o hs)⟩;have hrd:r≠q:=fun e=>by rw [e,cC] at hr;cases hr
  have hk:=(h.rows r k hr).2.1;refine ⟨(ae _ _ _ _ hrd).trans hr,hb.block k hk,fun o=>⟨fun hs=>hs.elim id fun hh=>absurd hh.1 (by omega),.inl⟩⟩
 have hsr:SR N w0 S0 E' st a.tmps:=by
  refine h.step g rfl rfl (fun n hl=>?_) (fun r k hr=>?_) (fun r r' k h1 h2=>?_) (fun b o hs=>?_) ?_ (fun b o hs=>?_) (fun k o _ hk=>(hb.block k (Array.getElem?_eq_some_iff.1 hk).1).trans hk)
  ·have hlt:E.κ n<E.w.heap.size:=by
    rw [h.live] at hl;obtain ⟨b',hb'⟩:=Option.isSome_iff_exists.1 hl;obtain ⟨_,h1,_⟩:=(h.bx n b' hb').at_;exact (Array.getElem?_eq_some_iff.1 h1).1
   refine ⟨hb.block _ hlt,fun o hs=>?_⟩;rcases hs with hs|⟨hs,_⟩
   ·rw [h.live] at hl;obtain ⟨b',hb'⟩:=Option.isSome_iff_exists.1 hl;exact (h.bx n b' hb').free o hs
   ·omega
  ·have hr:upd E.ρ q (some E.w.heap.size) r=some k:=hr
   by_cases hrd:r=q
   ·subst hrd;rw [aj] at hr;cases hr;refine ⟨by show E.B<=_;rw [h.base];exact h.below.size,by show _<(w'.alloc _).heap.size;simp;omega,fun n hl=>?_⟩;rw [show E'.live n=E.live n from rfl,h.live] at hl;obtain ⟨b',hb'⟩:=Option.isSome_iff_exists.1 hl;obtain ⟨_,h1,_⟩:=(h.bx n b' hb').at_
    have:=(Array.getElem?_eq_some_iff.1 h1).1
    show E.κ n≠_
    omega
   ·rw [ae _ _ _ _ hrd] at hr;obtain ⟨h1,h2,h3⟩:=h.rows r k hr;exact ⟨h1,by show k<(w'.alloc _).heap.size;simp;omega,h3⟩
  ·have h1:upd E.ρ q (some E.w.heap.size) r=some k:=h1;have h2:upd E.ρ q (some E.w.heap.size) r'=some k:=h2
   by_cases e1:r=q <;> by_cases e2:r'=q
   ·rw [e1,e2]
   ·subst e1;rw [aj] at h1;rw [ae _ _ _ _ e2] at h2;cases h1
    have:=(h.rows r' _ h2).2.1;omega
   ·subst e2;rw [aj] at h2;rw [ae _ _ _ _ e1] at h1;cases h2
    have:=(h.rows r _ h1).2.1;omega
   ·rw [ae _ _ _ _ e1] at h1;rw [ae _ _ _ _ e2] at h2;exact h.rinj r r' k h1 h2
  ·show b<(w'.alloc _).heap.size
   rcases hs with hs|⟨hs,_⟩
   ·have:=h.lt b o hs;simp;omega
   ·simp;omega
  ·exact h.below.trans (hb.mono h.below.size)
  ·rcases hs with hs|⟨hs,_⟩
   ·exact h.s1 b o hs
   ·right;have:=h.below.size;omega
 have dQ:(w'.alloc (.cells cs e)).heap[w'.heap.size]? =some (.cells cs e (0,0)):=heap_alloc_new _ _;have hfl:=aI hn.uni;have fj:cs.toList.take (xs.length * size)=cells:=by
  show (cells.toArray++rest).toList.take _=_
  rw [Array.toList_append,List.toList_toArray, <-hfl, <-hn.len];exact List.take_left
 have ir:bN E' (.slice (some ⟨w'.heap.size,0,none⟩) xs.length cap) q e size xs:=by
  refine ⟨⟨cells,⟨by rw [hn.len,hfl],.inr ⟨w'.heap.size,cap,cs,rfl,?_,dQ,cO,hm,hsz,fj⟩⟩,hn.len,fun i x t hx ht=>g.rep (hn.rep i x t hx ht)⟩,hn.uni,hn.one,fun k hk=>?_⟩
  ·show E.B<=_
   rw [hws,h.base];exact h.below.size
  ·simp only [Value.ownBlock,Option.some.injEq] at hk;subst hk;refine ⟨by show upd E.ρ q _ q=_;rw [aj,hws],fun o=>?_⟩;show (E.S w'.heap.size o\/(w'.heap.size=E.w.heap.size/\o<cells.length))↔_
   rw [<- hn.len,hws];exact ⟨fun hh=>hh.elim (fun hs=>absurd rfl (notnew _ _ hs)) (·.2),fun hh=>.inr ⟨rfl,hh⟩⟩
 exact ⟨E',rfl,hsr.put hd (.own _ _ _ _ _ ir)⟩
theorem SR.qt(h:SR N w0 S0 E st a.tmps){d q g0:Nat}(hd:d<N){e:TypeId}{size:Nat}{xs:List T}{cells:List Value}{rest:Array Value}{cap k:Nat}(hn:fC E size xs cells)(cC:E.ρ q=none)
  {cur:Array Value} (dQ:E.w.heap[g0]? =some (.cells cur e (0,0))) (hold:E.B<=g0) (po: ∀n,E.live n=true->E.κ n≠g0) (fW: ∀r,E.ρ r≠some g0) (hS: ∀o,E.S g0 o↔o<k) (hk:k<=cells.length)
  (pB: ∀o,o<k->(cells.toArray++rest)[o]? =cur[o]?) (cO:xs.length<=cap) (hm:cap<=maxLen) (hsz:(cells.toArray++rest).size=cap * size):
  ∃E':Env,E'.w=E.w.setRow g0 (cells.toArray++rest)/\SR N w0 S0 E' (st.put d (.own q e size xs)) (a.tmps.setIfInBounds d (.slice (some ⟨g0,0,none⟩) xs.length cap)):=by
 let cs:Array Value:=cells.toArray++rest
 let E':Env:={E with w:=E.w.setRow g0 cs,S:=fun b o=>E.S b o\/(b=g0/\o<cells.length),ρ:=upd E.ρ q (some g0)}
 have sC:g0<E.w.heap.size:=(Array.getElem?_eq_some_iff.1 dQ).1;have other: ∀k,k≠g0->(E.w.setRow g0 cs).heap[k]? =E.w.heap[k]? :=fun k hk=>setRow_other _ _ _ _ hk
 have fi:(E.w.setRow g0 cs).heap.size=E.w.heap.size:=by simp
 have iq:(E.w.setRow g0 cs).heap[g0]? =some (.cells cs e (0,0)):=setRow_heap _ _ _ _ _ _ dQ;have g:Grow E E':=by
  refine ⟨rfl,fun n hl=>⟨hl,rfl⟩,fun r k hr=>?_,fun b o hs=>.inl hs,fun b o hs=>?_⟩
  ·have hrd:r≠q:=fun e=>by rw [e,cC] at hr;cases hr
   have hkg:k≠g0:=fun e=>fW r (e▸hr)
   exact ⟨(ae _ _ _ _ hrd).trans hr,other k hkg,fun o=>⟨fun hs=>hs.elim id fun hh=>absurd hh.1 hkg,.inl⟩⟩
  ·by_cases hbg:b=g0
   ·subst hbg;refine ⟨?_,fun arr c hg=>by rw [dQ] at hg;cases hg⟩;show (E.w.setRow b cs).cell? _=_
    rw [cell_of_row _ _ _ _ _ _ iq,cell_of_row _ _ _ _ _ _ dQ];exact pB o ((hS o).1 hs)
   ·exact aB.dz (other b hbg)
 have hsr:SR N w0 S0 E' st a.tmps:=by
  refine h.step g rfl rfl (fun n hl=>⟨other _ (po n hl),fun o hs=>?_⟩) (fun r k hr=>?_) (fun r r' k h1 h2=>?_) (fun b o hs=>?_) ?_ (fun b o hs=>?_) (fun k o hc hk=>(other k fun e=>by rw [e,dQ] at hk;cases hk;cases hc).trans hk)
  ·rcases hs with hs|⟨hs,_⟩
   ·rw [h.live] at hl;obtain ⟨b',hb'⟩:=Option.isSome_iff_exists.1 hl;exact (h.bx n b' hb').free o hs
   ·exact po n hl hs
  ·have hr:upd E.ρ q (some g0) r=some k:=hr
   by_cases hrd:r=q
   ·subst hrd;rw [aj] at hr;cases hr;exact ⟨hold,by show _<(E.w.setRow _ _).heap.size;rw [fi];exact sC,po⟩
   ·rw [ae _ _ _ _ hrd] at hr;obtain ⟨h1,h2,h3⟩:=h.rows r k hr;exact ⟨h1,by show _<(E.w.setRow _ _).heap.size;rw [fi];exact h2,h3⟩
  ·have h1:upd E.ρ q (some g0) r=some k:=h1;have h2:upd E.ρ q (some g0) r'=some k:=h2
   by_cases e1:r=q <;> by_cases e2:r'=q
   ·rw [e1,e2]
   ·subst e1;rw [aj] at h1;rw [ae _ _ _ _ e2] at h2;cases h1;exact absurd h2 (fW r')
   ·subst e2;rw [aj] at h2;rw [ae _ _ _ _ e1] at h1;cases h2;exact absurd h1 (fW r)
   ·rw [ae _ _ _ _ e1] at h1;rw [ae _ _ _ _ e2] at h2;exact h.rinj r r' k h1 h2
  ·show b<(E.w.setRow _ _).heap.size
   rw [fi];rcases hs with hs|⟨hs,_⟩
   ·exact h.lt b o hs
   ·omega
  ·refine h.below.trans (.of rfl rfl rfl (by show _<=(E.w.setRow _ _).heap.size;rw [fi];exact Nat.le_refl _) (fun k hk=>other k ?_) (Nat.le_refl _))
   have:=hold
   rw [h.base] at this;omega
  ·rcases hs with hs|⟨hs,_⟩
   ·exact h.s1 b o hs
   ·right;rw [<- h.base];omega
 have hfl:=aI hn.uni;have fj:cs.toList.take (xs.length * size)=cells:=by
  show (cells.toArray++rest).toList.take _=_
  rw [Array.toList_append,List.toList_toArray, <-hfl, <-hn.len];exact List.take_left
 have ir:bN E' (.slice (some ⟨g0,0,none⟩) xs.length cap) q e size xs:=by
  refine ⟨⟨cells,⟨by rw [hn.len,hfl],.inr ⟨g0,cap,cs,rfl,hold,iq,cO,hm,hsz,fj⟩⟩,hn.len,fun i x t hx ht=>g.rep (hn.rep i x t hx ht)⟩,hn.uni,hn.one,fun k' hk'=>?_⟩;simp only [Value.ownBlock,Option.some.injEq] at hk';subst hk';refine ⟨by show upd E.ρ q _ q=_;rw [aj],fun o=>?_⟩;show (E.S g0 o\/(g0=g0/\o<cells.length))↔_
  rw [<- hn.len];exact ⟨fun hh=>hh.elim (fun hs=>by have:=(hS o).1 hs;omega) (·.2),fun hh=>.inr ⟨rfl,hh⟩⟩
 exact ⟨E',rfl,hsr.put hd (.own _ _ _ _ _ ir)⟩
end
end Go.DL
end
section
namespace Go.DL
open Go.RowKit
section
variable [Glb]{P:Program}{N:Nat}{w0:World}{S0:aa}{o:Oper}{a:Act}{E:Env}{st:St}
end
section
variable {P:Program}{N:Nat}{w0:World}{S0:aa}{o:Oper}{a:Act}{E:Env}{st:St}
theorem fC.append{size:Nat}{xs ys:List T}{c1 c2:List Value}(h1:fC E size xs c1)(h2:fC E size ys c2):fC E size (xs++ys) (c1++c2):=by
 refine ⟨by simp [h1.len,h2.len],fun i x t hx ht=>?_,fun x hx=>?_,fun t ht=>?_⟩
 ·rw [List.flatMap_append] at ht
  by_cases hi:i<c1.length
  ·rw [List.getElem?_append_left hi] at hx;rw [List.getElem?_append_left (by rw [<- h1.len];exact hi)] at ht;exact h1.rep i x t hx ht
  ·rw [List.getElem?_append_right (by omega)] at hx;rw [List.getElem?_append_right (by rw [<- h1.len];omega), <-h1.len] at ht;exact h2.rep _ x t hx ht
 ·rcases List.mem_append.1 hx with h|h
  ·exact h1.uni x h
  ·exact h2.uni x h
 ·rw [List.flatMap_append] at ht;rcases List.mem_append.1 ht with h|h
  ·exact h1.one t h
  ·exact h2.one t h
theorem jx{t u ty e:TypeId}{i:TypeInfo}(ht:P.underlying t=some (.slice e))(hi:P.info? e=some i){g sLen cap:Nat}{cur:Array Value}{te:TypeId}(hg:E.w.heap[g]? =some (.cells cur te (0,0))){y:Value}{n:Nat}{news:List Value}(hs:Src P i.size u y n news E.w)
  (fG:sLen+n<=cap) (bn:sLen * i.size+news.length<=cur.size):
  (Builtin.append_ #[t,u] ty #[.slice (some ⟨g,0,none⟩) sLen cap,y]).run P E.w= .ok (.slice (some ⟨g,0,none⟩) (sLen+n) cap) (E.w.setRow g (cur.toList.take (sLen * i.size)++news++cur.toList.drop (sLen * i.size+news.length)).toArray):=by
 have hst:=run_storeCells_at (P:=P) g (sLen * i.size) te news 0 cur E.w hg (by omega) hs.one;simp only [Nat.add_zero] at hst;have pj:(⟨g,0,none⟩:Addr).add (sLen * i.size)=⟨g,sLen * i.size,none⟩:=by rw [bg,Nat.zero_add]
 rcases hs.kind with ⟨e',hk⟩|hk <;> simp [Builtin.append_,run_underlying ht,run_underlying hk,sizeOf,typeInfo,hi,hs.len,fG,hs.cells,pj,hst]
end
section
variable [Glb]{P:Program}{N:Nat}{w0:World}{S0:aa}{o:Oper}{a:Act}{E:Env}{st:St}
theorem nr(h:SR N w0 S0 E st a.tmps){d q:Nat}(hd:d<N){t ty e:TypeId}{i:TypeInfo}{z:Value}(ht:P.underlying t=some (.slice e))(hi:P.info? e=some i)(hz:i.zero=some z)(hzs:z.cells.size=i.size)(_:0<i.size)(hby:0<i.bytes)
  {v:Value} {r:Nat} {xs:List T} (hv:bN E v r e i.size xs) {y:Value} {u:TypeId} {ys:List T} {news:List Value} (hsy:ct P E y i.size ys news) (hk:(∃ e',P.underlying u=some (.slice e'))\/P.underlying u=some .string) (bn:(xs.length+ys.length) * i.bytes<=140737488355328):
  ∃(v':Value) (E':Env),(Builtin.append_ #[t,u] ty #[v,y]).run P E.w= .ok v' E'.w/\SR N w0 S0 E' ((st.dg r q).put d (.own q e i.size (xs++ys))) (a.tmps.setIfInBounds d v'):=by
 have h1:=h.dg r q;have cC:(fun x=>if x=r\/x=q then none else E.ρ x) q=none:=by simp
 obtain ⟨cells,ir,hcl,hcr⟩:=hv.ex;have hN1:fC {E with ρ:=fun x=>if x=r\/x=q then none else E.ρ x } i.size xs cells:=⟨hcl,hcr,hv.uni,hv.one⟩
 have hle:xs.length+ys.length<=140737488355328:=Nat.le_trans (Nat.le_mul_of_pos_right _ hby) bn;have hml:xs.length+ys.length<=maxLen:=by unfold maxLen;omega
 by_cases hm:ys.length=0
 ·
  have hy0:ys=[]:=List.eq_nil_of_length_eq_zero hm;subst hy0;have hn0:news=[]:=List.eq_nil_of_length_eq_zero (by simpa using hsy.len);subst hn0;have hs:=hsy.nO hk;have nothing: ∀{A:Option Addr} {n cap:Nat},n<=cap->(Builtin.append_ #[t,u] ty #[.slice A n cap,y]).run P E.w= .ok (.slice A n cap) E.w:=fun {A n cap} hn=>Go.run_append_nothing E.w t u ty e i ht hi A n cap hn y hs
  rw [List.append_nil];rcases ir.2 with ⟨rfl,hn0⟩|⟨g,cap,cur,rfl,hbg,hg,hnc,hcm,hcs,fj⟩
  ·refine ⟨.slice none 0 0,{E with ρ:=fun x=>if x=r\/x=q then none else E.ρ x },nothing (Nat.le_refl _),h1.put hd (.own _ _ _ _ _ ⟨⟨cells,ir,hcl,hcr⟩,hv.uni,hv.one,fun g hg=>by simp [Value.ownBlock] at hg⟩)⟩
  ·obtain ⟨lV,nK⟩:=hv.row g rfl;have dQ:cells.toArray++(cur.toList.drop (xs.length * i.size)).toArray=cur:=by
    apply Array.ext'
    simp only [Array.toList_append];rw [<- fj,List.take_append_drop]
   obtain ⟨E',hw,hsr⟩:=h1.qt (rest:=(cur.toList.drop (xs.length * i.size)).toArray) (cap:=cap) (k:=(xs.flatMap T.cells).length) hd hN1 cC hg hbg (h.rows r g lV).2.2 (fun q hq=>by
     dsimp only at hq;split at hq
     ·cases hq
     ·rename_i hne;exact hne (.inl (h.rinj q r g hq lV))) (fun o=>nK o) (by rw [hcl];exact Nat.le_refl _) (fun o _=>by rw [dQ]) hnc hcm (by rw [dQ];exact hcs)
   refine ⟨_,E',?_,hsr⟩;rw [hw,dQ,setRow_self _ _ _ _ _ hg];exact nothing hnc
 ·have hN2:fC E i.size ys news:=⟨hsy.len,hsy.rep,hsy.uni,hsy.one⟩
  have hs:=hsy.nO hk;have si:fC {E with ρ:=fun x=>if x=r\/x=q then none else E.ρ x } i.size ys news:=⟨hN2.len,hN2.rep,hN2.uni,hN2.one⟩
  have hN:=hN1.append si;have hl2:news.length=ys.length * i.size:=by rw [hN2.len,aI hN2.uni]
  have hl1:cells.length=xs.length * i.size:=by rw [hcl,aI hv.uni]
  have h63:((xs.length+ys.length:Nat):Int)<=9223372036854775807:=by omega
  have moved: ∀old,old<xs.length+ys.length-> ∃E':Env,E'.w=E.w.drew.alloc (.cells ((cells++news).toArray++Builtin.zeroCells z.cells (grownCap E.w (xs.length+ys.length) old e - (xs.length+ys.length))) e)/\
    SR N w0 S0 E' ((st.dg r q).put d (.own q e i.size (xs++ys))) (a.tmps.setIfInBounds d (.slice (some ⟨E.w.heap.size,0,none⟩) (xs++ys).length (grownCap E.w (xs.length+ys.length) old e))):=fun old hold=>by
   have hge:=grownCap_ge E.w (xs.length+ys.length) old e;have hcm:=grownCap_le_maxLen E.w (xs.length+ys.length) old e hml
   have:=h1.newRow (e:=e) (rest:=Builtin.zeroCells z.cells (grownCap E.w (xs.length+ys.length) old e - (xs.length+ys.length))) (cap:=grownCap E.w (xs.length+ys.length) old e) hd hN cC (w':=E.w.drew) (.inr rfl) (by simpa using hge) hcm (by
    simp only [Array.size_append,List.size_toArray,List.length_append,size_zeroCells,hzs,hl1,hl2, <-Nat.add_mul]
    congr 1;omega)
   exact this
  rcases ir.2 with ⟨rfl,hn0⟩|⟨g,cap,cur,rfl,hbg,hg,hnc,hcm,hcs,fj⟩
  ·have hx:xs=[]:=List.eq_nil_of_length_eq_zero hn0;subst hx;have hc0:cells=[]:=List.eq_nil_of_length_eq_zero (by simpa using hcl);subst hc0;obtain ⟨E',hw,hsr⟩:=moved 0 (by simp;omega);have hr:=run_append_grow_src (P:=P) E.w t u ty e i z ht hi hz none 0 0 [] (by simp [Builtin.firstCells]) y ys.length news hs (by omega) (by simpa using h63) (growslice_fits (by omega) (by simpa using bn));simp only [List.length_nil,Nat.zero_add,List.nil_append] at hw hsr hr ⊢;exact ⟨_,E',by rw [hw];exact hr,hsr⟩
  ·by_cases fG:xs.length+ys.length<=cap
   ·have rh:xs.length * i.size+news.length<=cur.size:=by rw [hl2,hcs, <-Nat.add_mul];exact Nat.mul_le_mul_right _ fG
    have hr:=jx (E:=E) (ty:=ty) ht hi hg hs fG rh;obtain ⟨lV,nK⟩:=hv.row g rfl;have dQ:(cur.toList.take (xs.length * i.size)++news++cur.toList.drop (xs.length * i.size+news.length)).toArray=(cells++news).toArray++(cur.toList.drop (xs.length * i.size+news.length)).toArray:=by
     rw [fj];simp
    rw [dQ] at hr;obtain ⟨E',hw,hsr⟩:=h1.qt (rest:=(cur.toList.drop (xs.length * i.size+news.length)).toArray) (cap:=cap) (k:=(xs.flatMap T.cells).length) hd hN cC hg hbg (h.rows r g lV).2.2 (fun q hq=>by
      dsimp only at hq;split at hq
      ·cases hq
      ·rename_i hne;exact hne (.inl (h.rinj q r g hq lV))) (fun o=>nK o) (by rw [List.length_append,hcl];exact Nat.le_add_right _ _) (fun o ho=>by
      rw [<- hcl] at ho;rw [Array.getElem?_append_left (by simp;omega),List.getElem?_toArray,List.getElem?_append_left ho, <-fj,List.getElem?_take,if_pos (by omega)]
      simp) (by simpa using fG) hcm (by simp only [Array.size_append,List.size_toArray,List.length_append,List.length_drop,Array.length_toList];omega)
    refine ⟨_,E',?_,hsr⟩;rw [hw,List.length_append];exact hr
   ·have holds:=ir.cells (g:=g) rfl;have hr:=run_append_grow_src (P:=P) E.w t u ty e i z ht hi hz (some ⟨g,0,none⟩) xs.length cap cells (run_firstCells_some E.w.drew i.size xs.length ⟨g,0,none⟩ xs.length cap cells hl1 (by simpa using holds)) y ys.length news hs (by omega) h63 (growslice_fits (by omega) bn);obtain ⟨E',hw,hsr⟩:=moved cap (by omega);refine ⟨_,E',?_,hsr⟩;rw [hw,List.length_append];exact hr
theorem oR{b:Array Value}(h:SR N w0 S0 E st b){t ty u e:TypeId}{i:TypeInfo}{z:Value}(ht:P.underlying t=some (.slice e))(hi:P.info? e=some i)(hz:i.zero=some z)(_:z.cells.size=i.size)(hsz:0<i.size)(hby:0<i.bytes)
  {A:Option Addr} {len:Nat} {xs:List T} (hv:Rep E.S E.w (.slice A len len) (.slice i.size xs)) {y:Value} {ys:List T} {news:List Value} (hsy:ct P E y i.size ys news) (hk:(∃ e',P.underlying u=some (.slice e'))\/P.underlying u=some .string) (bn:(xs.length+ys.length) * i.bytes<=140737488355328):
  ∃(v':Value) (E':Env),(Builtin.append_ #[t,u] ty #[.slice A len len,y]).run P E.w= .ok v' E'.w/\SR N w0 S0 E' st b/\Rep E'.S E'.w v' (.slice i.size (xs++ys)):=by
 have hs:=hsy.nO hk;have hl2:news.length=ys.length * i.size:=by rw [hsy.len,aI hsy.uni]
 by_cases hm:ys.length=0
 ·have hy0:ys=[]:=List.eq_nil_of_length_eq_zero hm;subst hy0;have hn0:news=[]:=List.eq_nil_of_length_eq_zero (by simpa using hsy.len);subst hn0;exact ⟨_,E,Go.run_append_nothing E.w t u ty e i ht hi A len len (Nat.le_refl _) y hs,h,by rw [List.append_nil];exact hv⟩
 ·have hle:xs.length+ys.length<=140737488355328:=Nat.le_trans (Nat.le_mul_of_pos_right _ hby) bn;have hv0:=hv;cases hv with
  |slice _ b0 off _ _ _ _ g hlen hc hu h1 ha hg aq=>
  subst hlen;have hl1:=aI hu;have get: ∀j v,((List.range (xs.flatMap T.cells).length).map g)[j]? =some v->j<(xs.flatMap T.cells).length/\g j=v:=fun j v hj=>by
   have hlt:j<(xs.flatMap T.cells).length:=by simpa using (gsZ hj).1
   rw [List.getElem?_map,List.getElem?_range hlt] at hj;exact ⟨hlt,by simpa using hj⟩
  let olds:List Value:=(List.range (xs.flatMap T.cells).length).map g
  have hol:olds.length=xs.length * i.size:=by simp [olds,hl1]
  have hold:(Builtin.firstCells i.size xs.length (.slice A xs.length xs.length)).run P E.w.drew= .ok olds.toArray E.w.drew:=by
   by_cases h0:xs.length=0
   ·have ho0:olds=[]:=List.eq_nil_of_length_eq_zero (by rw [hol,h0,Nat.zero_mul]);rw [ho0,h0];cases A with
    |none=>simp [Builtin.firstCells]
    |some ad=>simp [Builtin.firstCells,loadCells,loadCellsFrom]
   ·rw [ha (by rw [hl1];exact Nat.mul_pos (by omega) hsz)];refine run_firstCells_some E.w.drew i.size xs.length ⟨b0,off,none⟩ xs.length xs.length olds hol (fun j v hj=>?_);obtain ⟨hlt,rfl⟩:=get j v hj;rw [bg];simpa using (hg j hlt).1
  have hr:=run_append_grow_src (P:=P) E.w t u ty e i z ht hi hz A xs.length xs.length olds hold y ys.length news hs (by omega) (by omega) (growslice_fits (by omega) bn);have hge:=grownCap_ge E.w (xs.length+ys.length) xs.length e;generalize hcs:(olds++news).toArray++Builtin.zeroCells z.cells (grownCap E.w (xs.length+ys.length) xs.length e - (xs.length+ys.length))=cs at hr;have hb:Below E.w.heap.size E.w (E.w.drew.alloc (.cells cs e)):=((Below.refl _ _).drew).alloc (Nat.le_refl _) _;have h':=h.world hb (fun b o=>E.S b o\/(E.w.heap.size<=b/\b<(E.w.drew.alloc (.cells cs e)).heap.size)) (fun b o=>⟨fun hh=>hh.elim .inl fun k=>.inr ⟨.inr k,k⟩,fun hh=>hh.elim .inl fun k=>k.1⟩);refine ⟨_,{E with w:=E.w.drew.alloc (.cells cs e),S:=fun b o=>E.S b o\/(E.w.heap.size<=b/\b<(E.w.drew.alloc (.cells cs e)).heap.size)},hr,h',?_⟩;have iq:(E.w.drew.alloc (.cells cs e)).heap[E.w.heap.size]? =some (.cells cs e (0,0)):=heap_alloc_new E.w.drew _;have qY:((xs++ys).flatMap T.cells).length=(olds++news).length:=by
   rw [List.flatMap_append,List.length_append,List.length_append,hl1,hol,hsy.len]
  have up: ∀{v:Value} {t:T},Rep E.S E.w v t->Rep (fun b o=>E.S b o\/(E.w.heap.size<=b/\b<(E.w.drew.alloc (.cells cs e)).heap.size)) (E.w.drew.alloc (.cells cs e)) v t:=fun hr=>hr.mono (fun b o hs=>.inl hs) (fun b o hs=>aB.dw hb (h.lt b o hs))
  refine .slice _ E.w.heap.size 0 _ _ _ _ (fun j=>(olds++news)[j]?.getD undef) (by simp) hge (fun x hx=>?_) (fun t ht=>?_) (fun _=>rfl) (fun j hj=>?_) (fun j t ht=>?_)
  ·rcases List.mem_append.1 hx with hx|hx
   ·exact hu x hx
   ·exact hsy.uni x hx
  ·rw [List.flatMap_append] at ht;rcases List.mem_append.1 ht with ht|ht
   ·exact h1 t ht
   ·exact hsy.one t ht
  ·rw [qY] at hj;refine ⟨?_,.inr ⟨Nat.le_refl _,by simp⟩⟩;rw [Nat.zero_add,cell_of_row _ _ _ _ _ _ iq, <-hcs,Array.getElem?_append_left (by simpa using hj)];simp [ggZ hj]
  ·have hj:j<(olds++news).length:=by rw [<- qY];exact (gsZ ht).1
   rw [List.flatMap_append] at ht;show Rep _ _ ((olds++news)[j]?.getD undef) t
   by_cases h2:j<olds.length
   ·rw [List.getElem?_append_left (by omega)] at ht;rw [List.getElem?_append_left h2];have hjx:j<(xs.flatMap T.cells).length:=by omega
    have:olds[j]? =some (g j):=by show ((List.range _).map g)[j]? =_;rw [List.getElem?_map,List.getElem?_range hjx];rfl
    rw [this];exact up (aq j t ht)
   ·rw [List.getElem?_append_right (by omega)] at ht;rw [List.getElem?_append_right (by omega)];have e1:j - (xs.flatMap T.cells).length=j - olds.length:=by omega
    rw [e1] at ht;have hlt:j - olds.length<news.length:=by rw [List.length_append] at hj;omega
    rw [ggZ hlt];exact up (hsy.rep _ _ t (ggZ hlt) ht)
theorem SR.oQ{b:Array Value}(h:SR N w0 S0 E st b){q g:Nat}(hq:st.bx q=none)(hg: ∀m,E.live m=true->E.κ m≠g)(hρ: ∀r,E.ρ r≠some g){bx:BX}(hB:bD E g bx):
  SR N w0 S0 {E with κ:=upd E.κ q g,live:=upd E.live q true } {st with bx:=upd st.bx q (some bx)} b:=by
 have jQ:E.live q=false:=by rw [h.live,hq];rfl
 have ne: ∀m,E.live m=true->m≠q:=fun m hm e=>by rw [e,jQ] at hm;cases hm
 have gr:Grow E {E with κ:=upd E.κ q g,live:=upd E.live q true }:=
  ⟨rfl,fun m hm=>⟨by show upd E.live q true m=true;rw [ae _ _ _ _ (ne m hm)];exact hm,ae _ _ _ _ (ne m hm)⟩,fun r k hr=>⟨hr,rfl,fun _=>Iff.rfl⟩,fun _ _ hs=>hs,fun _ _ _=>aB.rfl⟩
 refine ⟨h.size,h.base,h.glob,fun m=>(h.sl m).grow gr,fun k m=>(h.gh k m).grow gr,fun m b' hm=>?_,fun m=>?_,fun m m' hm hm' he=>?_,fun r k hr=>?_,h.rinj,h.lt,h.below,h.s0,h.s1,h.obj,h.cx⟩
 ·by_cases hmq:m=q
  ·subst hmq;have hb':bx=b':=by
    have:upd st.bx m (some bx) m=some b':=hm
    rw [aj] at this;exact Option.some.inj this
   subst hb';show bD _ (upd E.κ m g m) bx
   rw [aj];exact hB.grow gr rfl hB.free
  ·have hm':st.bx m=some b':=by
    have:upd st.bx q (some bx) m=some b':=hm
    rwa [ae _ _ _ _ hmq] at this
   show bD _ (upd E.κ q g m) b'
   rw [ae _ _ _ _ hmq]
   have:=h.bx m b' hm'
   exact this.grow gr rfl this.free
 ·show upd E.live q true m=(upd st.bx q (some bx) m).isSome
  by_cases hmq:m=q
  ·subst hmq;rw [aj,aj];rfl
  ·rw [ae _ _ _ _ hmq,ae _ _ _ _ hmq];exact h.live m
 ·have hm:upd E.live q true m=true:=hm;have hm':upd E.live q true m'=true:=hm';have he:upd E.κ q g m=upd E.κ q g m':=he
  by_cases h1:m=q <;> by_cases h2:m'=q
  ·rw [h1,h2]
  ·subst h1;rw [ae _ _ _ _ h2] at hm';rw [aj,ae _ _ _ _ h2] at he;exact absurd he.symm (hg m' hm')
  ·subst h2;rw [ae _ _ _ _ h1] at hm;rw [aj,ae _ _ _ _ h1] at he;exact absurd he (hg m hm)
  ·rw [ae _ _ _ _ h1] at hm he;rw [ae _ _ _ _ h2] at hm' he;exact h.inj m m' hm hm' he
 ·obtain ⟨h1,h2,h3⟩:=h.rows r k hr;refine ⟨h1,h2,fun m hm=>?_⟩;have hm:upd E.live q true m=true:=hm;show upd E.κ q g m≠k
  by_cases hmq:m=q
  ·subst hmq;rw [aj];exact fun e=>hρ r (e▸hr)
  ·rw [ae _ _ _ _ hmq] at hm ⊢;exact h3 m hm
end
section
variable {P:Program}{N:Nat}{w0:World}{S0:aa}{o:Oper}{a:Act}{E:Env}{st:St}
theorem VR.r8{E:Env}(n off len size cap:Nat){g:Nat}(hl:E.live n=true)(hg:E.κ n=g)(hc:len<=cap):VR E (.slice (some ⟨g,off,none⟩) len cap) (.view n off len size):=by
 subst hg;exact .view n off len size cap hl hc
end
section
variable [Glb]{P:Program}{N:Nat}{w0:World}{S0:aa}{o:Oper}{a:Act}{E:Env}{st:St}
theorem oS{b:Array Value}(h:SR N w0 S0 E st b){t ty u e:TypeId}{i:TypeInfo}{z:Value}(ht:P.underlying t=some (.slice e))(hi:P.info? e=some i)(hz:i.zero=some z)(hby:0<i.bytes)
  {A:Option Addr} {y:Value} {ys:List T} {news:List Value} (hsy:ct P E y i.size ys news) (hk:(∃ e',P.underlying u=some (.slice e'))\/P.underlying u=some .string) (aH:0<ys.length) (bn:ys.length * i.bytes<=140737488355328) {q:Nat} (hq:st.bx q=none):
  ∃(v':Value) (E':Env),(Builtin.append_ #[t,u] ty #[.slice A 0 0,y]).run P E.w= .ok v' E'.w/\SR N w0 S0 E' {st with bx:=upd st.bx q (some (.d (ys.length * i.size) (ys.flatMap T.cells)))} b/\VR E' v' (.view q 0 ys.length i.size):=by
 have hs:=hsy.nO hk;have hl2:news.length=ys.length * i.size:=by rw [hsy.len,aI hsy.uni]
 have hle:ys.length<=140737488355328:=Nat.le_trans (Nat.le_mul_of_pos_right _ hby) bn;have hold:(Builtin.firstCells i.size 0 (.slice A 0 0)).run P E.w.drew= .ok ([]:List Value).toArray E.w.drew:=by
  cases A with
  |none=>simp [Builtin.firstCells]
  |some ad=>simp [Builtin.firstCells,loadCells,loadCellsFrom]
 have hr:=run_append_grow_src (P:=P) E.w t u ty e i z ht hi hz A 0 0 [] hold y ys.length news hs (by omega) (by omega) (growslice_fits (by omega) (by simpa using bn));have hge:=grownCap_ge E.w (0+ys.length) 0 e;generalize hcs:(([]:List Value)++news).toArray++Builtin.zeroCells z.cells (grownCap E.w (0+ys.length) 0 e - (0+ys.length))=cs at hr;have hb:Below E.w.heap.size E.w (E.w.drew.alloc (.cells cs e)):=((Below.refl _ _).drew).alloc (Nat.le_refl _) _;have h':=h.world hb E.S (fun b o=>⟨.inl,fun hh=>hh.elim id (·.1)⟩)
 have iq:(E.w.drew.alloc (.cells cs e)).heap[E.w.heap.size]? =some (.cells cs e (0,0)):=heap_alloc_new E.w.drew _;have hB:bD {E with w:=E.w.drew.alloc (.cells cs e),S:=E.S } E.w.heap.size (.d (ys.length * i.size) (ys.flatMap T.cells)):=by
  refine ⟨?_,fun o hS=>absurd (h.lt _ o hS) (Nat.lt_irrefl _),_,iq,.cells cs e _ (.d _ _ (by rw [<- hsy.len,hl2]) ?_ fun j x t hx ht=>?_)⟩
  ·show E.B<=_;rw [h.base];exact h.below.size
  ·rw [<- hcs];simp [hl2]
  ·have hj:j<news.length:=by rw [hsy.len];exact (gsZ ht).1
   rw [<- hcs,List.nil_append,Array.getElem?_append_left (by simpa using hj),List.getElem?_toArray] at hx;exact ⟨(hsy.rep j x t hx ht).mono (fun b o hs=>hs) (fun b o hs=>aB.dw hb (h.lt b o hs)),hsy.one t (List.mem_of_getElem? ht)⟩
 have klt: ∀m,E.live m=true->E.κ m<E.w.heap.size:=fun m hm=>by
  rw [h.live] at hm;obtain ⟨b',hb'⟩:=Option.isSome_iff_exists.1 hm;exact (h.bx m b' hb').lt
 have h2:=h'.oQ (q:=q) (g:=E.w.heap.size) hq (fun m hm=>by have:=klt m hm;show E.κ m≠_;omega) (fun r hr=>by
  have:=(h.rows r _ hr).2.1;omega) hB
 refine ⟨_,_,hr,h2,?_⟩;rw [Nat.zero_add];rw [Nat.zero_add] at hge;exact VR.r8 q 0 ys.length i.size _ (aj _ _ _) (aj _ _ _) hge
end
end Go.DL
end
section
namespace Go.DL
open Go.RowKit
section
variable [Glb]{P:Program}{N:Nat}{w0:World}{S0:aa}{o:Oper}{a:Act}{E:Env}{st:St}
end
section
variable {P:Program}{N:Nat}{w0:World}{S0:aa}{o:Oper}{a:Act}{E:Env}{st:St}
theorem ic{sl:Nat->V}{size:Nat}: ∀{ps:List (Nat×O)} {es ts:List T} {c c':Prop},aY sl size es c ps=some (ts,c')->c'->c
 |[],es,ts,c,c',h,hc=>by simp [aY] at h;rw [h.2];exact hc
 |(i,x)::rest,es,ts,c,c',h,hc=>by
  unfold aY at h;split at h
  ·cases h
  ·exact (ic h hc).1
  ·cases hb:Nat.beq size 1 with
   |false=>rw [hb] at h;cases h
   |true=>rw [hb] at h;exact ic h hc
  ·cases h
theorem mQ{α:Type}(A B:List α)(k n:Nat)(v:List α):aP (A++B) (A.length+k) n v=A++aP B k n v:=by
 unfold aP;rw [List.take_length_add_append,Nat.add_assoc,List.drop_length_add_append,List.append_assoc]
theorem lP{size:Nat}: ∀{es:List T} (_: ∀x∈es,x.cells.length=size) (i:Nat) (t:T) (_:t.cells.length=size) (_:i<es.length),(es.set i t).flatMap T.cells=aP (es.flatMap T.cells) (i * size) size t.cells
 |[],_,i,t,_,hi=>by simp at hi
 |x::es,hu,i,t,ht,hi=>by
  have hx:=hu x (by simp);have hes: ∀y∈es,y.cells.length=size:=fun y hy=>hu y (List.mem_cons_of_mem _ hy)
  cases i with
  |zero=>
   simp only [List.set_cons_zero,List.flatMap_cons,Nat.zero_mul];unfold aP;simp only [List.take_zero,List.nil_append,Nat.zero_add];rw [<- hx,List.drop_left]
  |succ i=>
   have hi':i<es.length:=by simpa using hi
   have ih:=lP hes i t ht hi';simp only [List.set_cons_succ,List.flatMap_cons,ih];rw [<- mQ,hx]
   congr 1
   rw [Nat.add_mul];omega
theorem iU(hs: ∀m,VR E (a.tmps.getD m undef) (st.sl m)){size:Nat}: ∀(parts:List (Nat×Operand)) (ps:List (Nat×Nat×O)) (cells:Array Value) (es ts:List T) (c c':Prop),aZ (fun i=>some (i,0)) parts=some ps->
   bh E.S E.w cells.toList (es.flatMap T.cells)->(∀ x∈es,x.cells.length=size)->(∀ p∈ps,p.1<es.length)->aY st.sl size es c (ps.map fun p=>(p.1,p.2.2))=some (ts,c')->c'->
   ∃cells',Instr.fill (fun i=>some (i * size,size)) cells (parts.map fun (i,x)=>(i,a.eval x))=some cells'/\bh E.S E.w cells'.toList (ts.flatMap T.cells)/\(∀ x∈ts,x.cells.length=size)/\ts.length=es.length
 |[],ps,cells,es,ts,c,c',hl,hc,hu,_,hf,_=>by
  simp [aZ] at hl;subst hl;simp [aY] at hf;exact ⟨cells,rfl,hf.1▸hc,hf.1▸hu,by rw [hf.1]⟩
 |(i,X)::rest,ps,cells,es,ts,c,c',hl,hc,hu,hb,hf,hc'=>by
  obtain ⟨off,sz,y,r,h1,h2,h3,rfl⟩:=eZ rfl hl;simp only [Option.some.injEq,Prod.mk.injEq] at h1;obtain ⟨rfl,rfl⟩:=h1;have he:=af hs h2;have hi:i<es.length:=hb (i,0,y) (by simp);have hb': ∀p∈r,p.1<es.length:=fun p hp=>hb p (List.mem_cons_of_mem _ hp)
  have hfl:=aI hu;have hle:i * size+size<=(es.flatMap T.cells).length:=by
   rw [hfl]
   have:(i+1) * size<=es.length * size:=Nat.mul_le_mul_right _ hi
   rw [Nat.add_mul] at this;omega
  have step: ∀(t:T),bh E.S E.w (a.eval X).cells.toList t.cells->t.cells.length=size-> ∀c0,aY st.sl size (es.set i t) c0 (r.map fun p=>(p.1,p.2.2))=some (ts,c')->
    ∃cells',Instr.fill (fun i=>some (i * size,size)) cells (((i,X)::rest).map fun (i,x)=>(i,a.eval x))=some cells'/\bh E.S E.w cells'.toList (ts.flatMap T.cells)/\(∀ x∈ts,x.cells.length=size)/\ts.length=es.length:=fun t hr hlen c0 hf'=>by
   have hsz:(a.eval X).cells.size=size:=by have:=hr.1;simp at this;omega
   have hcl:cells.size=(es.flatMap T.cells).length:=by have:=hc.1;simpa using this
   have eW:bh E.S E.w ((a.eval X).cells.zipIdx.foldl (fun (cs:Array Value) (p:Value×Nat)=>cs.setIfInBounds (i * size+p.2) p.1) cells).toList ((es.set i t).flatMap T.cells):=by
    rw [je _ _ _ (by omega),hsz,lP hu i t hlen hi];exact hc.put hr (by simpa using hsz) (by rw [Array.length_toList];omega)
   have hu': ∀x∈es.set i t,x.cells.length=size:=fun x hx=>by
    rcases List.mem_or_eq_of_mem_set hx with h|h
    ·exact hu x h
    ·rw [h];exact hlen
   obtain ⟨cells',g1,g2,g3,g4⟩:=iU hs rest r _ (es.set i t) ts c0 c' h3 eW hu' (fun p hp=>by rw [List.length_set];exact hb' p hp) hf' hc';refine ⟨cells',?_,g2,g3,by rw [g4,List.length_set]⟩;simp only [List.map_cons,Instr.fill];rw [if_neg (by simp [hsz];omega)];exact g1
  simp only [List.map_cons] at hf;unfold aY at hf;split at hf
  ·cases hf
  ·rename_i cs ha;have hr:=aC he ha;obtain ⟨hc1,hc2⟩:=hr.cells (fun ts e=>by cases e);have himp:=ic hf hc';exact step (.agg cs) ⟨by simpa using hc1,fun j x t hx ht=>hc2 j x t (by simpa using hx) ht⟩ himp.2 _ hf
  ·rename_i t h1' h2' ha;cases hb1:Nat.beq size 1 with
   |false=>rw [hb1] at hf;cases hf
   |true=>
    rw [hb1] at hf;have hs1:size=1:=Nat.eq_of_beq_eq_true hb1;subst hs1;have hr:=aC he ha;have h1:t.one=true:=by
     cases t with
     |agg cs=>exact absurd rfl (h2' cs)
     |tup ts=>exact absurd rfl (h1' ts)
     |_=>rfl
    refine step t ⟨by rw [hr.cells_one h1,T.cells_one h1];rfl,fun j x u hx hu=>?_⟩ (by rw [T.cells_one h1];rfl) _ hf;rw [hr.cells_one h1] at hx;rw [T.cells_one h1] at hu;cases j with
    |zero=>simp at hx hu;subst hx;subst hu;exact ⟨hr,h1⟩
    |succ j=>simp at hu
  ·cases hf
theorem rQ{zs:List T}{size:Nat}(hl:zs.length=size)(bP: ∀t∈zs,t.one=true):(cond (Nat.beq size 1) (zs.headD .nil) (.agg zs)).cells=zs:=by
 cases hb:Nat.beq size 1 with
 |false=>rfl
 |true=>
  have h1:size=1:=Nat.eq_of_beq_eq_true hb
  match zs,hl with
  |[z],_=>exact T.cells_one (bP z (by simp))
  |[],hl=>simp at hl;omega
  |_::_::_,hl=>simp at hl;omega
theorem fT{e:T}{zs:List T}(h:e.cells=zs): ∀n,(List.replicate n e).flatMap T.cells=(List.replicate n zs).flatten
 |0=>rfl
 |n+1=>by rw [List.replicate_succ,List.flatMap_cons,h,List.replicate_succ,List.flatten_cons,fT h n]
end
section
variable [Glb]{P:Program}{N:Nat}{w0:World}{S0:aa}{o:Oper}{a:Act}{E:Env}{st:St}
theorem jF(h:SR N w0 S0 E st a.tmps){d q:Nat}(hd:d<N){t e:TypeId}{j:TypeInfo}{n:Nat}{parts:Array (Nat×Operand)}(ho:o.op= .buildSlice t n parts)(ht:P.underlying t=some (.slice e))(hj:P.info? e=some j){zs:List T}(hz:cj P e=some zs)
  (hsz:0<j.size) (il:n * j.size<=16777216) {ps:List (Nat×Nat×O)} (hps:aZ (fun i=>some (i,0)) parts.toList=some ps) (hin: ∀p∈ps,p.1<n) {es:List T} {c:Prop}
  (hf:aY st.sl j.size (List.replicate n (cond (Nat.beq j.size 1) (zs.headD .nil) (.agg zs))) True (ps.map fun p=>(p.1,p.2.2))=some (es,c)) (hc:c):
  ∃(v':Value) (E':Env),(∃ A,v'= .slice A es.length es.length)/\(execOp a.eval o).run P E.w= .ok (.value v') E'.w/\SR N w0 S0 E' ((st.dg q q).put d (.own q e j.size es)) (a.tmps.setIfInBounds d v'):=by
 obtain ⟨i,z,hi,hiz,bj,jq,aq,tt,htt,htc⟩:=cZ hz;rw [hj] at hi;cases hi;have hzl:0<zs.length:=by omega
 have rW: ∀u∈zs,u.one=true:=fun u hu=>by
  obtain ⟨k,hk⟩:=List.mem_iff_getElem?.1 hu;have hlt:k<z.cells.size:=by have:=(gsZ hk).1;omega
  exact (aq E.S E.w k z.cells[k] u (by simp [hlt]) hk).2
 have he0:=rQ bj.symm rW;have rU:=fT he0 n
 let cells0:Array Value:=(Array.range (n * j.size)).map (z.cells[· % z.cells.size]!)
 have hc0:bh E.S E.w cells0.toList ((List.replicate n (cond (Nat.beq j.size 1) (zs.headD .nil) (.agg zs))).flatMap T.cells):=by
  rw [rU];have hlen:(List.replicate n zs).flatten.length=n * j.size:=by simp [bj]
  refine ⟨by rw [hlen];simp [cells0],fun k x u hx hu=>?_⟩;have hk:k<n * j.size:=by rw [<- hlen];exact (gsZ hu).1
  rw [ef hzl n k (by rw [<- bj];exact hk)] at hu;have lU:k % z.cells.size<z.cells.size:=Nat.mod_lt _ (by omega);have hx':z.cells[k % z.cells.size]? =some x:=by
   have:cells0.toList[k]? =some (z.cells[k % z.cells.size]!):=by simp [cells0,hk]
   rw [this] at hx;rw [<- hx];simp [lU]
  rw [jq] at hx';exact aq E.S E.w _ x u hx' hu
 have hu0: ∀x∈List.replicate n (cond (Nat.beq j.size 1) (zs.headD .nil) (.agg zs)),x.cells.length=j.size:=fun x hx=>by
  rw [List.eq_of_mem_replicate hx,he0];exact bj.symm
 obtain ⟨cells',g1,g2,g3,g4⟩:=iU h.sl parts.toList ps cells0 _ es True c hps hc0 hu0 (fun p hp=>by rw [List.length_replicate];exact hin p hp) hf hc;rw [List.length_replicate] at g4;have h1:=h.dg q q;have cC:(fun x=>if x=q\/x=q then none else E.ρ x) q=none:=by simp
 have rf: ∀t∈es.flatMap T.cells,t.one=true:=fun u hu=>by
  obtain ⟨k,hk⟩:=List.mem_iff_getElem?.1 hu;have hlt:k<cells'.toList.length:=by rw [g2.1];exact (gsZ hk).1
  exact (g2.2 k _ u (ggZ hlt) hk).2
 have hN:fC {E with ρ:=fun x=>if x=q\/x=q then none else E.ρ x } j.size es cells'.toList:=⟨g2.1,fun k x u hx hu=>(g2.2 k x u hx hu).1,g3,rf⟩
 have hcs:cells'.size=n * j.size:=by
  have:=g2.1
  rw [aI g3,g4] at this;simpa using this
 obtain ⟨E',hw,hsr⟩:=h1.newRow (e:=e) (rest:= #[]) (cap:=n) hd hN cC (w':=E.w) (.inl rfl) (by rw [g4];exact Nat.le_refl _) (by unfold maxLen;have:n<=n * j.size:=Nat.le_mul_of_pos_right _ hsz;omega) (by simpa using hcs);refine ⟨_,E',⟨some ⟨E.w.heap.size,0,none⟩,by rw [g4]⟩,?_,hsr⟩;rw [hw];have ptl:(parts.map fun (i,x)=>(i,a.eval x)).toList=parts.toList.map fun (i,x)=>(i,a.eval x):=by simp
 have g1':Instr.fill (fun i=>some (i * j.size,j.size)) ((Array.range (n * j.size)).map (z.cells[· % z.cells.size]!)) (parts.toList.map fun (i,x)=>(i,a.eval x))=some cells':=g1
 unfold execOp;simp only [ho,Instr.buildSlice,Sem.run_bind,run_underlying ht,Result.andThen_ok,run_sizeOf hj];have hle: ¬n * j.size>2^24:=by simp;omega
 rw [if_neg hle]
 by_cases hne:n * j.size=0
 ·rw [hne] at g1';simp only [hne,if_true,Sem.run_bind,Result.andThen_ok,Sem.run_pure,ptl];have e0: ∀f:Nat->Value,(Array.range 0).map f= #[]:=fun f=>by simp
  rw [e0] at g1';simp only [e0,g1',newRow,Sem.run_bind,run_newObj,Result.andThen_ok,Sem.run_pure,World.alloc_eq,g4];simp
 ·simp only [zeroValue,typeInfo,hne,if_false,Sem.run_bind,run_program,Result.andThen_ok,hj,Sem.run_pure,hiz,ptl];simp only [g1',newRow,Sem.run_bind,run_newObj,Result.andThen_ok,Sem.run_pure,World.alloc_eq,g4];simp
def jL(st:St):St:={sl:=fun m=>match asT (st.sl m) with|some x=>.t x|none=>.top,bx:=fun _=>none }
theorem qy(h:SR N w0 S0 E st a.tmps):SR N E.w {S:=E.S } {S:=E.S,w:=E.w,B:=E.w.heap.size,κ:=fun _=>0,ρ:=fun _=>none,live:=fun _=>false } (jL st) a.tmps:=by
 refine ⟨h.size,rfl,h.iJ,fun m=>?_,fun k m=>.top _,fun n b hb=>(by cases hb),fun n=>rfl,fun n m hn=>(by cases hn),fun r g hr=>(by cases hr),fun r r' g hr=>(by cases hr),h.lt,Below.refl _ _,fun b o h=>h,fun b o h=>.inl h,fun g o hg=>(by cases hg),trivial⟩;show VR _ _ (match asT (st.sl m) with|some x=>V.t x|none=>.top)
 cases hx:asT (st.sl m) with
 |none=>exact .top _
 |some x=>
  have hr:Rep E.S E.w (a.tmps.getD m undef) x:=aC (h.sl m) hx;exact .t _ _ hr
end
section
variable {P:Program}{N:Nat}{w0:World}{S0:aa}{o:Oper}{a:Act}{E:Env}{st:St}
theorem oY(x:O):asT (ev (jL st).sl x)=asT (ev st.sl x):=by
 cases x with
 |const t=>rfl
 |tmp m=>
  show asT (match asT (st.sl m) with|some x=>V.t x|none=>.top)=asT (st.sl m)
  cases hx:asT (st.sl m) with
  |none=>rfl
  |some x=>rfl
theorem gu{size:Nat}: ∀{ps:List (Nat×O)} {es:List T} {c:Prop},aY (jL st).sl size es c ps=aY st.sl size es c ps
 |[],_,_=>rfl
 |(i,x)::ps,es,c=>by
  unfold aY;rw [oY];split
  ·rfl
  ·rw [gu]
  ·rw [gu]
  ·rfl
end
section
variable [Glb]{P:Program}{N:Nat}{w0:World}{S0:aa}{o:Oper}{a:Act}{E:Env}{st:St}
theorem nz(h:SR N w0 S0 E st a.tmps){d:Nat}(hd:d<N){t e:TypeId}{j:TypeInfo}{n:Nat}{parts:Array (Nat×Operand)}(ho:o.op= .buildSlice t n parts)(ht:P.underlying t=some (.slice e))(hj:P.info? e=some j){zs:List T}(hz:cj P e=some zs)
  (hsz:0<j.size) (il:n * j.size<=16777216) {ps:List (Nat×Nat×O)} (hps:aZ (fun i=>some (i,0)) parts.toList=some ps) (hin: ∀p∈ps,p.1<n) {es:List T} {c:Prop}
  (hf:aY st.sl j.size (List.replicate n (cond (Nat.beq j.size 1) (zs.headD .nil) (.agg zs))) True (ps.map fun p=>(p.1,p.2.2))=some (es,c)) (hc:c) (aw:o.dst=some d):
  Did P N w0 S0 o a E (st.app (some d) {val:=.t (.slice j.size es)})/\Did P N w0 S0 o a E (st.app (some d) {val:=.full j.size es }):=by
 obtain ⟨v',E',⟨A,hA⟩,hr,hsr⟩:=jF (d:=d) (q:=0) (qy h) hd ho ht hj hz hsz il hps hin (by rw [gu];exact hf) hc;have hv:=hsr.sl d;have gD:(a.tmps.setIfInBounds d v').getD d undef=v':=by
  have:d<a.tmps.size:=by rw [h.size];exact hd
  simp [this]
 rw [gD] at hv;have hsl:(((jL st).dg 0 0).put d (.own 0 e j.size es)).sl d= .own 0 e j.size es:=aj _ _ _;rw [hsl] at hv;have aq:Rep (fun b o=>E.S b o\/(E.w.heap.size<=b/\b<E'.w.heap.size)) E'.w v' (.slice j.size es):=hv.eU.rep.mono (fun b o hs=>(hsr.s1 b o hs).imp id fun hle=>⟨hle,hsr.lt b o hs⟩) (fun _ _ _=>aB.rfl);have hb:Below E.w.heap.size E.w E'.w:=hsr.below;have h':=h.world hb (fun b o=>E.S b o\/(E.w.heap.size<=b/\b<E'.w.heap.size)) (fun b o=>⟨fun hh=>hh.elim .inl fun k=>.inr ⟨.inr k,k⟩,fun hh=>hh.elim .inl fun k=>k.1⟩);refine ⟨⟨_,v',{E with w:=E'.w,S:=fun b o=>E.S b o\/(E.w.heap.size<=b/\b<E'.w.heap.size)},hr,.inl rfl,?_⟩,⟨_,v',{E with w:=E'.w,S:=fun b o=>E.S b o\/(E.w.heap.size<=b/\b<E'.w.heap.size)},hr,.inl rfl,?_⟩⟩
 ·rw [aw];exact h'.cJ (d:=some d) hd (.t _ _ aq)
 ·rw [aw];subst hA;exact h'.cJ (d:=some d) hd (.full A es.length j.size es aq)
end
end Go.DL
end
section
namespace Go.DL
open Go.RowKit
section
variable [Glb]{P:Program}{N:Nat}{w0:World}{S0:aa}{o:Oper}{a:Act}{E:Env}{st:St}
end
section
variable {P:Program}{N:Nat}{w0:World}{S0:aa}{o:Oper}{a:Act}{E:Env}{st:St}
theorem iE{d:Option Nat}{v:V}{rd:List Nat}:st.app d {val:=v,rd:=rd }=st.set d v:=by cases d <;> rfl
theorem rE{r:cm}{d:Option Nat}{K:St->Prop}(h:wpR r d st K): ∃e,inR r e/\K (st.app d e):=by
 cases r with
 |no=>exact h.elim
 |yes e=>exact ⟨e,rfl,h⟩
 |need c e=>exact ⟨e,⟨h.1,rfl⟩,h.2⟩
 |alt c b f=>exact ⟨f b,⟨h.1,rfl⟩,h.2 b rfl⟩
 |eq c t f=>exact ⟨f t,⟨h.1,rfl⟩,h.2 t rfl⟩
end
section
variable [Glb]{P:Program}{N:Nat}{w0:World}{S0:aa}{o:Oper}{a:Act}{E:Env}{st:St}
theorem iB{f:FuncId}{args:List V}{d:Option Nat}{K:St->Prop}(h:di P f args d st K): ∃ts rd r,bm st.bx args=some (ts,rd)/\DCalls P f ts r/\(rd=[]\/r.flat=true)/\K (st.set d (.t r)):=by
 unfold di at h;split at h
 ·rename_i ts hc;obtain ⟨r,h1,h2⟩:=h;exact ⟨ts,[],r,hc,h1,.inl rfl,h2⟩
 ·rename_i ts x xs hc;obtain ⟨r,h1,h2,h3⟩:=h;exact ⟨ts,_,r,hc,h1,.inr h2,h3⟩
 ·exact h.elim
end
section
variable {P:Program}{N:Nat}{w0:World}{S0:aa}{o:Oper}{a:Act}{E:Env}{st:St}
theorem qj{st:St}{d:Option Nat}{v:V}{m:Nat}{b:BX}:st.app d {val:=v,wr:=some (m,b)}=({st with bx:=upd st.bx m (some b)}:St).set d v:=by cases d <;> rfl
end
section
variable [Glb]{P:Program}{N:Nat}{w0:World}{S0:aa}{o:Oper}{a:Act}{E:Env}{st:St}
theorem iO{x:DOp}(hx:x.plain=true){d:Option Nat}{K:St->Prop}(h:wpO P x d st K): ∃e,cG P x (st.nm d) st e/\K (st.app d e):=by
 have gen: ∀x:DOp,(wpO P x d st K->wpR (eff x (st.nm d) st.sl st.bx) d st K)->(∀ e,inR (eff x (st.nm d) st.sl st.bx) e->cG P x (st.nm d) st e)->wpO P x d st K-> ∃e,cG P x (st.nm d) st e/\K (st.app d e):=fun x h1 h2 h=>by
  obtain ⟨e,he,hk⟩:=rE (h1 h);exact ⟨e,h2 e he,hk⟩
 cases x with
 |append=>cases hx
 |appV=>cases hx
 |buildS=>cases hx
 |inl=>cases hx
 |fcall=>cases hx
 |mrng=>cases hx
 |mnext=>cases hx
 |call f args=>
  obtain ⟨ts,rd,r,h1,h2,h3,h4⟩:=iB h;exact ⟨_,⟨ts,rd,r,h1,h2,h3,rfl⟩,by rw [iE];exact h4⟩
 |bV x args=>
  unfold wpO at h;simp only at h;split at h
  ·rename_i f caps hv;obtain ⟨ts,rd,r,h1,h2,h3,h4⟩:=iB h;exact ⟨_,⟨f,caps.map .t,by rw [hv];rfl,ts,rd,r,h1,h2,h3,rfl⟩,by rw [iE];exact h4⟩
  ·rename_i f caps hv;obtain ⟨ts,rd,r,h1,h2,h3,h4⟩:=iB h;exact ⟨_,⟨f,caps,by rw [hv];rfl,ts,rd,r,h1,h2,h3,rfl⟩,by rw [iE];exact h4⟩
  ·exact h.elim
 |mcall ms f args=>
  obtain ⟨need,fr,m,b,r,h1,h2,h3,h4,h5,h6⟩:=h;exact ⟨_,⟨need,fr,m,b,r,h1,h2,h3,h4,h5,rfl⟩,by rw [qj];exact h6⟩
 |_=>exact gen _ id (fun _ h=>h) h
end
section
variable {P:Program}{N:Nat}{w0:World}{S0:aa}{o:Oper}{a:Act}{E:Env}{st:St}
theorem iD{e:TypeId}{j:TypeInfo}(hj:P.info? e=some j){zs:List T}(hz:cj P e=some zs): ∃z,j.zero=some z/\z.cells.size=j.size:=by
 obtain ⟨i,z,hi,hiz,h1,h2,_⟩:=cZ hz;rw [hj] at hi;cases hi;exact ⟨z,hiz,by omega⟩
theorem bN.nil(r:Nat)(e:TypeId)(size:Nat):bN E (.slice none 0 0) r e size []:=
 ⟨⟨[],World.ownsRow_nil _ _ _ _,rfl,fun i x t hx=>by simp at hx⟩,fun x hx=>by simp at hx,fun t ht=>by simp at ht,fun g hg=>by simp [Value.ownBlock] at hg⟩
theorem mO{op:Op}{f:FuncId}{args:List O}(hl:ah P op=some (.inl f args)):False:=by
 have no: ∀{y:DOp},some y=some (DOp.inl f args)->(match y with|.inl _ _=>true|_=>false)=false->False:=fun h1 h2=>by cases h1;cases h2
 cases op with
 |call c=>
  obtain ⟨callee,az,argTypes⟩:=c;simp only [ah,bG] at hl
  repeat' (first|exact no hl rfl|(split at hl)|(simp only [cond_eq_ite] at hl)|(cases hl;done))
 |unOp op t X=>
  cases op <;> simp only [ah,Option.map_eq_some_iff] at hl <;> first|(obtain ⟨_,_,hl⟩:=hl;cases hl)|cases hl
 |slice t X lo hi mx=>
  cases lo <;> cases hi <;> cases mx <;> simp only [ah] at hl <;> repeat' (first|exact no hl rfl|(split at hl)|(simp only [cond_eq_ite] at hl)|(cases hl;done))
 |binOp op t X Y ty=>
  cases op <;> simp only [ah] at hl <;> repeat' (first|exact no hl rfl|(split at hl)|(simp only [cond_eq_ite] at hl)|(cases hl;done))
 |_=>
  simp only [ah] at hl
  repeat' (first|exact no hl rfl|(split at hl)|(simp only [cond_eq_ite] at hl)|(simp only [Option.map_eq_some_iff] at hl;obtain ⟨_,_,hl⟩:=hl;cases hl;done)|(cases hl;done))
theorem od{op:Op}{f:FuncId}{args:List O}(hl:ah P op=some (.fcall f args)):False:=by
 have no: ∀{y:DOp},some y=some (DOp.fcall f args)->(match y with|.fcall _ _=>true|_=>false)=false->False:=fun h1 h2=>by cases h1;cases h2
 cases op with
 |call c=>
  obtain ⟨callee,az,argTypes⟩:=c;simp only [ah,bG] at hl
  repeat' (first|exact no hl rfl|(split at hl)|(simp only [cond_eq_ite] at hl)|(cases hl;done))
 |unOp op t X=>
  cases op <;> simp only [ah,Option.map_eq_some_iff] at hl <;> first|(obtain ⟨_,_,hl⟩:=hl;cases hl)|cases hl
 |slice t X lo hi mx=>
  cases lo <;> cases hi <;> cases mx <;> simp only [ah] at hl <;> repeat' (first|exact no hl rfl|(split at hl)|(simp only [cond_eq_ite] at hl)|(cases hl;done))
 |binOp op t X Y ty=>
  cases op <;> simp only [ah] at hl <;> repeat' (first|exact no hl rfl|(split at hl)|(simp only [cond_eq_ite] at hl)|(cases hl;done))
 |_=>
  simp only [ah] at hl
  repeat' (first|exact no hl rfl|(split at hl)|(simp only [cond_eq_ite] at hl)|(simp only [Option.map_eq_some_iff] at hl;obtain ⟨_,_,hl⟩:=hl;cases hl;done)|(cases hl;done))
theorem oe{op:Op}{size bytes:Nat}{s x:O}(hl:ah P op=some (.appV size bytes s x)):False:=by
 have no: ∀{y:DOp},some y=some (DOp.appV size bytes s x)->(match y with|.appV _ _ _ _=>true|_=>false)=false->False:=fun h1 h2=>by cases h1;cases h2
 cases op with
 |call c=>
  obtain ⟨callee,az,argTypes⟩:=c;simp only [ah,bG] at hl
  repeat' (first|exact no hl rfl|(split at hl)|(simp only [cond_eq_ite] at hl)|(cases hl;done))
 |unOp op t X=>
  cases op <;> simp only [ah,Option.map_eq_some_iff] at hl <;> first|(obtain ⟨_,_,hl⟩:=hl;cases hl)|cases hl
 |slice t X lo hi mx=>
  cases lo <;> cases hi <;> cases mx <;> simp only [ah] at hl <;> repeat' (first|exact no hl rfl|(split at hl)|(simp only [cond_eq_ite] at hl)|(cases hl;done))
 |binOp op t X Y ty=>
  cases op <;> simp only [ah] at hl <;> repeat' (first|exact no hl rfl|(split at hl)|(simp only [cond_eq_ite] at hl)|(cases hl;done))
 |_=>
  simp only [ah] at hl
  repeat' (first|exact no hl rfl|(split at hl)|(simp only [cond_eq_ite] at hl)|(simp only [Option.map_eq_some_iff] at hl;obtain ⟨_,_,hl⟩:=hl;cases hl;done)|(cases hl;done))
theorem iw{e:TypeId}{size n:Nat}{zs:List T}{parts:List (Nat×O)}(hl:ah P o.op=some (.buildS e size n zs parts)): ∃t ps j,o.op= .buildSlice t n ps/\P.underlying t=some (.slice e)/\P.info? e=some j/\cj P e=some zs/\size=j.size/\0<j.size/\n * j.size<=16777216/\ ∃qs,aZ (fun i=>some (i,0)) ps.toList=some qs/\(∀ p∈qs,p.1<n)/\parts=qs.map fun p=>(p.1,p.2.2):=by
 have no: ∀{y:DOp},some y=some (DOp.buildS e size n zs parts)->y.plain=true->False:=fun h1 h2=>by cases h1;cases h2
 have noA: ∀{t e' s b X Y},some (DOp.append t e' s b X Y)=some (DOp.buildS e size n zs parts)->False:=fun h1=>by cases h1
 cases ho:o.op with
 |buildSlice t n' ps=>
  rw [ho] at hl;simp only [ah] at hl;split at hl
  ·rename_i e' hu;split at hl
   ·rename_i j zs' de hj hz hud;split at hl
    ·rename_i qs hq;simp only [cond_eq_ite] at hl;split at hl
     ·rename_i hc;simp only [Bool.and_eq_true,List.all_eq_true] at hc;cases hl;have lt: ∀{n},Nat.blt 0 n=true->0<n:=fun h=>Nat.lt_of_lt_of_le (Nat.lt_succ_self 0) (nlZ h)
      exact ⟨t,ps,j,rfl,hu,hj,hz,rfl,lt hc.1.1.2,nlZ hc.1.1.1,qs,hq,fun p hp=>nlZ (hc.2 p hp),rfl⟩
     ·cases hl
    ·cases hl
   ·cases hl
  ·cases hl
 |call c=>
  exfalso;rw [ho] at hl;simp only [ah,bG] at hl
  repeat' (first|exact no hl rfl|exact noA hl|(split at hl)|(simp only [cond_eq_ite] at hl)|(cases hl;done))
 |unOp op t' X=>
  exfalso;rw [ho] at hl;cases op <;> simp only [ah,Option.map_eq_some_iff] at hl <;> first|(obtain ⟨_,_,hl⟩:=hl;cases hl)|cases hl
 |slice t' X lo hi mx=>
  exfalso;rw [ho] at hl;cases lo <;> cases hi <;> cases mx <;> simp only [ah] at hl <;> repeat' (first|exact no hl rfl|(split at hl)|(simp only [cond_eq_ite] at hl)|(cases hl;done))
 |binOp op t' X Y ty=>
  exfalso;rw [ho] at hl;cases op <;> simp only [ah] at hl <;> repeat' (first|exact no hl rfl|(split at hl)|(simp only [cond_eq_ite] at hl)|(cases hl;done))
 |_=>
  exfalso;rw [ho] at hl;simp only [ah] at hl
  repeat' (first|exact no hl rfl|(split at hl)|(simp only [cond_eq_ite] at hl)|(simp only [Option.map_eq_some_iff] at hl;obtain ⟨_,_,hl⟩:=hl;cases hl;done)|(cases hl;done))
end
section
variable [Glb]{P:Program}{N:Nat}{w0:World}{S0:aa}{o:Oper}{a:Act}{E:Env}{st:St}
theorem o9(h:SR N w0 S0 E st a.tmps)(hd:ay N o.dst){x:DOp}(hl:ah P o.op=some x)(hx:x.bC=false){e:Eff}(he:cG P x (st.nm o.dst) st e):Did P N w0 S0 o a E (st.app o.dst e):=by
 have plain:inR (eff x (st.nm o.dst) st.sl st.bx) e->Did P N w0 S0 o a E (st.app o.dst e):=fun hi=>by
  have hs:=kI h hd hl;cases hr:eff x (st.nm o.dst) st.sl st.bx with
  |no=>rw [hr] at hi;exact hi.elim
  |yes e0=>rw [hr] at hi hs;cases hi;exact hs
  |need c e0=>rw [hr] at hi hs;obtain ⟨hc,rfl⟩:=hi;exact hs hc
  |alt c b f=>rw [hr] at hi hs;obtain ⟨hc,rfl⟩:=hi;exact hs hc
  |eq c t f=>rw [hr] at hi hs;obtain ⟨hc,rfl⟩:=hi;exact hs hc
 cases x with
 |call f args=>cases hx
 |bV y args=>cases hx
 |mcall ms f args=>exact (kM hl).elim
 |_=>exact plain he
end
section
variable {P:Program}{N:Nat}{w0:World}{S0:aa}{o:Oper}{a:Act}{E:Env}{st:St}
theorem nL{op:Op}{m:O}(hl:ah P op=some (.mrng m)): ∃t kt e X,op= .range t X/\P.underlying t=some (.map kt e)/\ak X=some m:=by
 cases op with
 |range t X=>
  simp only [ah] at hl;split at hl
  ·rename_i kt e y hu hy;cases hl;exact ⟨t,kt,e,X,rfl,hu,hy⟩
  ·cases hl
 |next X b=>cases b <;> simp only [ah,cond_false,cond_true,Option.map_eq_some_iff] at hl <;> first|(cases hl;done)|(obtain ⟨_,_,hl⟩:=hl;cases hl)
 |call c=>
  exfalso;obtain ⟨callee,az,argTypes⟩:=c;simp only [ah,bG] at hl
  repeat' (first|(split at hl)|(simp only [cond_eq_ite] at hl)|(cases hl;done))
 |unOp op t' X=>
  exfalso;cases op <;> simp only [ah,Option.map_eq_some_iff] at hl <;> first|(obtain ⟨_,_,hl⟩:=hl;cases hl)|cases hl
 |slice t' X lo hi mx=>
  exfalso;cases lo <;> cases hi <;> cases mx <;> simp only [ah] at hl <;> repeat' (first|(split at hl)|(simp only [cond_eq_ite] at hl)|(cases hl;done))
 |binOp op t' X Y ty=>
  exfalso;cases op <;> simp only [ah] at hl <;> repeat' (first|(split at hl)|(simp only [cond_eq_ite] at hl)|(cases hl;done))
 |_=>
  exfalso;simp only [ah] at hl
  repeat' (first|(split at hl)|(simp only [cond_eq_ite] at hl)|(simp only [Option.map_eq_some_iff] at hl;obtain ⟨_,_,hl⟩:=hl;cases hl;done)|(cases hl;done))
theorem mN{op:Op}{m:O}(hl:ah P op=some (.mnext m)): ∃X,op= .next X false/\ak X=some m:=by
 cases op with
 |next X b=>
  cases b with
  |true=>cases hl
  |false=>
   simp only [ah,cond_false,Option.map_eq_some_iff] at hl;obtain ⟨y,hy,hl⟩:=hl;cases hl;exact ⟨X,rfl,hy⟩
 |call c=>
  exfalso;obtain ⟨callee,az,argTypes⟩:=c;simp only [ah,bG] at hl
  repeat' (first|(split at hl)|(simp only [cond_eq_ite] at hl)|(cases hl;done))
 |unOp op t' X=>
  exfalso;cases op <;> simp only [ah,Option.map_eq_some_iff] at hl <;> first|(obtain ⟨_,_,hl⟩:=hl;cases hl)|cases hl
 |slice t' X lo hi mx=>
  exfalso;cases lo <;> cases hi <;> cases mx <;> simp only [ah] at hl <;> repeat' (first|(split at hl)|(simp only [cond_eq_ite] at hl)|(cases hl;done))
 |binOp op t' X Y ty=>
  exfalso;cases op <;> simp only [ah] at hl <;> repeat' (first|(split at hl)|(simp only [cond_eq_ite] at hl)|(cases hl;done))
 |_=>
  exfalso;simp only [ah] at hl
  repeat' (first|(split at hl)|(simp only [cond_eq_ite] at hl)|(simp only [Option.map_eq_some_iff] at hl;obtain ⟨_,_,hl⟩:=hl;cases hl;done)|(cases hl;done))
end
section
variable [Glb]{P:Program}{N:Nat}{w0:World}{S0:aa}{o:Oper}{a:Act}{E:Env}{st:St}
theorem pH(h:SR N w0 S0 E st a.tmps)(hd:ay N o.dst){m:O}(hl:ah P o.op=some (.mrng m)){K:St->Prop}(hw:wpO P (.mrng m) o.dst st K): ∃st',K st'/\Did P N w0 S0 o a E st':=by
 obtain ⟨t,kt,e,X,ho,hu,hX⟩:=nL hl;have hv:=af h.sl hX;unfold wpO at hw;cases aw:o.dst with
 |none=>rw [aw] at hw;exact hw.elim
 |some d=>
  rw [aw] at hw hd;simp only at hw;cases hm:ev st.sl m with
  |mp b=>
   rw [hm] at hw hv;simp only at hw;obtain ⟨hM,hlv⟩:=hv.eC;split at hw
   ·rename_i ag sh es mb hb hn;obtain ⟨arr,clock,hg,hR⟩:=(h.bx b _ hb).map;have hk:=hw (arr.toList.map (·.born)) clock (by simp [hR.size]) hR.apart (fun x hx=>by
     obtain ⟨y,hy,rfl⟩:=List.mem_map.1 hx;exact hR.lt y hy)
    refine ⟨_,hk,?_⟩;have h1:SR N w0 S0 E {st with bx:=upd st.bx b (some (.m ag sh es (some (arr.toList.map (·.born),clock))))} a.tmps:=by
     refine {h with bx:=fun n c hn=>?_,live:=fun n=>?_ }
     ·by_cases hnb:n=b
      ·subst hnb
       have:upd st.bx n (some (BX.m ag sh es (some (arr.toList.map (·.born),clock)))) n=some c:=hn
       rw [aj] at this;cases this;have hB:=h.bx n _ hb;exact ⟨hB.old,hB.free,_,hg,.map arr clock ag sh es _ ⟨hR.size,hR.at_,hR.lt,hR.apart,fun p hp=>by cases hp;rfl⟩⟩
      ·have:upd st.bx b (some (BX.m ag sh es (some (arr.toList.map (·.born),clock)))) n=some c:=hn
       rw [ae _ _ _ _ hnb] at this;exact h.bx n c this
     ·show E.live n=(upd st.bx b _ n).isSome
      by_cases hnb:n=b
      ·subst hnb;rw [aj,h.live,hb];rfl
      ·rw [ae _ _ _ _ hnb];exact h.live n
    have hnb:d+st.off≠b:=fun e=>by rw [e,hb] at hn;cases hn
    have hn':(upd st.bx b (some (BX.m ag sh es (some (arr.toList.map (·.born),clock))))) (d+st.off)=none:=by rw [ae _ _ _ _ hnb];exact hn
    have h2:=h1.jD (n:=d+st.off) hn' (.mapIter (some (E.κ b)) clock #[] clock) (.it b (arr.toList.map (·.born)) clock []) (fun E' g=>by
      obtain ⟨l1,l2⟩:=g.κ b hlv;rw [<- l2];exact bM.it b _ clock [] l1) (.pointer (some ⟨E.w.heap.size,0,none⟩)) (.ptr (d+st.off) 0) (fun E' hk hl=>by rw [<- hk];exact .ptr _ _ hl) hd
    refine ⟨.value (.pointer (some ⟨E.w.heap.size,0,none⟩)),.pointer (some ⟨E.w.heap.size,0,none⟩),{E with w:=E.w.alloc (.mapIter (some (E.κ b)) clock #[] clock),κ:=upd E.κ (d+st.off) E.w.heap.size,live:=upd E.live (d+st.off) true },?_,.inl rfl,?_⟩
    ·unfold execOp;simp [ho,Instr.range,hM,run_underlying hu,Go.MapKept.run_getObj_map hg]
    ·rw [aw];exact h2
   ·exact hw.elim
  |t x=>
   rw [hm] at hw hv;cases x with
   |mapd ag sh ks vs=>
    simp only at hw;split at hw
    ·rename_i hn;have aq:=hv.ax;generalize hM:a.eval X=v at aq;cases aq with
     |mapd g arr clock _ _ _ _ hk hvl hg r1 r2 ok lt apart=>
     have hR:bI E arr clock ag sh (ks.zip vs) none:=⟨by rw [List.length_zip,hk,hvl];simp,fun i x e hx he=>by
      rw [List.getElem?_zip_eq_some] at he;exact ⟨r1 i x e.1 hx he.1,r2 i x e.2 hx he.2,ok _ (List.mem_of_getElem? he.1)⟩,lt,apart,fun p hp=>by cases hp⟩
     refine ⟨_,hw,.value (.pointer (some ⟨E.w.heap.size,0,none⟩)),.pointer (some ⟨E.w.heap.size,0,none⟩),{E with w:=E.w.alloc (.mapIter (some g) clock #[] clock),κ:=upd E.κ (d+st.off) E.w.heap.size,live:=upd E.live (d+st.off) true },?_,.inl rfl,?_⟩
     ·unfold execOp;simp [ho,Instr.range,hM,run_underlying hu,Go.MapKept.run_getObj_map hg.1]
     ·rw [aw];exact h.jD (n:=d+st.off) hn (.mapIter (some g) clock #[] clock) (.itd (ks.zip vs) []) (fun E' g'=>bM.itd g arr clock ag sh _ [] ((g'.cell g 0 hg.2).map _ _ hg.1) (g'.S _ _ hg.2) (hR.grow g')) (.pointer (some ⟨E.w.heap.size,0,none⟩)) (.ptr (d+st.off) 0) (fun E' hk hl=>by rw [<- hk];exact .ptr _ _ hl) hd
    ·exact hw.elim
   |_=>exact hw.elim
  |_=>rw [hm] at hw;exact hw.elim
end
section
variable {P:Program}{N:Nat}{w0:World}{S0:aa}{o:Oper}{a:Act}{E:Env}{st:St}
theorem mr{n:Nat}(hn:0<n)(w:World): ∃i w',i<n/\(choose (.mapNext n)).run P w= .ok i w'/\(w'=w\/w'=w.drew):=by
 rw [run_choose_drew];cases hf:(Question.mapNext n).forced with
 |true=>exact ⟨0,w,hn,rfl,.inl rfl⟩
 |false=>exact ⟨_,w.drew,Nat.mod_lt _ hn,rfl,.inr rfl⟩
theorem kN{X:Operand}(ho:o.op= .next X false){g k:Nat}(hP:a.eval X= .pointer (some ⟨k,0,none⟩)){arr:Array MapEntry}{c:Nat}{bs:List Nat}(hbs:bs=arr.toList.map (·.born))(hnd:bs.Nodup){ix:List Nat}(hix: ∀j∈ix,j<arr.size)
  (hlt: ∀x∈arr,x.born<c) (hg:E.w.heap[g]? =some (.map arr c)) (hgk:E.w.heap[k]? =some (.mapIter (some g) c (ix.map fun j=>bs.getD j 0).toArray c)):
  ∃w',(w'=E.w\/w'=E.w.drew)/\(((∀ j,j<arr.size->j∈ix)/\(execOp a.eval o).run P E.w= .ok (.value (.tuple #[.bool false])) w')\/
   ∃(j:Nat) (x:MapEntry),arr[j]? =some x/\ ¬j∈ix/\(execOp a.eval o).run P E.w= .ok (.value (.tuple #[.bool true,x.key,x.val])) {w' with heap:=w'.heap.setIfInBounds k (.mapIter (some g) c ((ix++[j]).map fun j=>bs.getD j 0).toArray c)}):=by
 have hlen:bs.length=arr.size:=by rw [hbs];simp
 have nJ: ∀(j:Nat) (x:MapEntry),arr[j]? =some x->((ix.map fun j=>bs.getD j 0).toArray.contains x.born=true↔j∈ix):=fun j x hx=>by
  have hj:bs[j]? =some x.born:=by rw [hbs];simp [hx]
  have hjl:j<bs.length:=(gsZ hj).1;simp only [List.contains_toArray,List.contains_iff_mem,List.mem_map];constructor
  ·rintro ⟨i,hi,he⟩;have hil:i<bs.length:=by rw [hlen];exact hix i hi
   rw [List.getD_eq_getElem?_getD,ggZ hil,Option.getD_some] at he;have hj':bs[j]=x.born:=by rw [ggZ hjl] at hj;exact Option.some.inj hj
   have:=(List.getElem_inj hnd).1 (he.trans hj'.symm)
   exact this▸hi
  ·intro hi;exact ⟨j,hi,by rw [List.getD_eq_getElem?_getD,hj];rfl⟩
 generalize hS:(ix.map fun j=>bs.getD j 0).toArray=seen at nJ hgk;generalize hL:(arr.filter fun e=> !seen.contains e.born)=left;have dJ: ∀x∈left,x∈arr/\seen.contains x.born=false:=fun x hx=>by
  rw [<- hL,Array.mem_filter] at hx;exact ⟨hx.1,by simpa using hx.2⟩
 have hold:(left.filter fun x=>decide (x.born<c))=left:=Array.filter_eq_self.2 fun x hx=>by simpa using hlt x (dJ x hx).1
 have iq:(left.filter fun x=>decide (x.born>=c))= #[]:=Array.filter_eq_empty_iff.2 fun x hx=>by
  have:=hlt x (dJ x hx).1
  simp;omega
 have rV:(!seen.isEmpty&& !arr.isEmpty&&arr.all fun x=>decide (x.born>=c))=false:=by
  cases he:arr.isEmpty with
  |true=>simp
  |false=>
   have aH:0<arr.size:=by
    rw [Array.isEmpty_eq_false_iff] at he;exact Array.size_pos_iff.2 he
   have:(arr.all fun x=>decide (x.born>=c))=false:=by
    rw [Bool.eq_false_iff];intro fF;rw [Array.all_eq_true] at fF;have h1:=fF 0 aH;have h2:=hlt arr[0] (Array.getElem_mem aH);simp at h1;omega
   simp [this]
 have aJ:(execOp a.eval o).run P E.w=((choose (.mapNext ((if left.isEmpty then #[none] else #[])++left.map some).size)).run P E.w).andThen fun i w'=>
   ((match ((if left.isEmpty then #[none] else #[])++left.map some)[i]? with
   |some (some e)=>(do setObj k (.mapIter (some g) c (seen.push e.born) c);pure (.tuple #[.bool true,e.key,e.val]))
   |some none=>pure (.tuple #[.bool false])
   |none=>stuck "Next: no such candidate" :Sem Value).run P w').andThen fun v w''=>.ok (.value v) w'':=by
  unfold execOp;simp only [ho,hP,Instr.next,Sem.run_bind,ft hgk,Result.andThen_ok,Go.MapKept.run_getObj_map hg,rV,hL,hold,iq];simp only [Bool.false_eq_true,if_false,Array.append_empty,Sem.run_bind,Sem.run_pure];cases (choose (.mapNext ((if left.isEmpty=true then #[none] else #[])++left.map some).size)).run P E.w <;> rfl
 have jR: ∀w',(w'=E.w\/w'=E.w.drew)->w'.heap=E.w.heap:=fun w' hw'=>by
  rcases hw' with rfl|rfl <;> rfl
 cases hE:left.isEmpty with
 |true=>
  have lh:left= #[]:=Array.isEmpty_iff.1 hE;rw [hE] at aJ;simp only [if_true] at aJ;obtain ⟨i,w',hi,hch,hw'⟩:=mr (P:=P) (n:=(#[none]++left.map some).size) (by rw [lh];simp) E.w;have hi0:i=0:=by rw [lh] at hi;simpa using hi
  subst hi0;rw [hch,lh] at aJ;refine ⟨w',hw',.inl ⟨fun j hja=>?_,by rw [aJ];simp⟩⟩
  by_cases hin:j∈ix
  ·exact hin
  ·exfalso;have hx:=Array.getElem?_eq_getElem hja;have hns:seen.contains (arr[j]).born=false:=by
    rw [Bool.eq_false_iff];intro hc;exact hin ((nJ j _ hx).1 hc)
   have:arr[j]∈left:=by
    rw [<- hL,Array.mem_filter];exact ⟨Array.getElem_mem hja,by rw [hns];rfl⟩
   rw [lh] at this;simp at this
 |false=>
  rw [hE] at aJ;simp only [Bool.false_eq_true,if_false,Array.empty_append] at aJ;have aH:0<left.size:=Array.size_pos_iff.2 (Array.isEmpty_eq_false_iff.1 hE);obtain ⟨i,w',hi,hch,hw'⟩:=mr (P:=P) (n:=(left.map some).size) (by simpa using aH) E.w;have hi:i<left.size:=by simpa using hi
  have hli:(left.map some)[i]? =some (some left[i]):=by simp [hi]
  rw [hch] at aJ;simp only [Result.andThen_ok,hli] at aJ;obtain ⟨h1,h2⟩:=dJ left[i] (Array.getElem_mem hi);obtain ⟨j,hj⟩:=Array.mem_iff_getElem?.1 h1;have lS: ¬j∈ix:=fun hh=>by
   have:=(nJ j _ hj).2 hh
   rw [h2] at this;cases this
  have hbj:bs.getD j 0=left[i].born:=by
   rw [List.getD_eq_getElem?_getD,hbs];simp [hj]
  have rX:seen.push left[i].born=((ix++[j]).map fun j=>bs.getD j 0).toArray:=by
   rw [<- hS, <-hbj];simp
  refine ⟨w',hw',.inr ⟨j,left[i],hj,lS,?_⟩⟩;have sG:(setObj k (.mapIter (some g) c (seen.push left[i].born) c)).run P w'= .ok () {w' with heap:=w'.heap.setIfInBounds k (.mapIter (some g) c (seen.push left[i].born) c)}:=by
   have:w'.heap[k]? =some (.mapIter (some g) c seen c):=by rw [jR w' hw'];exact hgk
   simp [setObj,Sem.run,this]
  rw [aJ, <-rX];simp [sG]
end
section
variable [Glb]{P:Program}{N:Nat}{w0:World}{S0:aa}{o:Oper}{a:Act}{E:Env}{st:St}
theorem mg(h:SR N w0 S0 E st a.tmps){d k:Nat}(hd:d<N)(aw:o.dst=some d){B:BX}(hbk:st.bx k=some B){ob:Obj}(hgk:E.w.heap[E.κ k]? =some ob){w':World}(hw':w'=E.w\/w'=E.w.drew)(ob':Obj)(B':BX)
  (hB: ∀E':Env,Grow {E with w:=w' } E'->bM E' ob' B') {x:MapEntry} {e:T×T} (hr:Rep E.S E.w x.key e.1/\Rep E.S E.w x.val e.2)
  (aJ:(execOp a.eval o).run P E.w= .ok (.value (.tuple #[.bool true,x.key,x.val])) {w' with heap:=w'.heap.setIfInBounds (E.κ k) ob' }) (_: ∀arr c,ob≠ .map arr c):
  Did P N w0 S0 o a E {st with sl:=upd st.sl d (.t (.tup [.bool true,e.1,e.2])),bx:=upd st.bx k (some B')}:=by
 have world:SR N w0 S0 {E with w:=w' } st a.tmps/\w'.heap=E.w.heap:=by
  rcases hw' with rfl|rfl
  ·exact ⟨h,rfl⟩
  ·exact ⟨h.drew,rfl⟩
 refine ⟨.value (.tuple #[.bool true,x.key,x.val]),.tuple #[.bool true,x.key,x.val],{E with w:={w' with heap:=w'.heap.setIfInBounds (E.κ k) ob' }},aJ,.inl rfl,?_⟩;rw [aw];have hwr:=world.1.oM hbk ob' B' hB;refine hwr.put hd (.t _ _ (.tup _ _ rfl fun i' z u hz hu=>?_));have up: ∀{v:Value} {t:T},Rep E.S E.w v t->Rep E.S {w' with heap:=w'.heap.setIfInBounds (E.κ k) ob' } v t:=fun hr=>hr.mono (fun _ _ h=>h) (fun b' o' hs=>by
  refine aB.dz ?_;have hne:b'≠E.κ k:=fun e=>(h.bx k _ hbk).free o' (e▸hs)
  show (w'.heap.setIfInBounds (E.κ k) ob')[b']? =_
  rw [world.2];exact (Go.MapKept.heap_set hgk).2 b' hne)
 match i',hz,hu with
 |0,hz,hu=>simp at hz hu;subst hz;subst hu;exact .bool _
 |1,hz,hu=>simp at hz hu;subst hz;subst hu;exact up hr.1
 |2,hz,hu=>simp at hz hu;subst hz;subst hu;exact up hr.2
 |i'+3,hz,hu=>simp at hz
theorem oi(h:SR N w0 S0 E st a.tmps)(hd:ay N o.dst){y:O}(hl:ah P o.op=some (.mnext y)){K:St->Prop}(hw:wpO P (.mnext y) o.dst st K): ∃st',K st'/\Did P N w0 S0 o a E st':=by
 obtain ⟨X,ho,hX⟩:=mN hl;have hv:=af h.sl hX;unfold wpO at hw;cases aw:o.dst with
 |none=>rw [aw] at hw;exact hw.elim
 |some d=>
  rw [aw] at hw hd;simp only at hw;have over: ∀{w':World},(w'=E.w\/w'=E.w.drew)->(execOp a.eval o).run P E.w= .ok (.value (.tuple #[.bool false])) w'->Did P N w0 S0 o a E (st.put d (.t (.tup [.bool false]))):=fun {w'} hw' aJ=>by
   have world:SR N w0 S0 {E with w:=w' } st a.tmps:=by
    rcases hw' with rfl|rfl
    ·exact h
    ·exact h.drew
   refine ⟨.value (.tuple #[.bool false]),.tuple #[.bool false],{E with w:=w' },aJ,.inl rfl,?_⟩;rw [aw];exact world.put hd (.t _ _ (.tup _ _ rfl fun i x u hx hu=>by
    cases i with
    |zero=>simp at hx hu;subst hx;subst hu;exact .bool _
    |succ i=>simp at hx))
  split at hw
  ·rename_i k hk;rw [hk] at hv;obtain ⟨hP,hlk⟩:=hv.bd;split at hw
   ·rename_i b bs c ix hbk;split at hw
    ·rename_i ag sh es q hbb;obtain ⟨hq,hnd,hlt,hlen,hix,gG,cC⟩:=hw;obtain ⟨arr,clock,hg,hR⟩:=(h.bx b _ hbb).map;have hmb:=hR.mb q rfl;rw [hq] at hmb;simp only [Prod.mk.injEq] at hmb;obtain ⟨hbs,rfl⟩:=hmb;obtain ⟨ob,hgk,hob⟩:=(h.bx k _ hbk).at_;cases hob with
     |cells _ _ _ hc=>cases hc
     |it _ _ _ _ hlb=>
     obtain ⟨w',hw',⟨fF,aJ⟩|⟨j,x,hj,lS,aJ⟩⟩:=kN (P:=P) (a:=a) (E:=E) ho hP hbs hnd (fun j hj=>by rw [hR.size];exact hix j hj) (fun x hx=>hR.lt x (by simpa using hx)) hg hgk
     ·exact ⟨_,cC fun j hj=>fF j (by rw [hR.size];exact hj),over hw' aJ⟩
     ·have hjl:j<es.length:=by rw [<- hR.size];exact (Array.getElem?_eq_some_iff.1 hj).1
      have he:=ggZ hjl;have dK:=hR.at_ j _ _ hj he;exact ⟨_,gG j _ he lS,mg h hd aw hbk hgk hw' _ _ (fun E' g=>by
       obtain ⟨l1,l2⟩:=g.κ b hlb;have l2:E'.κ b=E.κ b:=l2;rw [<- l2];exact bM.it b bs c (ix++[j]) l1) ⟨dK.1,dK.2.1⟩ aJ (fun _ _ e=>by cases e)⟩
    ·exact hw.elim
   ·rename_i es ix hbk;obtain ⟨hix,gG,cC⟩:=hw;obtain ⟨ob,hgk,hob⟩:=(h.bx k _ hbk).at_;cases hob with
    |cells _ _ _ hc=>cases hc
    |itd g arr c ag sh _ _ hg hS hR=>
    obtain ⟨w',hw',⟨fF,aJ⟩|⟨j,x,hj,lS,aJ⟩⟩:=kN (P:=P) (a:=a) (E:=E) ho hP rfl hR.apart (fun j hj=>by rw [hR.size];exact hix j hj) (fun x hx=>hR.lt x (by simpa using hx)) hg hgk
    ·exact ⟨_,cC fun j hj=>fF j (by rw [hR.size];exact hj),over hw' aJ⟩
    ·have hjl:j<es.length:=by rw [<- hR.size];exact (Array.getElem?_eq_some_iff.1 hj).1
     have he:=ggZ hjl;have dK:=hR.at_ j _ _ hj he;have jR:w'.heap=E.w.heap:=by rcases hw' with rfl|rfl <;> rfl
     exact ⟨_,gG j _ he lS,mg h hd aw hbk hgk hw' _ _ (fun E' g'=>by
      have g0:Grow E {E with w:=w' }:=⟨rfl,fun _ hl=>⟨hl,rfl⟩,fun r k hr=>⟨hr,by show w'.heap[_]? =_;rw [jR],fun _=>Iff.rfl⟩,fun _ _ hs=>hs,fun b o hs=>aB.dz (by show w'.heap[_]? =_;rw [jR])⟩
      have hg1:({E with w:=w' }:Env).w.heap[g]? =some (.map arr c):=by show w'.heap[g]? =_;rw [jR];exact hg
      exact bM.itd g arr c ag sh es (ix++[j]) ((g'.cell g 0 hS).map _ _ hg1) (g'.S _ _ hS) ((hR.grow g0).grow g')) ⟨dK.1,dK.2.1⟩ aJ (fun _ _ e=>by cases e)⟩
   ·exact hw.elim
  ·exact hw.elim
end
section
variable {P:Program}{N:Nat}{w0:World}{S0:aa}{o:Oper}{a:Act}{E:Env}{st:St}
theorem eY{t e:TypeId}{size bytes:Nat}{s x:O}(hl:ah P o.op=some (.append t e size bytes s x)):
  ∃X Y u j z,o.op= .call {callee:=.builtin .append,args:= #[X,Y],argTypes:= #[t,u]}/\((∃ e',P.underlying u=some (.slice e'))\/P.underlying u=some .string)/\P.underlying t=some (.slice e)/\P.info? e=some j/\cj P e=some z/\size=j.size/\bytes=j.bytes/\0<j.size/\0<j.bytes/\ak X=some s/\ak Y=some x:=by
 have no: ∀{y:DOp},some y=some (DOp.append t e size bytes s x)->y.plain=true->False:=fun h1 h2=>by cases h1;cases h2
 cases ho:o.op with
 |call c=>
  rw [ho] at hl;obtain ⟨callee,az,argTypes⟩:=c;simp only [ah,bG] at hl;split at hl
  ·repeat' (first|exact (no hl rfl).elim|(split at hl)|(simp only [cond_eq_ite] at hl)|(cases hl;done))
  ·repeat' (first|exact (no hl rfl).elim|(split at hl)|(simp only [cond_eq_ite] at hl)|(cases hl;done))
  ·repeat' (first|exact (no hl rfl).elim|(split at hl)|(simp only [cond_eq_ite] at hl)|(cases hl;done))
  ·repeat' (first|exact (no hl rfl).elim|(split at hl)|(simp only [cond_eq_ite] at hl)|(cases hl;done))
  ·repeat' (first|exact (no hl rfl).elim|(split at hl)|(simp only [cond_eq_ite] at hl)|(cases hl;done))
  ·split at hl
   ·rename_i X Y t' u h1 h2;split at hl
    ·rename_i e' s' x' hu hs hx';split at hl
     ·rename_i j z hj hz;simp only [cond_eq_ite] at hl;split at hl
      ·rename_i hc;simp only [Bool.and_eq_true] at hc;cases hl;have e1:az= #[X,Y]:=Array.toList_inj.1 (by simpa using h1);have hk:(∃ e',P.underlying u=some (.slice e'))\/P.underlying u=some .string:=by
        rcases Bool.or_eq_true _ _▸hc.1.1 with h|h
        ·have e2:t=u:=Nat.eq_of_beq_eq_true h;exact .inl ⟨_,e2▸hu⟩
        ·unfold oa at h;split at h
         ·exact .inr (by assumption)
         ·cases h
       have e3:argTypes= #[t,u]:=Array.toList_inj.1 (by simpa using h2);subst e1;subst e3;exact ⟨X,Y,u,j,z,rfl,hk,hu,hj,hz,rfl,rfl,Nat.lt_of_lt_of_le (Nat.lt_succ_self 0) (nlZ hc.1.2),Nat.lt_of_lt_of_le (Nat.lt_succ_self 0) (nlZ hc.2),hs,hx'⟩
      ·cases hl
     ·cases hl
    ·cases hl
   ·cases hl
  ·repeat' (first|exact (no hl rfl).elim|(split at hl)|(simp only [cond_eq_ite] at hl)|(cases hl;done))
  ·repeat' (first|exact (no hl rfl).elim|(split at hl)|(simp only [cond_eq_ite] at hl)|(cases hl;done))
  ·repeat' (first|exact (no hl rfl).elim|(split at hl)|(simp only [cond_eq_ite] at hl)|(cases hl;done))
  ·cases hl
 |unOp op t' X=>
  exfalso;rw [ho] at hl;cases op <;> simp only [ah,Option.map_eq_some_iff] at hl <;> first|(obtain ⟨_,_,hl⟩:=hl;cases hl)|cases hl
 |slice t' X lo hi mx=>
  exfalso;rw [ho] at hl;cases lo <;> cases hi <;> cases mx <;> simp only [ah] at hl <;> repeat' (first|exact no hl rfl|(split at hl)|(simp only [cond_eq_ite] at hl)|(cases hl;done))
 |binOp op t' X Y ty=>
  exfalso;rw [ho] at hl;cases op <;> simp only [ah] at hl <;> repeat' (first|exact no hl rfl|(split at hl)|(simp only [cond_eq_ite] at hl)|(cases hl;done))
 |_=>
  exfalso;rw [ho] at hl;simp only [ah] at hl
  repeat' (first|exact no hl rfl|(split at hl)|(simp only [cond_eq_ite] at hl)|(simp only [Option.map_eq_some_iff] at hl;obtain ⟨_,_,hl⟩:=hl;cases hl;done)|(cases hl;done))
end
section
variable [Glb]{P:Program}{N:Nat}{w0:World}{S0:aa}{o:Oper}{a:Act}{E:Env}{st:St}
theorem nn(h:SR N w0 S0 E st a.tmps)(hd:ay N o.dst){x:DOp}(hl:ah P o.op=some x)(bZ:x.bC=false){K:St->Prop}(hw:wpO P x o.dst st K): ∃st',K st'/\Did P N w0 S0 o a E st':=by
 by_cases hx:x.plain=true
 ·obtain ⟨e,he,hk⟩:=iO hx hw;exact ⟨_,hk,o9 h hd hl bZ he⟩
 ·have fin: ∀(d:Nat) (st':St),o.dst=some d->(∃ (v':Value) (E':Env),(execOp a.eval o).run P E.w= .ok (.value v') E'.w/\SR N w0 S0 E' st' (a.tmps.setIfInBounds d v'))->Did P N w0 S0 o a E st':=by
   rintro d st' aw ⟨v',E',hr,hsr⟩;exact ⟨_,v',E',hr,.inl rfl,by rw [aw];exact hsr⟩
  cases x with
  |append t e size bytes s x=>
   have inv:=eY hl;obtain ⟨X,Y,u,j,zs,ho,hku,hu,hj,hz,rfl,rfl,hsz,hby,hX,hY⟩:=inv;obtain ⟨z,hjz,hzs⟩:=iD hj hz;have hvX:=af h.sl hX;have hvY:=af h.sl hY;have exec: ∀(v y v':Value) (w':World),a.eval X=v->a.eval Y=y->(Builtin.append_ #[t,u] o.type #[v,y]).run P E.w= .ok v' w'->(execOp a.eval o).run P E.w= .ok (.value v') w':=fun v y v' w' h1 h2 hr=>
    aD ho (by simp [builtin,h1,h2,hr])
   unfold wpO at hw;cases aw:o.dst with
   |none=>rw [aw] at hw;exact hw.elim
   |some d=>
    rw [aw] at hw hd;simp only at hw;have go: ∀(r:Nat) (xs ys:List T),bN E (a.eval X) r e j.size xs->(∃ news,ct P E (a.eval Y) j.size ys news)->(xs.length+ys.length) * j.bytes<=140737488355328->K ((st.dg r (d+st.off)).put d (.own (d+st.off) e j.size (xs++ys)))->
      ∃st',K st'/\Did P N w0 S0 o a E st':=fun r xs ys hv ⟨news,hy⟩ bn hk=>by
     obtain ⟨v',E',hr,hsr⟩:=nr (ty:=o.type) h hd hu hj hjz hzs hsz hby hv hy hku bn;exact ⟨_,hk,fin d _ aw ⟨v',E',exec _ _ _ _ rfl rfl hr,hsr⟩⟩
    unfold e9 at hw;split at hw
    ·rename_i n ys hy;obtain ⟨hn,hw⟩:=hw;have hry: ∃news,ct P E (a.eval Y) j.size ys news:=by
      rcases hn with rfl|rfl
      ·exact eP h hvY hy hsz
      ·exact kd h hvY hy
     split at hw
     ·rename_i hs;rw [hs] at hvX;have hX':a.eval X= .slice none 0 0:=by
       have:=hvX.ax
       generalize a.eval X=v at this;cases this;rfl
      exact go (d+st.off) [] ys (by rw [hX'];exact bN.nil (d+st.off) e j.size) hry (by simpa using hw.1) (by simpa using hw.2)
     ·rename_i r e' size' xs hs;rw [hs] at hvX;simp only [cond_eq_ite] at hw;split at hw
      ·rename_i hc;rw [Bool.and_eq_true] at hc;have h1:e'=e:=Nat.eq_of_beq_eq_true hc.1;have h2:size'=j.size:=Nat.eq_of_beq_eq_true hc.2;subst h1;subst h2;exact go r xs ys hvX.eU hry hw.1 hw.2
      ·exact hw.elim
     ·exact hw.elim
    ·rename_i hy;have hry: ∃news,ct P E (a.eval Y) j.size [] news:=jy h hvY hy;split at hw
     ·rename_i hs;rw [hs] at hvX;have hX':a.eval X= .slice none 0 0:=by
       have:=hvX.ax
       generalize a.eval X=v at this;cases this;rfl
      exact go (d+st.off) [] [] (by rw [hX'];exact bN.nil (d+st.off) e j.size) hry (by simp) (by simpa using hw)
     ·rename_i r e' size' xs hs;rw [hs] at hvX;simp only [cond_eq_ite] at hw;split at hw
      ·rename_i hc;rw [Bool.and_eq_true] at hc;have h1:e'=e:=Nat.eq_of_beq_eq_true hc.1;have h2:size'=j.size:=Nat.eq_of_beq_eq_true hc.2;subst h1;subst h2;exact go r xs [] hvX.eU hry (by simpa using hw.1) (by simpa using hw.2)
      ·exact hw.elim
     ·exact hw.elim
    ·exact hw.elim
  |buildS e size n zs parts=>
   have inv:=iw hl;obtain ⟨t,ps,j,ho,hu,hj,hz,rfl,hsz,il,qs,hqs,hin,rfl⟩:=inv;unfold wpO at hw;cases aw:o.dst with
   |none=>rw [aw] at hw;exact hw.elim
   |some d=>
    rw [aw] at hw hd;simp only at hw;split at hw
    ·rename_i es c hf;exact ⟨_,hw.2,fin d _ aw (by obtain ⟨v2,E2,_,q1,q2⟩:=jF h hd ho hu hj hz hsz il hqs hin hf hw.1;exact ⟨v2,E2,q1,q2⟩)⟩
    ·exact hw.elim
  |inl f args=>exact (mO hl).elim
  |appV=>exact (oe hl).elim
  |fcall f args=>exact (od hl).elim
  |mrng m=>exact pH h hd hl hw
  |mnext y=>exact oi h hd hl hw
  |_=>exact absurd rfl hx
theorem mH(h:SR N w0 S0 E st a.tmps)(hd:ay N o.dst){x:DOp}(hl:ah P o.op=some x){K:St->Prop}(hw:wpO P x o.dst st K){Q:Exit->Act->World->Prop}: ∃st',K st'/\o.wp P a E.w (bt N w0 S0 a st') Q:=by
 cases bZ:x.bC with
 |true=>
  have hx:x.plain=true:=by cases x <;> first|rfl|cases bZ
  obtain ⟨e,he,hk⟩:=iO hx hw;exact ⟨_,hk,qz h hd hl he⟩
 |false=>
  obtain ⟨st',hk,nx,v,E',hr,hnx,hsr⟩:=nn h hd hl bZ hw;refine ⟨st',hk,?_⟩;unfold Oper.wp;rw [hr];rcases hnx with rfl|⟨rfl,rfl⟩
  ·exact ⟨E',rfl,hsr,by cases o.dst <;> rfl⟩
  ·exact ⟨E',rfl,hsr,by cases o.dst <;> rfl⟩
end
end Go.DL
end
section
namespace Go.DL
open Go.RowKit
section
variable [Glb]{P:Program}{X:List FuncId}{N:Nat}{w0:World}{S0:aa}{o:Oper}{a:Act}{E:Env}{st:St}
end
section
variable {P:Program}{X:List FuncId}{N:Nat}{w0:World}{S0:aa}{o:Oper}{a:Act}{E:Env}{st:St}
theorem eX{ops:Array Oper}{i:DI}(hl:jt P N X ops o=some i):(∃ x,ah P o.op=some x/\i.op=cX X o.dst x)/\i.dst=o.dst/\ay N o.dst/\i.after=(o.after.toList.filter fun e=>Region.binds .any e).map (·.on)/\
  ((o.guard=none/\i.guard=none)\/ ∃j want g,o.guard=some (j,want)/\(ops[j]?).bind (·.dst)=some g/\i.guard=some (g,want)/\g<N):=by
 have okd: ∀{d:Option Nat},okB N d=true->ay N d:=fun {d} h=>by
  cases d with
  |none=>trivial
  |some n=>exact nlZ h
 unfold jt at hl;split at hl
 ·rename_i d hd;simp only at hl;split at hl
  ·rename_i hg;simp only [cond_eq_ite] at hl;split at hl
   ·rename_i hc;cases hl;exact ⟨⟨d,hd,rfl⟩,rfl,okd hc,rfl,.inl ⟨hg,rfl⟩⟩
   ·cases hl
  ·rename_i j want hg;split at hl
   ·rename_i g hj;simp only [cond_eq_ite] at hl;split at hl
    ·rename_i hc;cases hl;rw [Bool.and_eq_true] at hc;exact ⟨⟨d,hd,rfl⟩,rfl,okd hc.1,rfl,.inr ⟨j,want,g,hg,hj,rfl,nlZ hc.2⟩⟩
    ·cases hl
   ·cases hl
 ·cases hl
end
section
variable [Glb]{P:Program}{X:List FuncId}{N:Nat}{w0:World}{S0:aa}{o:Oper}{a:Act}{E:Env}{st:St}
theorem lj(h:SR N w0 S0 E st a.tmps){n:Nat}(hl:E.live n=true):E.κ n<E.w.heap.size:=by
 rw [h.live] at hl;obtain ⟨b',hb'⟩:=Option.isSome_iff_exists.1 hl;obtain ⟨_,hg,_⟩:=(h.bx n b' hb').at_;exact (Array.getElem?_eq_some_iff.1 hg).1
end
section
variable {P:Program}{X:List FuncId}{N:Nat}{w0:World}{S0:aa}{o:Oper}{a:Act}{E:Env}{st:St}
theorem ot: ∀(n:Nat) (g:Nat->Nat),(∀ i,i<=n->g i<n)-> ∃i j,i<j/\j<=n/\g i=g j
 |0,g,h=>absurd (h 0 (Nat.le_refl 0)) (Nat.not_lt_zero _)
 |n+1,g,h=>by
  by_cases hv: ∃i,i<=n/\g i=g (n+1)
  ·obtain ⟨i,hi,he⟩:=hv;exact ⟨i,n+1,by omega,Nat.le_refl _,he⟩
  ·obtain ⟨i,j,h1,h2,h3⟩:=ot n (fun i=>if g (n+1)<g i then g i - 1 else g i) (fun i hi=>by
    have a:=h i (by omega);have b:=h (n+1) (Nat.le_refl _);have c:g i≠g (n+1):=fun e=>hv ⟨i,hi,e⟩
    split <;> omega)
   refine ⟨i,j,h1,by omega,?_⟩;have c1:g i≠g (n+1):=fun e=>hv ⟨i,by omega,e⟩
   have c2:g j≠g (n+1):=fun e=>hv ⟨j,h2,e⟩
   split at h3 <;> split at h3 <;> omega
end
section
variable [Glb]{P:Program}{X:List FuncId}{N:Nat}{w0:World}{S0:aa}{o:Oper}{a:Act}{E:Env}{st:St}
theorem SR.spare{b:Array Value}(h:SR N w0 S0 E st b): ∃q,E.ρ q=none:=by
 apply Classical.byContradiction
 intro hn;have hs: ∀q,E.ρ q=some ((E.ρ q).getD 0):=fun q=>by
  cases hq:E.ρ q with
  |none=>exact absurd ⟨q,hq⟩ hn
  |some g=>rfl
 obtain ⟨i,j,h1,_,h3⟩:=ot E.w.heap.size (fun q=>(E.ρ q).getD 0) (fun i _=>(h.rows i _ (hs i)).2.1)
 have:=h.rinj i j _ (hs i) (by rw [h3];exact hs j)
 omega
theorem SR.lr{b:Array Value}(h:SR N w0 S0 E st b){q g k:Nat}(cC:E.ρ q=none)(hg: ∀m,E.live m=true->E.κ m≠g)(hρ: ∀r,E.ρ r≠some g)(hlt:g<E.w.heap.size)(hold:E.B<=g):
  SR N w0 S0 {E with S:=fun b o=>E.S b o\/(b=g/\o<k),ρ:=upd E.ρ q (some g)} st b:=by
 have gr:Grow E {E with S:=fun b o=>E.S b o\/(b=g/\o<k),ρ:=upd E.ρ q (some g)}:=by
  refine ⟨rfl,fun m hm=>⟨hm,rfl⟩,fun r k' hr=>?_,fun b o hs=>.inl hs,fun _ _ _=>aB.rfl⟩;have hrq:r≠q:=fun e=>by rw [e,cC] at hr;cases hr
  refine ⟨(ae _ _ _ _ hrq).trans hr,rfl,fun o=>⟨fun hs=>hs.elim id fun hh=>absurd (hh.1▸hr) (hρ r),.inl⟩⟩
 refine h.step gr rfl rfl (fun n hl=>⟨rfl,fun o hs=>?_⟩) (fun r k' hr=>?_) (fun r r' k' h1 h2=>?_) (fun b o hs=>?_) h.below (fun b o hs=>?_) (fun k o _ hk=>hk)
 ·rcases hs with hs|⟨hs,_⟩
  ·rw [h.live] at hl;obtain ⟨b',hb'⟩:=Option.isSome_iff_exists.1 hl;exact (h.bx n b' hb').free o hs
  ·exact hg n hl hs
 ·have hr:upd E.ρ q (some g) r=some k':=hr
  by_cases hrq:r=q
  ·subst hrq;rw [aj] at hr;cases hr;exact ⟨hold,hlt,hg⟩
  ·rw [ae _ _ _ _ hrq] at hr;exact h.rows r k' hr
 ·have h1:upd E.ρ q (some g) r=some k':=h1;have h2:upd E.ρ q (some g) r'=some k':=h2
  by_cases e1:r=q <;> by_cases e2:r'=q
  ·rw [e1,e2]
  ·subst e1;rw [aj] at h1;rw [ae _ _ _ _ e2] at h2;cases h1;exact absurd h2 (hρ r')
  ·subst e2;rw [aj] at h2;rw [ae _ _ _ _ e1] at h1;cases h2;exact absurd h1 (hρ r)
  ·rw [ae _ _ _ _ e1] at h1;rw [ae _ _ _ _ e2] at h2;exact h.rinj r r' k' h1 h2
 ·rcases hs with hs|⟨rfl,_⟩
  ·exact h.lt b o hs
  ·exact hlt
 ·rcases hs with hs|⟨rfl,_⟩
  ·exact h.s1 b o hs
  ·right;rw [<- h.base];exact hold
theorem iT{f:FuncId}{us:List V}{ts:List T}{rd:List Nat}{e:TypeId}{size:Nat}{xs rest:List T}(hc:bm st.bx us=some (ts,rd))(hr:eu P f ts e size xs rest)
  (h:SR N w0 S0 E st a.tmps) {vs:Array Value} (hlen:vs.size=us.length) (hv: ∀(i:Nat) (v:Value) (u:V),vs[i]? =some v->us[i]? =some u->VR E v u):
  Calls P f vs E.w fun en w'=> ∃(v:Value) (us:List Value),en= .returned (iN v us)/\Below E.w.heap.size E.w w'/\gn E.w w' v e size xs/\
   us.length=rest.length/\(∀ (i:Nat) (u:Value) (t:T),us[i]? =some u->rest[i]? =some t->t.flat=true/\Rep (fun _ _=>False) w' u t)/\SR N w0 S0 {E with w:=w' } st a.tmps:=by
 obtain ⟨c1,c2⟩:=ed h.bx hc;have hlt: ∀b x,Sx E rd b x->b<E.w.heap.size:=by
  rintro b x (h1|⟨n,_,hl,rfl⟩)
  ·exact h.lt b x h1
  ·exact lj h hl
 have bZ:=hr.2 (Sx E rd) E.w vs.toList hlt (h.nF rd) (by simp;omega) (fun i v t hvi ht=>by
  have hi:i<us.length:=by rw [c1];exact (gsZ ht).1
  exact c2 i v _ t (hv i v _ (by simpa using hvi) (ggZ hi)) (ggZ hi) ht)
 refine Calls.mono (by simpa using bZ) ?_;rintro en w' ⟨v,us',rfl,hb,hfr,hl,iK⟩;exact ⟨v,us',rfl,hb,hfr,hl,iK,h.world hb E.S (fun b o=>⟨.inl,fun hh=>hh.elim id fun k=>k.1⟩)⟩
end
section
variable {P:Program}{X:List FuncId}{N:Nat}{w0:World}{S0:aa}{o:Oper}{a:Act}{E:Env}{st:St}
theorem Rep.narrow{S:ar}{w:World}{v:Value}{cs:List T}(h:Rep S w v (.cptr cs 0))(n:Nat):Rep S w v (.cptr (cs.take n) 0):=by
 cases h with
 |cptr b o' _ _ g h1 hg hr=>
  refine .cptr b o' 0 _ g (fun t ht=>h1 t (List.mem_of_mem_take ht)) (fun i hi=>hg i (by rw [List.length_take] at hi;omega)) fun i t ht=>hr i t ?_
  rw [List.getElem?_take] at ht;split at ht
  ·exact ht
  ·cases ht
end
section
variable [Glb]{P:Program}{X:List FuncId}{N:Nat}{w0:World}{S0:aa}{o:Oper}{a:Act}{E:Env}{st:St}
theorem SR.narrow{b:Array Value}{d n:Nat}{cs:List T}(h:SR N w0 S0 E (st.set (some d) (.t (.cptr cs 0))) b):SR N w0 S0 E (st.set (some d) (.t (.cptr (cs.take n) 0))) b:=by
 refine ⟨h.size,h.base,h.glob,fun m=>?_,h.gh,h.bx,h.live,h.inj,h.rows,h.rinj,h.lt,h.below,h.s0,h.s1,h.obj,h.cx⟩;have hm:=h.sl m;show VR E _ (upd st.sl d (.t (.cptr (cs.take n) 0)) m)
 have hm:VR E (b.getD m undef) (upd st.sl d (.t (.cptr cs 0)) m):=hm
 by_cases e:m=d
 ·subst e;rw [aj] at hm ⊢;exact .t _ _ (hm.ax.narrow n)
 ·rw [ae _ _ _ _ e] at hm ⊢;exact hm
theorem rG(h:SR N w0 S0 E st a.tmps)(hd:ay N o.dst){x:DOp}(hl:ah P o.op=some x){K:St->Prop}(hw:wpO P (cX X o.dst x) o.dst st K){Q:Exit->Act->World->Prop}:
  o.wp P a E.w (fun a' w'=> ∃st',K st'/\bt N w0 S0 a st' a' w') Q:=by
 have plain:wpO P x o.dst st K->o.wp P a E.w (fun a' w'=> ∃st',K st'/\bt N w0 S0 a st' a' w') Q:=fun hw=>by
  obtain ⟨st',hk,hh⟩:=mH h hd hl hw (Q:=Q);exact Oper.wp_mono (fun a' w' hn=>⟨st',hk,hn⟩) hh
 have did: ∀{st':St},K st'->Did P N w0 S0 o a E st'->o.wp P a E.w (fun a' w'=> ∃st',K st'/\bt N w0 S0 a st' a' w') Q:=by
  rintro st' hk ⟨nx,v,E',hr,hnx,hsr⟩;unfold Oper.wp;rw [hr];rcases hnx with rfl|⟨rfl,rfl⟩
  ·exact ⟨_,hk,E',rfl,hsr,by cases o.dst <;> rfl⟩
  ·exact ⟨_,hk,E',rfl,hsr,by cases o.dst <;> rfl⟩
 cases x with
 |call f args=>
  have inl:WC P f (args.map (ev st.sl)) o.dst st K->o.wp P a E.w (fun a' w'=> ∃st',K st'/\bt N w0 S0 a st' a' w') Q:=fun hw=>by
   obtain ⟨hc,hw⟩:=hw;obtain ⟨⟨callee,az,argTypes⟩,ho,hl'⟩:=eN hl rfl;obtain ⟨rfl,has⟩:=(eh hl').1 f args rfl;obtain ⟨h1,h2⟩:=fQ h.sl has;have hex:=e6 (E:=E) (a:=a) (caps:= #[]) ho rfl hc;rw [Array.append_empty] at hex
   have:=hw N w0 S0 E a.tmps (az.map a.eval) h (by simp [h1]) h2 (fun n hn=>by rw [hn] at hd;exact hd)
   unfold Oper.wp;rw [hex];refine Calls.mono this ?_;rintro e w' ⟨v,rfl,E',st',rfl,hk,hsr⟩;refine ⟨st',hk,E',rfl,?_,by cases o.dst <;> rfl⟩;cases aw:o.dst with
   |none=>rw [aw] at hsr;exact hsr
   |some n=>rw [aw] at hsr;exact hsr
  have low:wpO P (fk X (.call f args)) o.dst st K->o.wp P a E.w (fun a' w'=> ∃st',K st'/\bt N w0 S0 a st' a' w') Q:=fun hw=>by
   have hw:wpO P (cond (X.contains f) (.inl f args) (.call f args)) o.dst st K:=hw;cases hX:X.contains f with
   |false=>rw [hX] at hw;exact plain hw
   |true=>rw [hX] at hw;exact inl hw
  cases aw:o.dst with
  |none=>
   rw [aw] at hw;exact low (by rw [aw];exact hw)
  |some d=>
   have hw':wpO P (cond (X.contains (3000000+d)) (.fcall f args) (match pI X d with
     |[]=>fk X (.call f args)
     |n::ns=>.mcall (n::ns) f args)) o.dst st K:=by
    rw [aw] at hw ⊢;exact hw
   cases hX:X.contains (3000000+d) with
   |false=>
    rw [hX] at hw';cases hM:pI X d with
    |nil=>rw [hM] at hw';exact low hw'
    |cons n ns=>
     rw [hM] at hw';obtain ⟨need,fr,m,b,r,h1,h2,h3,_,_,h6⟩:=hw';exact inl (h1 o.dst st K h2 h3 h6)
   |true=>
    rw [hX] at hw';have hw:dD P f (args.map (ev st.sl)) o.dst st K:=hw';rw [aw] at hw;unfold dD at hw;simp only at hw;split at hw
    ·rename_i ts rd hc;obtain ⟨e,size,xs,hF,hk⟩:=hw;obtain ⟨q,hq⟩:=h.spare;obtain ⟨⟨callee,az,argTypes⟩,ho,hl'⟩:=eN hl rfl;obtain ⟨rfl,has⟩:=(eh hl').1 f args rfl;obtain ⟨h1,h2⟩:=fQ h.sl has;have hex:=e6 (E:=E) (a:=a) (caps:= #[]) ho rfl hF.1;rw [Array.append_empty] at hex;have hd':ay N (some d):=by rw [aw] at hd;exact hd
     have klt: ∀m,E.live m=true->E.κ m<E.w.heap.size:=fun m hm=>lj h hm
     have hk:=hk q;unfold Oper.wp;rw [hex];refine Calls.mono (iT (a:=a) hc hF h (by simp [h1]) h2) ?_;rintro en w' ⟨v,us,rfl,hb,hfr,hul,_,h'⟩;have hus:us=[]:=List.eq_nil_of_length_eq_zero hul;subst hus;obtain ⟨cells,k1,k2,k3⟩:=hfr.ex;rcases k1.2 with ⟨rfl,hn⟩|⟨g,cap,cur,rfl,hbg,hg,cO,hm,hs,htk⟩
     ·have hx:xs=[]:=List.eq_nil_of_length_eq_zero hn;subst hx;refine ⟨_,hk,{E with w:=w' },rfl,?_,by cases o.dst <;> rfl⟩;rw [aw];exact h'.cJ (d:=some d) hd' (.own _ _ _ _ _ (bN.nil _ _ _))
     ·have hlt:g<w'.heap.size:=(Array.getElem?_eq_some_iff.1 hg).1;have h2:=h'.lr (q:=q) (g:=g) (k:=(xs.flatMap T.cells).length) hq (fun m hm=>by have:=klt m hm;show E.κ m≠g;omega) (fun r hr=>by
       have:=(h.rows r g hr).2.1;omega) hlt (by show E.B<=g;rw [h.base];have:=h.below.size;omega)
      refine ⟨_,hk,{({E with w:=w' }:Env) with S:=fun b o=>E.S b o\/(b=g/\o<(xs.flatMap T.cells).length),ρ:=upd E.ρ q (some g)},rfl,?_,by cases o.dst <;> rfl⟩;rw [aw];refine h2.cJ (d:=some d) hd' (.own _ _ _ _ _ ⟨⟨cells,⟨k1.1,.inr ⟨g,cap,cur,rfl,?_,hg,cO,hm,hs,htk⟩⟩,k2,fun i x t hx ht=>(k3 i x t hx ht).of_flat (hfr.flat t (List.mem_of_getElem? ht))⟩,hfr.uni,hfr.one,fun g' hg'=>?_⟩)
      ·show E.B<=g;rw [h.base];have:=h.below.size;omega
      ·have hg2:g=g':=Option.some.inj (show some g=some g' from hg');subst hg2;refine ⟨aj _ _ _,fun o=>?_⟩;show (E.S g o\/(g=g/\o<_))↔_
       exact ⟨fun hh=>hh.elim (fun hs=>absurd (h.lt g o hs) (by omega)) (·.2),fun hh=>.inr ⟨rfl,hh⟩⟩
    ·exact hw.elim
 |append t e size bytes s x=>
  cases s with
  |const c=>exact plain (by unfold cX at hw;exact hw)
  |tmp k=>
   have hw:wpO P (cond (X.contains (8000000+k)) (cond (X.contains (9000000+k)) (.appV size bytes (.tmp k) x) (.appT size bytes (.tmp k) x)) (.append t e size bytes (.tmp k) x)) o.dst st K:=by
    unfold cX at hw;exact hw
   cases hX:X.contains (8000000+k) with
   |false=>rw [hX] at hw;exact plain hw
   |true=>
   cases hX9:X.contains (9000000+k) with
   |true=>
    rw [hX,hX9] at hw;obtain ⟨Xo,Y,u,j,zs,ho,hku,hu,hj,hz,rfl,rfl,hsz,hby,hXo,hY⟩:=eY hl;obtain ⟨z,hjz,hzs⟩:=iD hj hz;have hvX:=af h.sl hXo;have hvY:=af h.sl hY;have hw:wpO P (.appV j.size j.bytes (.tmp k) x) o.dst st K:=hw;cases aw:o.dst with
    |none=>rw [aw] at hw;exact hw.elim
    |some d=>
     rw [aw] at hw;have hw:ke j.size j.bytes d (d+st.off) (ev st.sl (.tmp k)) (ev st.sl x) st K:=hw;unfold ke at hw;split at hw
     ·rename_i n ys hs hq;simp only [cond_eq_ite] at hw;split at hw
      ·rename_i hnr;obtain ⟨⟨rfl,aH,bn⟩,hk⟩:=hw;obtain ⟨news,hsy⟩:=eP h hvY hs hsz;have hA: ∃A,a.eval Xo= .slice A 0 0:=by
        cases hv:ev st.sl (.tmp k) with
        |t y=>
         rw [hv] at hnr hvX;cases y <;> first|exact absurd hnr Bool.false_ne_true|skip
         have:=hvX.ax
         generalize a.eval Xo=v at this;cases this;exact ⟨none,rfl⟩
        |full sz xs=>
         rw [hv] at hnr hvX;cases xs with
         |cons x xs=>exact absurd hnr Bool.false_ne_true
         |nil=>
          generalize a.eval Xo=v at hvX;cases hvX with
          |full A len _ _ hr=>
           cases hr with
           |slice _ _ _ _ _ _ _ _ hlen=>cases hlen;exact ⟨A,rfl⟩
        |_=>rw [hv] at hnr;exact absurd hnr Bool.false_ne_true
       obtain ⟨A,hA⟩:=hA;obtain ⟨v',E',aJ,hsr,hvr⟩:=oS (ty:=o.type) (t:=t) (e:=e) (u:=u) (A:=A) h hu hj hjz hby hsy hku aH bn hq;refine did hk ⟨.value v',v',E',aD ho ?_,.inl rfl,?_⟩
       ·simp [builtin,hA,aJ]
       ·rw [aw] at hd ⊢;exact hsr.cJ (d:=some d) hd hvr
      ·exact hw.elim
     ·exact hw.elim
   |false=>
    rw [hX,hX9] at hw;obtain ⟨Xo,Y,u,j,zs,ho,hku,hu,hj,hz,rfl,rfl,hsz,hby,hXo,hY⟩:=eY hl;obtain ⟨z,hjz,hzs⟩:=iD hj hz;have hvX:=af h.sl hXo;have hvY:=af h.sl hY;have hw:wpR (eff (.appT j.size j.bytes (.tmp k) x) (st.nm o.dst) st.sl st.bx) o.dst st K:=hw;have go: ∀{A:Option Addr} {len:Nat} {xs ys:List T},a.eval Xo= .slice A len len->Rep E.S E.w (.slice A len len) (.slice j.size xs)->(∃ news,ct P E (a.eval Y) j.size ys news)->(xs.length+ys.length) * j.bytes<=140737488355328->
      K (st.app o.dst {val:=.t (.slice j.size (xs++ys))})->o.wp P a E.w (fun a' w'=> ∃st',K st'/\bt N w0 S0 a st' a' w') Q:=fun hX hr ⟨news,hsy⟩ bn hk=>by
     obtain ⟨v',E',aJ,hsr,aq⟩:=oR (ty:=o.type) (t:=t) (e:=e) (u:=u) h hu hj hjz hzs hsz hby hr hsy hku bn;refine did hk ⟨.value v',v',E',aD ho ?_,.inl rfl,?_⟩
     ·simp [builtin,hX,aJ]
     ·rw [iE];exact hsr.cJ hd (.t _ _ aq)
    have src: ∀{n:Nat} {ys:List T},cP st.bx (ev st.sl x)=some (.slice n ys)->(n=j.size\/ys=[])-> ∃news,ct P E (a.eval Y) j.size ys news:=fun hs hn=>by
     rcases hn with rfl|rfl
     ·exact eP h hvY hs hsz
     ·exact kd h hvY hs
    have nilX:ev st.sl (.tmp k)= .t .nil->a.eval Xo= .slice none 0 0:=fun hv=>by
     rw [hv] at hvX
     have:=hvX.ax
     generalize a.eval Xo=v at this;cases this;rfl
    have nilR:Rep E.S E.w (.slice none 0 0) (.slice j.size []):=
     .slice none 0 0 0 0 j.size [] (fun _=>undef) rfl (Nat.le_refl _) (fun x hx=>by simp at hx) (fun t ht=>by simp at ht) (fun hh=>by simp at hh) (fun i hi=>by simp at hi) (fun i t ht=>by simp at ht)
    unfold eff at hw;simp only at hw;split at hw
    ·rename_i n ys hs;split at hw
     ·rename_i sz xs hv;simp only [cond_eq_ite] at hw;split at hw
      ·rename_i hb;have hb:=Nat.eq_of_beq_eq_true hb;subst hb;obtain ⟨⟨hn,bn⟩,hk⟩:=hw;rw [hv] at hvX;generalize hXv:a.eval Xo=vX at hvX;cases hvX with
       |full A len _ _ hr=>exact go hXv hr (src hs hn) bn hk
      ·exact hw.elim
     ·rename_i hv;obtain ⟨⟨hn,bn⟩,hk⟩:=hw;exact go (nilX hv) nilR (src hs hn) (by simpa using bn) (by simpa using hk)
     ·exact hw.elim
    ·rename_i hs;split at hw
     ·rename_i sz xs hv;simp only [cond_eq_ite] at hw;split at hw
      ·rename_i hb;have hb:=Nat.eq_of_beq_eq_true hb;subst hb;obtain ⟨bn,hk⟩:=hw;rw [hv] at hvX;generalize hXv:a.eval Xo=vX at hvX;cases hvX with
       |full A len _ _ hr=>exact go (ys:=[]) hXv hr (jy h hvY hs) (by simpa using bn) (by simpa using hk)
      ·exact hw.elim
     ·rename_i hv;obtain ⟨_,hk⟩:=hw;exact go (ys:=[]) (nilX hv) nilR (jy h hvY hs) (by simp) (by simpa using hk)
     ·exact hw.elim
    ·exact hw.elim
 |buildS e size n zs parts=>
  obtain ⟨t,ps,j,ho,hu,hj,hz,rfl,hsz,il,qs,hqs,hin,rfl⟩:=iw hl;have mk: ∀{es:List T} {c:Prop} {d:Nat},o.dst=some d->aY st.sl j.size (List.replicate n (cond (Nat.beq j.size 1) (zs.headD .nil) (.agg zs))) True (qs.map fun p=>(p.1,p.2.2))=some (es,c)->c->
    Did P N w0 S0 o a E (st.app (some d) {val:=.t (.slice j.size es)})/\Did P N w0 S0 o a E (st.app (some d) {val:=.full j.size es }):=fun aw hf hc=>
   nz h (by rw [aw] at hd;exact hd) ho hu hj hz hsz il hqs hin hf hc aw
  have low:wpO P (fk X (.buildS e j.size n zs (qs.map fun p=>(p.1,p.2.2)))) o.dst st K->o.wp P a E.w (fun a' w'=> ∃st',K st'/\bt N w0 S0 a st' a' w') Q:=fun hw=>by
   have hw:wpO P (cond (X.contains 2000000) (.buildT j.size n zs (qs.map fun p=>(p.1,p.2.2))) (.buildS e j.size n zs (qs.map fun p=>(p.1,p.2.2)))) o.dst st K:=hw;cases hX:X.contains 2000000 with
   |false=>rw [hX] at hw;exact plain hw
   |true=>
    rw [hX] at hw;have hw:wpR (eff (.buildT j.size n zs (qs.map fun p=>(p.1,p.2.2))) (st.nm o.dst) st.sl st.bx) o.dst st K:=hw;cases aw:o.dst with
    |none=>rw [aw] at hw;exact hw.elim
    |some d=>
     rw [aw] at hw;simp only [eff,St.nm] at hw;cases hf:aY st.sl j.size (List.replicate n (cond (Nat.beq j.size 1) (zs.headD .nil) (.agg zs))) True (qs.map fun p=>(p.1,p.2.2)) with
     |none=>rw [hf] at hw;exact hw.elim
     |some ec=>
      obtain ⟨es,c⟩:=ec;rw [hf] at hw;obtain ⟨hc,hk⟩:=hw;exact did hk (mk aw hf hc).1
  cases aw:o.dst with
  |none=>
   rw [aw] at hw low;unfold cX at hw;exact low hw
  |some d=>
   have hw':wpO P (cond (X.contains (8000000+d)) (.buildF j.size n zs (qs.map fun p=>(p.1,p.2.2))) (fk X (.buildS e j.size n zs (qs.map fun p=>(p.1,p.2.2))))) o.dst st K:=by
    rw [aw] at hw ⊢;unfold cX at hw;exact hw
   cases hX:X.contains (8000000+d) with
   |false=>rw [hX] at hw';exact low hw'
   |true=>
    rw [hX] at hw';have hw:wpR (eff (.buildF j.size n zs (qs.map fun p=>(p.1,p.2.2))) (st.nm o.dst) st.sl st.bx) o.dst st K:=hw';rw [aw] at hw;simp only [eff,St.nm] at hw;cases hf:aY st.sl j.size (List.replicate n (cond (Nat.beq j.size 1) (zs.headD .nil) (.agg zs))) True (qs.map fun p=>(p.1,p.2.2)) with
    |none=>rw [hf] at hw;exact hw.elim
    |some ec=>
     obtain ⟨es,c⟩:=ec;rw [hf] at hw;obtain ⟨hc,hk⟩:=hw;exact did hk (mk aw hf hc).2
 |offA k y=>
  have base: ∀{k},wpO P (.offA k y) o.dst st K->ah P o.op=some (.offA k y)->o.wp P a E.w (fun a' w'=> ∃st',K st'/\bt N w0 S0 a st' a' w') Q:=fun hw hl=>by
   obtain ⟨st',hk,hh⟩:=mH h hd hl hw (Q:=Q);exact Oper.wp_mono (fun a' w' hn=>⟨st',hk,hn⟩) hh
  cases k with
  |succ k=>exact base (by unfold cX at hw;exact hw) hl
  |zero=>
   cases aw:o.dst with
   |none=>
    rw [aw] at hw;exact base (by rw [aw];unfold cX at hw;exact hw) hl
   |some d=>
    have hw':wpO P (match pJ X d with
      |[]=>.offA 0 y
      |n::_=>.nar n y) o.dst st K:=by
     rw [aw] at hw ⊢;unfold cX at hw;exact hw
    cases hX:pJ X d with
    |nil=>rw [hX] at hw';exact base hw' hl
    |cons n ns=>
     rw [hX] at hw';have hw:wpR (eff (.nar n y) (st.nm o.dst) st.sl st.bx) o.dst st K:=hw';unfold eff at hw;simp only at hw;split at hw
     ·rename_i cs hv;obtain ⟨hn,hk⟩:=hw;have hw0:wpO P (.offA 0 y) o.dst st (fun st'=>st'=st.app o.dst {val:=.t (.cptr cs 0)}):=by
       have e:wpR (eff (.offA 0 y) (st.nm o.dst) st.sl st.bx) o.dst st (fun st'=>st'=st.app o.dst {val:=.t (.cptr cs 0)}):=by
        unfold eff;simp only [hv];exact rfl
       exact e
      obtain ⟨st',rfl,hh⟩:=mH h hd hl hw0 (Q:=Q);rw [aw] at hh hk;rw [aw] at hd;refine Oper.wp_mono (fun a' w' hn'=>⟨_,hk,?_⟩) hh;obtain ⟨E',h1,h2,h3⟩:=hn';exact ⟨E',h1,h2.narrow,h3⟩
     ·exact hw.elim
 |_=>exact plain (by unfold cX at hw;exact hw)
end
section
variable {P:Program}{X:List FuncId}{N:Nat}{w0:World}{S0:aa}{o:Oper}{a:Act}{E:Env}{st:St}
theorem nj(E:Env):VR E undef bE:=.t _ _ (.tup #[] [] rfl (fun i x t hx _=>by simp at hx))
theorem mu{v:Value}(h:VR E v bE):v= .tuple #[]:=by
 cases h with
 |t _ _ h=>
  cases h with
  |tup cs ts hs _=>
   have:cs= #[]:=by
    cases cs with
    |mk l=>cases l with
     |nil=>rfl
     |cons a r=>simp at hs
   rw [this]
end
section
variable [Glb]{P:Program}{X:List FuncId}{N:Nat}{w0:World}{S0:aa}{o:Oper}{a:Act}{E:Env}{st:St}
theorem oL(h:SR N w0 S0 E st a.tmps){ops:Array Oper}{k:Nat}(ho:ops[k]? =some o){i:DI}(hl:jt P N X ops o=some i){K:St->Prop}(hw:wpI P i st K){Q:Exit->Act->World->Prop}:
  wpOp P ops Q k (fun a' w'=> ∃st',K st'/\bt N w0 S0 a st' a' w') a E.w:=by
 obtain ⟨⟨x,h1,hx⟩,h2,h3,_,h4⟩:=eX hl;have run:wpO P i.op i.dst st K->Region.wanted o (yielded ops a.tmps)=true->wpOp P ops Q k (fun a' w'=> ∃st',K st'/\bt N w0 S0 a st' a' w') a E.w:=fun hw eL=>by
  rw [h2,hx] at hw;unfold wpOp;simp only [ho,eL,if_true];exact .inl (rG h h3 h1 hw)
 have skip:K (st.set i.dst bE)->Region.wanted o (yielded ops a.tmps)=false->wpOp P ops Q k (fun a' w'=> ∃st',K st'/\bt N w0 S0 a st' a' w') a E.w:=fun hk eL=>by
  unfold wpOp;simp only [ho,eL,Bool.false_eq_true,if_false];refine ⟨_,hk,?_⟩;rw [h2];exact ⟨E,rfl,h.cJ h3 (nj E),by cases o.dst <;> rfl⟩
 unfold wpI at hw;rcases h4 with ⟨hg,hi⟩|⟨j,want,g,hg,hj,hi,hlt⟩
 ·rw [hi] at hw;exact run hw (by unfold Region.wanted;rw [hg])
 ·rw [hi] at hw;simp only at hw;have yl: ∀b,st.sl g= .t (.bool b)->yielded ops a.tmps j=some b:=fun b hb=>by
   have hv:=h.sl g;rw [hb] at hv;have hv:=hv.aO;have hsz:g<a.tmps.size:=by rw [h.size];exact hlt
   have:a.tmps[g]? =some (.bool b):=by
    rw [Array.getElem?_eq_getElem hsz];simpa [hsz] using hv
   unfold yielded;rw [hj];simp [this]
  have wn: ∀b,st.sl g= .t (.bool b)->Region.wanted o (yielded ops a.tmps)=(b==want):=fun b hb=>by
   unfold Region.wanted;rw [hg];simp only [yl b hb];cases b <;> cases want <;> rfl
  split at hw
  ·rename_i b hb;have hwn:=wn b hb;cases b <;> cases want <;> simp only at hw
   ·exact run hw hwn
   ·exact skip hw hwn
   ·exact skip hw hwn
   ·exact run hw hwn
  ·rename_i hb;refine skip hw ?_;have hv:=mu (hb▸h.sl g);unfold Region.wanted;rw [hg]
   have:yielded ops a.tmps j=none:=by
    have hsz:g<a.tmps.size:=by rw [h.size];exact hlt
    have:a.tmps[g]? =some (.tuple #[]):=by
     rw [Array.getElem?_eq_getElem hsz];simpa [hsz] using hv
    unfold yielded;rw [hj];simp [this]
   simp only [this];rfl
  ·exact hw.elim
end
section
variable {P:Program}{X:List FuncId}{N:Nat}{w0:World}{S0:aa}{o:Oper}{a:Act}{E:Env}{st:St}
theorem bq{ops:Array Oper}: ∀{l:List Oper} {is:List DI},dj P N X ops l=some is->l.length=is.length/\ ∀(k:Nat) (o:Oper),l[k]? =some o-> ∃i,is[k]? =some i/\jt P N X ops o=some i
 |[],is,h=>by simp [dj] at h;subst h;exact ⟨rfl,fun k o hk=>by simp at hk⟩
 |o::l,is,h=>by
  unfold dj at h;split at h
  ·rename_i d ds hd hds;cases h;obtain ⟨h1,h2⟩:=bq hds;refine ⟨by simp [h1],fun k o' hk=>?_⟩;cases k with
   |zero=>simp at hk;subst hk;exact ⟨d,rfl,hd⟩
   |succ k=>simp at hk;simpa using h2 k o' hk
  ·cases h
end
section
variable [Glb]{P:Program}{X:List FuncId}{N:Nat}{w0:World}{S0:aa}{o:Oper}{a:Act}{E:Env}{st:St}
def j6(is:List DI)(ks:List Nat):List DI:=ks.map fun k=>is[k]?.getD default
theorem kz{ops:Array Oper}{is:List DI}(hl:dj P N X ops ops.toList=some is){Q:Exit->Act->World->Prop}{K:St->Prop}{ds:List Deferred}(hQ: ∀a w,bS N w0 S0 ds K a w->Q .normal a w):
  ∀(ks:List Nat) (_: ∀k∈ks,k<ops.size) {a:Act} {E:Env} {st:St} (_:SR N w0 S0 E st a.tmps) (_:a.defers=ds) (_:cR P (j6 is ks) st K),wpOps P ops Q ks a E.w
 |[],_,a,E,st,h,hd,hw=>hQ a E.w ⟨E,st,rfl,h,hd,hw⟩
 |k::ks,hk,a,E,st,h,hd,hw=>by
  have hlt:=hk k (by simp);have ho:ops[k]? =some ops[k]:=Array.getElem?_eq_getElem hlt;obtain ⟨i,hi,hli⟩:=(bq hl).2 k _ (Array.getElem?_toList.trans ho);have hw':wpI P i st fun st'=>cR P (j6 is ks) st' K:=by
   have:=hw
   unfold j6 at this;rw [List.map_cons,hi] at this;exact this
  rw [wpOps_cons];refine wpOp_mono ?_ (oL h ho hli hw' (Q:=Q));rintro a' w' ⟨st',hk',E',rfl,hsr,hdf⟩;exact kz hl hQ ks (fun k hk'=>hk k (List.mem_cons_of_mem _ hk')) hsr (hdf.trans hd) hk'
end
section
variable {P:Program}{X:List FuncId}{N:Nat}{w0:World}{S0:aa}{o:Oper}{a:Act}{E:Env}{st:St}
theorem j7(is:List DI):j6 is (List.range is.length)=is:=by
 apply List.ext_getElem?
 intro k;unfold j6
 by_cases hk:k<is.length
 ·simp [hk]
 ·simp [hk]
end
section
variable [Glb]{P:Program}{X:List FuncId}{N:Nat}{w0:World}{S0:aa}{o:Oper}{a:Act}{E:Env}{st:St}
theorem ox(h:SR N w0 S0 E st a.tmps){ops:Array Oper}{is:List DI}(hl:dj P N X ops ops.toList=some is){Q:Exit->Act->World->Prop}{K:St->Prop}(hQ: ∀a' w,bS N w0 S0 a.defers K a' w->Q .normal a' w)
  (hw:cR P is st K) {id:Nat}:(Code.region id ops false).wp P Q a E.w:=by
 refine wp_region (kz hl hQ _ (fun k hk=>by simpa using hk) h rfl ?_)
 have:ops.size=is.length:=by simpa using (bq hl).1
 rw [this,j7];exact hw
end
end Go.DL
end
section
namespace Go.DL
open Go.RowKit
section
variable [Glb]{P:Program}
end
section
variable {P:Program}
theorem gX{v:V}{n:Nat}(h:n∈bx1 v):n∈bx2 v:=by
 cases v with
 |fn f caps=>simp [bx1] at h
 |_=>exact h
theorem gY{v:V}{n:Nat}(h:n∈bx2 v):n∈bxs v:=by
 cases v with
 |fn f caps=>
  obtain ⟨c,h1,h2⟩:=List.mem_flatMap.1 h;exact List.mem_flatMap.2 ⟨c,h1,gX h2⟩
 |_=>exact h
theorem aN{b1 b2:Nat->Option BX}{v:V}(h: ∀n∈bx1 v, ∀b,b1 n=some b->b2 n=some b){r:T×List Nat}(hc:aX b1 v=some r):aX b2 v=some r:=by
 cases v with
 |ptr n off=>
  simp only [aX] at hc ⊢;cases hb:b1 n with
  |none=>rw [hb] at hc;cases hc
  |some b=>rw [hb] at hc;rw [h n (by simp [bx1]) b hb];exact hc
 |view n off len size=>
  simp only [aX] at hc ⊢;cases hb:b1 n with
  |none=>rw [hb] at hc;cases hc
  |some b=>rw [hb] at hc;rw [h n (by simp [bx1]) b hb];exact hc
 |mp n=>
  simp only [aX] at hc ⊢;cases hb:b1 n with
  |none=>rw [hb] at hc;cases hc
  |some b=>rw [hb] at hc;rw [h n (by simp [bx1]) b hb];exact hc
 |_=>exact hc
theorem iP{b1 b2:Nat->Option BX}: ∀{vs:List V},(∀ n∈vs.flatMap bx1, ∀b,b1 n=some b->b2 n=some b)-> ∀{r:List T×List Nat},cK b1 vs=some r->cK b2 vs=some r
 |[],_,r,hc=>hc
 |v::vs,h,r,hc=>by
  unfold cK at hc ⊢;split at hc
  ·rename_i x r1 xs rs hx hxs;rw [aN (fun n hn=>h n (by simp [hn])) hx,iP (fun n hn=>h n (by simp only [List.flatMap_cons,List.mem_append];exact .inr hn)) hxs];exact hc
  ·cases hc
theorem nB{b1 b2:Nat->Option BX}{v:V}(h: ∀n∈bx2 v, ∀b,b1 n=some b->b2 n=some b){r:T×List Nat}(hc:conv b1 v=some r):conv b2 v=some r:=by
 cases v with
 |fn f caps=>
  unfold conv at hc ⊢;simp only at hc ⊢;split at hc
  ·rename_i ts rd hts;rw [iP h hts];exact hc
  ·cases hc
 |top=>exact aN (v:=.top) h hc
 |t x=>exact aN (v:=.t x) h hc
 |ptr n off=>exact aN (v:=.ptr n off) h hc
 |view n off len size=>exact aN (v:=.view n off len size) h hc
 |own r e n xs=>exact aN (v:=.own r e n xs) h hc
 |full n xs=>exact aN (v:=.full n xs) h hc
 |tup vs=>exact aN (v:=.tup vs) h hc
 |agv vs=>exact aN (v:=.agv vs) h hc
 |raw x=>exact aN (v:=.raw x) h hc
 |mp n=>exact aN (v:=.mp n) h hc
theorem dZ{b1 b2:Nat->Option BX}: ∀{vs:List V},(∀ n∈vs.flatMap bx2, ∀b,b1 n=some b->b2 n=some b)-> ∀{r:List T×List Nat},bm b1 vs=some r->bm b2 vs=some r
 |[],_,r,hc=>hc
 |v::vs,h,r,hc=>by
  unfold bm at hc ⊢;split at hc
  ·rename_i x r1 xs rs hx hxs;rw [nB (fun n hn=>h n (by simp [hn])) hx,dZ (fun n hn=>h n (by simp only [List.flatMap_cons,List.mem_append];exact .inr hn)) hxs];exact hc
  ·cases hc
theorem av{s1 s2:Nat->V}{x:O}(h: ∀m∈x.reads,s2 m=s1 m):ev s2 x=ev s1 x:=by
 cases x with
 |tmp n=>exact h n (by simp [O.reads])
 |const t=>rfl
theorem dI{s1 s2:Nat->V}: ∀{xs:List O},(∀ m∈aM xs,s2 m=s1 m)->xs.map (ev s2)=xs.map (ev s1)
 |[],_=>rfl
 |x::xs,h=>by
  rw [List.map_cons,List.map_cons,av (fun m hm=>h m (by simp [aM,hm])),dI (fun m hm=>h m (by simp [aM,hm]))]
theorem fS{s1 s2:Nat->V}{x:Option O}(h: ∀m∈pL x,s2 m=s1 m):x.map (ev s2)=x.map (ev s1):=by
 cases x with
 |none=>rfl
 |some x=>rw [Option.map_some,Option.map_some,av h]
theorem jh{s1 s2:Nat->V}: ∀{ps:List (Nat×Nat×O)} {zs:List T} {c:Prop},(∀ m∈aM (ps.map (·.2.2)),s2 m=s1 m)->cU s2 zs c ps=cU s1 zs c ps
 |[],_,_,_=>rfl
 |(off,size,x)::ps,zs,c,h=>by
  unfold cU;rw [av (s1:=s1) (fun m hm=>h m (by simp [aM,hm]))];split
  ·rfl
  ·rw [jh fun m hm=>h m (by simp [aM,hm])]
  ·rw [jh fun m hm=>h m (by simp [aM,hm])]
  ·rfl
theorem ji{s1 s2:Nat->V}: ∀{ps:List (Nat×Nat×O)} {zs:List V} {c:Prop},(∀ m∈aM (ps.map (·.2.2)),s2 m=s1 m)->cV s2 zs c ps=cV s1 zs c ps
 |[],zs,c,_=>rfl
 |(off,size,x)::rest,zs,c,h=>by
  unfold cV;rw [av (s1:=s1) (fun m hm=>h m (by simp [aM,hm]))];have hr: ∀m∈aM (rest.map (·.2.2)),s2 m=s1 m:=fun m hm=>h m (by simp [aM,hm])
  split
  ·rfl
  ·rw [ji hr]
  ·rfl
  ·rfl
  ·rfl
  ·rw [ji hr]
theorem gy{s1 s2:Nat->V}{size:Nat}: ∀{ps:List (Nat×O)} {es:List T} {c:Prop},(∀ m∈aM (ps.map (·.2)),s2 m=s1 m)->aY s2 size es c ps=aY s1 size es c ps
 |[],_,_,_=>rfl
 |(i,x)::ps,es,c,h=>by
  unfold aY;rw [av (s1:=s1) (fun m hm=>h m (by simp [aM,hm]))];split
  ·rfl
  ·rw [gy fun m hm=>h m (by simp [aM,hm])]
  ·rw [gy fun m hm=>h m (by simp [aM,hm])]
  ·rfl
theorem jV{sl:Nat->V}{x:O}{n:Nat}(h:n∈bxs (ev sl x)): ∃m∈x.reads,n∈bxs (sl m):=by
 cases x with
 |tmp m=>exact ⟨m,by simp [O.reads],h⟩
 |const t=>simp [ev,bxs,bx1] at h
theorem iY{sl:Nat->V}: ∀{xs:List O} {n:Nat},n∈(xs.map (ev sl)).flatMap bx2-> ∃m∈aM xs,n∈bxs (sl m)
 |[],n,h=>by simp at h
 |x::xs,n,h=>by
  simp only [List.map_cons,List.flatMap_cons,List.mem_append] at h;rcases h with h|h
  ·obtain ⟨m,h1,h2⟩:=jV (gY h);exact ⟨m,by simp [aM,h1],h2⟩
  ·obtain ⟨m,h1,h2⟩:=iY h;exact ⟨m,by simp [aM,h1],h2⟩
theorem nP{b1 b2:Nat->Option BX}{v:V}(h: ∀n∈bx1 v, ∀b,b1 n=some b->b2 n=some b){r:T}(hc:cP b1 v=some r):cP b2 v=some r:=by
 unfold cP at hc ⊢;split at hc
 ·exact hc
 ·split at hc
  ·rename_i t rd hq;rw [aN h hq];exact hc
  ·cases hc
 ·exact hc
end
section
variable [Glb]{P:Program}
theorem nD{x:DOp}(hx:x.cls.std=true){d:Option Nat}{s1 s2:St}(hs: ∀m∈x.reads,s2.sl m=s1.sl m)(hb: ∀n∈x.tch s1.sl, ∀b,s1.bx n=some b->s2.bx n=some b)
  (hd:x.cls= .make-> ∀n,d=some n->s1.bx n=none->s2.bx n=none) (hM:x.cls= .mut->s2.bx=s1.bx) {e:Eff} (h:cG P x d s1 e):cG P x d s2 e:=by
 have pure:eff x d s2.sl s2.bx=eff x d s1.sl s1.bx->inR (eff x d s1.sl s1.bx) e->inR (eff x d s2.sl s2.bx) e:=fun h1 h2=>by rw [h1];exact h2
 cases x with
 |append|appV|bad|buildS|inl|fcall|clr|cH|mclr|mrng|mnext|ment|copy=>exact absurd hx Bool.false_ne_true
 |mov x=>exact pure (by simp only [eff,av hs]) h
 |pick c a b=>
  refine pure ?_ h;simp only [DOp.reads,List.mem_append] at hs;simp only [eff];rw [av fun m hm=>hs m (.inl (.inl hm)),av fun m hm=>hs m (.inl (.inr hm)),av fun m hm=>hs m (.inr hm)]
 |alloc zs=>
  cases d with
  |none=>exact h
  |some n=>
   have h:inR (eff (.alloc zs) (some n) s1.sl s1.bx) e:=h;show inR (eff (.alloc zs) (some n) s2.sl s2.bx) e
   simp only [eff] at h ⊢;cases hb1:s1.bx n with
   |some c=>rw [hb1] at h;exact h.elim
   |none=>rw [hd rfl n rfl hb1];rw [hb1] at h;exact h
 |mkmap ag sh=>
  cases d with
  |none=>exact h
  |some n=>
   have h:inR (eff (.mkmap ag sh) (some n) s1.sl s1.bx) e:=h;show inR (eff (.mkmap ag sh) (some n) s2.sl s2.bx) e
   simp only [eff] at h ⊢;cases hb1:s1.bx n with
   |some c=>rw [hb1] at h;exact h.elim
   |none=>rw [hd rfl n rfl hb1];rw [hb1] at h;exact h
 |mkslice size bytes zs l c=>
  simp only [DOp.reads,List.mem_append] at hs;have hel:=av (s1:=s1.sl) (s2:=s2.sl) (x:=l) fun q hq=>hs q (.inl hq)
  have hec:=av (s1:=s1.sl) (s2:=s2.sl) (x:=c) fun q hq=>hs q (.inr hq)
  cases d with
  |none=>exact h
  |some n=>
   have h:inR (eff (.mkslice size bytes zs l c) (some n) s1.sl s1.bx) e:=h;show inR (eff (.mkslice size bytes zs l c) (some n) s2.sl s2.bx) e
   simp only [eff] at h ⊢;rw [hel,hec];cases hb1:s1.bx n with
   |some c=>rw [hb1] at h;exact h.elim
   |none=>rw [hd rfl n rfl hb1];rw [hb1] at h;exact h
 |mlook ag sh z ok m k=>
  simp only [DOp.reads,List.mem_append] at hs;have hev:=av (s1:=s1.sl) (s2:=s2.sl) (x:=m) fun q hq=>hs q (.inl hq)
  have hek:=av (s1:=s1.sl) (s2:=s2.sl) (x:=k) fun q hq=>hs q (.inr hq)
  have h:inR (eff (.mlook ag sh z ok m k) d s1.sl s1.bx) e:=h;show inR (eff (.mlook ag sh z ok m k) d s2.sl s2.bx) e
  simp only [eff] at h ⊢;rw [hev,hek];cases hv:ev s1.sl m with
  |mp b=>
   rw [hv] at h;simp only at h ⊢;cases hbx:s1.bx b with
   |none=>rw [hbx] at h;exact h.elim
   |some c=>
    rw [hb b (by show b∈bx1 (ev s1.sl m);rw [hv];simp [bx1]) c hbx];rw [hbx] at h;exact h
  |t x=>rw [hv] at h;cases x <;> exact h
  |_=>rw [hv] at h;exact h
 |bA ag sh m k v=>
  simp only [DOp.reads,List.mem_append] at hs;have hev:=av (s1:=s1.sl) (s2:=s2.sl) (x:=m) fun q hq=>hs q (.inl (.inl hq))
  have hek:=av (s1:=s1.sl) (s2:=s2.sl) (x:=k) fun q hq=>hs q (.inl (.inr hq))
  have hew:=av (s1:=s1.sl) (s2:=s2.sl) (x:=v) fun q hq=>hs q (.inr hq)
  have h:inR (eff (.bA ag sh m k v) d s1.sl s1.bx) e:=h;show inR (eff (.bA ag sh m k v) d s2.sl s2.bx) e
  simp only [eff] at h ⊢;rw [hev,hek,hew];cases hv:ev s1.sl m with
  |mp b=>
   rw [hv] at h;simp only at h ⊢;cases hbx:s1.bx b with
   |none=>rw [hbx] at h;exact h.elim
   |some c=>
    rw [hb b (by show b∈bx1 (ev s1.sl m);rw [hv];simp [bx1]) c hbx];rw [hbx] at h;exact h
  |_=>rw [hv] at h;exact h
 |mlen m=>
  have hev:=av hs;have h:inR (eff (.mlen m) d s1.sl s1.bx) e:=h;show inR (eff (.mlen m) d s2.sl s2.bx) e
  simp only [eff] at h ⊢;rw [hev];cases hv:ev s1.sl m with
  |mp b=>
   rw [hv] at h;simp only at h ⊢;cases hbx:s1.bx b with
   |none=>rw [hbx] at h;exact h.elim
   |some c=>
    rw [hb b (by show b∈bx1 (ev s1.sl m);rw [hv];simp [bx1]) c hbx];rw [hbx] at h;exact h
  |t x=>rw [hv] at h;cases x <;> exact h
  |_=>rw [hv] at h;exact h
 |box m x=>
  cases d with
  |none=>exact h
  |some n=>
   have h:inR (eff (.box m x) (some n) s1.sl s1.bx) e:=h;show inR (eff (.box m x) (some n) s2.sl s2.bx) e
   simp only [eff] at h ⊢;rw [av hs];cases hb1:s1.bx n with
   |some c=>
    rw [hb1] at h;cases hbo:ny m (ev s1.sl x) with
    |none=>rw [hbo] at h;exact h.elim
    |some q=>rw [hbo] at h;exact h.elim
   |none=>rw [hd rfl n rfl hb1];rw [hb1] at h;exact h
 |load n agg a=>
  have hev:=av hs;have h:inR (eff (.load n agg a) d s1.sl s1.bx) e:=h;show inR (eff (.load n agg a) d s2.sl s2.bx) e
  simp only [eff] at h ⊢;rw [hev];cases hv:ev s1.sl a with
  |ptr b off=>
   rw [hv] at h;simp only at h ⊢;cases hbx:s1.bx b with
   |none=>rw [hbx] at h;exact h.elim
   |some c=>
    rw [hb b (by show b∈bx1 (ev s1.sl a);rw [hv];simp [bx1]) c hbx];rw [hbx] at h;exact h
  |t x=>rw [hv] at h;cases x <;> exact h
  |_=>rw [hv] at h;exact h
 |store n a x=>
  simp only [DOp.reads,List.mem_append] at hs;have hev:=av (s1:=s1.sl) (s2:=s2.sl) (x:=a) fun m hm=>hs m (.inl hm)
  have hex:=av (s1:=s1.sl) (s2:=s2.sl) (x:=x) fun m hm=>hs m (.inr hm)
  have h:inR (eff (.store n a x) d s1.sl s1.bx) e:=h;show inR (eff (.store n a x) d s2.sl s2.bx) e
  simp only [eff] at h ⊢;rw [hev,hex];cases hv:ev s1.sl a with
  |ptr b off=>
   rw [hv] at h;simp only at h ⊢;cases hbx:s1.bx b with
   |none=>rw [hbx] at h;exact h.elim
   |some c=>
    rw [hb b (by show b∈bx1 (ev s1.sl a);rw [hv];simp [bx1]) c hbx];rw [hbx] at h;exact h
  |_=>rw [hv] at h;exact h
 |offA k x=>exact pure (by simp only [eff,av hs]) h
 |nar k x=>exact pure (by simp only [eff,av hs]) h
 |fld off size agg x=>exact pure (by simp only [eff,av hs]) h
 |not x=>exact pure (by simp only [eff,av hs]) h
 |neg x=>exact pure (by simp only [eff,av hs]) h
 |conv k x=>exact pure (by simp only [eff,av hs]) h
 |len x=>exact pure (by simp only [eff,av hs]) h
 |lenS x=>exact pure (by simp only [eff,av hs]) h
 |ext x i=>exact pure (by simp only [eff,av hs]) h
 |nilck x=>exact pure (by simp only [eff,av hs]) h
 |arrP n x=>exact pure (by simp only [eff,av hs]) h
 |isnil k n x=>exact pure (by simp only [eff,av hs]) h
 |cpl x=>exact pure (by simp only [eff,av hs]) h
 |slice3 size x hi mx=>
  simp only [DOp.reads,List.mem_append] at hs;exact pure (by simp only [eff];rw [av fun m hm=>hs m (.inl (.inl hm)),av fun m hm=>hs m (.inl (.inr hm)),av fun m hm=>hs m (.inr hm)]) h
 |buildF size n zs ps=>
  have:aY s2.sl size (List.replicate n (cond (Nat.beq size 1) (zs.headD .nil) (.agg zs))) True ps=aY s1.sl size (List.replicate n (cond (Nat.beq size 1) (zs.headD .nil) (.agg zs))) True ps:=gy hs
  exact pure (by simp only [eff];rw [this]) h
 |appT size bytes s x=>
  simp only [DOp.reads,List.mem_append] at hs;have hes:=av (s1:=s1.sl) (s2:=s2.sl) (x:=s) fun q hq=>hs q (.inl hq)
  have hex:=av (s1:=s1.sl) (s2:=s2.sl) (x:=x) fun q hq=>hs q (.inr hq)
  have h:inR (eff (.appT size bytes s x) d s1.sl s1.bx) e:=h;show inR (eff (.appT size bytes s x) d s2.sl s2.bx) e
  simp only [eff] at h ⊢;rw [hes,hex];cases hv:cP s1.bx (ev s1.sl x) with
  |none=>rw [hv] at h;exact h.elim
  |some r=>
   rw [nP (fun n hn=>hb n hn) hv];rw [hv] at h;exact h
 |prim p x=>
  have hev:=av hs;have h:inR (eff (.prim p x) d s1.sl s1.bx) e:=h;show inR (eff (.prim p x) d s2.sl s2.bx) e
  simp only [eff] at h ⊢;rw [hev];cases hv:aX s1.bx (ev s1.sl x) with
  |none=>rw [hv] at h;exact h.elim
  |some r=>
   rw [aN (fun n hn=>hb n hn) hv];rw [hv] at h;exact h
 |idxA _ _ a x=>
  simp only [DOp.reads,List.mem_append] at hs;exact pure (by simp only [eff];rw [av fun m hm=>hs m (.inl hm),av fun m hm=>hs m (.inr hm)]) h
 |idxL _ a x=>
  simp only [DOp.reads,List.mem_append] at hs;exact pure (by simp only [eff];rw [av fun m hm=>hs m (.inl hm),av fun m hm=>hs m (.inr hm)]) h
 |idxV _ _ _ a x=>
  simp only [DOp.reads,List.mem_append] at hs;exact pure (by simp only [eff];rw [av fun m hm=>hs m (.inl hm),av fun m hm=>hs m (.inr hm)]) h
 |idxS a x=>
  simp only [DOp.reads,List.mem_append] at hs;exact pure (by simp only [eff];rw [av fun m hm=>hs m (.inl hm),av fun m hm=>hs m (.inr hm)]) h
 |bin _ a x=>
  simp only [DOp.reads,List.mem_append] at hs;exact pure (by simp only [eff];rw [av fun m hm=>hs m (.inl hm),av fun m hm=>hs m (.inr hm)]) h
 |eqv _ _ a x=>
  simp only [DOp.reads,List.mem_append] at hs;exact pure (by simp only [eff];rw [av fun m hm=>hs m (.inl hm),av fun m hm=>hs m (.inr hm)]) h
 |eqB _ a x=>
  simp only [DOp.reads,List.mem_append] at hs;exact pure (by simp only [eff];rw [av fun m hm=>hs m (.inl hm),av fun m hm=>hs m (.inr hm)]) h
 |maxI a x=>
  simp only [DOp.reads,List.mem_append] at hs;exact pure (by simp only [eff];rw [av fun m hm=>hs m (.inl hm),av fun m hm=>hs m (.inr hm)]) h
 |minI a x=>
  simp only [DOp.reads,List.mem_append] at hs;exact pure (by simp only [eff];rw [av fun m hm=>hs m (.inl hm),av fun m hm=>hs m (.inr hm)]) h
 |slice _ x lo hi=>
  simp only [DOp.reads,List.mem_append] at hs;exact pure (by simp only [eff];rw [av fun m hm=>hs m (.inl (.inl hm)),fS fun m hm=>hs m (.inl (.inr hm)),fS fun m hm=>hs m (.inr hm)]) h
 |sliceS x lo hi=>
  simp only [DOp.reads,List.mem_append] at hs;exact pure (by simp only [eff];rw [av fun m hm=>hs m (.inl (.inl hm)),fS fun m hm=>hs m (.inl (.inr hm)),fS fun m hm=>hs m (.inr hm)]) h
 |sliceA _ _ x lo hi=>
  simp only [DOp.reads,List.mem_append] at hs;exact pure (by simp only [eff];rw [av fun m hm=>hs m (.inl (.inl hm)),fS fun m hm=>hs m (.inl (.inr hm)),fS fun m hm=>hs m (.inr hm)]) h
 |build zs ps=>exact pure (by simp only [eff];rw [jh hs,ji hs]) h
 |buildT size n zs ps=>
  have:aY s2.sl size (List.replicate n (cond (Nat.beq size 1) (zs.headD .nil) (.agg zs))) True ps=aY s1.sl size (List.replicate n (cond (Nat.beq size 1) (zs.headD .nil) (.agg zs))) True ps:=gy hs
  exact pure (by simp only [eff];rw [this]) h
 |mkfn f xs=>exact pure (by simp only [eff];rw [dI hs]) h
 |call f args=>
  obtain ⟨ts,rd,r,h1,h2⟩:=h;refine ⟨ts,rd,r,?_,h2⟩;rw [dI (s1:=s1.sl) hs];exact dZ (fun n hn=>hb n hn) h1
 |mcall ms f args=>
  have hbx:=hM rfl;obtain ⟨need,fr,m,b,r,h1,h2,h3,h4,h5,h6⟩:=h;refine ⟨need,fr,m,b,r,?_,fun p hp=>by rw [hbx];exact h2 p hp,fun n hn=>by rw [hbx];exact h3 n hn,h4,by rw [hbx];exact h5,h6⟩;rw [dI (s1:=s1.sl) hs];exact h1
 |bV x args=>
  simp only [DOp.reads,List.mem_append] at hs;simp only [DOp.tch,List.mem_append] at hb;obtain ⟨f,caps,hf,ts,rd,r,h1,h2⟩:=h;refine ⟨f,caps,?_,ts,rd,r,?_,h2⟩
  ·rw [av (s1:=s1.sl) fun m hm=>hs m (.inl hm)];exact hf
  ·rw [dI (s1:=s1.sl) fun m hm=>hs m (.inr hm)];refine dZ (fun n hn=>?_) h1;rw [List.flatMap_append,List.mem_append] at hn;rcases hn with hn|hn
   ·exact hb n (.inr hn)
   ·have:n∈bxs (ev s1.sl x):=by
     unfold jl at hf;split at hf
     ·simp only [Option.some.injEq,Prod.mk.injEq] at hf;obtain ⟨-,rfl⟩:=hf;obtain ⟨c,hc,hn⟩:=List.mem_flatMap.1 hn;obtain ⟨t,_,rfl⟩:=List.mem_map.1 hc;cases hn
     ·rename_i g cs hv;simp only [Option.some.injEq,Prod.mk.injEq] at hf;obtain ⟨-,rfl⟩:=hf;rw [hv];exact hn
     ·cases hf
    exact hb n (.inl this)
theorem mZ{x:DOp}(hx:x.cls.std=true){d:Option Nat}{st:St}{e:Eff}(h:cG P x d st e):e.wr=none\/(∃ n b,x.cls= .make/\d=some n/\st.bx n=none/\e.wr=some (n,b))\/(∃ n b,x.cls.wr=true/\n∈x.tch st.sl/\(st.bx n).isSome=true/\e.wr=some (n,b)):=by
 cases x with
 |append|appV|bad|buildS|inl|fcall|clr|cH|mclr|mrng|mnext|ment|copy=>exact absurd hx Bool.false_ne_true
 |call f args=>obtain ⟨ts,rd,r,_,_,_,rfl⟩:=h;exact .inl rfl
 |bV x args=>obtain ⟨_,_,_,ts,rd,r,_,_,_,rfl⟩:=h;exact .inl rfl
 |mcall ms f args=>obtain ⟨need,fr,m,b,r,_,_,_,h4,h5,rfl⟩:=h;exact .inr (.inr ⟨m,b,rfl,h4,h5,rfl⟩)
 |alloc zs=>
  have h:inR (eff (.alloc zs) d st.sl st.bx) e:=h;cases d with
  |none=>exact h.elim
  |some n=>
   simp only [eff] at h;cases hb:st.bx n with
   |none=>rw [hb] at h;cases h;exact .inr (.inl ⟨n,_,rfl,rfl,hb,rfl⟩)
   |some b=>rw [hb] at h;exact h.elim
 |mkmap ag sh=>
  have h:inR (eff (.mkmap ag sh) d st.sl st.bx) e:=h;cases d with
  |none=>exact h.elim
  |some n=>
   simp only [eff] at h;cases hb:st.bx n with
   |none=>rw [hb] at h;cases h;exact .inr (.inl ⟨n,_,rfl,rfl,hb,rfl⟩)
   |some b=>rw [hb] at h;exact h.elim
 |mkslice size bytes zs l c=>
  have h:inR (eff (.mkslice size bytes zs l c) d st.sl st.bx) e:=h;cases d with
  |none=>exact h.elim
  |some n=>
   simp only [eff] at h;split at h
   ·rename_i hb _ _;obtain ⟨_,rfl⟩:=h;exact .inr (.inl ⟨n,_,rfl,rfl,hb,rfl⟩)
   ·exact h.elim
 |bA ag sh m k v=>
  have h:inR (eff (.bA ag sh m k v) d st.sl st.bx) e:=h;simp only [eff] at h;split at h
  ·rename_i b hv;split at h
   ·rename_i ag' sh' es _ hbx;split at h
    ·rename_i key x hk hx;cases hs:cn ag sh ag' sh' with
     |false=>rw [hs] at h;exact h.elim
     |true=>
      rw [hs] at h;obtain ⟨_,rfl⟩:=h;exact .inr (.inr ⟨b,_,rfl,by show b∈bx1 (ev st.sl m);rw [hv];simp [bx1],by rw [hbx];rfl,rfl⟩)
    ·exact h.elim
   ·exact h.elim
  ·exact h.elim
 |box m x=>
  have h:inR (eff (.box m x) d st.sl st.bx) e:=h;cases d with
  |none=>exact h.elim
  |some n=>
   simp only [eff] at h;cases hb:st.bx n with
   |none=>
    rw [hb] at h;cases hc:ny m (ev st.sl x) with
    |none=>rw [hc] at h;exact h.elim
    |some p=>rw [hc] at h;obtain ⟨_,rfl⟩:=h;exact .inr (.inl ⟨n,_,rfl,rfl,hb,rfl⟩)
   |some b=>rw [hb] at h;exact h.elim
 |store k a x=>
  have h:inR (eff (.store k a x) d st.sl st.bx) e:=h;simp only [eff] at h;cases hv:ev st.sl a with
  |ptr b off=>
   rw [hv] at h;simp only at h;cases hbx:st.bx b with
   |none=>rw [hbx] at h;exact h.elim
   |some c=>
    rw [hbx] at h;have hw: ∃bx',e.wr=some (b,bx'):=by
     simp only [gg,cond_eq_ite] at h
     repeat' (first|exact h.elim|(obtain ⟨_,rfl⟩:=h;exact ⟨_,rfl⟩)|(split at h)|(unfold inR at h;simp only at h;first|exact h.elim|(obtain ⟨_,rfl⟩:=h;exact ⟨_,rfl⟩)))
    obtain ⟨bx',hw⟩:=hw;exact .inr (.inr ⟨b,bx',rfl,by show b∈bx1 (ev st.sl a);rw [hv];simp [bx1],by rw [hbx];rfl,hw⟩)
  |_=>rw [hv] at h;exact h.elim
 |_=>
  refine .inl ?_;simp only [cG,eff,eM,ll,nv,nw,val,aK,aU,cond_eq_ite] at h
  repeat' (first|exact h.elim|(subst h;rfl)|(obtain ⟨_,rfl⟩:=h;rfl)|(split at h)|(unfold inR at h;simp only at h;first|exact h.elim|(subst h;rfl)|(obtain ⟨_,rfl⟩:=h;rfl)))
end
end Go.DL
end
section
namespace Go.DL
open Go.RowKit
section
variable [Glb]{P:Program}{X:List FuncId}{N:Nat}{w0:World}{S0:aa}{o:Oper}{a:Act}{E:Env}{st:St}
end
section
variable {P:Program}{X:List FuncId}{N:Nat}{w0:World}{S0:aa}{o:Oper}{a:Act}{E:Env}{st:St}
theorem rm{r:cm}{d:Option Nat}{K:St->Prop}{e:Eff}(h:inR r e)(hk:K (st.app d e)):wpR r d st K:=by
 cases r with
 |no=>exact h
 |yes e0=>cases h;exact hk
 |need c e0=>obtain ⟨hc,rfl⟩:=h;exact ⟨hc,hk⟩
 |alt c b f=>obtain ⟨hc,rfl⟩:=h;exact ⟨hc,fun b' hb=>hb▸hk⟩
 |eq c t f=>obtain ⟨hc,rfl⟩:=h;exact ⟨hc,fun b' hb=>hb▸hk⟩
end
section
variable [Glb]{P:Program}{X:List FuncId}{N:Nat}{w0:World}{S0:aa}{o:Oper}{a:Act}{E:Env}{st:St}
theorem iu{f:FuncId}{args:List V}{d:Option Nat}{K:St->Prop}{ts:List T}{rd:List Nat}{r:T}(h1:bm st.bx args=some (ts,rd))(h2:DCalls P f ts r)(h3:rd=[]\/r.flat=true)(hk:K (st.set d (.t r))):di P f args d st K:=by
 unfold di;rw [h1];cases rd with
 |nil=>exact ⟨r,h2,hk⟩
 |cons x xs=>
  rcases h3 with h3|h3
  ·cases h3
  ·exact ⟨r,h2,h3,hk⟩
theorem nc{x:DOp}(hx:x.cls.std=true){d:Option Nat}{K:St->Prop}{e:Eff}(h:cG P x (st.nm d) st e)(hk:K (st.app d e)):wpO P x d st K:=by
 have gen: ∀x:DOp,(wpR (eff x (st.nm d) st.sl st.bx) d st K->wpO P x d st K)->(cG P x (st.nm d) st e->inR (eff x (st.nm d) st.sl st.bx) e)->cG P x (st.nm d) st e->wpO P x d st K:=fun x h1 h2 h=>h1 (rm (h2 h) hk)
 cases x with
 |append|appV|bad|buildS|inl|fcall|clr|cH|mclr|mrng|mnext|ment|copy=>exact absurd hx Bool.false_ne_true
 |call f args=>
  obtain ⟨ts,rd,r,h1,h2,h3,rfl⟩:=h;rw [iE] at hk;exact iu h1 h2 h3 hk
 |mcall ms f args=>
  obtain ⟨need,fr,m,b,r,h1,h2,h3,h4,h5,rfl⟩:=h;rw [qj] at hk;exact ⟨need,fr,m,b,r,h1,h2,h3,h4,h5,hk⟩
 |bV x args=>
  obtain ⟨f,caps,hf,ts,rd,r,h1,h2,h3,rfl⟩:=h;rw [iE] at hk;unfold jl at hf;unfold wpO;simp only;split at hf
  ·rename_i g cs hv;simp only [Option.some.injEq,Prod.mk.injEq] at hf;obtain ⟨rfl,rfl⟩:=hf
   try rw [hv]
   exact iu h1 h2 h3 hk
  ·rename_i g cs hv;simp only [Option.some.injEq,Prod.mk.injEq] at hf;obtain ⟨rfl,rfl⟩:=hf
   try rw [hv]
   exact iu h1 h2 h3 hk
  ·cases hf
 |_=>exact gen _ id id h
end
section
variable {P:Program}{X:List FuncId}{N:Nat}{w0:World}{S0:aa}{o:Oper}{a:Act}{E:Env}{st:St}
theorem DOp.mi{x:DOp}(h:x.cls.std=true):x.plain=true:=by cases x <;> first|rfl|exact absurd h Bool.false_ne_true
end
section
variable [Glb]{P:Program}{X:List FuncId}{N:Nat}{w0:World}{S0:aa}{o:Oper}{a:Act}{E:Env}{st:St}
theorem gk{i:DI}(hx:i.op.cls.std=true){K:St->Prop}(h:wpI P i st K): ∃e,cA P i st e/\K (st.app i.dst e):=by
 unfold wpI at h;cases hg:i.guard with
 |none=>
  rw [hg] at h;obtain ⟨e,he,hk⟩:=iO (DOp.mi hx) h;exact ⟨e,by unfold cA;rw [hg];exact he,hk⟩
 |some gw=>
  obtain ⟨g,want⟩:=gw;rw [hg] at h;simp only at h;split at h
  ·rename_i b hb;have run:b=want->wpO P i.op i.dst st K-> ∃e,cA P i st e/\K (st.app i.dst e):=fun hw h=>by
    obtain ⟨e,he,hk⟩:=iO (DOp.mi hx) h;exact ⟨e,by unfold cA;rw [hg];exact .inl ⟨b,hb,.inl ⟨hw,he⟩⟩,hk⟩
   have skip:b≠want->K (st.set i.dst bE)-> ∃e,cA P i st e/\K (st.app i.dst e):=fun hw h=>⟨{val:=bE },by unfold cA;rw [hg];exact .inl ⟨b,hb,.inr ⟨hw,rfl⟩⟩,h⟩
   cases b <;> cases want <;> simp only at h
   ·exact run rfl h
   ·exact skip (by decide) h
   ·exact skip (by decide) h
   ·exact run rfl h
  ·rename_i hb;exact ⟨{val:=bE },by unfold cA;rw [hg];exact .inr ⟨hb,rfl⟩,h⟩
  ·exact h.elim
theorem iI{i:DI}(hx:i.op.cls.std=true){K:St->Prop}{e:Eff}(h:cA P i st e)(hk:K (st.app i.dst e)):wpI P i st K:=by
 unfold cA at h;unfold wpI;cases hg:i.guard with
 |none=>rw [hg] at h;exact nc hx h hk
 |some gw=>
  obtain ⟨g,want⟩:=gw;rw [hg] at h;rcases h with ⟨b,hb,h⟩|⟨hb,rfl⟩
  ·simp only [hb];rcases h with ⟨rfl,he⟩|⟨hne,rfl⟩
   ·cases b <;> exact nc hx he hk
   ·cases b <;> cases want <;> simp only <;> first|exact absurd rfl hne|exact hk
  ·simp only [hb];exact hk
def jB(j:DI)(st:St):Prop:=j.op.cls≠ .mut-> ∀n∈j.op.tch st.sl,(st.bx n).isSome=true
theorem eJ{i:DI}(hx:i.op.cls.std=true){s1 s2:St}(hs: ∀m∈i.reads,s2.sl m=s1.sl m)(hb: ∀n∈i.op.tch s1.sl, ∀b,s1.bx n=some b->s2.bx n=some b)
  (ho:s2.off=s1.off) (hd: ∀n,s1.nm i.dst=some n->s1.bx n=none->s2.bx n=none) (hM:i.op.cls= .mut->s2.bx=s1.bx) {e:Eff} (h:cA P i s1 e):cA P i s2 e:=by
 have hnm:s2.nm i.dst=s1.nm i.dst:=by unfold St.nm;rw [ho]
 have op:cG P i.op (s1.nm i.dst) s1 e->cG P i.op (s2.nm i.dst) s2 e:=by
  rw [hnm];exact nD hx (fun m hm=>hs m (by unfold DI.reads;simp [hm])) hb (fun _=>hd) hM
 unfold cA at h ⊢;cases hg:i.guard with
 |none=>rw [hg] at h;exact op h
 |some gw=>
  obtain ⟨g,want⟩:=gw;rw [hg] at h;rcases h with ⟨b,hbv,h⟩|⟨hbv,h⟩
  ·exact .inl ⟨b,(hs g (by unfold DI.reads;rw [hg];simp)).trans hbv,h.imp (fun h=>⟨h.1,op h.2⟩) id⟩
  ·exact .inr ⟨(hs g (by unfold DI.reads;rw [hg];simp)).trans hbv,h⟩
def qi(i:DI)(st:St)(e:Eff):Prop:=e.wr=none\/(∃ n b,i.op.cls= .make/\st.nm i.dst=some n/\st.bx n=none/\e.wr=some (n,b))\/ ∃n b,i.op.cls.wr=true/\n∈i.op.tch st.sl/\(st.bx n).isSome=true/\e.wr=some (n,b)
theorem iH{i:DI}(hx:i.op.cls.std=true){e:Eff}(h:cA P i st e):qi i st e:=by
 unfold cA at h;split at h
 ·exact mZ hx h
 ·obtain ⟨b,_,⟨_,h⟩|⟨_,rfl⟩⟩|⟨_,rfl⟩:=h
  ·exact mZ hx h
  ·exact .inl rfl
  ·exact .inl rfl
end
section
variable {P:Program}{X:List FuncId}{N:Nat}{w0:World}{S0:aa}{o:Oper}{a:Act}{E:Env}{st:St}
theorem da(d:Option Nat)(e:Eff)(m:Nat)(h:d≠some m):(st.app d e).sl m=st.sl m:=by
 unfold St.app;cases d with
 |none=>split <;> rfl
 |some n=>
  have hne:m≠n:=fun hh=>h (by rw [hh])
  split <;> exact ae _ _ _ _ hne
theorem fN(d:Option Nat)(e:Eff)(n:Nat)(h: ∀b,e.wr≠some (n,b)):(st.app d e).bx n=st.bx n:=by
 unfold St.app;simp only;split
 ·rename_i k c hw;have hne:n≠k:=fun hh=>h c (by rw [hh];exact hw)
  show upd (st.set d e.val).bx k (some c) n=_
  rw [ae _ _ _ _ hne];cases d <;> rfl
 ·cases d <;> rfl
theorem mB{α:Type}(f:Nat->α){n m:Nat}(h:n≠m)(x y:α):upd (upd f n x) m y=upd (upd f m y) n x:=by
 funext k
 by_cases h1:k=m
 ·subst h1;rw [aj,ae _ _ _ _ (fun hh=>h hh.symm),aj]
 ·rw [ae _ _ _ _ h1]
  by_cases h2:k=n
  ·subst h2;rw [aj,aj]
  ·rw [ae _ _ _ _ h2,ae _ _ _ _ h2,ae _ _ _ _ h1]
theorem St.ext'{s1 s2:St}(h1:s1.sl=s2.sl)(h2:s1.bx=s2.bx)(h3:s1.gh=s2.gh)(h4:s1.off=s2.off)(h5:s1.cx=s2.cx):s1=s2:=by cases s1;cases s2;cases h1;cases h2;cases h3;cases h4;cases h5;rfl
theorem rA(s:St)(d:Option Nat)(v:V):(s.set d v).gh=s.gh:=by cases d <;> rfl
theorem qG(s:St)(d:Option Nat)(v:V):(s.set d v).off=s.off:=by cases d <;> rfl
theorem qV(s:St)(d:Option Nat)(e:Eff):(s.app d e).gh=s.gh:=by unfold St.app;simp only;split <;> exact rA _ _ _
theorem fO(s:St)(d:Option Nat)(e:Eff):(s.app d e).off=s.off:=by unfold St.app;simp only;split <;> exact qG _ _ _
theorem qU(s:St)(d:Option Nat)(e:Eff):(s.app d e).cx=s.cx:=by
 have: ∀(s:St) (d:Option Nat) (v:V),(s.set d v).cx=s.cx:=fun s d v=>by cases d <;> rfl
 unfold St.app;simp only;split <;> exact this _ _ _
theorem qp{s s':St}(hs:s'.off=s.off){d1 d2:Option Nat}(hd: ∀n,d1=some n->d2≠some n){n:Nat}(h1:s.nm d1=some n)(h2:s'.nm d2=some n):False:=by
 cases d1 with
 |none=>cases h1
 |some m=>
  cases d2 with
  |none=>cases h2
  |some k=>
   simp only [St.nm,Option.some.injEq] at h1 h2;exact hd m rfl (by rw [hs] at h2;have:k=m:=(by omega);rw [this])
theorem jd{d1 d2:Option Nat}(hd: ∀n,d1=some n->d2≠some n){e1 e2:Eff}(hw: ∀n b m c,e1.wr=some (n,b)->e2.wr=some (m,c)->n≠m):
  (st.app d1 e1).app d2 e2=(st.app d2 e2).app d1 e1:=by
 have hsl: ∀(s:St) d e,(s.app d e).sl=(s.set d e.val).sl:=fun s d e=>by unfold St.app;simp only;split <;> rfl
 have hbx: ∀(s:St) d e,(s.app d e).bx=match e.wr with|some (n,c)=>upd s.bx n (some c)|none=>s.bx:=fun s d e=>by
  unfold St.app;simp only;cases e.wr with
  |none=>cases d <;> rfl
  |some p=>cases d <;> rfl
 refine St.ext' ?_ ?_ (by simp only [qV]) (by simp only [fO]) (by simp only [qU])
 ·rw [hsl,hsl];cases d1 with
  |none=>cases d2 <;> simp only [St.set,hsl]
  |some n1=>
   cases d2 with
   |none=>simp only [St.set,hsl]
   |some n2=>
    simp only [St.set,hsl];exact mB _ (fun e=>hd n1 rfl (by rw [e])) _ _
 ·rw [hbx,hbx,hbx,hbx];cases h1:e1.wr with
  |none=>rfl
  |some p1=>
   cases h2:e2.wr with
   |none=>rfl
   |some p2=>exact mB _ (hw p1.1 p1.2 p2.1 p2.2 h1 h2) _ _
theorem ju{n:Nat}: ∀{l:List Nat},kr n l=true↔n∈l
 |[]=>by simp [kr]
 |m::l=>by
  unfold kr;cases h:Nat.beq n m with
  |true=>simp [Nat.eq_of_beq_eq_true h]
  |false=>
   have:n≠m:=fun e=>by rw [e,cz] at h;cases h
   simp [ju,this]
end
section
variable [Glb]{P:Program}{X:List FuncId}{N:Nat}{w0:World}{S0:aa}{o:Oper}{a:Act}{E:Env}{st:St}
def Cls.det:Cls->Bool
 |.pure=>true
 |.load=>true
 |.make=>true
 |_=>false
end
section
variable {P:Program}{X:List FuncId}{N:Nat}{w0:World}{S0:aa}{o:Oper}{a:Act}{E:Env}{st:St}
theorem jS{i j:DI}(h:i.indep j=true):((i.op.cls.std=true/\j.op.cls.std=true)\/(i.op.cls= .fresh/\j.op.cls.det=true)\/(i.op.cls.det=true/\j.op.cls= .fresh))/\(∀ d,i.dst=some d->d ∉ j.reads)/\(∀ d,i.dst=some d->j.dst≠some d)/\(∀ d,j.dst=some d->d ∉ i.reads)/\
  (aW i.op.cls j.op.cls=some false\/aW i.op.cls j.op.cls=some true)/\(i.op.cls= .mut->j.op.cls.rdo=true)/\(j.op.cls= .mut->i.op.cls.rdo=true):=by
 unfold DI.indep at h;rw [Bool.and_eq_true] at h;obtain ⟨h1,h2⟩:=h;unfold DI.apart at h1;rw [Bool.and_eq_true] at h1;refine ⟨?_,fun d hd hm=>?_,fun d hd he=>?_,fun d hd hm=>?_,?_,?_,?_⟩
 ·revert h2
  cases i.op.cls <;> cases j.op.cls <;> simp [aW,Cls.std,Cls.det]
 ·have:=h1.1;rw [hd] at this;simp [ju.2 hm] at this
 ·have:=h1.1;rw [hd] at this;simp [he,isD] at this
 ·have:=h1.2;rw [hd] at this;simp [ju.2 hm] at this
 ·cases hc:aW i.op.cls j.op.cls with
  |none=>rw [hc] at h2;cases h2
  |some b=>cases b <;> simp
 ·revert h2
  cases i.op.cls <;> cases j.op.cls <;> simp [aW,Cls.rdo]
 ·revert h2
  cases i.op.cls <;> cases j.op.cls <;> simp [aW,Cls.rdo]
theorem Cls.cT{c:Cls}(h:c.det=true):c.std=true:=by cases c <;> first|rfl|cases h
end
section
variable [Glb]{P:Program}{X:List FuncId}{N:Nat}{w0:World}{S0:aa}{o:Oper}{a:Act}{E:Env}{st:St}
def fU(P:Program)(op:DOp)(d:Option Nat)(st:St)(vs:Nat->V):Prop:=
 match op with
 |.fcall f args=>d.isSome=true/\ ∃ts rd e size xs,bm st.bx (args.map (ev st.sl))=some (ts,rd)/\eu P f ts e size xs []/\vs=fun q=>.own q e size xs
 |_=>False
def cE(P:Program)(i:DI)(st:St)(vs:Nat->V):Prop:=
 match i.guard with
 |none=>fU P i.op i.dst st vs
 |some (g,want)=>(∃ b,st.sl g= .t (.bool b)/\((b=want/\fU P i.op i.dst st vs)\/(b≠want/\vs=fun _=>bE)))\/(st.sl g=bE/\vs=fun _=>bE)
end
section
variable {P:Program}{X:List FuncId}{N:Nat}{w0:World}{S0:aa}{o:Oper}{a:Act}{E:Env}{st:St}
theorem kG{x:DOp}(h:x.cls= .fresh): ∃f args,x= .fcall f args:=by
 cases x <;> first|exact ⟨_,_,rfl⟩|cases h
end
section
variable [Glb]{P:Program}{X:List FuncId}{N:Nat}{w0:World}{S0:aa}{o:Oper}{a:Act}{E:Env}{st:St}
theorem fB{x:DOp}(hx:x.cls= .fresh){d:Option Nat}{K:St->Prop}:wpO P x d st K↔ ∃vs,fU P x d st vs/\ ∀q,K (st.set d (vs q)):=by
 obtain ⟨f,args,rfl⟩:=kG hx;show dD P f (args.map (ev st.sl)) d st K↔_
 unfold dD fU;cases d with
 |none=>simp
 |some n=>
  simp only [Option.isSome_some,true_and];cases hc:bm st.bx (args.map (ev st.sl)) with
  |none=>exact ⟨False.elim,fun ⟨vs,⟨ts,rd,e,size,xs,h,_⟩,_⟩=>by cases h⟩
  |some p=>
   obtain ⟨ts,rd⟩:=p;refine ⟨fun ⟨e,size,xs,h1,h2⟩=>⟨_,⟨ts,rd,e,size,xs,rfl,h1,rfl⟩,h2⟩,?_⟩;rintro ⟨vs,⟨ts',rd',e,size,xs,h,h1,rfl⟩,h2⟩;cases h;exact ⟨e,size,xs,h1,h2⟩
theorem iC{i:DI}(hx:i.op.cls= .fresh){K:St->Prop}(h:wpI P i st K): ∃vs,cE P i st vs/\ ∀q,K (st.app i.dst {val:=vs q }):=by
 unfold wpI at h;cases hg:i.guard with
 |none=>
  rw [hg] at h;obtain ⟨vs,h1,h2⟩:=(fB hx).1 h;exact ⟨vs,by unfold cE;rw [hg];exact h1,h2⟩
 |some gw=>
  obtain ⟨g,want⟩:=gw;rw [hg] at h;simp only at h;split at h
  ·rename_i b hb;have run:b=want->wpO P i.op i.dst st K-> ∃vs,cE P i st vs/\ ∀q,K (st.app i.dst {val:=vs q }):=fun hw h=>by
    obtain ⟨vs,h1,h2⟩:=(fB hx).1 h;exact ⟨vs,by unfold cE;rw [hg];exact .inl ⟨b,hb,.inl ⟨hw,h1⟩⟩,h2⟩
   have skip:b≠want->K (st.set i.dst bE)-> ∃vs,cE P i st vs/\ ∀q,K (st.app i.dst {val:=vs q }):=fun hw h=>⟨fun _=>bE,by unfold cE;rw [hg];exact .inl ⟨b,hb,.inr ⟨hw,rfl⟩⟩,fun _=>h⟩
   cases b <;> cases want <;> simp only at h
   ·exact run rfl h
   ·exact skip (by decide) h
   ·exact skip (by decide) h
   ·exact run rfl h
  ·rename_i hb;exact ⟨fun _=>bE,by unfold cE;rw [hg];exact .inr ⟨hb,rfl⟩,fun _=>h⟩
  ·exact h.elim
theorem kK{i:DI}(hx:i.op.cls= .fresh){K:St->Prop}{vs:Nat->V}(h:cE P i st vs)(hk: ∀q,K (st.app i.dst {val:=vs q })):wpI P i st K:=by
 unfold cE at h;unfold wpI;cases hg:i.guard with
 |none=>rw [hg] at h;exact (fB hx).2 ⟨vs,h,hk⟩
 |some gw=>
  obtain ⟨g,want⟩:=gw;rw [hg] at h;rcases h with ⟨b,hb,h⟩|⟨hb,rfl⟩
  ·simp only [hb];rcases h with ⟨rfl,he⟩|⟨hne,rfl⟩
   ·cases b <;> exact (fB hx).2 ⟨vs,he,hk⟩
   ·cases b <;> cases want <;> simp only <;> first|exact absurd rfl hne|exact hk 0
  ·simp only [hb];exact hk 0
theorem ij{i:DI}(hx:i.op.cls= .fresh){s1 s2:St}(hs: ∀m∈i.reads,s2.sl m=s1.sl m)(hb: ∀n∈i.op.tch s1.sl, ∀b,s1.bx n=some b->s2.bx n=some b){vs:Nat->V}(h:cE P i s1 vs):cE P i s2 vs:=by
 obtain ⟨f,args,hop⟩:=kG hx;have op:fU P i.op i.dst s1 vs->fU P i.op i.dst s2 vs:=by
  rw [hop] at hb ⊢;rintro ⟨hd,ts,rd,e,size,xs,h1,h2⟩;refine ⟨hd,ts,rd,e,size,xs,?_,h2⟩;rw [dI (s1:=s1.sl) (fun m hm=>hs m (by unfold DI.reads;rw [hop];exact List.mem_append_left _ hm))];exact dZ (fun n hn=>hb n hn) h1
 unfold cE at h ⊢;cases hg:i.guard with
 |none=>rw [hg] at h;exact op h
 |some gw=>
  obtain ⟨g,want⟩:=gw;rw [hg] at h;rcases h with ⟨b,hbv,h⟩|⟨hbv,h⟩
  ·exact .inl ⟨b,(hs g (by unfold DI.reads;rw [hg];simp)).trans hbv,h.imp (fun h=>⟨h.1,op h.2⟩) id⟩
  ·exact .inr ⟨(hs g (by unfold DI.reads;rw [hg];simp)).trans hbv,h⟩
end
section
variable {P:Program}{X:List FuncId}{N:Nat}{w0:World}{S0:aa}{o:Oper}{a:Act}{E:Env}{st:St}
theorem kn{r:cm}{e e':Eff}(h:inR r e)(h':inR r e'):e=e':=by
 cases r with
 |no=>exact h.elim
 |yes e0=>cases h;cases h';rfl
 |need c e0=>obtain ⟨_,rfl⟩:=h;obtain ⟨_,rfl⟩:=h';rfl
 |alt c b f=>obtain ⟨_,rfl⟩:=h;obtain ⟨_,rfl⟩:=h';rfl
 |eq c t f=>obtain ⟨_,rfl⟩:=h;obtain ⟨_,rfl⟩:=h';rfl
end
section
variable [Glb]{P:Program}{X:List FuncId}{N:Nat}{w0:World}{S0:aa}{o:Oper}{a:Act}{E:Env}{st:St}
theorem oZ{i:DI}(hx:i.op.cls.det=true){e e':Eff}(h:cA P i st e)(h':cA P i st e'):e=e':=by
 have op:cG P i.op (st.nm i.dst) st e->cG P i.op (st.nm i.dst) st e'->e=e':=by
  generalize i.op=x at hx;intro a b;cases x with
  |mov y=>exact kn (r:=eff (.mov y) (st.nm i.dst) st.sl st.bx) a b
  |mkfn f c=>exact kn (r:=eff (.mkfn f c) (st.nm i.dst) st.sl st.bx) a b
  |_=>first|exact absurd hx Bool.false_ne_true|exact kn (r:=eff _ (st.nm i.dst) st.sl st.bx) a b
 unfold cA at h h';cases hg:i.guard with
 |none=>rw [hg] at h h';exact op h h'
 |some gw=>
  obtain ⟨g,want⟩:=gw;rw [hg] at h h';rcases h with ⟨b,hb,h⟩|⟨hb,rfl⟩ <;> rcases h' with ⟨b',hb',h'⟩|⟨hb',rfl⟩
  ·rw [hb] at hb';cases hb';rcases h with ⟨hw,h⟩|⟨hw,rfl⟩ <;> rcases h' with ⟨hw',h'⟩|⟨hw',rfl⟩
   ·exact op h h'
   ·exact absurd hw hw'
   ·exact absurd hw' hw
   ·rfl
  ·rw [hb] at hb';cases hb'
  ·rw [hb] at hb';cases hb'
  ·rfl
theorem qe{i:DI}(hx:i.op.cls.std=true\/i.op.cls= .fresh){K:St->Prop}(h:wpI P i st K): ∃e,K (st.app i.dst e):=by
 rcases hx with hx|hx
 ·obtain ⟨e,_,h⟩:=gk hx h;exact ⟨e,h⟩
 ·obtain ⟨vs,_,h⟩:=iC hx h;exact ⟨_,h 0⟩
end
section
variable {P:Program}{X:List FuncId}{N:Nat}{w0:World}{S0:aa}{o:Oper}{a:Act}{E:Env}{st:St}
theorem mY{a b:List Nat}(h:lM a b=true){n:Nat}(h1:n∈a)(h2:n∈b):False:=by
 unfold lM at h;rw [List.all_eq_true] at h
 have:=h n h1
 rw [List.contains_iff_mem.2 h2] at this;cases this
theorem gO{i j:DI}(hc:aW i.op.cls j.op.cls=some false\/lM (i.op.tch st.sl) (j.op.tch st.sl)=true){n:Nat}:
  (i.op.cls.wr=true->n∈i.op.tch st.sl->n∈j.op.tch st.sl->False)/\(j.op.cls.wr=true->n∈i.op.tch st.sl->n∈j.op.tch st.sl->False):=by
 rcases hc with hc|hd
 ·have key: ∀x y:DOp,x.cls.wr=true->(aW x.cls y.cls=some false\/aW y.cls x.cls=some false)-> ∀sl,y.tch sl=[]:=fun x y hx hp sl=>by
   generalize x.cls=c at hx hp;cases c <;> first|(cases hx;done)|(cases y <;> first|rfl|(simp [DOp.cls,aW] at hp;done))
  refine ⟨fun hi _ h2=>?_,fun hj h1 _=>?_⟩
  ·rw [key i.op j.op hi (.inl hc)] at h2;cases h2
  ·rw [key j.op i.op hj (.inr hc)] at h1;cases h1
 ·exact ⟨fun _ h1 h2=>mY hd h1 h2,fun _ h1 h2=>mY hd h1 h2⟩
theorem gj{x:DOp}{s1 s2:Nat->V}(h: ∀m∈x.reads,s2 m=s1 m):x.tch s2=x.tch s1:=by
 cases x with
 |load n agg a=>show bx1 _=bx1 _;rw [av h]
 |store n a y=>show bx1 _=bx1 _;rw [av fun m hm=>h m (by simp [DOp.reads,hm])]
 |mlook ag sh z ok a k=>show bx1 _=bx1 _;rw [av fun m hm=>h m (by simp [DOp.reads,hm])]
 |bA ag sh a k v=>show bx1 _=bx1 _;rw [av fun m hm=>h m (by simp [DOp.reads,hm])]
 |mlen a=>show bx1 _=bx1 _;rw [av h]
 |prim p a=>show bx1 _=bx1 _;rw [av h]
 |appT size bytes s a=>show bx1 _=bx1 _;rw [av fun m hm=>h m (by simp [DOp.reads,hm])]
 |call f args=>show List.flatMap _ _=List.flatMap _ _;rw [dI h]
 |fcall f args=>show List.flatMap _ _=List.flatMap _ _;rw [dI h]
 |bV y args=>show bxs _++List.flatMap _ _=bxs _++List.flatMap _ _;rw [av fun m hm=>h m (by simp [DOp.reads,hm]),dI fun m hm=>h m (by simp [DOp.reads,hm])]
 |_=>rfl
theorem qx{l:List Nat}{acc acc':Nat->List Nat}{t:List Nat}(h: ∀k,acc' k=acc k\/acc' k=[])(hc:chk l acc t=true):chk l acc' t=true:=by
 unfold chk at hc ⊢;rw [List.all_eq_true] at hc ⊢;intro i hi;rcases h i with e|e
 ·rw [e];exact hc i hi
 ·rw [e];rfl
theorem qg{r:cm}{d:Option Nat}{K K':St->Prop}(hk: ∀s,K s->K' s)(h:wpR r d st K):wpR r d st K':=by
 cases r with
 |no=>exact h
 |yes e=>exact hk _ h
 |need c e=>exact ⟨h.1,hk _ h.2⟩
 |alt c b f=>exact ⟨h.1,fun b' e=>hk _ (h.2 b' e)⟩
 |eq c t f=>exact ⟨h.1,fun t' e=>hk _ (h.2 t' e)⟩
end
section
variable [Glb]{P:Program}{X:List FuncId}{N:Nat}{w0:World}{S0:aa}{o:Oper}{a:Act}{E:Env}{st:St}
theorem fK{f:FuncId}{args:List V}{d:Option Nat}{K K':St->Prop}(hk: ∀s,K s->K' s)(h:di P f args d st K):di P f args d st K':=by
 unfold di at h ⊢;split at h
 ·obtain ⟨r,h1,h2⟩:=h;exact ⟨r,h1,hk _ h2⟩
 ·obtain ⟨r,h1,h2,h3⟩:=h;exact ⟨r,h1,h2,hk _ h3⟩
 ·exact h
theorem qv{f:FuncId}{us:List V}{d:Option Nat}{K K':St->Prop}(hk: ∀s,K s->K' s)(h:WC P f us d st K):WC P f us d st K':=
 ⟨h.1,fun N w0 S0 E a vs h1 h2 h3 h4=>(h.2 N w0 S0 E a vs h1 h2 h3 h4).mono fun _ _ ⟨v,hv,E',st',hw,hK,hs⟩=>⟨v,hv,E',st',hw,hk _ hK,hs⟩⟩
end
section
variable {P:Program}{X:List FuncId}{N:Nat}{w0:World}{S0:aa}{o:Oper}{a:Act}{E:Env}{st:St}
theorem kH{b:Bool}{A B C:Prop}(h:A->B):(cond b A C)->cond b B C:=by cases b <;> simp;exact h
theorem kY{e:TypeId}{size bytes d q:Nat}{s x:V}{K K':St->Prop}(hk: ∀s,K s->K' s)(h:e9 e size bytes d q s x st K):e9 e size bytes d q s x st K':=by
 unfold e9 at h ⊢;split at h
 ·refine ⟨h.1,?_⟩;have h:=h.2;split at h
  ·exact ⟨h.1,hk _ h.2⟩
  ·exact kH (fun h=>⟨h.1,hk _ h.2⟩) h
  ·exact h
 ·split at h
  ·exact hk _ h
  ·exact kH (fun h=>⟨h.1,hk _ h.2⟩) h
  ·exact h
 ·exact h
end
section
variable [Glb]{P:Program}{X:List FuncId}{N:Nat}{w0:World}{S0:aa}{o:Oper}{a:Act}{E:Env}{st:St}
theorem mG{f:FuncId}{us:List V}{d:Option Nat}{K K':St->Prop}(hk: ∀s,K s->K' s)(h:dD P f us d st K):dD P f us d st K':=by
 unfold dD at h ⊢;cases d with
 |none=>exact h
 |some n=>
  revert h
  simp only;split
  ·exact fun ⟨e,size,xs,h1,h2⟩=>⟨e,size,xs,h1,fun q=>hk _ (h2 q)⟩
  ·exact id
theorem jA{o:DOp}{d:Option Nat}{K K':St->Prop}(hk: ∀s,K s->K' s)(h:wpO P o d st K):wpO P o d st K':=by
 unfold wpO at h ⊢;split at h
 ·cases d with
  |none=>exact h
  |some n=>exact kY hk h
 ·cases d with
  |none=>exact h
  |some n=>
   revert h
   simp only [ke];split
   ·simp only [cond_eq_ite];split
    ·exact fun h=>⟨h.1,hk _ h.2⟩
    ·exact fun h=>h
   ·exact fun h=>h
 ·cases d with
  |none=>exact h
  |some n=>
   revert h
   simp only;split
   ·exact fun h=>⟨h.1,hk _ h.2⟩
   ·exact fun h=>h
 ·cases d with
  |none=>exact h
  |some n=>
   revert h
   simp only;split
   ·split
    ·exact fun h bs c h1 h2 h3=>hk _ (h bs c h1 h2 h3)
    ·exact fun h=>h
   ·split
    ·exact hk _
    ·exact fun h=>h
   ·exact fun h=>h
 ·cases d with
  |none=>exact h
  |some n=>
   revert h
   simp only;split
   ·split
    ·split
     ·exact fun ⟨h1,h2,h3,h4,h5,h6,h7⟩=>⟨h1,h2,h3,h4,h5,fun j e he hj=>hk _ (h6 j e he hj),fun hh=>hk _ (h7 hh)⟩
     ·exact fun h=>h
    ·exact fun ⟨h5,h6,h7⟩=>⟨h5,fun j e he hj=>hk _ (h6 j e he hj),fun hh=>hk _ (h7 hh)⟩
    ·exact fun h=>h
   ·exact fun h=>h
 ·exact fK hk h
 ·exact qv hk h
 ·exact mG hk h
 ·obtain ⟨need,fr,m,b,r,h1,h2,h3,h4,h5,h6⟩:=h;exact ⟨need,fr,m,b,r,h1,h2,h3,h4,h5,hk _ h6⟩
 ·revert h
  split
  ·exact fK hk
  ·exact fK hk
  ·exact fun h=>h
 ·exact qg hk h
theorem cQ{i:DI}{K K':St->Prop}(hk: ∀s,K s->K' s)(h:wpI P i st K):wpI P i st K':=by
 unfold wpI at h ⊢;split at h
 ·exact jA hk h
 ·revert h
  split
  ·split
   ·exact jA hk
   ·exact jA hk
   ·exact hk _
   ·exact hk _
  ·exact hk _
  ·exact fun h=>h
theorem kR{ck:List (List Nat)}{K:St->Prop}: ∀{l:List (Nat×DI)} {acc acc':Nat->List Nat} {st:St},(∀ k,acc' k=acc k\/acc' k=[])->bL P ck acc l st K->bL P ck acc' l st K
 |[],_,_,_,_,h=>h
 |(j,i)::l,acc,acc',st,ha,h=>by
  refine ⟨qx ha h.1,cQ (fun s hs=>?_) h.2⟩;refine kR (fun k=>?_) hs
  by_cases hk:k=j
  ·subst hk;rw [aj,aj];exact .inl rfl
  ·rw [ae _ _ _ _ hk,ae _ _ _ _ hk];exact ha k
theorem kU{ck:List (List Nat)}{jk:Nat}{j:DI}{post:List (Nat×DI)}{K:St->Prop}: ∀{pre:List (Nat×DI)} {acc:Nat->List Nat} {st:St},(∀ p∈pre,p.2.indep j=true)->
  bL P ck acc (pre++(jk,j)::post) st K-> ∃acc',(∀ k,k ∉ pre.map (·.1)->acc' k=acc k)/\chk (ck[jk]?.getD []) acc' (j.op.tch st.sl)=true
 |[],acc,st,_,h=>⟨acc,fun _ _=>rfl,h.1⟩
 |(ik,i)::pre,acc,st,hp,h=>by
  obtain ⟨cc,a1,a2,a3,hcp,_⟩:=jS (hp (ik,i) (by simp));obtain ⟨ei,hk⟩:=qe (cc.elim (fun h=>.inl h.1) fun h=>h.elim (fun h=>.inr h.1) fun h=>.inl (Cls.cT h.1)) h.2;obtain ⟨acc',h1,h2⟩:=kU (fun p hpp=>hp p (List.mem_cons_of_mem _ hpp)) hk;refine ⟨acc',fun k hk=>?_,?_⟩
  ·simp only [List.map_cons,List.mem_cons,not_or] at hk;rw [h1 k hk.2,ae _ _ _ _ hk.1]
  ·rwa [gj fun m hm=>da _ _ _ fun he=>a1 m he (by unfold DI.reads;simp [hm])] at h2
theorem fL{ck:List (List Nat)}{jk:Nat}{j:DI}{post:List (Nat×DI)}{K:St->Prop}: ∀{pre:List (Nat×DI)} {acc:Nat->List Nat} {st:St},
  (∀ p∈pre,p.2.indep j=true/\(aW p.2.op.cls j.op.cls=some true->p.1∈ck[jk]?.getD []))->((pre.map (·.1)).Nodup)->(∀ p∈pre,p.1≠jk)->(∀ p∈pre,acc p.1=[])->acc jk=[]->jB j st->
  bL P ck acc (pre++(jk,j)::post) st K->wpI P j st fun st'=>bL P ck acc (pre++post) st' K
 |[],acc,st,_,_,_,_,h0,_,h=>cQ (fun s hs=>kR (fun k=>(by
   by_cases hk:k=jk
   ·exact .inr (hk▸h0)
   ·exact .inl (ae _ _ _ _ hk).symm)) hs) h.2
 |(ik,i)::pre,acc,st,hp,hnd,hne,jn,h0,hl,h=>by
  obtain ⟨hij,hik⟩:=hp (ik,i) (by simp);obtain ⟨cc,a1,a2,a3,hcp,am1,am2⟩:=jS hij;have rdo_wr: ∀{k:DI} {s:St} {e:Eff},k.op.cls.rdo=true->qi k s e->e.wr=none:=fun hk hw=>by
   rcases hw with hw|⟨n,b,h0,_⟩|⟨n,b,h0,_⟩
   ·exact hw
   ·rw [h0] at hk;cases hk
   ·revert hk h0;generalize (DI.op _).cls=c;cases c <;> simp [Cls.rdo,Cls.wr]
  have wr_bx: ∀{s:St} {d:Option Nat} {e:Eff},e.wr=none->(s.app d e).bx=s.bx:=fun {s d e} he=>by unfold St.app;rw [he];cases d <;> rfl
  obtain ⟨pq,h⟩:=h;have nd:(ik ∉ pre.map (·.1))/\(pre.map (·.1)).Nodup:=List.nodup_cons.1 hnd
  have hp': ∀p∈pre,p.2.indep j=true/\(aW p.2.op.cls j.op.cls=some true->p.1∈ck[jk]?.getD []):=fun p hpp=>hp p (List.mem_cons_of_mem _ hpp)
  have rest: ∀st',jB j st'->bL P ck (upd acc ik (i.op.tch st.sl)) (pre++(jk,j)::post) st' K->wpI P j st' fun st''=>bL P ck (upd acc ik (i.op.tch st.sl)) (pre++post) st'' K:=fun st' hl' hk'=>
   fL hp' nd.2 (fun p hpp=>hne p (List.mem_cons_of_mem _ hpp)) (fun p hpp=>by
    by_cases hk:p.1=ik
    ·exact absurd (hk▸List.mem_map_of_mem hpp) nd.1
    ·rw [ae _ _ _ _ hk];exact jn p (List.mem_cons_of_mem _ hpp)) (by
    by_cases hk:jk=ik
    ·exact absurd hk.symm (hne (ik,i) (by simp))
    ·rw [ae _ _ _ _ hk];exact h0) hl' hk'
  have plainbx: ∀(d:Option Nat) (v:V) (s:St),(s.app d {val:=v }).bx=s.bx:=fun d v s=>by cases d <;> rfl
  have tchj: ∀v,j.op.tch (st.app i.dst {val:=v }).sl=j.op.tch st.sl:=fun v=>gj fun m hm=>da _ _ _ fun he=>a1 m he (by unfold DI.reads;simp [hm])
  have tchi: ∀e:Eff,i.op.tch (st.app j.dst e).sl=i.op.tch st.sl:=fun e=>gj fun m hm=>da _ _ _ fun he=>a3 m he (by unfold DI.reads;simp [hm])
  rcases cc with ⟨c1,c2⟩|⟨c1,c2⟩|⟨c1,c2⟩
  case inr.inl=>
   obtain ⟨vs,hvs,hk⟩:=iC c1 h;have one: ∀q, ∃ej,cA P j st ej/\bL P ck (upd acc ik (i.op.tch st.sl)) (pre++post) ((st.app i.dst {val:=vs q }).app j.dst ej) K:=fun q=>by
    obtain ⟨ej,h1,h2⟩:=gk (Cls.cT c2) (rest _ (fun hmu n hn=>by rw [tchj] at hn;rw [plainbx];exact hl hmu n hn) (hk q));refine ⟨ej,eJ (Cls.cT c2) (fun m hm=>(da _ _ _ fun he=>a1 m he hm).symm) (fun n _ b hb=>by rw [plainbx] at hb;exact hb) (fO _ _ _).symm (fun n _ hn=>by rw [plainbx] at hn;exact hn) (fun _=>(plainbx _ _ _).symm) h1,h2⟩
   obtain ⟨ej,hej,_⟩:=one 0;have wj:=iH (Cls.cT c2) hej;refine iI (Cls.cT c2) hej ⟨by rw [tchi];exact pq,?_⟩;refine kK c1 (ij c1 (fun m hm=>da _ _ _ fun he=>a3 m he hm) (fun n hn b hb=>?_) hvs) fun q=>?_
   ·rw [fN];exact hb;intro b' hw;rcases wj with wj|⟨n',b'',h0,h1,h2,h3⟩|⟨n',b'',h1,_⟩
    ·rw [wj] at hw;cases hw
    ·rw [h3] at hw;cases hw;rw [h2] at hb;cases hb
    ·revert c2 h1;generalize j.op.cls=c;cases c <;> simp [Cls.det,Cls.wr]
   ·obtain ⟨ej',su,hk2⟩:=one q
    have:=oZ c2 hej su
    subst this;rw [tchi,jd (fun n h1 h2=>a2 n h2 h1) (fun n b m c _ hwi=>by cases hwi)];exact hk2
  case inr.inr=>
   obtain ⟨ei,hei,hk⟩:=gk (Cls.cT c1) h;have wi:=iH (Cls.cT c1) hei;have lW: ∀m∈j.reads,(st.app i.dst ei).sl m=st.sl m:=fun m hm=>da _ _ _ fun he=>a1 m he hm
   have htj:j.op.tch (st.app i.dst ei).sl=j.op.tch st.sl:=gj fun m hm=>lW m (by unfold DI.reads;simp [hm])
   have extj: ∀n∈j.op.tch st.sl,(st.app i.dst ei).bx n=st.bx n:=fun n hn=>by
    refine fN _ _ _ fun b' hw=>?_
    rcases wi with wi|⟨n',b'',h0,h1,h2,h3⟩|⟨n',b'',h1,_⟩
    ·rw [wi] at hw;cases hw
    ·rw [h3] at hw;cases hw
     have:=hl (by rw [c2];simp) n hn
     rw [h2] at this;cases this
    ·revert c1 h1;generalize i.op.cls=c;cases c <;> simp [Cls.det,Cls.wr]
   obtain ⟨vs,hvs,hk2⟩:=iC c2 (rest _ (fun hmu n hn=>by rw [htj] at hn;rw [extj n hn];exact hl hmu n hn) hk);refine kK c2 (ij c2 (fun m hm=>(lW m hm).symm) (fun n hn b hb=>by rw [htj] at hn;rw [<- extj n hn];exact hb) hvs) fun q=>⟨by rw [tchi];exact pq,?_⟩
   refine iI (e:=ei) (Cls.cT c1) (eJ (Cls.cT c1) (fun m hm=>da _ _ _ fun he=>a3 m he hm) (fun n _ b hb=>by rw [plainbx];exact hb) (fO _ _ _) (fun n _ hn=>by rw [plainbx];exact hn) (fun _=>plainbx _ _ _) hei) ?_;rw [tchi,jd (fun n h1 h2=>a2 n h2 h1) (fun n b m c hwj _=>by cases hwj)];exact hk2 q
  obtain ⟨ei,hei,hk⟩:=gk c1 h;have wi:=iH c1 hei;have lW: ∀m∈j.reads,(st.app i.dst ei).sl m=st.sl m:=fun m hm=>da _ _ _ fun he=>a1 m he hm
  have htj:j.op.tch (st.app i.dst ei).sl=j.op.tch st.sl:=gj fun m hm=>lW m (by unfold DI.reads;simp [hm])
  have pr:aW i.op.cls j.op.cls=some false\/lM (i.op.tch st.sl) (j.op.tch st.sl)=true:=by
   rcases hcp with hcp|hcp
   ·exact .inl hcp
   ·refine .inr ?_;obtain ⟨acc',q1,q2⟩:=kU (fun p hpp=>(hp' p hpp).1) hk;rw [htj] at q2;unfold chk at q2;rw [List.all_eq_true] at q2;have h2:=q2 ik (hik hcp);rwa [q1 ik nd.1,aj] at h2
  have extj: ∀n∈j.op.tch st.sl,(st.app i.dst ei).bx n=st.bx n:=fun n hn=>by
   refine fN _ _ _ fun b' hw=>?_
   rcases wi with wi|⟨n',b'',h0,h1,h2,h3⟩|⟨n',b'',h1,h2,h3,h4⟩
   ·rw [wi] at hw;cases hw
   ·rw [h3] at hw;cases hw
    have:=hl (fun hmu=>by have:=am2 hmu;rw [h0] at this;cases this) n hn
    rw [h2] at this;cases this
   ·rw [h4] at hw;cases hw;exact (gO pr).1 h1 h2 hn
  have none_i: ∀n,(st.app i.dst ei).bx n=none->st.bx n=none:=fun n hn=>by
   rw [<- hn];refine (fN _ _ _ fun b' hw=>?_).symm
   have:(st.app i.dst ei).bx n=some b':=by
    unfold St.app;simp only [hw];exact aj _ _ _
   rw [this] at hn;cases hn
  have hl':jB j (st.app i.dst ei):=fun hmu n hn=>by
   rw [htj] at hn;rw [extj n hn];exact hl hmu n hn
  have sF:=fL hp' nd.2 (fun p hpp=>hne p (List.mem_cons_of_mem _ hpp)) (fun p hpp=>by
    by_cases hk:p.1=ik
    ·exact absurd (hk▸List.mem_map_of_mem hpp) nd.1
    ·rw [ae _ _ _ _ hk];exact jn p (List.mem_cons_of_mem _ hpp)) (by
    by_cases hk:jk=ik
    ·exact absurd hk.symm (hne (ik,i) (by simp))
    ·rw [ae _ _ _ _ hk];exact h0) hl' hk
  obtain ⟨ej,hej,hk2⟩:=gk c2 sF;have q8:cA P j st ej:=by
   refine eJ c2 (fun m hm=>(lW m hm).symm) (fun n hn b hb=>?_) (fO _ _ _).symm (fun n _ hn=>none_i n hn) (fun hmu=>(wr_bx (rdo_wr (am2 hmu) wi)).symm) hej;rw [htj] at hn;rw [<- extj n hn];exact hb
  have wj:=iH c2 q8;refine iI c2 q8 ?_;have hti:i.op.tch (st.app j.dst ej).sl=i.op.tch st.sl:=gj fun m hm=>da _ _ _ fun he=>a3 m he (by unfold DI.reads;simp [hm])
  refine ⟨by rw [hti];exact pq,?_⟩;refine iI (e:=ei) c1 (eJ c1 (fun m hm=>da _ _ _ fun he=>a3 m he hm) (fun n hn b hb=>?_) (fO _ _ _) (fun n hn hbn=>?_) (fun hmu=>wr_bx (rdo_wr (am1 hmu) wj)) hei) ?_
  ·rw [fN];exact hb;intro b' hw;rcases wj with wj|⟨n',b'',h0,h1,h2,h3⟩|⟨n',b'',h1,h2,h3,h4⟩
   ·rw [wj] at hw;cases hw
   ·rw [h3] at hw;cases hw;rw [h2] at hb;cases hb
   ·rw [h4] at hw;cases hw;exact (gO pr).2 h1 hn h2
  ·rw [fN];exact hbn;intro b hw;rcases wj with wj|⟨n',b',h0,h1,h2,h3⟩|⟨n',b',h1,h2,h3,h4⟩
   ·rw [wj] at hw;cases hw
   ·rw [h3] at hw;cases hw;exact qp (s:=st) (s':=st) rfl a2 hn h1
   ·rw [h4] at hw;cases hw;rw [hbn] at h3;cases h3
  ·rw [hti,jd (fun n h1 h2=>a2 n h2 h1) (fun n b m c hwj hwi hnm=>?_)]
   ·exact hk2
   ·subst hnm;rcases wi with wi|⟨n1,b1,k0,k1,k2,k3⟩|⟨n1,b1,k1,k2,k3,k4⟩
    ·rw [wi] at hwi;cases hwi
    ·rw [k3] at hwi;cases hwi;rcases wj with wj|⟨n2,b2,l0,l1,l2,l3⟩|⟨n2,b2,l1,l2,l3,l4⟩
     ·rw [wj] at hwj;cases hwj
     ·rw [l3] at hwj;cases hwj;exact qp (s:=st) (s':=st) rfl a2 k1 l1
     ·rw [l4] at hwj;cases hwj;rw [k2] at l3;cases l3
    ·rw [k4] at hwi;cases hwi;rcases wj with wj|⟨n2,b2,l0,l1,l2,l3⟩|⟨n2,b2,l1,l2,l3,l4⟩
     ·rw [wj] at hwj;cases hwj
     ·rw [l3] at hwj;cases hwj;rw [l2] at k3;cases k3
     ·rw [l4] at hwj;cases hwj;exact (gO pr).1 k1 k2 l2
theorem jz{K:St->Prop}: ∀{l:List (Nat×DI)} {acc:Nat->List Nat} {st:St},cR P (l.map (·.2)) st K->bL P [] acc l st K
 |[],_,_,h=>h
 |(_,_)::_,_,_,h=>⟨rfl,cQ (fun _ hs=>jz hs) h⟩
end
section
variable {P:Program}{X:List FuncId}{N:Nat}{w0:World}{S0:aa}{o:Oper}{a:Act}{E:Env}{st:St}
theorem du{v:Value}{u:V}(h:VR E v u)(n:Nat)(hn:n∈bx1 u):E.live n=true:=by
 cases h <;> simp [bx1] at hn <;> subst hn <;> assumption
theorem oU{v:Value}{u:V}(h:VR E v u)(n:Nat)(hn:n∈bx2 u):E.live n=true:=by
 cases u with
 |fn f vs=>
  cases h with
  |fn _ cs _ hs hv=>
   obtain ⟨c,hc,hn⟩:=List.mem_flatMap.1 hn;obtain ⟨i,hi⟩:=List.mem_iff_getElem?.1 hc;have hlt:i<cs.size:=by rw [hs];exact (gsZ hi).1
   exact du (hv i _ c (Array.getElem?_eq_getElem hlt) hi) n hn
 |ptr k off=>exact du h n hn
 |view k off len size=>exact du h n hn
 |mp k=>exact du h n hn
 |_=>cases hn
theorem lE{v:Value}{u:V}(h:VR E v u)(n:Nat)(hn:n∈bxs u):E.live n=true:=by
 cases u with
 |fn f vs=>
  cases h with
  |fn _ cs _ hs hv=>
   obtain ⟨c,hc,hn⟩:=List.mem_flatMap.1 hn;obtain ⟨i,hi⟩:=List.mem_iff_getElem?.1 hc;have hlt:i<cs.size:=by rw [hs];exact (gsZ hi).1
   exact oU (hv i _ c (Array.getElem?_eq_getElem hlt) hi) n hn
 |ptr k off=>exact du h n hn
 |view k off len size=>exact du h n hn
 |mp k=>exact du h n hn
 |_=>cases hn
end
section
variable [Glb]{P:Program}{X:List FuncId}{N:Nat}{w0:World}{S0:aa}{o:Oper}{a:Act}{E:Env}{st:St}
theorem SR.rp{t:Array Value}(h:SR N w0 S0 E st t)(j:DI):jB j st:=fun hmu n hn=>by
 have ev_live: ∀(x:O),n∈bxs (ev st.sl x)->(st.bx n).isSome=true:=fun x hx=>by
  obtain ⟨m,_,hm⟩:=jV hx;rw [<- h.live];exact lE (h.sl m) n hm
 have evs_live: ∀(xs:List O),n∈(xs.map (ev st.sl)).flatMap bx2->(st.bx n).isSome=true:=fun xs hx=>by
  obtain ⟨m,_,hm⟩:=iY hx;rw [<- h.live];exact lE (h.sl m) n hm
 unfold DOp.tch at hn;split at hn
 ·exact ev_live _ (gY (gX hn))
 ·exact ev_live _ (gY (gX hn))
 ·exact ev_live _ (gY (gX hn))
 ·exact ev_live _ (gY (gX hn))
 ·exact ev_live _ (gY (gX hn))
 ·exact ev_live _ (gY (gX hn))
 ·exact ev_live _ (gY (gX hn))
 ·exact evs_live _ hn
 ·exact evs_live _ hn
 ·rename_i hop;rw [hop] at hmu;exact absurd rfl hmu
 ·rcases List.mem_append.1 hn with hn|hn
  ·exact ev_live _ hn
  ·exact evs_live _ hn
 ·cases hn
end
end Go.DL
end
section
namespace Go.DL
open Go.RowKit
section
variable [Glb]{P:Program}{X:List FuncId}{N:Nat}{w0:World}{S0:aa}{a:Act}{E:Env}{st:St}
def aft(is:List DI)(k:Nat):List Nat:=(is[k]?.getD default).after
end
section
variable {P:Program}{X:List FuncId}{N:Nat}{w0:World}{S0:aa}{a:Act}{E:Env}{st:St}
theorem eT{m k:Nat}:has m k=true↔m.testBit k=true:=by
 unfold has Nat.testBit;have h:Nat.land (Nat.shiftRight m k) 1=1 &&& (m >>> k):=Nat.and_comm _ _;rw [h];have h1:(1 &&& (m >>> k))=(m >>> k) % 2:=by rw [Nat.and_comm];exact Nat.and_one_is_mod _
 rw [h1];rcases Nat.mod_two_eq_zero_or_one (m >>> k) with e|e <;> rw [e] <;> simp
theorem lQ{acc:List Nat}: ∀{l:List Nat} {i:Nat},has (fY acc l) i=true->i∈l\/ ∃k∈l,has (acc[k]?.getD 0) i=true
 |[],i,h=>by
  rw [eT] at h;simp [fY] at h
 |k::ks,i,h=>by
  rw [eT] at h;have e:fY acc (k::ks)=((1 <<< k) ||| (acc[k]?.getD 0)) ||| fY acc ks:=rfl
  rw [e,Nat.testBit_or,Nat.testBit_or,Bool.or_eq_true,Bool.or_eq_true] at h;rcases h with (h|h)|h
  ·left;rw [Nat.testBit_shiftLeft] at h;simp only [Bool.and_eq_true,decide_eq_true_eq] at h
   have:i - k=0:=by
    rcases Nat.eq_zero_or_pos (i - k) with h0|h0
    ·exact h0
    ·exfalso
     have:=h.2
     rw [Nat.testBit_lt_two_pow (x:=1) (by exact Nat.one_lt_two_pow (by omega))] at this;cases this
   have:i=k:=by omega
   simp [this]
  ·exact .inr ⟨k,by simp,eT.2 h⟩
  ·rcases lQ (eT.2 h) with h|⟨k',h1,h2⟩
   ·exact .inl (List.mem_cons_of_mem _ h)
   ·exact .inr ⟨k',List.mem_cons_of_mem _ h1,h2⟩
theorem iQ{L:Nat->Prop}{is0:List DI}(hcl: ∀k,L k-> ∀e∈aft is0 k,L e): ∀(is:List DI) (acc:List Nat),(∀ k,is0[acc.length+k]? =is[k]?)->
  (∀ k,(∀ e∈aft is0 k,L e)-> ∀i,has (acc[k]?.getD 0) i=true->L i)-> ∀k,(∀ e∈aft is0 k,L e)-> ∀i,has ((cN acc is)[k]?.getD 0) i=true->L i
 |[],acc,_,jn=>jn
 |d::is,acc,his,jn=>by
  unfold cN;refine iQ hcl is _ (fun k=>?_) (fun k hk i hi=>?_)
  ·have:=his (k+1)
   simp only [List.length_append,List.length_cons,List.length_nil];rw [show acc.length+(0+1)+k=acc.length+(k+1) by omega,this];simp
  ·rcases Nat.lt_trichotomy k acc.length with h|h|h
   ·rw [List.getElem?_append_left h] at hi;exact jn k hk i hi
   ·subst h;have hd:is0[acc.length]? =some d:=by simpa using his 0
    have ha:aft is0 acc.length=d.after:=by unfold aft;rw [hd];rfl
    rw [List.getElem?_append_right (Nat.le_refl _)] at hi;simp only [Nat.sub_self,List.getElem?_cons_zero,Option.getD_some] at hi;rw [ha] at hk;rcases lQ hi with hi|⟨k',hk',hi⟩
    ·exact hk i hi
    ·exact jn k' (hcl k' (hk k' hk')) i hi
   ·rw [List.getElem?_eq_none (by simp;omega)] at hi;rw [eT] at hi;simp at hi
theorem jY{m:Nat}{j:DI}: ∀{c k:Nat} {is:List DI},fl m j k c is=true-> ∀x i,x<c->is[x]? =some i->has m (k+x)=true\/i.indep j=true
 |0,_,_,_,x,_,hx,_=>absurd hx (by omega)
 |c+1,k,[],_,x,i,_,hi=>by simp at hi
 |c+1,k,i0::is,h,x,i,hx,hi=>by
  unfold fl at h;simp only [cond_eq_ite,Bool.if_true_left,Bool.decide_eq_true,Bool.or_eq_true] at h;cases x with
  |zero=>
   simp at hi;subst hi
   revert h
   cases has m k <;> cases i0.indep j <;> simp_all
  |succ x=>
   have h2:fl m j (k+1) c is=true:=by
    revert h
    cases has m k <;> cases i0.indep j <;> simp_all
   have:=jY h2 x i (by omega) (by simpa using hi)
   rwa [show k+1+x=k+(x+1) by omega] at this
theorem jX{is:List DI}: ∀{rest:List DI} {n:Nat} {ms:List Nat},iM is n rest ms=true-> ∀x j,rest[x]? =some j->(∀ e∈j.after,e<n+x)/\fl (ms[x]?.getD 0) j 0 (n+x) is=true
 |[],n,ms,_,x,j,hj=>by simp at hj
 |j0::rest,n,[],h,x,j,hj=>by simp [iM] at h
 |j0::rest,n,m::ms,h,x,j,hj=>by
  unfold iM at h;have h3:(j0.after.all fun i=>Nat.blt i n)=true/\fl m j0 0 n is=true/\iM is (n+1) rest ms=true:=by
   revert h
   cases (j0.after.all fun i=>Nat.blt i n) <;> cases fl m j0 0 n is <;> simp
  cases x with
  |zero=>
   simp at hj;subst hj;refine ⟨fun e he=>?_,h3.2.1⟩;exact nlZ (List.all_eq_true.1 h3.1 e he)
  |succ x=>
   have:=jX h3.2.2 x j (by simpa using hj)
   rw [show n+1+x=n+(x+1) by omega] at this;simpa using this
theorem iR{is:List DI}(h:ib is=true){j:Nat}(hj:j<is.length):(∀ e∈aft is j,e<j)/\ ∀i,i<j->has ((cN [] is)[j]?.getD 0) i=true\/(is[i]?.getD default).indep (is[j]?.getD default)=true:=by
 have h1:=jX h j _ (ggZ hj);rw [Nat.zero_add] at h1;refine ⟨fun e he=>?_,fun i hi=>?_⟩
 ·unfold aft at he;rw [ggZ hj] at he;exact h1.1 e he
 ·have hi':i<is.length:=by omega
  have:=jY h1.2 i _ hi (ggZ hi')
  rw [Nat.zero_add] at this;rw [ggZ hj,ggZ hi'];exact this
theorem jJ{m:Nat}{j:DI}: ∀{c k:Nat} {is:List DI} (x:Nat) (i:DI),x<c->is[x]? =some i->has m (k+x)=false->aW i.op.cls j.op.cls=some true->k+x∈iG m j k c is
 |0,_,_,x,_,hx,_,_,_=>absurd hx (by omega)
 |c+1,k,[],x,i,_,hi,_,_=>by simp at hi
 |c+1,k,i0::is,x,i,hx,hi,hn,hc=>by
  unfold iG;cases x with
  |zero=>
   simp at hi;subst hi;rw [Nat.add_zero] at hn;rw [hn,hc];simp [isTrue]
  |succ x=>
   have h:=jJ (m:=m) (j:=j) (c:=c) (k:=k+1) (is:=is) x i (by omega) (by simpa using hi) (by rwa [show k+1+x=k+(x+1) by omega]) hc;rw [show k+1+x=k+(x+1) by omega] at h;cases (bif has m k then false else isTrue (aW i0.op.cls j.op.cls)) with
   |true=>exact List.mem_cons_of_mem _ h
   |false=>exact h
theorem jH{is:List DI}: ∀{rest:List DI} {n:Nat} {ms:List Nat},rest.length<=ms.length-> ∀x j,rest[x]? =some j->(kZ is n rest ms)[x]?.getD []=iG (ms[x]?.getD 0) j 0 (n+x) is
 |[],n,ms,_,x,j,hj=>by simp at hj
 |j0::rest,n,[],h,x,j,hj=>by simp at h
 |j0::rest,n,m::ms,h,x,j,hj=>by
  unfold kZ;cases x with
  |zero=>simp at hj;subst hj;simp
  |succ x=>
   have:=jH (is:=is) (rest:=rest) (n:=n+1) (ms:=ms) (by simpa using h) x j (by simpa using hj)
   rw [show n+1+x=n+(x+1) by omega] at this;simpa using this
theorem jN: ∀(is:List DI) (acc:List Nat),(cN acc is).length=acc.length+is.length
 |[],acc=>by simp [cN]
 |i::is,acc=>by unfold cN;rw [jN is];simp;omega
end
section
variable [Glb]{P:Program}{X:List FuncId}{N:Nat}{w0:World}{S0:aa}{a:Act}{E:Env}{st:St}
def fq(is:List DI)(ks:List Nat):List (Nat×DI):=ks.map fun k=>(k,is[k]?.getD default)
def oN(is:List DI)(ck:List (List Nat)):Prop:= ∀j,j<is.length-> ∀i,i<j->has ((cN [] is)[j]?.getD 0) i=false->aW (is[i]?.getD default).op.cls (is[j]?.getD default).op.cls=some true->i∈ck[j]?.getD []
end
section
variable {P:Program}{X:List FuncId}{N:Nat}{w0:World}{S0:aa}{a:Act}{E:Env}{st:St}
theorem jI(is:List DI):oN is (eR is):=fun j hj i hi hn hc=>by
 unfold eR;have hi':i<is.length:=by omega
 rw [jH (by rw [jN];simp) j _ (ggZ hj),Nat.zero_add];rw [ggZ hj,ggZ hi'] at hc
 have:=jJ (k:=0) (is:=is) i _ hi (ggZ hi') (by rwa [Nat.zero_add]) hc
 rwa [Nat.zero_add] at this
theorem mX(is:List DI):oN is (eF is):=by
 unfold eF;cases h:(eR is).all (·.isEmpty) with
 |false=>exact jI is
 |true=>
  intro j hj i hi hn hc;exfalso
  have:=jI is j hj i hi hn hc
  rw [List.all_eq_true] at h;cases hx:(eR is)[j]? with
  |none=>rw [hx] at this;simp at this
  |some l=>
   rw [hx,Option.getD_some] at this
   have:=h l (List.mem_of_getElem? hx)
   cases l with
   |nil=>rename_i h1;cases h1
   |cons a r=>cases this
theorem iy{is:List DI}: ∀(l:List DI) (k:Nat),(∀ m,is[k+m]? =l[m]?)->eG k l=(List.range' k l.length).map fun k=>(k,is[k]?.getD default)
 |[],k,_=>rfl
 |i::l,k,h=>by
  have h0:is[k]? =some i:=by simpa using h 0
  show (k,i)::eG (k+1) l=_
  rw [iy l (k+1) fun m=>by have:=h (m+1);simp at this;rw [<- this];congr 1;omega];rw [List.length_cons,List.range'_succ,List.map_cons,h0];rfl
end
section
variable [Glb]{P:Program}{X:List FuncId}{N:Nat}{w0:World}{S0:aa}{a:Act}{E:Env}{st:St}
theorem mD{ck:List (List Nat)}{ops:Array Oper}{is:List DI}(hl:dj P N X ops ops.toList=some is)(hok:ib is=true)(hck:oN is ck){Q:Exit->Act->World->Prop}{K:St->Prop}{ds:List Deferred}(hQ: ∀a w,bS N w0 S0 ds K a w->Q .normal a w):
  ∀(fuel:Nat) (listed:Array Bool) (rem:List Nat) {a:Act} {E:Env} {st:St} (_:SR N w0 S0 E st a.tmps) (_:a.defers=ds) (_:listed.size=ops.size) (_:rem=(List.range ops.size).filter (fun k=> !listed.getD k true)) (_:rem.length=fuel)
   (_: ∀k,listed.getD k false=true-> ∀e∈aft is k,listed.getD e false=true) (_:bL P ck (fun _=>[]) (fq is rem) st K),wpAny P .any ops Q fuel listed a E.w:=by
 have hlen:ops.size=is.length:=by simpa using (bq hl).1
 have rdy: ∀(listed:Array Bool) (j:Nat),j∈Region.ready .any ops listed->j<ops.size/\listed.getD j true=false/\ ∀e∈aft is j,listed.getD e false=true:=fun listed j hj=>by
  obtain ⟨h1,o,ho,h2⟩:=mem_ready.1 hj;refine ⟨(Array.getElem?_eq_some_iff.1 ho).1,h1,fun e he=>?_⟩;obtain ⟨i,hi,hli⟩:=(bq hl).2 j o (Array.getElem?_toList.trans ho);obtain ⟨_,_,_,ha,_⟩:=eX hli;unfold aft at he;rw [hi,Option.getD_some,ha,List.mem_map] at he;obtain ⟨x,hx,rfl⟩:=he;rw [List.mem_filter] at hx;exact h2 x (by simpa using hx.1) hx.2
 have rdy': ∀(listed:Array Bool) (j:Nat),j<ops.size->listed.getD j true=false->(∀ e∈aft is j,listed.getD e false=true)->j∈Region.ready .any ops listed:=fun listed j hlt h1 h2=>by
  have ho:ops[j]? =some ops[j]:=Array.getElem?_eq_getElem hlt;refine mem_ready.2 ⟨h1,_,ho,fun e he hb=>?_⟩;obtain ⟨i,hi,hli⟩:=(bq hl).2 j _ (Array.getElem?_toList.trans ho);obtain ⟨_,_,_,ha,_⟩:=eX hli;refine h2 _ ?_;unfold aft;rw [hi,Option.getD_some,ha,List.mem_map];exact ⟨e,List.mem_filter.2 ⟨by simpa using he,hb⟩,rfl⟩
 have mem: ∀(listed:Array Bool) (j:Nat),j∈(List.range ops.size).filter (fun k=> !listed.getD k true)↔j<ops.size/\listed.getD j true=false:=fun listed j=>by
  rw [List.mem_filter,List.mem_range];simp
 have flip: ∀(listed:Array Bool) (j:Nat),j<listed.size->(listed.getD j true=listed.getD j false):=fun listed j h=>by simp [h]
 intro fuel
 induction fuel with
 |zero=>
  intro listed rem a E st h hd hsz gF hfu hcl hw;have h0:rem=[]:=List.eq_nil_of_length_eq_zero hfu;refine ⟨?_,?_⟩
  ·cases hr:Region.ready .any ops listed with
   |nil=>rfl
   |cons x xs=>
    have hx:=rdy listed x (by rw [hr];simp)
    have:x∈rem:=by rw [gF];exact (mem listed x).2 ⟨hx.1,hx.2.1⟩
    rw [h0] at this;cases this
  ·rw [h0] at hw;exact hQ a E.w ⟨E,st,rfl,h,hd,hw⟩
 |succ fuel ih=>
  intro listed rem a E st h hd hsz gF hfu hcl hw;refine ⟨fun hr=>?_,fun j hj=>?_⟩
  ·exfalso;cases hm:rem with
   |nil=>rw [hm] at hfu;cases hfu
   |cons k rest=>
    have hk:k<ops.size/\listed.getD k true=false:=(mem listed k).1 (by rw [<- gF,hm];simp);have gH:rem.Pairwise (· < ·):=by rw [gF];exact List.Pairwise.filter _ List.pairwise_lt_range
    have:k∈Region.ready .any ops listed:=by
     refine rdy' listed k hk.1 hk.2 fun e he=>?_
     have hlt:=(iR hok (by omega)).1 e he;cases hle:listed.getD e false with
     |true=>rfl
     |false=>
      exfalso;have hin:e∈rem:=by rw [gF];exact (mem listed e).2 ⟨by omega,by rw [flip _ _ (by omega)];exact hle⟩
      rw [hm] at hin gH;rcases List.mem_cons.1 hin with rfl|hin
      ·omega
      ·have:=(List.pairwise_cons.1 gH).1 e hin;omega
    rw [hr] at this;cases this
  ·obtain ⟨hj1,hj2,hj3⟩:=rdy listed j hj;have hjr:j∈rem:=by rw [gF];exact (mem listed j).2 ⟨hj1,hj2⟩
   obtain ⟨pre,post,hpp⟩:=List.append_of_mem hjr;have gH:rem.Pairwise (· < ·):=by rw [gF];exact List.Pairwise.filter _ List.pairwise_lt_range
   have ho:ops[j]? =some ops[j]:=Array.getElem?_eq_getElem hj1;obtain ⟨i,hi,hli⟩:=(bq hl).2 j _ (Array.getElem?_toList.trans ho);have hpu: ∀p∈pre,p<j/\listed.getD p true=false:=fun p hp=>by
    rw [hpp] at gH;exact ⟨(List.pairwise_append.1 gH).2.2 p hp j (by simp),((mem listed p).1 (by rw [<- gF,hpp];simp [hp])).2⟩
   have re: ∀p∈pre,has ((cN [] is)[j]?.getD 0) p=false:=fun p hp=>by
    refine Bool.eq_false_iff.2 fun nH=>?_
    have:=iQ (L:=fun k=>listed.getD k false=true) (is0:=is) hcl is [] (by simp) (fun k _ i hi=>by rw [eT] at hi;simp at hi) j hj3 p nH
    have h2:=(hpu p hp).2;rw [flip _ _ (by have:=(hpu p hp).1;omega)] at h2;rw [h2] at this;cases this
   have pB: ∀x∈fq is pre,x.2.indep i=true/\(aW x.2.op.cls i.op.cls=some true->x.1∈ck[j]?.getD []):=fun x hx=>by
    obtain ⟨p,hp,rfl⟩:=List.mem_map.1 hx;have hlt:=(hpu p hp).1;refine ⟨?_,fun hc=>?_⟩
    ·rcases (iR hok (by omega)).2 p hlt with nH|q9
     ·rw [re p hp] at nH;cases nH
     ·rw [hi,Option.getD_some] at q9;exact q9
    ·refine hck j (by omega) p hlt (re p hp) ?_;rw [hi,Option.getD_some];exact hc
   have n5:rem.Nodup:=gH.imp (fun h=>Nat.ne_of_lt h);have sD:pre.Nodup:=by rw [hpp] at n5;exact (List.nodup_append.1 n5).1
   have sy:(fq is pre).map (·.1)=pre:=by unfold fq;rw [List.map_map];exact List.map_id' _
   have hw1:wpI P i st fun st'=>bL P ck (fun _=>[]) (fq is pre++fq is post) st' K:=by
    refine fL pB (by rw [sy];exact sD) (fun x hx=>?_) (fun _ _=>rfl) rfl (h.rp i) ?_
    ·obtain ⟨p,hp,rfl⟩:=List.mem_map.1 hx;exact Nat.ne_of_lt (hpu p hp).1
    ·rw [hpp] at hw;unfold fq at hw ⊢;rw [List.map_append,List.map_cons,hi] at hw;exact hw
   refine wpOp_mono ?_ (oL h ho hli hw1 (Q:=Q));rintro a' w' ⟨st',hk',E',rfl,hsr,hdf⟩;refine ih _ (pre++post) hsr (hdf.trans hd) (by simp [hsz]) ?_ ?_ (fun k hk e he=>?_) ?_
   ·have hnd:rem.Nodup:=gH.imp (fun h=>Nat.ne_of_lt h);have h1:(List.range ops.size).filter (fun k=> !(listed.setIfInBounds j true).getD k true)=rem.filter (fun k=>decide (k≠j)):=by
     rw [gF,List.filter_filter];refine List.filter_congr fun k hk=>?_
     by_cases hkj:j=k
     ·subst hkj
      have:j<listed.size:=by omega
      simp [this]
     ·rw [getD_set_ne _ hkj]
      have:(k≠j):=fun e=>hkj e.symm
      simp [this]
    rw [h1,hpp,List.filter_append,List.filter_cons];rw [hpp] at hnd;have hn1: ∀x∈pre,x≠j:=fun x hx he=>(List.nodup_append.1 hnd).2.2 x hx j (by simp) he
    have hn2: ∀x∈post,x≠j:=fun x hx he=>(List.nodup_cons.1 (List.nodup_append.1 hnd).2.1).1 (he▸hx)
    rw [List.filter_eq_self.2 (fun x hx=>by simpa using hn1 x hx),List.filter_eq_self.2 (fun x hx=>by simpa using hn2 x hx)];simp
   ·rw [hpp] at hfu;simp at hfu ⊢;omega
   ·by_cases hkj:j=k
    ·subst hkj;exact getD_set_true (hj3 e he)
    ·rw [getD_set_ne _ hkj] at hk;exact getD_set_true (hcl k hk e he)
   ·unfold fq at hk' ⊢;rw [List.map_append];exact hk'
theorem ml(hm:P.follows .mixedOrders=true)(h:SR N w0 S0 E st a.tmps){ops:Array Oper}{is:List DI}(hl:dj P N X ops ops.toList=some is)(hok:ib is=true){Q:Exit->Act->World->Prop}{K:St->Prop}
  (hQ: ∀a' w,bS N w0 S0 a.defers K a' w->Q .normal a' w) (hw:bL P (eF is) (fun _=>[]) (eG 0 is) st K) {id:Nat}:(Code.region id ops true).wp P Q a E.w:=by
 refine wp_region_any hm (mD (E:={E with w:=E.w.drew }) hl hok (mX is) hQ _ _ _ h.drew rfl (by simp) rfl ?_ ?_ ?_)
 ·rw [List.filter_eq_self.2]
  ·simp
  ·intro k hk;rw [List.mem_range] at hk;simp [hk]
 ·intro k hk;exfalso
  by_cases hlt:k<ops.size
  ·simp [hlt] at hk
  ·simp [hlt] at hk
 ·rw [List.filter_eq_self.2]
  ·have:ops.size=is.length:=by simpa using (bq hl).1
   rw [this];rw [iy (is:=is) is 0 (fun m=>by simp)] at hw;rw [<- List.range_eq_range'] at hw;exact hw
  ·intro k hk;rw [List.mem_range] at hk;simp [hk]
end
end Go.DL
end
section
namespace Go.DL
open Go.RowKit
section
variable [Glb]{P:Program}{X:List FuncId}{N:Nat}{w0:World}{S0:aa}{a:Act}{E:Env}{st:St}
end
section
variable {P:Program}{X:List FuncId}{N:Nat}{w0:World}{S0:aa}{a:Act}{E:Env}{st:St}
theorem iv{α:Type}{d:α}: ∀{l:List (Nat×α)} {n:Nat},lk d l n=d\/(n,lk d l n)∈l
 |[],n=>.inl rfl
 |(k,v)::r,n=>by
  unfold lk
  by_cases h:n=k
  ·subst h;rw [cz];exact .inr (by simp)
  ·rw [gV h];rcases iv (d:=d) (l:=r) (n:=n) with h|h
   ·exact .inl h
   ·exact .inr (List.mem_cons_of_mem _ h)
theorem jr{ks:List Nat}{bx:Nat->Option BX}: ∀{l:List (Nat×V)} {sl:Nat->V},me ks bx l sl-> ∀p∈l,LeV ks bx p.2 (sl p.1)
 |[],_,_,p,hp=>by simp at hp
 |(n,v)::r,sl,h,p,hp=>by
  rcases List.mem_cons.1 hp with rfl|hp
  ·exact h.1
  ·exact jr h.2 p hp
theorem mc{ks:List Nat}{bx:Nat->Option BX}: ∀{l:List (Nat×List (Nat×V))} {gh:Nat->Nat->V},pE ks bx l gh-> ∀p∈l,me ks bx p.2 (gh p.1)
 |[],_,_,p,hp=>by simp at hp
 |(n,v)::r,sl,h,p,hp=>by
  rcases List.mem_cons.1 hp with rfl|hp
  ·exact h.1
  ·exact mc h.2 p hp
theorem ma{ks:List Nat}{bx:Nat->Option BX}: ∀{l:List (Nat×BX)},pD ks bx l-> ∀p∈l,LeB ks bx p.2 (bx p.1)
 |[],_,p,hp=>by simp at hp
 |(n,v)::r,h,p,hp=>by
  rcases List.mem_cons.1 hp with rfl|hp
  ·exact h.1
  ·exact ma h.2 p hp
theorem gJ{ks:List Nat}: ∀{vs:List V},gI.go ks vs=true-> ∀v∈vs,gI ks v=true
 |[],_,v,hv=>by simp at hv
 |u::us,h,v,hv=>by
  simp only [gI.go,Bool.and_eq_true] at h;rcases List.mem_cons.1 hv with rfl|hv
  ·exact h.1
  ·exact gJ h.2 v hv
end
section
variable [Glb]{P:Program}{X:List FuncId}{N:Nat}{w0:World}{S0:aa}{a:Act}{E:Env}{st:St}
def Env.cM(E:Env)(live:Nat->Bool):Env:={E with live:=live,S:=fun b o=>E.S b o\/ ∃n,E.live n=true/\live n=false/\b=E.κ n }
end
section
variable {P:Program}{X:List FuncId}{N:Nat}{w0:World}{S0:aa}{a:Act}{E:Env}{st:St}
theorem VR.live{v:Value}{u:V}(h:VR E v u): ∀{ks:List Nat} {live:Nat->Bool},(∀ n,ks.contains n=true->live n=true)->(∀ r g,E.ρ r=some g-> ∀n,E.live n=true->E.κ n≠g)->gI ks u=true->VR (E.cM live) v u:=by
 have up: ∀{live:Nat->Bool} {v:Value} {t:T},Rep E.S E.w v t->Rep (E.cM live).S (E.cM live).w v t:=fun h=>h.mono (fun b o h=>.inl h) (fun _ _ _=>aB.rfl)
 induction h with
 |top v=>intro _ _ _ _ _;exact .top v
 |t v x h=>intro _ _ _ _ _;exact .t v x (up h)
 |ptr n off _=>intro ks live hl _ hi;exact VR.ptr (E:=E.cM live) n off (hl n hi)
 |view n off len size cap _ hc=>intro ks live hl _ hi;exact VR.view (E:=E.cM live) n off len size cap (hl n hi) hc
 |own v r e size xs h=>
  intro _ live _ hr _;obtain ⟨cells,h1,h2,h3⟩:=h.ex;refine .own v r e size xs ⟨⟨cells,h1,h2,fun i x t hx ht=>up (h3 i x t hx ht)⟩,h.uni,h.one,fun g hg=>⟨(h.row g hg).1,fun o=>⟨?_,fun ho=>.inl (((h.row g hg).2 o).2 ho)⟩⟩⟩;rintro (hs|⟨n,hn,_,he⟩)
  ·exact ((h.row g hg).2 o).1 hs
  ·exact absurd he.symm (hr r g (h.row g hg).1 n hn)
 |full a len size xs h=>intro _ _ _ _ _;exact .full a len size xs (up h)
 |fn f cs vs hs _ ih=>intro ks live hl hr hi;exact .fn f cs vs hs fun i x u hx hu=>ih i x u hx hu hl hr (gJ hi u (List.mem_of_getElem? hu))
 |raw v h1=>intro _ _ _ _ _;exact .raw v h1
 |mp n _=>intro ks live hl _ hi;exact VR.mp (E:=E.cM live) n (hl n hi)
 |tup cs vs hs _ ih=>intro ks live hl hr hi;exact .tup cs vs hs fun i x u hx hu=>ih i x u hx hu hl hr (gJ hi u (List.mem_of_getElem? hu))
 |agv cs vs hs h1 _ ih=>intro ks live hl hr hi;exact .agv cs vs hs h1 fun i x u hx hu=>ih i x u hx hu hl hr (gJ hi u (List.mem_of_getElem? hu))
theorem fH{ks:List Nat}{bx:Nat->Option BX}: ∀{us vs:List V},iL ks bx us vs->us.length=vs.length/\ ∀(i:Nat) (u v:V),us[i]? =some u->vs[i]? =some v->LeV ks bx u v
 |[],[],_=>⟨rfl,fun i u v hu=>by simp at hu⟩
 |u::us,v::vs,h=>by
  obtain ⟨h1,h2⟩:=fH h.2;refine ⟨by simp [h1],fun i x y hx hy=>?_⟩;cases i with
  |zero=>simp at hx hy;subst hx;subst hy;exact h.1
  |succ i=>simp at hx hy;exact h2 i x y hx hy
 |[],_::_,h=>h.elim
 |_::_,[],h=>h.elim
theorem jf{cs:Array Value}{A B:List V}{v:V}(hs:cs.size=(A++v::B).length)(h: ∀(i:Nat) (x:Value) (u:V),cs[i]? =some x->(A++v::B)[i]? =some u->VR E x u):
  ∃(c d:Array Value) (p:Value),cs=c++ #[p]++d/\VR E p v/\c.size=A.length/\d.size=B.length/\(∀ (i:Nat) (x:Value) (u:V),c[i]? =some x->A[i]? =some u->VR E x u)/\(∀ (i:Nat) (x:Value) (u:V),d[i]? =some x->B[i]? =some u->VR E x u):=by
 have hlen:cs.toList.length=A.length+(1+B.length):=by simp at hs ⊢;omega
 obtain ⟨l1,l2,h1,h2⟩: ∃l1 l2,cs.toList=l1++l2/\l1.length=A.length:=⟨cs.toList.take A.length,cs.toList.drop A.length,(List.take_append_drop _ _).symm,by simp;simp at hlen;omega⟩
 match l2,h1 with
 |[],h1=>rw [h1] at hlen;simp at hlen;omega
 |p::l3,h1=>
  have hcs:cs=l1.toArray++ #[p]++l3.toArray:=Array.toList_inj.1 (by rw [h1];simp);have h3:l3.length=B.length:=by rw [h1] at hlen;simp at hlen;omega
  have get: ∀i,cs[i]? =(l1++p::l3)[i]? :=fun i=>by rw [<- Array.getElem?_toList,h1]
  refine ⟨l1.toArray,l3.toArray,p,hcs,?_,by simpa using h2,by simpa using h3,fun i x u hx hu=>?_,fun i x u hx hu=>?_⟩
  ·exact h A.length p v (by rw [get, <-h2];simp) (by simp)
  ·have hlt:i<A.length:=(gsZ hu).1;exact h i x u (by rw [get,List.getElem?_append_left (by omega)];simpa using hx) (by rw [List.getElem?_append_left hlt];exact hu)
  ·exact h (A.length+(i+1)) x u (by
    rw [get,List.getElem?_append_right (by omega)];rw [show A.length+(i+1) - l1.length=i+1 by omega];simpa using hx) (by
    rw [List.getElem?_append_right (by omega)];rw [show A.length+(i+1) - A.length=i+1 by omega];simpa using hu)
end
section
variable [Glb]{P:Program}{X:List FuncId}{N:Nat}{w0:World}{S0:aa}{a:Act}{E:Env}{st:St}
theorem SR.bQ(h:SR N w0 S0 E st a.tmps){s:Wk}(hw:bQ s st): ∃E':Env,E'.w=E.w/\SR N w0 S0 E' s.mk' a.tmps:=by
 obtain ⟨h1,h2,h4,_,hcx,h3⟩:=hw;have m1:=jr h1;have m2:=ma h2;have m3:=mc h4;unfold Wk.closed at h3;simp only [Bool.and_eq_true,List.all_eq_true] at h3;obtain ⟨⟨c1,c2⟩,c3⟩:=h3;have inb: ∀n b,s.mk'.bx n=some b->(n,b)∈s.bx:=fun n b hb=>by
  have hb':lk none (s.bx.map fun p=>(p.1,some p.2)) n=some b:=hb;rcases iv (d:=none) (l:=s.bx.map fun p=>(p.1,some p.2)) (n:=n) with hh|hh
  ·rw [hh] at hb';cases hb'
  ·rw [hb',List.mem_map] at hh;obtain ⟨p,hp,he⟩:=hh;cases he;exact hp
 have isB: ∀n,s.keys.contains n=true->(s.mk'.bx n).isSome=true:=fun n hn=>by
  show (lk none (s.bx.map fun p=>(p.1,some p.2)) n).isSome=true
  unfold Wk.keys at hn
  revert hn
  generalize s.bx=l
  induction l with
  |nil=>intro hn;simp at hn
  |cons p l ih=>
   intro hn;simp only [List.map_cons];unfold lk
   by_cases hk:n=p.1
   ·rw [hk,cz];rfl
   ·rw [gV hk];refine ih ?_;simp only [List.map_cons,List.contains_cons,Bool.or_eq_true,beq_iff_eq] at hn;exact hn.resolve_left hk
 have old: ∀n b,s.mk'.bx n=some b-> ∃b0,st.bx n=some b0/\LeB s.keys st.bx b (some b0)/\lY s.keys b=true:=fun n b hb=>by
  have hm:=inb n b hb;have hle:=m2 _ hm;have hin:=c2 _ hm;simp only at hle;cases hb0:st.bx n with
  |none=>rw [hb0] at hle;cases hle
  |some b0=>rw [hb0] at hle;exact ⟨b0,rfl,hle,hin⟩
 have lv: ∀n,(s.mk'.bx n).isSome=true->E.live n=true:=fun n hn=>by
  obtain ⟨b,hb⟩:=Option.isSome_iff_exists.1 hn;obtain ⟨b0,h0,_⟩:=old n b hb;rw [h.live,h0];rfl
 have dead: ∀n, ¬n∈s.keys->(s.mk'.bx n).isSome=false:=fun n hn=>by
  cases hb:s.mk'.bx n with
  |none=>rfl
  |some b=>exact absurd (List.mem_map.2 ⟨_,inb n b hb,rfl⟩) hn
 have klt: ∀n,E.live n=true->E.κ n<E.w.heap.size:=fun n hl=>by
  rw [h.live] at hl;obtain ⟨b',hb'⟩:=Option.isSome_iff_exists.1 hl;obtain ⟨_,hg,_⟩:=(h.bx n b' hb').at_;exact (Array.getElem?_eq_some_iff.1 hg).1
 have hrk: ∀r g,E.ρ r=some g-> ∀n,E.live n=true->E.κ n≠g:=fun r g hr=>(h.rows r g hr).2.2
 let lv':Nat->Bool:=fun n=>(s.mk'.bx n).isSome
 have lev: ∀{v:Value} {u u':V},VR E v u->LeV s.keys st.bx u' u->gI s.keys u'=true->VR (E.cM lv') v u':=fun {v u u'} hv hl hi=>by
  have up: ∀{v:Value} {t:T},Rep E.S E.w v t->Rep (E.cM lv').S (E.cM lv').w v t:=fun h=>h.mono (fun b o h=>.inl h) (fun _ _ _=>aB.rfl)
  cases hl with
  |same=>exact hv.live isB hrk hi
  |nil r e n=>
   have:=hv.ax
   cases this;exact .own _ r e n [] (bN.nil r e n)
  |data r e n xs=>
   cases hv with
   |own _ _ _ _ _ h=>exact .t _ _ (up h.rep)
  |empty n=>
   have:=hv.ax
   cases this;exact .t _ _ (.slice none 0 0 0 0 _ [] (fun _=>undef) rfl (Nat.le_refl _) (fun x hx=>by simp at hx) (fun t ht=>by simp at ht) (fun hh=>by simp at hh) (fun i hi=>by simp at hi) (fun i t ht=>by simp at ht))
  |conv _ x rd hc hk=>
   refine .t _ _ ((eI h.bx hv hc).mono ?_ (fun _ _ _=>aB.rfl));rintro b o (hs|⟨n,hn,hln,rfl⟩)
   ·exact .inl hs
   ·exact .inr ⟨n,hln,dead n (hk n hn),rfl⟩
  |top=>exact .top _
  |knot n f A B xa ra xb rb hb ha hbb hk=>
   obtain ⟨rfl,hln⟩:=hv.bd;obtain ⟨cs,e,hg,hcr⟩:=(h.bx n _ hb).cells rfl;obtain ⟨L1,M1⟩:=bF h.bx ha;obtain ⟨L2,M2⟩:=bF h.bx hbb;have sx: ∀{rd:List Nat},(∀ m∈rd,m∈n::(ra++rb))-> ∀b o,Sx E rd b o->(E.cM lv').S b o:=fun {rd} dJ b o hs=>by
    rcases hs with hs|⟨m,hm,hlm,rfl⟩
    ·exact .inl hs
    ·exact .inr ⟨m,hlm,dead m (hk m (dJ m hm)),rfl⟩
   cases hcr with
   |v _ hs hh=>
    have hs:1<=cs.size:=hs;have g0:cs[0]? =some cs[0]:=Array.getElem?_eq_getElem (by omega);have v0:=(hh 0 _ _ g0 rfl).1;generalize hc0:cs[0]=z0 at v0 g0;cases v0 with
    |fn _ d1 _ hs1 hv1=>
     obtain ⟨p1,p2,p3,rfl,p4,p5,p6,p7,p8⟩:=jf hs1 hv1;have z1':=p4.bd.1;subst z1';refine .t _ _ (.knot (E.κ n) 0 f p1 p2 xa xb (by omega) (by omega) ⟨?_,.inr ⟨n,hln,dead n (hk n (by simp)),rfl⟩⟩ (fun i x t hx ht=>?_) fun i x t hx ht=>?_)
     ·show E.w.cell? _=_
      rw [cell_of_row _ _ _ _ _ _ hg];exact g0
     ·have hi:i<A.length:=by rw [L1];exact (gsZ ht).1
      exact (M1 i x _ t (p7 i x _ hx (ggZ hi)) (ggZ hi) ht).mono (sx fun m hm=>by simp [hm]) (fun _ _ _=>aB.rfl)
     ·have hi:i<B.length:=by rw [L2];exact (gsZ ht).1
      exact (M2 i x _ t (p8 i x _ hx (ggZ hi)) (ggZ hi) ht).mono (sx fun m hm=>by simp [hm]) (fun _ _ _=>aB.rfl)
 refine ⟨E.cM lv',rfl,h.size,h.base,h.glob,fun m=>?_,fun k m=>?_,fun n b hb=>?_,fun n=>rfl,fun n m hn hm he=>h.inj n m (lv n hn) (lv m hm) he,fun r g hr=>?_,h.rinj,fun b o hs=>?_,h.below,fun b o hs=>.inl (h.s0 b o hs),fun b o hs=>?_,h.obj,hcx _ _ h.cx⟩
 ·show VR _ _ (lk .top s.sl m)
  rcases iv (d:=V.top) (l:=s.sl) (n:=m) with hh|hh
  ·rw [hh];exact .top _
  ·exact lev (h.sl m) (m1 _ hh) (c1 _ hh)
 ·show VR _ _ (lk .top (lk [] s.gh k) m)
  rcases iv (d:=([]:List (Nat×V))) (l:=s.gh) (n:=k) with hh|hh
  ·rw [hh];exact .top _
  ·rcases iv (d:=V.top) (l:=lk [] s.gh k) (n:=m) with hg|hg
   ·rw [hg];exact .top _
   ·exact lev (h.gh k m) (jr (m3 _ hh) _ hg) (c3 _ hh _ hg)
 ·obtain ⟨b0,h0,hle,hin⟩:=old n b hb;obtain ⟨g1,g2,ob,g3,gob⟩:=h.bx n b0 h0;have hln:lv' n=true:=by show (s.mk'.bx n).isSome=true;rw [hb];rfl
  refine ⟨g1,fun o hs=>?_,ob,g3,?_⟩
  ·rcases hs with hs|⟨m,hm,hmd,he⟩
   ·exact g2 o hs
   ·have:=h.inj n m (lv n hln) hm he
    subst this;rw [hln] at hmd;cases hmd
  ·cases gob with
   |map arr clock ag sh es mb hm=>
    have base: ∀mb',(mb'=mb\/mb'=none)->bM (E.cM lv') (.map arr clock) (.m ag sh es mb'):=fun mb' hmb=>.map arr clock ag sh es mb' ⟨hm.size,fun i x e hx he=>⟨(hm.at_ i x e hx he).1.mono (fun b o h=>.inl h) (fun _ _ _=>aB.rfl),(hm.at_ i x e hx he).2.1.mono (fun b o h=>.inl h) (fun _ _ _=>aB.rfl),(hm.at_ i x e hx he).2.2⟩,hm.lt,hm.apart,fun p hp=>by
     rcases hmb with rfl|rfl
     ·exact hm.mb p hp
     ·cases hp⟩
    cases hle with
    |same=>exact base _ (.inl rfl)
    |m=>exact base _ (.inr rfl)
   |itd k arr c ag sh es ix hgk hS hR=>
    cases hle with
    |same=>exact bM.itd (E:=E.cM lv') k arr c ag sh es ix hgk (.inl hS) ⟨hR.size,fun i x e hx he=>⟨(hR.at_ i x e hx he).1.mono (fun b o h=>.inl h) (fun _ _ _=>aB.rfl),(hR.at_ i x e hx he).2.1.mono (fun b o h=>.inl h) (fun _ _ _=>aB.rfl),(hR.at_ i x e hx he).2.2⟩,hR.lt,hR.apart,hR.mb⟩
   |it m bs c ix hl=>
    cases hle with
    |same=>exact bM.it (E:=E.cM lv') m bs c ix (isB m hin)
   |cells cs e _ g4=>
   refine .cells cs e _ ?_;cases hle with
   |m ag sh es mb=>cases g4
   |same=>
    cases g4 with
    |d n ts hl hs hh=>exact .d n ts hl hs fun i x t hx ht=>⟨(hh i x t hx ht).1.mono (fun b o h=>.inl h) (fun _ _ _=>aB.rfl),(hh i x t hx ht).2⟩
    |v vs hs hh=>
     simp only [lY,List.all_eq_true] at hin;exact .v vs hs fun i x u hx hu=>⟨(hh i x u hx hu).1.live isB hrk (hin u (List.mem_of_getElem? hu)),(hh i x u hx hu).2⟩
   |v us vs hc=>
    obtain ⟨k1,k2⟩:=fH hc;simp only [lY,List.all_eq_true] at hin;cases g4 with
    |v _ hs hh=>
     refine .v us (by omega) fun i x u hx hu=>?_
     have hlt:i<vs.length:=by rw [<- k1];exact (gsZ hu).1
     have:=hh i x vs[i] hx (ggZ hlt)
     exact ⟨lev this.1 (k2 i u _ hu (ggZ hlt)) (hin u (List.mem_of_getElem? hu)),this.2⟩
   |dv n us ts hc=>
    obtain ⟨k1,k2⟩:=fH hc;simp only [lY,List.all_eq_true] at hin;cases g4 with
    |d _ _ hl hs hh=>
     rw [List.length_map] at k1;refine .v us (by omega) fun i x u hx hu=>?_
     have hlt:i<ts.length:=by rw [<- k1];exact (gsZ hu).1
     have:=hh i x ts[i] hx (ggZ hlt)
     exact ⟨lev (.t _ _ this.1) (k2 i u _ hu (by rw [List.getElem?_map,ggZ hlt];rfl)) (hin u (List.mem_of_getElem? hu)),this.1.one this.2⟩
 ·obtain ⟨k1,k2,k3⟩:=h.rows r g hr;exact ⟨k1,k2,fun n hn=>k3 n (lv n hn)⟩
 ·rcases hs with hs|⟨n,hn,_,rfl⟩
  ·exact h.lt b o hs
  ·exact klt n hn
 ·rcases hs with hs|⟨n,hn,_,rfl⟩
  ·exact h.s1 b o hs
  ·right;rw [h.live] at hn;obtain ⟨b',hb'⟩:=Option.isSome_iff_exists.1 hn
   have:=(h.bx n b' hb').old
   rw [h.base] at this;exact this
theorem bY{K:St->Prop}: ∀{is:List DI} {st:St},cR P (is.map DI.bare) st K↔cR P is st K
 |[],_=>Iff.rfl
 |i::_,_=>⟨fun h=>cQ (i:=i) (fun _=>bY.1) h,fun h=>cQ (i:=i.bare) (fun _=>bY.2) h⟩
theorem eQ{ck:List (List Nat)}{K:St->Prop}: ∀{is:List DI} {k:Nat} {acc:Nat->List Nat} {st:St},bL P ck acc (eG k (is.map DI.bare)) st K↔bL P ck acc (eG k is) st K
 |[],_,_,_=>Iff.rfl
 |i::_,_,_,_=>⟨fun h=>⟨h.1,cQ (i:=i) (fun _=>eQ.1) h.2⟩,fun h=>⟨h.1,cQ (i:=i.bare) (fun _=>eQ.2) h.2⟩⟩
end
section
variable {P:Program}{X:List FuncId}{N:Nat}{w0:World}{S0:aa}{a:Act}{E:Env}{st:St}
theorem lG{a:Code}{d:aV}: ∃b,cutAt X a d=cond b (.cut d) d:=by
 cases a with
 |region id ops dr=>exact ⟨X.contains (5000000+id),rfl⟩
 |_=>exact ⟨false,rfl⟩
end
section
variable [Glb]{P:Program}{X:List FuncId}{N:Nat}{w0:World}{S0:aa}{a:Act}{E:Env}{st:St}
theorem bk.mono{N:Nat}{w0:World}{S0:aa}{ds:List Deferred}{Q Q':aG->St->Prop}(hq: ∀e s,Q e s->Q' e s): ∀{e:Exit} {a':Act} {w':World},bk N w0 S0 ds Q e a' w'->bk N w0 S0 ds Q' e a' w':=by
 have key: ∀(de:aG) (a':Act) (w':World),bS N w0 S0 ds (Q de) a' w'->bS N w0 S0 ds (Q' de) a' w':=by
  rintro de a' w' ⟨E',st',rfl,hsr,hdf,hk⟩;exact ⟨E',st',rfl,hsr,hdf,hq _ _ hk⟩
 intro e a' w' h;cases e with
 |normal=>exact key .normal _ _ h
 |exit id=>exact key (.exit id) _ _ h
 |ret=>exact key .ret _ _ h
 |goto l=>exact h
 |panic ch=>exact h
 |outgrown=>exact h
theorem bk.less{ds:List Deferred}{K:aG->St->Prop}: ∀{e:Exit} {a':Act} {w':World},bk N w0 S0 ds (jC K) e a' w'->bk N w0 S0 ds K e a' w':=by
 have key: ∀(de:aG) (a':Act) (w':World),bS N w0 S0 ds (jC K de) a' w'->bS N w0 S0 ds (K de) a' w':=by
  rintro de a' w' ⟨E',st',rfl,hsr,hdf,hq|⟨s',hs',hq⟩⟩
  ·exact ⟨E',st',rfl,hsr,hdf,hq⟩
  ·obtain ⟨E'',he,hsr''⟩:=hsr.bQ hs';exact ⟨E'',s'.mk',he,hsr'',hdf,hq⟩
 intro e a' w' h;cases e with
 |normal=>exact key .normal _ _ h
 |exit id=>exact key (.exit id) _ _ h
 |ret=>exact key .ret _ _ h
 |goto l=>exact h
 |panic ch=>exact h
 |outgrown=>exact h
theorem lK{c:Code}{b:Bool}{d:aV}{a:Act}{E:Env}{st:St}{K:aG->St->Prop}(_:SR N w0 S0 E st a.tmps)(hw:wpC P (cond b (.cut d) d) st K)
  (hh: ∀K,wpC P d st K->c.wp P (bk N w0 S0 a.defers K) a E.w):c.wp P (bk N w0 S0 a.defers K) a E.w:=by
 cases b with
 |false=>exact hh K hw
 |true=>
  have hw:gm (wpC P d) st K:=hw;unfold gm at hw;obtain ⟨R,hR,jo⟩:=hw;exact wp_mono (hh R hR) fun e a' w' h=>bk.less (bk.mono jo h)
theorem mE(hm:P.follows .mixedOrders=true): ∀{c:Code} {d:aV} (_:bp P N X c=some d) {a:Act} {E:Env} {st:St} {K:aG->St->Prop} (_:SR N w0 S0 E st a.tmps) (_:wpC P d st K),
  c.wp P (bk N w0 S0 a.defers K) a E.w:=by
 intro c
 induction c with
 |skip=>
  intro d hl a E st K h hw;cases hl;exact wp_skip ⟨E,st,rfl,h,rfl,hw⟩
 |ret=>
  intro d hl a E st K h hw;cases hl;exact wp_ret ⟨E,st,rfl,h,rfl,hw⟩
 |exit id=>
  intro d hl a E st K h hw;cases hl;exact wp_exit ⟨E,st,rfl,h,rfl,hw⟩
 |region id ops draw=>
  intro d hl a E st K h hw;unfold bp at hl;cases hX:X.contains (1000000+id) with
  |true=>
   rw [hX] at hl;cases hl;exact hw w0 S0 E a h
  |false=>
  rw [hX] at hl;simp only [cond_false] at hl;split at hl
  ·rename_i is his;rw [cond_eq_ite] at hl;split at hl
   ·rename_i hc;obtain rfl:=(Option.some.inj hl).symm;refine lK h (c:=.region id ops draw) hw fun K hw=>?_
    cases draw with
    |false=>exact ox h his (fun a' w hh=>hh) (bY.1 hw)
    |true=>
     have hw:wpC P (.region (is.map DI.bare) (eF is)) st K:=hw;have hw':bL P (eF is) (fun _=>[]) (eG 0 is) st (K .normal):=by
      revert hw
      cases eF is with
      |nil=>
       intro hw;refine jz ?_
       have: ∀(l:List DI) (k:Nat),(eG k l).map (·.2)=l:=fun l=>by
        induction l with
        |nil=>exact fun _=>rfl
        |cons i l ih=>exact fun k=>congrArg (i:: ·) (ih (k+1))
       rw [this];exact bY.1 hw
      |cons p r=>exact fun hw=>eQ.1 hw
     exact ml hm h his (by simpa using hc) (fun a' w hh=>hh) hw'
   ·cases hl
  ·cases hl
 |seq x y ih1 ih2=>
  intro d hl a E st K h hw;unfold bp at hl;split at hl
  ·rename_i dx dy hx hy;obtain rfl:=(Option.some.inj hl).symm;obtain ⟨cb,hcb⟩:=lG (X:=X) (a:=x) (d:=.seq dx dy);rw [hcb] at hw;refine lK h (c:=.seq x y) hw fun K hw=>?_
   refine wp_seq (wp_mono (ih1 hx h hw) ?_);intro e a' w' hh;cases e with
   |normal=>
    obtain ⟨E',st',rfl,hsr,hdf,hk⟩:=hh;rw [<- hdf];exact ih2 hy hsr hk
   |exit id=>exact hh
   |ret=>exact hh
   |goto l=>exact hh
   |panic ch=>exact hh
   |outgrown=>exact hh
  ·cases hl
 |cond c x y ih1 ih2=>
  intro d hl a E st K h hw;unfold bp at hl;split at hl
  ·rename_i z dx dy hz hx hy;cases hl;have hv:=af h.sl hz;have hw:jK z (wpC P dx) (wpC P dy) st K:=hw;unfold jK at hw;split at hw
   ·rename_i hb;rw [hb] at hv;exact wp_cond_true hv.aO (ih1 hx h hw)
   ·rename_i hb;rw [hb] at hv;exact wp_cond_false hv.aO (ih2 hy h hw)
   ·exact hw.elim
  ·cases hl
 |block id b ih=>
  intro d hl a E st K h hw;unfold bp at hl;split at hl
  ·rename_i db hb;obtain rfl:=(Option.some.inj hl).symm;refine lK h (c:=.block id b) hw fun K hw=>?_
   refine wp_block (wp_mono (ih hb h hw) ?_);intro e a' w' hh;cases e with
   |normal=>exact hh
   |exit k=>
    have hh:bS N w0 S0 a.defers (fun st'=>bif Nat.beq k id then K .normal st' else K (.exit k) st') a' w':=hh;show if k=id then _ else _
    by_cases hk:k=id
    ·rw [if_pos hk];obtain ⟨E',st',e1,e2,e3,e4⟩:=hh;rw [hk,cz] at e4;exact ⟨E',st',e1,e2,e3,e4⟩
    ·rw [if_neg hk];obtain ⟨E',st',e1,e2,e3,e4⟩:=hh;rw [gV hk] at e4;exact ⟨E',st',e1,e2,e3,e4⟩
   |ret=>exact hh
   |goto l=>exact hh
   |panic ch=>exact hh
   |outgrown=>exact hh
  ·cases hl
 |loop b ih=>
  intro d hl a E st K h hw;unfold bp at hl;split at hl
  ·rename_i db hb;cases hl;have hw:ez (wpC P db) st K:=hw;unfold ez at hw;obtain ⟨I,n0,s0,hs0,hi0,round⟩:=hw;refine wp_loop_ghost (fun n a' w'=>a'.defers=a.defers/\ ∃(E':Env) (s:Wk),E'.w=w'/\SR N w0 S0 E' s.mk' a'.tmps/\I n s) n0 ?_ ?_
   ·obtain ⟨E',he,hsr⟩:=h.bQ hs0;exact ⟨rfl,E',s0,he,hsr,hi0⟩
   ·rintro n a1 w1 ⟨hdf,E1,s,rfl,hsr,hi⟩;obtain ⟨R,hR,jo⟩:=round n s hi;refine wp_mono (ih hb hsr hR) ?_;intro e a' w' hh;have hh:=bk.mono jo hh;rw [hdf] at hh;cases e with
    |normal=>
     obtain ⟨E',st',rfl,aT,gB,m,s',hlt,hs',hi'⟩:=hh;obtain ⟨E'',he,hsr''⟩:=aT.bQ hs';exact ⟨m,hlt,gB,E'',s',he,hsr'',hi'⟩
    |exit id=>
     obtain ⟨E',st',rfl,aT,gB,hq|⟨s',hs',hq⟩⟩:=hh
     ·exact ⟨E',st',rfl,aT,gB,hq⟩
     ·obtain ⟨E'',he,hsr''⟩:=aT.bQ hs';exact ⟨E'',s'.mk',he,hsr'',gB,hq⟩
    |ret=>exact hh
    |goto l=>exact hh
    |panic ch=>exact hh
    |outgrown=>exact hh
  ·cases hl
 |label l=>
  intro d hl a E st K h hw;cases hl;exact wp_label ⟨E,st,rfl,h,rfl,hw⟩
 |scope b ih=>
  intro d hl a E st K h hw;unfold bp at hl;refine wp_scope_straight (wp_mono (ih hl h hw) ?_);intro e a' w' hh;cases e with
  |normal=>exact hh
  |exit id=>exact hh
  |ret=>exact hh
  |goto l=>exact hh
  |panic ch=>exact hh
  |outgrown=>exact hh
 |_=>intro d hl;cases hl
end
end Go.DL
end
