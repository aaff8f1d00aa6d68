/- Joined by program: parts of a data level over the model, of the program's functions over it, and of the statement's proof. -/
import Derived.WalkKit
import Derived.Below
import Derived.Deep.LoopGhost
import Derived.ChangeKeysEq
import Derived.DeepKeys3
section
namespace Go
theorem nlZ{n m:Nat}(h:Nat.ble n m=true):n<=m:=Nat.le_of_ble_eq_true h
theorem gsZ{α:Type _}{l:List α}{i:Nat}{a:α}(h:l[i]? =some a): ∃h:i<l.length,l[i]=a:=List.getElem?_eq_some_iff.1 h
theorem ggZ{α:Type _}{l:List α}{i:Nat}(h:i<l.length):l[i]? =some l[i]:=List.getElem?_eq_getElem h
end Go
namespace Go.DL
open Go.RowKit
inductive Sh where
 |int (k:IntKind)|bool|str
 deriving DecidableEq,Inhabited
inductive T where
 |int (k:IntKind) (n:Int)
 |bool (b:Bool)
 |str (s:ByteArray)
 |agg (cs:List T)
 |slice (n:Nat) (xs:List T)
 |nil
 |nilptr
 |nilfn
 |nilif
 |nilmap
 |cptr (cs:List T) (off:Nat)
 |clos (f:FuncId) (caps:List T)
 |knot (f:FuncId) (pre post:List T)
 |tup (ts:List T)
 |mapd (ag:Bool) (sh:List Sh) (ks vs:List T)
 |glob (g off:Nat)
 |wrld (f1:FuncId) (a1 b1:List T) (f2:FuncId) (a2 b2:List T) (off:Nat)
 deriving Inhabited
def T.cells:T->List T
 |.agg cs=>cs
 |t=>[t]
def T.one:T->Bool
 |.agg _=>false
 |.tup _=>false
 |_=>true
def T.flat:T->Bool
 |.int _ _|.bool _|.str _|.nil|.nilptr|.nilfn|.nilif|.nilmap|.glob _ _=>true
 |.agg cs=>go cs
 |.tup ts=>go ts
 |.clos _ caps=>go caps
 |.slice _ xs=>xs.isEmpty
 |_=>false
where go:List T->Bool
 |[]=>true
 |t::ts=>t.flat&&go ts
def fits:List Sh->List T->Prop
 |[],[]=>True
 |.int k::s,.int k' _::ts=>k'=k/\fits s ts
 |.bool::s,.bool _::ts=>fits s ts
 |.str::s,.str _::ts=>fits s ts
 |_,_=>False
def aR(ag:Bool)(sh:List Sh):T->Prop
 |.agg ts=>ag=true/\fits sh ts
 |t=>ag=false/\fits sh [t]
abbrev ar:=Nat->Nat->Prop
structure Below (B:Nat) (w w':World):Prop extends Go.RowKit.Below B w w' where
 dr:w.drawn<=w'.drawn
theorem Below.of{B:Nat}{w w':World}(h1:w'.os=w.os)(h2:w'.tape=w.tape)(h3:w'.output=w.output)(h4:w.heap.size<=w'.heap.size)(h5: ∀k,k<B->w'.heap[k]? =w.heap[k]?)(h6:w.drawn<=w'.drawn):Below B w w':=⟨⟨h1,h2,h3,h4,h5⟩,h6⟩
theorem Below.refl(B:Nat)(w:World):Below B w w:=⟨Go.RowKit.Below.refl B w,Nat.le_refl _⟩
theorem Below.trans{B:Nat}{a b c:World}(h:Below B a b)(k:Below B b c):Below B a c:=⟨h.toBelow.trans k.toBelow,Nat.le_trans h.dr k.dr⟩
theorem Below.mono{B B':Nat}{w w':World}(h:Below B w w')(hB:B'<=B):Below B' w w':=⟨h.toBelow.mono hB,h.dr⟩
theorem Below.drew{B:Nat}{a w:World}(h:Below B a w):Below B a w.drew:=⟨h.toBelow.drew,Nat.le_trans h.dr (Nat.le_succ _)⟩
theorem Below.alloc{B:Nat}{a w:World}(h:Below B a w)(hB:B<=w.heap.size)(o:Obj):Below B a (w.alloc o):=⟨h.toBelow.alloc hB o,h.dr⟩
theorem Below.heap_alloc(w:World)(o:Obj)(k:Nat)(h:k<w.heap.size):(w.alloc o).heap[k]? =w.heap[k]? :=Go.RowKit.Below.heap_alloc w o k h
structure aB (w w':World) (b o:Nat):Prop where
 cell:w'.cell? ⟨b,o,none⟩=w.cell? ⟨b,o,none⟩
 map: ∀(arr:Array MapEntry) (c:Nat),w.heap[b]? =some (.map arr c)->w'.heap[b]? =some (.map arr c)
theorem aB.rfl{w:World}{b o:Nat}:aB w w b o:=⟨Eq.refl _,fun _ _ h=>h⟩
theorem aB.dz{w w':World}{b o:Nat}(h:w'.heap[b]? =w.heap[b]?):aB w w' b o:=
 ⟨World.cell?_of_block (w:=w) (a:=⟨b,o,none⟩) h,fun _ _ hg=>h.trans hg⟩
theorem aB.dw{w w':World}{n b o:Nat}(h:Below n w w')(hb:b<n):aB w w' b o:=.dz (h.block b hb)
inductive Rep (S:ar) (w:World):Value->T->Prop
 |int (k:IntKind) (n:Int):Rep S w (.int k n) (.int k n)
 |bool (b:Bool):Rep S w (.bool b) (.bool b)
 |str (s:ByteArray):Rep S w (.string s) (.str s)
 |nilptr:Rep S w (.pointer none) .nilptr
 |nilfn:Rep S w .nilFunc .nilfn
 |nilif:Rep S w .nilIface .nilif
 |nilmap:Rep S w (.map none) .nilmap
 |glob (g off:Nat):Rep S w (.pointer (some ⟨g,off,none⟩)) (.glob g off)
 |nil:Rep S w (.slice none 0 0) .nil
 |agg (cs:Array Value) (ts:List T) (hs:cs.size=ts.length) (h1: ∀t∈ts,t.one=true)
   (h: ∀(i:Nat) (x:Value) (t:T),cs[i]? =some x->ts[i]? =some t->Rep S w x t):Rep S w (.agg cs) (.agg ts)
 |tup (cs:Array Value) (ts:List T) (hs:cs.size=ts.length)
   (h: ∀(i:Nat) (x:Value) (t:T),cs[i]? =some x->ts[i]? =some t->Rep S w x t):Rep S w (.tuple cs) (.tup ts)
 |slice (a:Option Addr) (b o len cap n:Nat) (xs:List T) (g:Nat->Value) (hl:xs.length=len) (hc:len<=cap) (hu: ∀x∈xs,x.cells.length=n)
   (h1: ∀t∈xs.flatMap T.cells,t.one=true)
   (ha:0<(xs.flatMap T.cells).length->a=some ⟨b,o,none⟩)
   (hg: ∀(i:Nat),i<(xs.flatMap T.cells).length->w.cell? ⟨b,o+i,none⟩=some (g i)/\S b (o+i))
   (h: ∀(i:Nat) (t:T),(xs.flatMap T.cells)[i]? =some t->Rep S w (g i) t):Rep S w (.slice a len cap) (.slice n xs)
 |cptr (b o off:Nat) (cs:List T) (g:Nat->Value) (h1: ∀t∈cs,t.one=true)
   (hg: ∀(i:Nat),i<cs.length->w.cell? ⟨b,o+i,none⟩=some (g i)/\S b (o+i))
   (h: ∀(i:Nat) (t:T),cs[i]? =some t->Rep S w (g i) t):Rep S w (.pointer (some ⟨b,o+off,none⟩)) (.cptr cs off)
 |clos (f:FuncId) (cs:Array Value) (ts:List T) (hs:cs.size=ts.length)
   (h: ∀(i:Nat) (x:Value) (t:T),cs[i]? =some x->ts[i]? =some t->Rep S w x t):Rep S w (.func (.func f) #[] cs) (.clos f ts)
 |knot (b o:Nat) (f:FuncId) (c1 c2:Array Value) (t1 t2:List T) (hs1:c1.size=t1.length) (hs2:c2.size=t2.length)
   (hg:w.cell? ⟨b,o,none⟩=some (.func (.func f) #[] (c1++ #[.pointer (some ⟨b,o,none⟩)]++c2))/\S b o)
   (h1: ∀(i:Nat) (x:Value) (t:T),c1[i]? =some x->t1[i]? =some t->Rep S w x t)
   (h2: ∀(i:Nat) (x:Value) (t:T),c2[i]? =some x->t2[i]? =some t->Rep S w x t):Rep S w (.pointer (some ⟨b,o,none⟩)) (.knot f t1 t2)
 |mapd (g:Nat) (arr:Array MapEntry) (clock:Nat) (ag:Bool) (sh:List Sh) (ks vs:List T) (hk:arr.size=ks.length) (hv:vs.length=ks.length) (hg:w.heap[g]? =some (.map arr clock)/\S g 0)
   (r1: ∀(i:Nat) (x:MapEntry) (t:T),arr[i]? =some x->ks[i]? =some t->Rep S w x.key t)
   (r2: ∀(i:Nat) (x:MapEntry) (t:T),arr[i]? =some x->vs[i]? =some t->Rep S w x.val t)
   (ok: ∀k∈ks,aR ag sh k) (lt: ∀x∈arr.toList,x.born<clock) (apart:(arr.toList.map (·.born)).Nodup):Rep S w (.map (some g)) (.mapd ag sh ks vs)
 |wrld (b o b' o' off:Nat) (f1 f2:FuncId) (c1 d1 c2 d2:Array Value) (a1 b1 a2 b2:List T) (hc1:c1.size=a1.length) (hd1:d1.size=b1.length) (hc2:c2.size=a2.length) (hd2:d2.size=b2.length)
   (hw:w.cell? ⟨b',o',none⟩=some (.pointer (some ⟨b,o,none⟩))/\S b' o')
   (h1:w.cell? ⟨b,o,none⟩=some (.func (.func f1) #[] (c1++ #[.pointer (some ⟨b',o',none⟩)]++d1))/\S b o)
   (h2:w.cell? ⟨b,o+1,none⟩=some (.func (.func f2) #[] (c2++ #[.pointer (some ⟨b',o',none⟩)]++d2))/\S b (o+1))
   (r1: ∀(i:Nat) (x:Value) (t:T),c1[i]? =some x->a1[i]? =some t->Rep S w x t)
   (r2: ∀(i:Nat) (x:Value) (t:T),d1[i]? =some x->b1[i]? =some t->Rep S w x t)
   (r3: ∀(i:Nat) (x:Value) (t:T),c2[i]? =some x->a2[i]? =some t->Rep S w x t)
   (r4: ∀(i:Nat) (x:Value) (t:T),d2[i]? =some x->b2[i]? =some t->Rep S w x t):Rep S w (.pointer (some ⟨b,o+off,none⟩)) (.wrld f1 a1 b1 f2 a2 b2 off)
theorem Rep.mono{S S':ar}{w w':World}(hS: ∀b o,S b o->S' b o)(hw: ∀b o,S b o->aB w w' b o)
  {v:Value} {t:T} (h:Rep S w v t):Rep S' w' v t:=by
 induction h with
 |int k n=>exact .int k n
 |bool b=>exact .bool b
 |str s=>exact .str s
 |nilptr=>exact .nilptr
 |nilfn=>exact .nilfn
 |nilif=>exact .nilif
 |nilmap=>exact .nilmap
 |glob g off=>exact .glob g off
 |nil=>exact .nil
 |agg cs ts hs h1 _ ih=>exact .agg cs ts hs h1 ih
 |tup cs ts hs _ ih=>exact .tup cs ts hs ih
 |slice a b o len cap n xs g hl hc hu h1 ha hg _ ih=>
  exact .slice a b o len cap n xs g hl hc hu h1 ha (fun i hi=>⟨(hw _ _ (hg i hi).2).cell.trans (hg i hi).1,hS _ _ (hg i hi).2⟩) ih
 |cptr b o off cs g h1 hg _ ih=>exact .cptr b o off cs g h1 (fun i hi=>⟨(hw _ _ (hg i hi).2).cell.trans (hg i hi).1,hS _ _ (hg i hi).2⟩) ih
 |clos f cs ts hs _ ih=>exact .clos f cs ts hs ih
 |knot b o f c1 c2 t1 t2 hs1 hs2 hg _ _ ih1 ih2=>exact .knot b o f c1 c2 t1 t2 hs1 hs2 ⟨(hw _ _ hg.2).cell.trans hg.1,hS _ _ hg.2⟩ ih1 ih2
 |mapd g arr clock ag sh ks vs hk hv hg _ _ ok lt apart i1 i2=>exact .mapd g arr clock ag sh ks vs hk hv ⟨(hw _ _ hg.2).map _ _ hg.1,hS _ _ hg.2⟩ i1 i2 ok lt apart
 |wrld b o b' o' off f1 f2 c1 d1 c2 d2 a1 b1 a2 b2 hc1 hd1 hc2 hd2 hw' h1 h2 _ _ _ _ i1 i2 i3 i4=>
  exact .wrld b o b' o' off f1 f2 c1 d1 c2 d2 a1 b1 a2 b2 hc1 hd1 hc2 hd2 ⟨(hw _ _ hw'.2).cell.trans hw'.1,hS _ _ hw'.2⟩ ⟨(hw _ _ h1.2).cell.trans h1.1,hS _ _ h1.2⟩ ⟨(hw _ _ h2.2).cell.trans h2.1,hS _ _ h2.2⟩ i1 i2 i3 i4
theorem Rep.one{S:ar}{w:World}{v:Value}{t:T}(h:Rep S w v t)(h1:t.one=true):v.oneCell'=true:=by
 cases h <;> first|rfl|simp [T.one] at h1
theorem Rep.cells_one{S:ar}{w:World}{v:Value}{t:T}(h:Rep S w v t)(h1:t.one=true):v.cells= #[v]:=by
 cases h <;> first|rfl|simp [T.one] at h1
theorem T.cells_one{t:T}(h:t.one=true):t.cells=[t]:=by cases t <;> first|rfl|simp [T.one] at h
theorem Rep.cells{S:ar}{w:World}{v:Value}{t:T}(h:Rep S w v t)(ht: ∀ts,t≠ .tup ts):
  v.cells.size=t.cells.length/\ ∀(i:Nat) (x:Value) (u:T),v.cells[i]? =some x->t.cells[i]? =some u->Rep S w x u/\u.one=true:=by
 by_cases h1:t.one=true
 ·rw [h.cells_one h1,T.cells_one h1];refine ⟨rfl,fun i x u hx hu=>?_⟩;cases i with
  |zero=>simp at hx hu;subst hx;subst hu;exact ⟨h,h1⟩
  |succ i=>simp at hx
 ·cases h with
  |agg cs ts hs fF h=>exact ⟨hs,fun i x u hx hu=>⟨h i x u hx hu,fF u (List.mem_of_getElem? hu)⟩⟩
  |tup cs ts hs h=>exact absurd rfl (ht ts)
  |_=>simp [T.one] at h1
mutual
theorem Rep.of_flat{S S':ar}{w w':World}: ∀{t:T} {v:Value},Rep S w v t->t.flat=true->Rep S' w' v t
 |.int _ _,_,h,_=>by cases h;exact .int _ _
 |.bool _,_,h,_=>by cases h;exact .bool _
 |.str _,_,h,_=>by cases h;exact .str _
 |.nil,_,h,_=>by cases h;exact .nil
 |.nilptr,_,h,_=>by cases h;exact .nilptr
 |.nilfn,_,h,_=>by cases h;exact .nilfn
 |.nilif,_,h,_=>by cases h;exact .nilif
 |.nilmap,_,h,_=>by cases h;exact .nilmap
 |.glob _ _,_,h,_=>by cases h;exact .glob _ _
 |.agg ts,_,h,hf=>by
  cases h with
  |agg cs _ hs h1 h=>exact .agg cs ts hs h1 (fun i x t hx ht=>Rep.gN hf h i x t hx ht)
 |.tup ts,_,h,hf=>by
  cases h with
  |tup cs _ hs h=>exact .tup cs ts hs (fun i x t hx ht=>Rep.gN hf h i x t hx ht)
 |.clos f ts,_,h,hf=>by
  cases h with
  |clos _ cs _ hs h=>exact .clos f cs ts hs (fun i x t hx ht=>Rep.gN hf h i x t hx ht)
 |.slice n xs,_,h,hf=>by
  cases h with
  |slice a b o len cap _ _ g hl hc hu h1 ha hg h=>
   have hx:xs=[]:=by simpa [T.flat] using hf
   subst hx;exact .slice a b o len cap n [] g hl hc hu h1 ha (fun i hi=>absurd hi (by simp)) (fun i t ht=>by simp at ht)
 |.cptr _ _,_,_,hf=>by simp [T.flat] at hf
 |.knot _ _ _,_,_,hf=>by simp [T.flat] at hf
 |.wrld _ _ _ _ _ _ _,_,_,hf=>by simp [T.flat] at hf
 |.mapd _ _ _ _,_,_,hf=>by simp [T.flat] at hf
theorem Rep.gN{S S':ar}{w w':World}{cs:Array Value}: ∀{ts:List T},T.flat.go ts=true->
  (∀ (i:Nat) (x:Value) (t:T),cs[i]? =some x->ts[i]? =some t->Rep S w x t)-> ∀(i:Nat) (x:Value) (t:T),cs[i]? =some x->ts[i]? =some t->Rep S' w' x t
 |[],_,_,i,x,t,_,ht=>by simp at ht
 |t0::ts,hf,h,i,x,t,hx,ht=>by
  simp only [T.flat.go,Bool.and_eq_true] at hf;cases i with
  |zero=>simp at ht;subst ht;exact Rep.of_flat (h 0 x t0 hx rfl) hf.1
  |succ i=>
   refine Rep.gN (cs:=cs.extract 1 cs.size) (ts:=ts) hf.2 (fun j y u hy hu=>h (j+1) y u ?_ (by simpa using hu)) i x t ?_ (by simpa using ht)
   ·rw [Array.getElem?_extract] at hy;split at hy
    ·rwa [Nat.add_comm] at hy
    ·cases hy
   ·have hlt:i+1<cs.size:=(Array.getElem?_eq_some_iff.1 hx).1;rw [Array.getElem?_extract,if_pos (by omega),Nat.add_comm];exact hx
end
inductive V where
 |top
 |t (x:T)
 |ptr (n off:Nat)
 |view (n off len size:Nat)
 |own (r:Nat) (e:TypeId) (size:Nat) (xs:List T)
 |full (size:Nat) (xs:List T)
 |fn (f:FuncId) (caps:List V)
 |tup (vs:List V)
 |agv (vs:List V)
 |raw (v:Value)
 |mp (n:Nat)
 deriving Inhabited
structure Env where
 S:ar
 w:World
 B:Nat
 κ:Nat->Nat
 ρ:Nat->Option Nat
 live:Nat->Bool
structure bN (E:Env) (v:Value) (r:Nat) (e:TypeId) (size:Nat) (xs:List T):Prop where
 ex: ∃cells:List Value,E.w.ownsRow E.B e size v xs.length cells/\cells.length=(xs.flatMap T.cells).length/\
  (∀ (i:Nat) (x:Value) (t:T),cells[i]? =some x->(xs.flatMap T.cells)[i]? =some t->Rep E.S E.w x t)
 uni: ∀x∈xs,x.cells.length=size
 one: ∀t∈xs.flatMap T.cells,t.one=true
 row: ∀g,v.ownBlock=some g->E.ρ r=some g/\ ∀o,E.S g o↔o<(xs.flatMap T.cells).length
inductive VR (E:Env):Value->V->Prop
 |top (v:Value):VR E v .top
 |t (v:Value) (x:T) (h:Rep E.S E.w v x):VR E v (.t x)
 |ptr (n off:Nat) (hl:E.live n=true):VR E (.pointer (some ⟨E.κ n,off,none⟩)) (.ptr n off)
 |view (n off len size cap:Nat) (hl:E.live n=true) (hc:len<=cap):VR E (.slice (some ⟨E.κ n,off,none⟩) len cap) (.view n off len size)
 |own (v:Value) (r:Nat) (e:TypeId) (size:Nat) (xs:List T) (h:bN E v r e size xs):VR E v (.own r e size xs)
 |full (a:Option Addr) (len size:Nat) (xs:List T) (h:Rep E.S E.w (.slice a len len) (.slice size xs)):VR E (.slice a len len) (.full size xs)
 |fn (f:FuncId) (cs:Array Value) (vs:List V) (hs:cs.size=vs.length)
   (h: ∀(i:Nat) (x:Value) (u:V),cs[i]? =some x->vs[i]? =some u->VR E x u):VR E (.func (.func f) #[] cs) (.fn f vs)
 |tup (cs:Array Value) (vs:List V) (hs:cs.size=vs.length)
   (h: ∀(i:Nat) (x:Value) (u:V),cs[i]? =some x->vs[i]? =some u->VR E x u):VR E (.tuple cs) (.tup vs)
 |agv (cs:Array Value) (vs:List V) (hs:cs.size=vs.length) (h1: ∀(i:Nat) (x:Value),cs[i]? =some x->x.oneCell'=true)
   (h: ∀(i:Nat) (x:Value) (u:V),cs[i]? =some x->vs[i]? =some u->VR E x u):VR E (.agg cs) (.agv vs)
 |raw (v:Value) (h1:v.oneCell'=true):VR E v (.raw v)
 |mp (n:Nat) (hl:E.live n=true):VR E (.map (some (E.κ n))) (.mp n)
end Go.DL
end
section
namespace Go.DL
open Go.RowKit
inductive O where
 |tmp (n:Nat)
 |const (t:T)
 deriving Inhabited
inductive Prim where
 |strB|bytS|strS
 deriving DecidableEq,Inhabited
inductive DOp where
 |mov (x:O)
 |prim (p:Prim) (x:O)
 |arrP (n:Nat) (x:O)
 |copy (x y:O)
 |slice3 (size:Nat) (x hi mx:O)
 |buildF (size n:Nat) (zs:List T) (parts:List (Nat×O))
 |appT (size bytes:Nat) (s x:O)
 |appV (size bytes:Nat) (s x:O)
 |isnil (k:Nat) (neg:Bool) (x:O)
 |cpl (x:O)
 |mkslice (size bytes:Nat) (zs:List T) (l c:O)
 |pick (c a b:O)
 |alloc (zs:List T)
 |box (n:Nat) (x:O)
 |load (n:Nat) (agg:Bool) (a:O)
 |store (n:Nat) (a x:O)
 |offA (k:Nat) (a:O)
 |nar (n:Nat) (a:O)
 |idxA (len:Nat) (size:Nat) (a i:O)
 |idxL (size:Nat) (a i:O)
 |fld (off size:Nat) (agg:Bool) (x:O)
 |idxV (len size:Nat) (agg:Bool) (x i:O)
 |idxS (x i:O)
 |bin (op:BinOp) (x y:O)
 |eqv (neg:Bool) (sh:List Sh) (x y:O)
 |eqB (neg:Bool) (x y:O)
 |not (x:O)
 |neg (x:O)
 |conv (k:IntKind) (x:O)
 |len (x:O)
 |lenS (x:O)
 |maxI (x y:O)
 |minI (x y:O)
 |append (t e:TypeId) (size bytes:Nat) (s x:O)
 |slice (size:Nat) (x:O) (lo hi:Option O)
 |sliceS (x:O) (lo hi:Option O)
 |sliceA (len size:Nat) (x:O) (lo hi:Option O)
 |build (zs:List T) (parts:List (Nat×Nat×O))
 |buildS (e:TypeId) (size n:Nat) (zs:List T) (parts:List (Nat×O))
 |buildT (size n:Nat) (zs:List T) (parts:List (Nat×O))
 |mkfn (f:FuncId) (caps:List O)
 |call (f:FuncId) (args:List O)
 |inl (f:FuncId) (args:List O)
 |fcall (f:FuncId) (args:List O)
 |mcall (ms:List Nat) (f:FuncId) (args:List O)
 |bV (x:O) (args:List O)
 |ext (x:O) (i:Nat)
 |clr (size:Nat) (zs:List T) (x:O)
 |nilck (x:O)
 |mkmap (ag:Bool) (sh:List Sh)
 |mlook (ag:Bool) (sh:List Sh) (z:T) (ok:Bool) (m k:O)
 |bA (ag:Bool) (sh:List Sh) (m k v:O)
 |mlen (m:O)
 |cH (ag:Bool) (sh:List Sh) (m k:O)
 |mclr (m:O)
 |mrng (m:O)
 |mnext (x:O)
 |ment (x:O)
 |bad
 deriving Inhabited
structure DI where
 dst:Option Nat
 op:DOp
 guard:Option (Nat×Bool)
 after:List Nat
 deriving Inhabited
inductive BX where
 |d (n:Nat) (ts:List T)
 |v (vs:List V)
 |m (ag:Bool) (sh:List Sh) (es:List (T×T)) (mb:Option (List Nat×Nat))
 |it (m:Nat) (bs:List Nat) (c:Nat) (ix:List Nat)
 |itd (es:List (T×T)) (ix:List Nat)
 deriving Inhabited
def cp:Obj->Bool
 |.cells .. =>false
 |.map .. =>false
 |.mapIter .. =>false
 |_=>true
structure aa where
 S:ar
 vals:Nat->Nat->Value:=fun _ _=>undef
 objs:Nat->Option Obj:=fun _=>none
structure St where
 sl:Nat->V
 bx:Nat->Option BX
 gh:Nat->Nat->V:=fun _ _=>.top
 off:Nat:=0
 cx:aa->World->Prop:=fun _ _=>True
def St.nm(st:St)(d:Option Nat):Option Nat:=
 match d with
 |some n=>some (n+st.off)
 |none=>none
def upd{α:Type}(f:Nat->α)(n:Nat)(v:α):Nat->α:=fun m=>cond (Nat.beq m n) v (f m)
theorem cz(n:Nat):Nat.beq n n=true:=Nat.beq_refl n
theorem gV{n m:Nat}(h:m≠n):Nat.beq m n=false:=by
 cases hb:Nat.beq m n with
 |false=>rfl
 |true=>exact absurd (Nat.eq_of_beq_eq_true hb) h
theorem aj{α:Type}(f:Nat->α)(n:Nat)(v:α):upd f n v n=v:=by simp [upd]
theorem ae{α:Type}(f:Nat->α)(n m:Nat)(v:α)(h:m≠n):upd f n v m=f m:=by simp [upd,gV h]
def St.set(st:St)(d:Option Nat)(v:V):St:=
 match d with
 |some n=>{st with sl:=upd st.sl n v }
 |none=>st
def ev(sl:Nat->V):O->V
 |.tmp n=>sl n
 |.const t=>.t t
class Glb where
 gs:Nat->Option (List T)
def bo[Glb](S:ar)(w:World):Prop:= ∀g cs,Glb.gs g=some cs->g<w.heap.size/\ ∃v:Nat->Value, ∀i t,cs[i]? =some t->
 w.cell? ⟨g,i,none⟩=some (v i)/\S g i/\t.one=true/\t.flat=true/\Rep (fun _ _=>False) w (v i) t
structure Eff where
 val:V
 wr:Option (Nat×BX):=none
 rd:List Nat:=[]
inductive cm where
 |no
 |yes (e:Eff)
 |need (c:Prop) (e:Eff)
 |alt (c:Prop) (b:Bool) (f:Bool->Eff)
 |eq (c:Prop) (t:T) (f:T->Eff)
def val(v:V):cm:=.yes {val:=v }
def aK(t:T):cm:=.yes {val:=.t t }
def aU(rd:List Nat)(t:T):Eff:={val:=.t t,rd:=rd }
def asT:V->Option T
 |.t x=>some x
 |.own _ _ n xs=>some (.slice n xs)
 |.full n xs=>some (.slice n xs)
 |_=>none
def eE:List V->Option (List T)
 |[]=>some []
 |v::vs=>match asT v,eE vs with
  |some x,some xs=>some (x::xs)
  |_,_=>none
def ny(n:Nat):V->Option (Prop×BX)
 |.t (.tup _)=>none
 |.t (.agg cs)=>some (cs.length=n,.d n cs)
 |.t x=>cond (Nat.beq n 1) (some (True,.d 1 [x])) none
 |.top=>none
 |.tup _=>none
 |.agv vs=>some (vs.length=n,.v vs)
 |v=>cond (Nat.beq n 1) (some (True,.v [v])) none
def ll(rd:List Nat)(m:Nat)(cs:List T)(off n:Nat)(agg:Bool):cm:=
 match agg with
 |true=>cond (Nat.beq off 0&&Nat.beq m n) (.yes (aU rd (.agg cs))) (.eq (off+n<=m) (.agg ((cs.drop off).take n)) (aU rd))
 |false=>.eq (off<m) (cs[off]?.getD .nil) (aU rd)
def eM(b:Nat)(bx:BX)(off n:Nat)(agg:Bool):cm:=
 match bx with
 |.d m ts=>ll [b] m ts off n agg
 |.v vs=>match agg with
  |false=>match vs[off]? with
   |some v=>.yes {val:=v,rd:=[b]}
   |none=>.no
  |true=>match eE ((vs.drop off).take n) with
   |some ts=>cond (Nat.beq ts.length n) (.yes (aU [b] (.agg ts))) .no
   |none=>.no
 |.m _ _ _ _=>.no
 |.it _ _ _ _=>.no
 |.itd _ _=>.no
def aP{α:Type}(cs:List α)(off n:Nat)(vs:List α):List α:=cs.take off++(vs++cs.drop (off+n))
def gg(b:Nat)(bx:BX)(off n:Nat)(x:V):cm:=
 match bx,x with
 |.m _ _ _ _,_=>.no
 |.it _ _ _ _,_=>.no
 |.itd _ _,_=>.no
 |.d _ _,.t (.tup _)=>.no
 |.d m ts,.t (.agg cs)=>.need (cs.length=n/\off+n<=m) {val:=.top,wr:=some (b,.d m (aP ts off n cs)),rd:=[b]}
 |.d m ts,.t t=>cond (Nat.beq n 1) (.need (off<m) {val:=.top,wr:=some (b,.d m (ts.set off t)),rd:=[b]}) .no
 |.v vs,.t (.agg cs)=>.need (cs.length=n/\off+n<=vs.length) {val:=.top,wr:=some (b,.v (aP vs off n (cs.map .t))),rd:=[b]}
 |.v _,.t (.tup _)=>.no
 |.v _,.tup _=>.no
 |.d _ _,.top=>.no
 |.d _ _,.tup _=>.no
 |.v _,.top=>.no
 |.d _ _,.agv _=>.no
 |.v _,.agv _=>.no
 |.d m ts,v=>cond (Nat.beq n 1) (.need (off<m) {val:=.top,wr:=some (b,.v ((ts.map .t).set off v)),rd:=[b]}) .no
 |.v vs,v=>cond (Nat.beq n 1) (.need (off<vs.length) {val:=.top,wr:=some (b,.v (vs.set off v)),rd:=[b]}) .no
def iF(op:BinOp)(k:IntKind)(x y:Int):Int:=
 let a:=BitVec.ofInt k.bits x
 let b:=BitVec.ofInt k.bits y
 match op with
 |.and=>k.wrap (a &&& b).toNat
 |.or=>k.wrap (a ||| b).toNat
 |.xor=>k.wrap (a ^^^ b).toNat
 |_=>k.wrap (a &&& ~~~b).toNat
def dF(b:Bool):Eff:={val:=.t (.bool b)}
def nv(op:BinOp)(k k':IntKind)(a b:Int):cm:=
 match op with
 |.shl=>.need (0<=b) {val:=.t (.int k (k.wrap (a * 2^(min b.toNat k.bits))))}
 |.shr=>.need (0<=b) {val:=.t (.int k (a.fdiv (2^(min b.toNat k.bits))))}
 |op=>if k≠k' then .no else match op with
  |.add=>aK (.int k (k.wrap (a+b)))
  |.sub=>aK (.int k (k.wrap (a - b)))
  |.mul=>aK (.int k (k.wrap (a * b)))
  |.quo=>.need (b≠0) {val:=.t (.int k (k.wrap (a.tdiv b)))}
  |.rem=>.need (b≠0) {val:=.t (.int k (a.tmod b))}
  |.and=>aK (.int k (iF .and k a b))
  |.or=>aK (.int k (iF .or k a b))
  |.xor=>aK (.int k (iF .xor k a b))
  |.andNot=>aK (.int k (iF .andNot k a b))
  |.eql=>.alt True (a==b) dF
  |.neq=>.alt True (a !=b) dF
  |.lss=>.alt True (decide (a<b)) dF
  |.leq=>.alt True (decide (a<=b)) dF
  |.gtr=>.alt True (decide (a>b)) dF
  |.geq=>.alt True (decide (a>=b)) dF
  |_=>.no
def nw(op:BinOp)(x y:ByteArray):cm:=
 match op with
 |.add=>.need (((x.size+y.size:Nat):Int)<=IntKind.i64.max) {val:=.t (.str (x++y))}
 |.eql=>.alt True (x.toList==y.toList) dF
 |.neq=>.alt True (!(x.toList==y.toList)) dF
 |.lss=>.alt True (Op.bytesLess x.toList y.toList) dF
 |.leq=>.alt True (Op.bytesLess x.toList y.toList||x.toList==y.toList) dF
 |.gtr=>.alt True (!(Op.bytesLess x.toList y.toList||x.toList==y.toList)) dF
 |.geq=>.alt True (!(Op.bytesLess x.toList y.toList)) dF
 |_=>.no
def eqL:List T->List T->Bool
 |[],[]=>true
 |.int _ a::xs,.int _ b::ys=>a==b&&eqL xs ys
 |.bool a::xs,.bool b::ys=>a==b&&eqL xs ys
 |.str a::xs,.str b::ys=>a==b&&eqL xs ys
 |_,_=>false
def Sh.same:Sh->Sh->Bool
 |.int k,.int k'=>k==k'
 |.bool,.bool=>true
 |.str,.str=>true
 |_,_=>false
def ka:List Sh->List Sh->Bool
 |[],[]=>true
 |a::az,b::bs=>a.same b&&ka az bs
 |_,_=>false
def cn(ag:Bool)(sh:List Sh)(ag':Bool)(sh':List Sh):Bool:=(ag==ag')&&ka sh sh'
def ep(k:List T):List (T×T)->Option T
 |[]=>none
 |e::es=>cond (eqL k e.1.cells) (some e.2) (ep k es)
def bA(k v:T):List (T×T)->List (T×T)
 |[]=>[(k,v)]
 |e::es=>cond (eqL k.cells e.1.cells) ((k,v)::es) (e::bA k v es)
def cH(k:List T):List (T×T)->List (T×T)
 |[]=>[]
 |e::es=>cond (eqL k e.1.cells) es (e::cH k es)
def nM(z:T)(ok:Bool):Option T->T
 |some v=>cond ok (.tup [v,.bool true]) v
 |none=>cond ok (.tup [z,.bool false]) z
def km(es:List (T×T))(ix:List Nat):T:=
 match es[ix.getLast?.getD 0]? with
 |some e=>.tup [e.1,e.2]
 |none=>.nil
def elemOf(size:Nat)(cs:List T):T:=cond (Nat.beq size 1) (cs.headD .nil) (.agg cs)
def chunk(size:Nat):Nat->List T->List T
 |0,_=>[]
 |n+1,cs=>elemOf size (cs.take size)::chunk size n (cs.drop size)
def aX(bx:Nat->Option BX):V->Option (T×List Nat)
 |.t x=>some (x,[])
 |.own _ _ n xs=>some (.slice n xs,[])
 |.full n xs=>some (.slice n xs,[])
 |.ptr n off=>match bx n with
  |some (.d _ ts)=>some (.cptr ts off,[n])
  |some (.v vs)=>match eE vs with
   |some ts=>some (.cptr ts off,[n])
   |none=>none
  |some (.m _ _ _ _)=>none
  |some (.it _ _ _ _)=>none
  |some (.itd _ _)=>none
  |none=>none
 |.view n off len size=>match bx n with
  |some (.d m ts)=>cond (Nat.blt 0 size&&Nat.ble (off+len * size) m) (some (.slice size (chunk size len (ts.drop off)),[n])) none
  |_=>none
 |.mp n=>match bx n with
  |some (.m ag sh es _)=>some (.mapd ag sh (es.map (·.1)) (es.map (·.2)),[n])
  |_=>none
 |_=>none
def cK(bx:Nat->Option BX):List V->Option (List T×List Nat)
 |[]=>some ([],[])
 |v::vs=>match aX bx v,cK bx vs with
  |some (x,r),some (xs,rs)=>some (x::xs,r++rs)
  |_,_=>none
def conv(bx:Nat->Option BX):V->Option (T×List Nat)
 |.fn f caps=>match cK bx caps with
  |some (ts,r)=>some (.clos f ts,r)
  |none=>none
 |v=>aX bx v
def bm(bx:Nat->Option BX):List V->Option (List T×List Nat)
 |[]=>some ([],[])
 |v::vs=>match conv bx v,bm bx vs with
  |some (x,r),some (xs,rs)=>some (x::xs,r++rs)
  |_,_=>none
def bU(s:ByteArray):List T:=s.data.toList.map fun b=>.int .u8 (b.toNat:Int)
def sL:T->UInt8
 |.int _ n=>UInt8.ofNat n.toNat
 |_=>0
def nQ(xs:List T):ByteArray:=⟨(xs.map sL).toArray⟩
def jE:List T->Prop
 |[]=>True
 |.int .u8 _::xs=>jE xs
 |_=>False
def cP(bx:Nat->Option BX):V->Option T
 |.t (.str s)=>some (.slice 1 (bU s))
 |.view n off len size=>match aX bx (.view n off len size) with
  |some (t,_)=>some t
  |none=>none
 |v=>asT v
def lp:Prim->T->Option (Prop×T)
 |.strB,.slice _ xs=>some (jE xs,.str (nQ xs))
 |.strB,.nil=>some (True,.str ByteArray.empty)
 |.bytS,.str s=>some (True,.slice 1 (bU s))
 |.strS,.str s=>some (True,.str s)
 |_,_=>none
def eo(lo:Option V):Option Int:=
 match lo with
 |none=>some 0
 |some (.t (.int _ n))=>some n
 |_=>none
def df(hi:Option V)(len:Nat):Option Int:=
 match hi with
 |none=>some len
 |some (.t (.int _ n))=>some n
 |_=>none
def cU(sl:Nat->V)(zs:List T)(c:Prop):List (Nat×Nat×O)->Option (List T×Prop)
 |[]=>some (zs,c)
 |(off,size,x)::rest=>match asT (ev sl x) with
  |some (.tup _)=>none
  |some (.agg cs)=>cU sl (aP zs off size cs) (c/\cs.length=size) rest
  |some t=>cond (Nat.beq size 1) (cU sl (aP zs off 1 [t]) c rest) none
  |none=>none
def cV(sl:Nat->V)(zs:List V)(c:Prop):List (Nat×Nat×O)->Option (List V×Prop)
 |[]=>some (zs,c)
 |(off,size,x)::rest=>match ev sl x with
  |.t (.tup _)=>none
  |.t (.agg cs)=>cV sl (aP zs off size (cs.map .t)) (c/\cs.length=size) rest
  |.top=>none
  |.tup _=>none
  |.agv _=>none
  |v=>cond (Nat.beq size 1) (cV sl (aP zs off 1 [v]) c rest) none
def aY(sl:Nat->V)(size:Nat)(es:List T)(c:Prop):List (Nat×O)->Option (List T×Prop)
 |[]=>some (es,c)
 |(i,x)::rest=>match asT (ev sl x) with
  |some (.tup _)=>none
  |some (.agg cs)=>aY sl size (es.set i (.agg cs)) (c/\cs.length=size) rest
  |some t=>cond (Nat.beq size 1) (aY sl size (es.set i t) c rest) none
  |none=>none
def eff[Glb](o:DOp)(d:Option Nat)(sl:Nat->V)(bx:Nat->Option BX):cm:=
 match o with
 |.mov x=>val (ev sl x)
 |.pick c a b=>match ev sl c with
  |.t (.bool true)=>val (ev sl a)
  |.t (.bool false)=>val (ev sl b)
  |_=>.no
 |.alloc zs=>match d with
  |some n=>match bx n with
   |none=>.yes {val:=.ptr n 0,wr:=some (n,.d zs.length zs),rd:=[n]}
   |some _=>.no
  |none=>.no
 |.box m x=>match d with
  |some n=>match bx n,ny m (ev sl x) with
   |none,some (c,b)=>.need c {val:=.ptr n 0,wr:=some (n,b),rd:=[n]}
   |_,_=>.no
  |none=>.no
 |.load n agg a=>match ev sl a with
  |.ptr b off=>match bx b with
   |some cs=>eM b cs off n agg
   |none=>.no
  |.t (.cptr cs off)=>match agg with
   |true=>cond (Nat.beq off 0) (.eq (cs.length=n) (.agg cs) (aU [])) (.eq (off+n<=cs.length) (.agg ((cs.drop off).take n)) (aU []))
   |false=>.eq (off<cs.length) (cs[off]?.getD .nil) (aU [])
  |.t (.glob g off)=>match Glb.gs g with
   |some cs=>(match agg with
    |true=>cond (Nat.beq off 0) (.eq (cs.length=n) (.agg cs) (aU [])) (.eq (off+n<=cs.length) (.agg ((cs.drop off).take n)) (aU []))
    |false=>.eq (off<cs.length) (cs[off]?.getD .nil) (aU []))
   |none=>.no
  |.t (.knot f pre post)=>match agg with
   |false=>aK (.clos f (pre++[.knot f pre post]++post))
   |true=>.no
  |.t (.wrld f1 a1 b1 f2 a2 b2 off)=>match agg,off with
   |false,0=>aK (.clos f1 (a1++[.cptr [.wrld f1 a1 b1 f2 a2 b2 0] 0]++b1))
   |false,1=>aK (.clos f2 (a2++[.cptr [.wrld f1 a1 b1 f2 a2 b2 0] 0]++b2))
   |_,_=>.no
  |_=>.no
 |.store n a x=>match ev sl a with
  |.ptr b off=>match bx b with
   |some cs=>gg b cs off n (ev sl x)
   |none=>.no
  |_=>.no
 |.nar n a=>match ev sl a with
  |.t (.cptr cs 0)=>.need (n<=cs.length) {val:=.t (.cptr (cs.take n) 0)}
  |_=>.no
 |.offA k a=>match ev sl a with
  |.ptr b off=>val (.ptr b (off+k))
  |.t (.cptr cs off)=>aK (.cptr cs (off+k))
  |.t (.glob g off)=>aK (.glob g (off+k))
  |.t (.wrld f1 a1 b1 f2 a2 b2 off)=>aK (.wrld f1 a1 b1 f2 a2 b2 (off+k))
  |_=>.no
 |.idxA len size a i=>match ev sl a,ev sl i with
  |.ptr b off,.t (.int _ n)=>.need (0<=n/\n<len) {val:=.ptr b (off+n.toNat * size)}
  |.t (.cptr cs off),.t (.int _ n)=>.need (0<=n/\n<len) {val:=.t (.cptr cs (off+n.toNat * size))}
  |.t (.glob g off),.t (.int _ n)=>.need (0<=n/\n<len) {val:=.t (.glob g (off+n.toNat * size))}
  |_,_=>.no
 |.idxL size a i=>match ev sl a,ev sl i with
  |.view b off len sz,.t (.int _ n)=>cond (Nat.beq size sz) (.need (0<=n/\n<len) {val:=.ptr b (off+n.toNat * size)}) .no
  |v,.t (.int _ n)=>match asT v with
   |some (.slice sz xs)=>cond (Nat.beq size sz) (.eq (0<=n/\n<xs.length) (xs[n.toNat]?.getD .nil) fun t=>{val:=.t (.cptr t.cells 0)}) .no
   |_=>.no
  |_,_=>.no
 |.fld off size agg x=>match ev sl x with
  |.t (.agg cs)=>match agg with
   |true=>.eq (off+size<=cs.length) (.agg ((cs.drop off).take size)) (aU [])
   |false=>.eq (off<cs.length) (cs[off]?.getD .nil) (aU [])
  |_=>.no
 |.idxV len size agg x i=>match ev sl x,ev sl i with
  |.t (.agg cs),.t (.int _ n)=>match agg with
   |true=>.eq (0<=n/\n<len/\n.toNat * size+size<=cs.length) (.agg ((cs.drop (n.toNat * size)).take size)) (aU [])
   |false=>.eq (0<=n/\n<len/\n.toNat * size<cs.length) (cs[n.toNat * size]?.getD .nil) (aU [])
  |_,_=>.no
 |.idxS x i=>match ev sl x,ev sl i with
  |.t (.str s),.t (.int _ n)=>.eq (0<=n/\n<s.size) (.int .u8 ((s.toList[n.toNat]?.getD 0).toNat:Int)) (aU [])
  |_,_=>.no
 |.bin op x y=>match ev sl x,ev sl y with
  |.t (.int k a),.t (.int k' b)=>nv op k k' a b
  |.t (.str a),.t (.str b)=>nw op a b
  |_,_=>.no
 |.eqv ng sh x y=>match ev sl x,ev sl y with
  |.t (.agg a),.t (.agg b)=>.alt (fits sh a/\fits sh b) (cond ng (!eqL a b) (eqL a b)) dF
  |_,_=>.no
 |.eqB ng x y=>match ev sl x,ev sl y with
  |.t (.bool a),.t (.bool b)=>.alt True (cond ng (!(a==b)) (a==b)) dF
  |_,_=>.no
 |.not x=>match ev sl x with
  |.t (.bool b)=>aK (.bool (!b))
  |_=>.no
 |.neg x=>match ev sl x with
  |.t (.int k n)=>aK (.int k (k.wrap (0 - n)))
  |_=>.no
 |.conv k x=>match ev sl x with
  |.t (.int _ n)=>aK (.int k (k.wrap n))
  |_=>.no
 |.len x=>match ev sl x with
  |.t (.slice _ xs)=>aK (.int .i64 xs.length)
  |.own _ _ _ xs=>aK (.int .i64 xs.length)
  |.full _ xs=>aK (.int .i64 xs.length)
  |.t .nil=>aK (.int .i64 0)
  |.view _ _ n _=>aK (.int .i64 n)
  |_=>.no
 |.lenS x=>match ev sl x with
  |.t (.str s)=>aK (.int .i64 s.size)
  |_=>.no
 |.maxI x y=>match ev sl x,ev sl y with
  |.t (.int k a),.t (.int _ b)=>aK (.int k (if b>a then b else a))
  |_,_=>.no
 |.minI x y=>match ev sl x,ev sl y with
  |.t (.int k a),.t (.int _ b)=>aK (.int k (if b<a then b else a))
  |_,_=>.no
 |.slice size x lo hi=>match ev sl x with
  |.view b off len sz=>match eo (lo.map (ev sl)),df (hi.map (ev sl)) len with
   |some l,some h=>cond (Nat.beq size sz) (.need (0<=l/\l<=h/\h<=len/\l.toNat<len) {val:=.view b (off+l.toNat * size) (h.toNat - l.toNat) sz }) .no
   |_,_=>.no
  |v=>match asT v with
   |some (.slice sz xs)=>match eo (lo.map (ev sl)),df (hi.map (ev sl)) xs.length with
    |some l,some h=>cond (Nat.beq size sz) (.eq (0<=l/\l<=h/\h<=xs.length) (.slice sz ((xs.take h.toNat).drop l.toNat)) (aU [])) .no
    |_,_=>.no
   |some .nil=>match eo (lo.map (ev sl)),df (hi.map (ev sl)) 0 with
    |some l,some h=>.need (l=0/\h=0) {val:=.t .nil }
    |_,_=>.no
   |_=>.no
 |.sliceS x lo hi=>match ev sl x with
  |.t (.str s)=>match eo (lo.map (ev sl)),df (hi.map (ev sl)) s.size with
   |some l,some h=>.eq (0<=l/\l<=h/\h<=s.size) (.str (s.extract l.toNat h.toNat)) (aU [])
   |_,_=>.no
  |_=>.no
 |.sliceA len size x lo hi=>match ev sl x with
  |.ptr b off=>match lo,hi with
   |none,none=>val (.view b off len size)
   |_,_=>match eo (lo.map (ev sl)),df (hi.map (ev sl)) len with
    |some l,some h=>.need (0<=l/\l<=h/\h<=len/\l.toNat<len) {val:=.view b (off+l.toNat * size) (h.toNat - l.toNat) size }
    |_,_=>.no
  |.t (.cptr cs off)=>match eo (lo.map (ev sl)),df (hi.map (ev sl)) len with
   |some l,some h=>cond (Nat.blt 0 size) (.eq (0<=l/\l<=h/\h<=len/\off+len * size<=cs.length) (.slice size (chunk size (h.toNat - l.toNat) (cs.drop (off+l.toNat * size)))) (aU [])) .no
   |_,_=>.no
  |.t (.glob g off)=>match Glb.gs g with
   |some cs=>(match eo (lo.map (ev sl)),df (hi.map (ev sl)) len with
    |some l,some h=>cond (Nat.blt 0 size) (.eq (0<=l/\l<=h/\h<=len/\off+len * size<=cs.length) (.slice size (chunk size (h.toNat - l.toNat) (cs.drop (off+l.toNat * size)))) (aU [])) .no
    |_,_=>.no)
   |none=>.no
  |_=>.no
 |.mkslice size bytes zs l c=>match d with
  |some q=>match bx q,ev sl l,ev sl c with
   |none,.t (.int _ n),.t (.int _ k)=>.need (0<=n/\n=k/\(bytes:Int) * k<=281474976710656/\k<=9223372036854775807) {val:=.view q 0 n.toNat size,wr:=some (q,.d (n.toNat * size) (List.replicate n.toNat zs).flatten),rd:=[q]}
   |_,_,_=>.no
  |none=>.no
 |.slice3 size x hi mx=>match ev sl hi,ev sl mx with
  |.t (.int _ h),.t (.int _ m)=>match asT (ev sl x) with
   |some (.slice sz xs)=>cond (Nat.beq size sz) (.need (0<=h/\h=m/\h<=xs.length) {val:=.full sz (xs.take h.toNat)}) .no
   |some .nil=>.need (h=0/\m=0) {val:=.full size []}
   |_=>.no
  |_,_=>.no
 |.buildF size n zs parts=>match d,aY sl size (List.replicate n (cond (Nat.beq size 1) (zs.headD .nil) (.agg zs))) True parts with
  |some _,some (es,c)=>.need c {val:=.full size es }
  |_,_=>.no
 |.appT size bytes s x=>match cP bx (ev sl x) with
  |some (.slice n ys)=>(match ev sl s with
   |.full sz xs=>cond (Nat.beq size sz) (.need ((n=size\/ys=[])/\(xs.length+ys.length) * bytes<=140737488355328) {val:=.t (.slice size (xs++ys))}) .no
   |.t .nil=>.need ((n=size\/ys=[])/\ys.length * bytes<=140737488355328) {val:=.t (.slice size ys)}
   |_=>.no)
  |some .nil=>(match ev sl s with
   |.full sz xs=>cond (Nat.beq size sz) (.need (xs.length * bytes<=140737488355328) {val:=.t (.slice size xs)}) .no
   |.t .nil=>.need True {val:=.t (.slice size [])}
   |_=>.no)
  |_=>.no
 |.isnil k ng x=>match k,ev sl x with
  |0,.ptr _ _=>aK (.bool ng)
  |0,.t (.cptr _ _)=>aK (.bool ng)
  |0,.t (.glob _ _)=>aK (.bool ng)
  |0,.t .nilptr=>aK (.bool (!ng))
  |1,.view _ _ _ _=>aK (.bool ng)
  |1,.t .nil=>aK (.bool (!ng))
  |1,v=>match asT v with
   |some (.slice _ xs)=>.need (0<(xs.flatMap T.cells).length) {val:=.t (.bool ng)}
   |_=>.no
  |2,.mp _=>aK (.bool ng)
  |2,.t (.mapd _ _ _ _)=>aK (.bool ng)
  |2,.t .nilmap=>aK (.bool (!ng))
  |3,.fn _ _=>aK (.bool ng)
  |3,.t (.clos _ _)=>aK (.bool ng)
  |3,.t .nilfn=>aK (.bool (!ng))
  |_,_=>.no
 |.cpl x=>match ev sl x with
  |.t (.int k n)=>aK (.int k (iF .xor k (if k.signed then -1 else k.max) n))
  |_=>.no
 |.prim p x=>match aX bx (ev sl x) with
  |some (t,rd)=>match lp p t with
   |some (c,r)=>.eq c r (aU rd)
   |none=>.no
  |none=>.no
 |.arrP n x=>match ev sl x with
  |.view b off len _=>.need (n<=len) {val:=.ptr b off }
  |v=>match asT v with
   |some (.slice _ xs)=>.need (n=xs.length/\0<(xs.flatMap T.cells).length) {val:=.t (.cptr (xs.flatMap T.cells) 0)}
   |_=>.no
 |.copy x y=>match ev sl x with
  |.view b off len sz=>match bx b,cP bx (ev sl y) with
   |some (.d m ts),some (.slice n ys)=>cond (Nat.beq sz 1&&Nat.beq n 1) (.need (off+len<=m/\ys.all T.one=true) {val:=.t (.int .i64 (Nat.min ys.length len:Nat)),wr:=some (b,.d m (aP ts off (Nat.min ys.length len) (ys.take (Nat.min ys.length len)))),rd:=[b]}) .no
   |some (.d m _),some .nil=>.need (off+len<=m) (aU [b] (.int .i64 0))
   |_,_=>.no
  |_=>.no
 |.build zs parts=>match cU sl zs True parts with
  |some (ts,c)=>.need c {val:=.t (.agg ts)}
  |none=>match cV sl (zs.map .t) True parts with
   |some (vs,c)=>.need c {val:=.agv vs }
   |none=>.no
 |.buildT size n zs parts=>match d,aY sl size (List.replicate n (cond (Nat.beq size 1) (zs.headD .nil) (.agg zs))) True parts with
  |some _,some (es,c)=>.need c {val:=.t (.slice size es)}
  |_,_=>.no
 |.mkfn f caps=>val (.fn f (caps.map (ev sl)))
 |.ext x i=>match ev sl x with
  |.t (.tup ts)=>match ts[i]? with
   |some t=>aK t
   |none=>.no
  |.tup vs=>match vs[i]? with
   |some v=>val v
   |none=>.no
  |_=>.no
 |.clr size zs x=>match ev sl x with
  |.view b off len sz=>match bx b with
   |some (.d m ts)=>cond (Nat.beq size sz) (.need (0<len/\off+len * size<=m) {val:=.top,wr:=some (b,.d m (aP ts off (len * size) (List.replicate len zs).flatten)),rd:=[b]}) .no
   |_=>.no
  |_=>.no
 |.nilck x=>match ev sl x with
  |.ptr b off=>val (.ptr b off)
  |.t (.cptr cs off)=>aK (.cptr cs off)
  |.t (.glob g off)=>aK (.glob g off)
  |.t (.knot f a b)=>aK (.knot f a b)
  |.t (.wrld f1 a1 b1 f2 a2 b2 off)=>aK (.wrld f1 a1 b1 f2 a2 b2 off)
  |_=>.no
 |.mkmap ag sh=>match d with
  |some n=>match bx n with
   |none=>.yes {val:=.mp n,wr:=some (n,.m ag sh [] none),rd:=[n]}
   |some _=>.no
  |none=>.no
 |.mlook ag sh z ok m k=>match ev sl m with
  |.mp b=>match bx b with
   |some (.m ag' sh' es _)=>match ev sl k with
    |.t key=>cond (cn ag sh ag' sh') (.eq (aR ag sh key) (nM z ok (ep key.cells es)) (aU [b])) .no
    |_=>.no
   |_=>.no
  |.t (.mapd ag' sh' ks vs)=>match ev sl k with
   |.t key=>cond (cn ag sh ag' sh') (.eq (aR ag sh key) (nM z ok (ep key.cells (ks.zip vs))) (aU [])) .no
   |_=>.no
  |.t .nilmap=>match ev sl k with
   |.t key=>.need (aR ag sh key) (aU [] (nM z ok none))
   |_=>.no
  |_=>.no
 |.bA ag sh m k v=>match ev sl m with
  |.mp b=>match bx b with
   |some (.m ag' sh' es _)=>match ev sl k,asT (ev sl v) with
    |.t key,some x=>cond (cn ag sh ag' sh') (.need (aR ag sh key) {val:=.top,wr:=some (b,.m ag sh (bA key x es) none),rd:=[b]}) .no
    |_,_=>.no
   |_=>.no
  |_=>.no
 |.mlen m=>match ev sl m with
  |.mp b=>match bx b with
   |some (.m _ _ es _)=>.yes (aU [b] (.int .i64 es.length))
   |_=>.no
  |.t (.mapd _ _ ks _)=>.yes (aU [] (.int .i64 ks.length))
  |.t .nilmap=>.yes (aU [] (.int .i64 0))
  |_=>.no
 |.cH ag sh m k=>match ev sl m with
  |.mp b=>match bx b with
   |some (.m ag' sh' es _)=>match ev sl k with
    |.t key=>cond (cn ag sh ag' sh') (.need (aR ag sh key) {val:=.top,wr:=some (b,.m ag sh (cH key.cells es) none),rd:=[b]}) .no
    |_=>.no
   |_=>.no
  |_=>.no
 |.mclr m=>match ev sl m with
  |.mp b=>match bx b with
   |some (.m ag sh _ _)=>.yes {val:=.top,wr:=some (b,.m ag sh [] none),rd:=[b]}
   |_=>.no
  |_=>.no
 |.ment x=>match ev sl x with
  |.ptr k 0=>match bx k with
   |some (.it b bs c ix)=>match bx b with
    |some (.m _ _ es (some q))=>.eq (q=(bs,c)/\ix≠[]/\ix.getLast?.getD 0<es.length) (km es ix) (aU [k,b])
    |_=>.no
   |some (.itd es ix)=>.eq (ix≠[]/\ix.getLast?.getD 0<es.length) (km es ix) (aU [k])
   |_=>.no
  |_=>.no
 |_=>.no
def St.app(st:St)(d:Option Nat)(e:Eff):St:=
 let st1:=st.set d e.val
 match e.wr with
 |some (n,c)=>{st1 with bx:=upd st1.bx n (some c)}
 |none=>st1
def bH(P:Program)(f:FuncId):Prop:= ∀(args:Array Value) (w:World),(callFunc f args).run P w= .ok (.enter f args) w
def DCalls[Glb](P:Program)(f:FuncId)(args:List T)(r:T):Prop:=
 bH P f/\ ∀(S:ar) (w:World) (vs:List Value),(∀ b o,S b o->b<w.heap.size)->bo S w->vs.length=args.length->
  (∀ (i:Nat) (v:Value) (t:T),vs[i]? =some v->args[i]? =some t->Rep S w v t)->
  Calls P f vs.toArray w fun e w'=> ∃v,e= .returned v/\Below w.heap.size w w'/\Rep (fun b o=>S b o\/(w.heap.size<=b/\b<w'.heap.size)) w' v r
mutual
def dg(r d:Nat):V->V
 |.own q e n xs=>cond (Nat.beq q r||Nat.beq q d) (.t (.slice n xs)) (.own q e n xs)
 |.fn f caps=>.fn f (dgs r d caps)
 |.tup vs=>.tup (dgs r d vs)
 |.agv vs=>.agv (dgs r d vs)
 |v=>v
def dgs(r d:Nat):List V->List V
 |[]=>[]
 |v::vs=>dg r d v::dgs r d vs
end
def dgB(r d:Nat):BX->BX
 |.d n ts=>.d n ts
 |.m ag sh es mb=>.m ag sh es mb
 |.it m bs c ix=>.it m bs c ix
 |.itd es ix=>.itd es ix
 |.v vs=>.v (dgs r d vs)
def St.dg(st:St)(r d:Nat):St:=
 {st with sl:=fun m=>DL.dg r d (st.sl m),bx:=fun n=>(st.bx n).map (dgB r d),gh:=fun k m=>DL.dg r d (st.gh k m)}
def St.put(st:St)(d:Nat)(v:V):St:={st with sl:=upd st.sl d v }
def e9(e:TypeId)(size bytes:Nat)(d q:Nat)(s x:V)(st:St)(K:St->Prop):Prop:=
 match cP st.bx x with
 |some (.slice n ys)=>(n=size\/ys=[])/\(match s with
  |.t .nil=>(ys.length * bytes<=140737488355328)/\K ((st.dg q q).put d (.own q e size ys))
  |.own r e' size' xs=>cond (Nat.beq e' e&&Nat.beq size' size) (((xs.length+ys.length) * bytes<=140737488355328)/\K ((st.dg r q).put d (.own q e size (xs++ys)))) False
  |_=>False)
 |some .nil=>(match s with
  |.t .nil=>K ((st.dg q q).put d (.own q e size []))
  |.own r e' size' xs=>cond (Nat.beq e' e&&Nat.beq size' size) ((xs.length * bytes<=140737488355328)/\K ((st.dg r q).put d (.own q e size xs))) False
  |_=>False)
 |_=>False
def di[Glb](P:Program)(f:FuncId)(args:List V)(d:Option Nat)(st:St)(K:St->Prop):Prop:=
 match bm st.bx args with
 |some (ts,[])=> ∃r,DCalls P f ts r/\K (st.set d (.t r))
 |some (ts,_::_)=> ∃r,DCalls P f ts r/\r.flat=true/\K (st.set d (.t r))
 |none=>False
inductive cD (E:Env) (cs:Array Value):BX->Prop
 |d (n:Nat) (ts:List T) (hl:ts.length=n) (hs:n<=cs.size)
   (h: ∀(i:Nat) (x:Value) (t:T),cs[i]? =some x->ts[i]? =some t->Rep E.S E.w x t/\t.one=true):cD E cs (.d n ts)
 |v (vs:List V) (hs:vs.length<=cs.size)
   (h: ∀(i:Nat) (x:Value) (u:V),cs[i]? =some x->vs[i]? =some u->VR E x u/\x.oneCell'=true):cD E cs (.v vs)
structure bI (E:Env) (arr:Array MapEntry) (clock:Nat) (ag:Bool) (sh:List Sh) (es:List (T×T)) (mb:Option (List Nat×Nat)):Prop where
 size:arr.size=es.length
 at_: ∀(i:Nat) (x:MapEntry) (e:T×T),arr[i]? =some x->es[i]? =some e->Rep E.S E.w x.key e.1/\Rep E.S E.w x.val e.2/\aR ag sh e.1
 lt: ∀x∈arr.toList,x.born<clock
 apart:(arr.toList.map (·.born)).Nodup
 mb: ∀p,mb=some p->p=(arr.toList.map (·.born),clock)
inductive bM (E:Env):Obj->BX->Prop
 |cells (cs:Array Value) (e:TypeId) (b:BX) (h:cD E cs b):bM E (.cells cs e (0,0)) b
 |map (arr:Array MapEntry) (clock:Nat) (ag:Bool) (sh:List Sh) (es:List (T×T)) (mb:Option (List Nat×Nat)) (h:bI E arr clock ag sh es mb):bM E (.map arr clock) (.m ag sh es mb)
 |it (m:Nat) (bs:List Nat) (c:Nat) (ix:List Nat) (hl:E.live m=true):bM E (.mapIter (some (E.κ m)) c (ix.map fun j=>bs.getD j 0).toArray c) (.it m bs c ix)
 |itd (g:Nat) (arr:Array MapEntry) (c:Nat) (ag:Bool) (sh:List Sh) (es:List (T×T)) (ix:List Nat) (hg:E.w.heap[g]? =some (.map arr c)) (hS:E.S g 0) (hR:bI E arr c ag sh es none):
   bM E (.mapIter (some g) c (ix.map fun j=>(arr.toList.map (·.born)).getD j 0).toArray c) (.itd es ix)
structure bD (E:Env) (g:Nat) (b:BX):Prop where
 old:E.B<=g
 free: ∀o, ¬E.S g o
 at_: ∃o,E.w.heap[g]? =some o/\bM E o b
theorem bD.lt{E:Env}{g:Nat}{b:BX}(h:bD E g b):g<E.w.heap.size:=by
 obtain ⟨o,h1,_⟩:=h.at_;exact (Array.getElem?_eq_some_iff.1 h1).1
def BX.isM:BX->Bool
 |.m _ _ _ _=>true
 |.it _ _ _ _=>true
 |.itd _ _=>true
 |_=>false
theorem bD.cells{E:Env}{g:Nat}{b:BX}(h:bD E g b)(hb:b.isM=false): ∃cs e,E.w.heap[g]? =some (.cells cs e (0,0))/\cD E cs b:=by
 obtain ⟨o,h1,h2⟩:=h.at_;cases h2 with
 |cells cs e _ h=>exact ⟨cs,e,h1,h⟩
 |map _ _ _ _ _ _ _=>cases hb
 |it _ _ _ _ _=>cases hb
 |itd=>cases hb
theorem bD.map{E:Env}{g:Nat}{ag:Bool}{sh:List Sh}{es:List (T×T)}{mb:Option (List Nat×Nat)}(h:bD E g (.m ag sh es mb)): ∃arr clock,E.w.heap[g]? =some (.map arr clock)/\bI E arr clock ag sh es mb:=by
 obtain ⟨o,h1,h2⟩:=h.at_;cases h2 with
 |cells cs e _ h=>cases h
 |map arr clock _ _ _ _ h=>exact ⟨arr,clock,h1,h⟩
structure SR [Glb] (N:Nat) (w0:World) (S0:aa) (E:Env) (st:St) (a:Array Value):Prop where
 size:a.size=N
 base:E.B=w0.heap.size
 glob:bo S0.S w0
 sl: ∀m,VR E (a.getD m undef) (st.sl m)
 gh: ∀k m,VR E (S0.vals k m) (st.gh k m)
 bx: ∀n b,st.bx n=some b->bD E (E.κ n) b
 live: ∀n,E.live n=(st.bx n).isSome
 inj: ∀n m,E.live n=true->E.live m=true->E.κ n=E.κ m->n=m
 rows: ∀r g,E.ρ r=some g->E.B<=g/\g<E.w.heap.size/\ ∀n,E.live n=true->E.κ n≠g
 rinj: ∀r r' g,E.ρ r=some g->E.ρ r'=some g->r=r'
 lt: ∀b o,E.S b o->b<E.w.heap.size
 below:Below w0.heap.size w0 E.w
 s0: ∀b o,S0.S b o->E.S b o
 s1: ∀b o,E.S b o->S0.S b o\/w0.heap.size<=b
 obj: ∀(g:Nat) (o:Obj),S0.objs g=some o->cp o=true/\E.w.heap[g]? =some o
 cx:st.cx S0 w0
def ku(a:Array Value):Option Nat->Value->Array Value
 |some n,v=>a.setIfInBounds n v
 |none,_=>a
def WC[Glb](P:Program)(f:FuncId)(us:List V)(d:Option Nat)(st:St)(K:St->Prop):Prop:=
 bH P f/\ ∀(N:Nat) (w0:World) (S0:aa) (E:Env) (a vs:Array Value),SR N w0 S0 E st a->vs.size=us.length->
  (∀ (i:Nat) (v:Value) (u:V),vs[i]? =some v->us[i]? =some u->VR E v u)->(∀ n,d=some n->n<N)->
  Calls P f vs E.w fun e w'=> ∃v,e= .returned v/\ ∃(E':Env) (st':St),E'.w=w'/\K st'/\SR N w0 S0 E' st' (ku a d v)
def MC[Glb](P:Program)(f:FuncId)(us:List V)(need:List (Nat×BX))(fr:List Nat)(m:Nat)(b:BX)(r:T):Prop:=
 ∀(d:Option Nat) (st:St) (K:St->Prop),(∀ p∈need,st.bx p.1=some p.2)->(∀ n∈fr,st.bx n=none)->K (({st with bx:=upd st.bx m (some b)}:St).set d (.t r))->WC P f us d st K
def wpR(r:cm)(d:Option Nat)(st:St)(K:St->Prop):Prop:=
 match r with
 |.no=>False
 |.yes e=>K (st.app d e)
 |.need c e=>c/\K (st.app d e)
 |.alt c b f=>c/\ ∀b',b=b'->K (st.app d (f b'))
 |.eq c t f=>c/\ ∀t',t=t'->K (st.app d (f t'))
structure gn (w w':World) (v:Value) (e:TypeId) (size:Nat) (xs:List T):Prop where
 ex: ∃cells:List Value,w'.ownsRow w.heap.size e size v xs.length cells/\cells.length=(xs.flatMap T.cells).length/\ ∀(i:Nat) (x:Value) (t:T),cells[i]? =some x->(xs.flatMap T.cells)[i]? =some t->Rep (fun _ _=>False) w' x t
 uni: ∀x∈xs,x.cells.length=size
 one: ∀t∈xs.flatMap T.cells,t.one=true
 flat: ∀t∈xs.flatMap T.cells,t.flat=true
def iN(v:Value):List Value->Value
 |[]=>v
 |us=>.tuple (v::us).toArray
def eu[Glb](P:Program)(f:FuncId)(ts:List T)(e:TypeId)(size:Nat)(xs rest:List T):Prop:=
 bH P f/\ ∀(S:ar) (w:World) (vs:List Value),(∀ b o,S b o->b<w.heap.size)->bo S w->vs.length=ts.length->(∀ (i:Nat) (v:Value) (t:T),vs[i]? =some v->ts[i]? =some t->Rep S w v t)->
  Calls P f vs.toArray w fun en w'=> ∃(v:Value) (us:List Value),en= .returned (iN v us)/\Below w.heap.size w w'/\gn w w' v e size xs/\
   us.length=rest.length/\ ∀(i:Nat) (u:Value) (t:T),us[i]? =some u->rest[i]? =some t->t.flat=true/\Rep (fun _ _=>False) w' u t
def dD[Glb](P:Program)(f:FuncId)(args:List V)(d:Option Nat)(st:St)(K:St->Prop):Prop:=
 match d with
 |some n=>(match bm st.bx args with
  |some (ts,_)=> ∃(e:TypeId) (size:Nat) (xs:List T),eu P f ts e size xs []/\ ∀q,K (st.set (some n) (.own q e size xs))
  |none=>False)
 |none=>False
def noRoom(size:Nat):V->Bool
 |.t .nil=>true
 |.full sz []=>Nat.beq size sz
 |_=>false
def ke(size bytes:Nat)(d q:Nat)(s x:V)(st:St)(K:St->Prop):Prop:=
 match cP st.bx x,st.bx q with
 |some (.slice n ys),none=>cond (noRoom size s) ((n=size/\0<ys.length/\ys.length * bytes<=140737488355328)/\K (({st with bx:=upd st.bx q (some (.d (ys.length * size) (ys.flatMap T.cells)))}:St).put d (.view q 0 ys.length size))) False
 |_,_=>False
def wpO[Glb](P:Program)(o:DOp)(d:Option Nat)(st:St)(K:St->Prop):Prop:=
 match o with
 |.append _ e size bytes s x=>match d with
  |some n=>e9 e size bytes n (n+st.off) (ev st.sl s) (ev st.sl x) st K
  |none=>False
 |.appV size bytes s x=>match d with
  |some n=>ke size bytes n (n+st.off) (ev st.sl s) (ev st.sl x) st K
  |none=>False
 |.buildS e size n zs parts=>match d with
  |some m=>(match aY st.sl size (List.replicate n (cond (Nat.beq size 1) (zs.headD .nil) (.agg zs))) True parts with
   |some (es,c)=>c/\K ((st.dg (m+st.off) (m+st.off)).put m (.own (m+st.off) e size es))
   |none=>False)
  |none=>False
 |.mrng m=>match d with
  |some n=>(match ev st.sl m with
   |.mp b=>(match st.bx b,st.bx (n+st.off) with
    |some (.m ag sh es _),none=> ∀(bs:List Nat) (c:Nat),bs.length=es.length->bs.Nodup->(∀ x∈bs,x<c)->
      K {st with sl:=upd st.sl n (.ptr (n+st.off) 0),bx:=upd (upd st.bx b (some (.m ag sh es (some (bs,c))))) (n+st.off) (some (.it b bs c []))}
    |_,_=>False)
   |.t (.mapd _ _ ks vs)=>(match st.bx (n+st.off) with
    |none=>K {st with sl:=upd st.sl n (.ptr (n+st.off) 0),bx:=upd st.bx (n+st.off) (some (.itd (ks.zip vs) []))}
    |some _=>False)
   |_=>False)
  |none=>False
 |.mnext x=>match d with
  |some n=>(match ev st.sl x with
   |.ptr k 0=>(match st.bx k with
    |some (.it b bs c ix)=>(match st.bx b with
     |some (.m _ _ es (some q))=>q=(bs,c)/\bs.Nodup/\(∀ x∈bs,x<c)/\bs.length=es.length/\(∀ j∈ix,j<es.length)/\
       (∀ (j:Nat) (e:T×T),es[j]? =some e-> ¬j∈ix->K {st with sl:=upd st.sl n (.t (.tup [.bool true,e.1,e.2])),bx:=upd st.bx k (some (.it b bs c (ix++[j])))})/\
       ((∀ j,j<es.length->j∈ix)->K (st.put n (.t (.tup [.bool false]))))
     |_=>False)
    |some (.itd es ix)=>(∀ j∈ix,j<es.length)/\
       (∀ (j:Nat) (e:T×T),es[j]? =some e-> ¬j∈ix->K {st with sl:=upd st.sl n (.t (.tup [.bool true,e.1,e.2])),bx:=upd st.bx k (some (.itd es (ix++[j])))})/\
       ((∀ j,j<es.length->j∈ix)->K (st.put n (.t (.tup [.bool false]))))
    |_=>False)
   |_=>False)
  |none=>False
 |.call f args=>di P f (args.map (ev st.sl)) d st K
 |.inl f args=>WC P f (args.map (ev st.sl)) d st K
 |.fcall f args=>dD P f (args.map (ev st.sl)) d st K
 |.mcall ms f args=> ∃(need:List (Nat×BX)) (fr:List Nat) (m:Nat) (b:BX) (r:T),MC P f (args.map (ev st.sl)) need fr m b r/\(∀ p∈need,st.bx p.1=some p.2)/\(∀ n∈fr,st.bx n=none)/\m∈ms/\(st.bx m).isSome=true/\K (({st with bx:=upd st.bx m (some b)}:St).set d (.t r))
 |.bV x args=>match ev st.sl x with
  |.t (.clos f caps)=>di P f (args.map (ev st.sl)++caps.map .t) d st K
  |.fn f caps=>di P f (args.map (ev st.sl)++caps) d st K
  |_=>False
 |o=>wpR (eff o (st.nm d) st.sl st.bx) d st K
abbrev bE:V:=.t (.tup [])
def wpI[Glb](P:Program)(i:DI)(st:St)(K:St->Prop):Prop:=
 match i.guard with
 |none=>wpO P i.op i.dst st K
 |some (g,want)=>match st.sl g with
  |.t (.bool b)=>match b,want with
   |true,true=>wpO P i.op i.dst st K
   |false,false=>wpO P i.op i.dst st K
   |true,false=>K (st.set i.dst bE)
   |false,true=>K (st.set i.dst bE)
  |.t (.tup [])=>K (st.set i.dst bE)
  |_=>False
noncomputable def cR[Glb](P:Program)(is:List DI):St->(St->Prop)->Prop:=
 List.rec (motive:=fun _=>St->(St->Prop)->Prop) (fun st K=>K st) (fun i _ ih st K=>wpI P i st fun st'=>ih st' K) is
end Go.DL
end
noncomputable section
namespace Go.DL
open Go.RowKit
def dP:Value->Option T
 |.int k n=>some (.int k n)
 |.bool b=>some (.bool b)
 |.string s=>some (.str s)
 |.pointer none=>some .nilptr
 |.slice none 0 0=>some .nil
 |.nilFunc=>some .nilfn
 |.nilIface=>some .nilif
 |.map none=>some .nilmap
 |_=>none
def eA:Value->Option T
 |.agg cs=>(cs.toList.mapM dP).map .agg
 |v=>dP v
def ak:Operand->Option O
 |.tmp t=>some (.tmp t)
 |.const v=>(eA v).map .const
 |.func f=>some (.const (.clos f []))
 |.global g=>some (.const (.glob g 0))
def au(P:Program)(t:TypeId):Bool:=
 match P.underlying t with
 |some (.struct _)=>true
 |some (.array _ _)=>true
 |_=>false
def cj(P:Program)(t:TypeId):Option (List T):=
 match P.info? t with
 |some i=>match i.zero with
  |some z=>match eA z with
   |some x=>cond (Nat.beq x.cells.length i.size) (some x.cells) none
   |none=>none
  |none=>none
 |none=>none
def zeroV(P:Program)(t:TypeId):Option T:=
 match P.info? t with
 |some i=>match i.zero with
  |some z=>eA z
  |none=>none
 |none=>none
def shapeOf(P:Program):Nat->TypeId->Option (List Sh)
 |0,_=>none
 |d+1,t=>match P.underlying t with
  |some .bool=>some [.bool]
  |some (.int k)=>some [.int k]
  |some .string=>some [.str]
  |some (.array len e)=>match shapeOf P d e with
   |some s=>cond (Nat.beq s.length (P.cellsOf e)&&Nat.blt 0 s.length) (some (List.replicate len s).flatten) none
   |none=>none
  |some (.struct fs)=>if P.stoodInHeld t then none else shapesOf (shapeOf P d) P fs.toList 0
  |_=>none
where shapesOf (rec:TypeId->Option (List Sh)) (P:Program):List Field->Nat->Option (List Sh)
 |[],_=>some []
 |f::fs,off=>match rec f.type,shapesOf rec P fs (off+P.cellsOf f.type) with
  |some s,some ss=>cond (Nat.beq s.length (P.cellsOf f.type)&&Nat.beq f.offset off&&f.name != "_" &&Nat.blt 0 s.length) (some (s++ss)) none
  |_,_=>none
def dM(xs:List Operand):Option (List O):=xs.mapM ak
def aZ(place:Nat->Option (Nat×Nat)):List (Nat×Operand)->Option (List (Nat×Nat×O))
 |[]=>some []
 |(i,x)::rest=>match place i,ak x,aZ place rest with
  |some (off,size),some y,some r=>some ((off,size,y)::r)
  |_,_,_=>none
def cF:Option Operand->Option (Option O)
 |none=>some none
 |some x=>(ak x).map some
def aL:BinOp->Bool
 |.neq=>true
 |_=>false
def oa(P:Program)(t:TypeId):Bool:=
 match P.underlying t with
 |some .string=>true
 |_=>false
def kp(P:Program)(t:TypeId):Bool:=
 match P.underlying t with
 |some (.int .u8)=>true
 |_=>false
def bG(P:Program)(c:Call):Option DOp:=
 match c.callee with
 |.value (.func f)=>match P.funcs[f]?,dM c.args.toList with
  |some fn,some az=>cond (fn.body.isSome&&fn.name != "runtime.NumGoroutine") (some (.call f az)) none
  |_,_=>none
 |.value x=>match ak x,dM c.args.toList with
  |some x,some az=>some (.bV x az)
  |_,_=>none
 |.builtin .len=>match c.args.toList,c.argTypes.toList with
  |[x],[t]=>match P.underlying t,ak x with
   |some (.slice _),some x=>some (.len x)
   |some .string,some x=>some (.lenS x)
   |some (.map _ _),some x=>some (.mlen x)
   |_,_=>none
  |_,_=>none
 |.builtin .max=>match c.args.toList with
  |[x,y]=>match ak x,ak y with
   |some x,some y=>some (.maxI x y)
   |_,_=>none
  |_=>none
 |.builtin .min=>match c.args.toList with
  |[x,y]=>match ak x,ak y with
   |some x,some y=>some (.minI x y)
   |_,_=>none
  |_=>none
 |.builtin .append=>match c.args.toList,c.argTypes.toList with
  |[s,x],[t,u]=>match P.underlying t,ak s,ak x with
   |some (.slice e),some s,some x=>match P.info? e,cj P e with
     |some j,some _=>cond ((Nat.beq t u||oa P u)&&Nat.blt 0 j.size&&Nat.blt 0 j.bytes) (some (.append t e j.size j.bytes s x)) none
     |_,_=>none
   |_,_,_=>none
  |_,_=>none
 |.builtin .clear=>match c.args.toList,c.argTypes.toList with
  |[x],[t]=>match P.underlying t,ak x with
   |some (.slice e),some x=>match P.info? e,cj P e with
    |some j,some zs=>cond (Nat.blt 0 j.size) (some (.clr j.size zs x)) none
    |_,_=>none
   |some (.map _ _),some x=>some (.mclr x)
   |_,_=>none
  |_,_=>none
 |.builtin .copy=>match c.args.toList,c.argTypes.toList with
  |[x,y],[t,_]=>match P.underlying t,ak x,ak y with
   |some (.slice e),some x,some y=>match P.info? e with
    |some j=>cond (Nat.beq j.size 1) (some (.copy x y)) none
    |none=>none
   |_,_,_=>none
  |_,_=>none
 |.builtin .delete=>match c.args.toList,c.argTypes.toList with
  |[x,k],[t,_]=>match P.underlying t,ak x,ak k with
   |some (.map kt _),some x,some k=>match shapeOf P 100 kt with
    |some sh=>some (.cH (au P kt) sh x k)
    |none=>none
   |_,_,_=>none
  |_,_=>none
 |_=>none
def jW(P:Program)(t:TypeId)(b:O):Option Nat:=
 match P.underlying t,b with
 |some (.pointer _),.const .nilptr=>some 0
 |some (.slice _),.const .nil=>some 1
 |some (.map _ _),.const .nilmap=>some 2
 |some (.func _ _ _),.const .nilfn=>some 3
 |_,_=>none
def ah(P:Program):Op->Option DOp
 |.move x=>(ak x).map .mov
 |.assign x=>(ak x).map .mov
 |.pick c a b=>match ak c,ak a,ak b with
  |some c,some a,some b=>some (.pick c a b)
  |_,_,_=>none
 |.alloc e=>(cj P e).map .alloc
 |.box t x=>match P.info? t,ak x with
  |some i,some x=>some (.box i.size x)
  |_,_=>none
 |.load t a=>match P.underlying t,P.info? t,ak a with
  |some _,some i,some a=>cond (au P t||Nat.beq i.size 1) (some (.load i.size (au P t) a)) none
  |_,_,_=>none
 |.store t a x=>match P.info? t,ak a,ak x with
  |some i,some a,some x=>some (.store i.size a x)
  |_,_,_=>none
 |.fieldAddr s x f=>match P.underlying s,ak x with
  |some (.struct fs),some x=>match fs[f]? with
   |some fd=>match P.info? fd.type with
    |some i=>cond (Nat.beq i.size 0) none (some (.offA fd.offset x))
    |none=>none
   |none=>none
  |_,_=>none
 |.field s x f=>match P.underlying s,ak x with
  |some (.struct fs),some x=>match fs[f]? with
   |some fd=>match P.info? fd.type,P.underlying fd.type with
    |some i,some _=>some (.fld fd.offset i.size (au P fd.type) x)
    |_,_=>none
   |none=>none
  |_,_=>none
 |.indexAddr t x i=>match P.underlying t,ak x,ak i with
  |some (.array len e),some x,some i=>match P.info? e with
   |some j=>some (.idxA len j.size x i)
   |none=>none
  |some (.slice e),some x,some i=>match P.info? e with
   |some j=>cond (Nat.blt 0 j.size) (some (.idxL j.size x i)) none
   |none=>none
  |_,_,_=>none
 |.index t x i=>match P.underlying t,ak x,ak i with
  |some (.array len e),some x,some i=>match P.info? e,P.underlying e with
   |some j,some _=>some (.idxV len j.size (au P e) x i)
   |_,_=>none
  |some .string,some x,some i=>some (.idxS x i)
  |_,_,_=>none
 |.binOp op t x y _=>match ak x,ak y with
  |some a,some b=>match op with
   |.eql|.neq=>match jW P t b with
    |some k=>some (.isnil k (aL op) a)
    |none=>match P.underlying t with
    |some (.int _)=>some (.bin op a b)
    |some .string=>some (.bin op a b)
    |some .bool=>some (.eqB (aL op) a b)
    |_=>match shapeOf P 100 t with
     |some sh=>cond (P.eqGuardType P.depth t|| !au P t) none (some (.eqv (aL op) sh a b))
     |none=>none
   |_=>some (.bin op a b)
  |_,_=>none
 |.unOp .not _ x=>(ak x).map .not
 |.unOp .neg _ x=>(ak x).map .neg
 |.unOp .xor _ x=>(ak x).map .cpl
 |.convert s d x=>match P.underlying s,P.underlying d,ak x with
  |some (.int _),some (.int k),some x=>some (.conv k x)
  |some .string,some .string,some x=>some (.prim .strS x)
  |some (.slice e),some .string,some x=>cond (kp P e) (some (.prim .strB x)) none
  |some .string,some (.slice e),some x=>cond (kp P e) (some (.prim .bytS x)) none
  |_,_,_=>none
 |.makeSlice t l c=>match P.underlying t,ak l,ak c with
  |some (.slice e),some l,some c=>match P.info? e,cj P e with
   |some j,some zs=>cond (Nat.blt 0 j.size) (some (.mkslice j.size j.bytes zs l c)) none
   |_,_=>none
  |_,_,_=>none
 |.sliceToArrayPointer t x=>match P.underlying t,ak x with
  |some (.array n _),some x=>some (.arrP n x)
  |_,_=>none
 |.makeFunc fn first caps=>match fn,dM caps.toList with
  |.func f,some cs=>cond (Nat.beq first.size 0) (some (.mkfn f cs)) none
  |_,_=>none
 |.slice t x lo hi none=>match P.underlying t,ak x,cF lo,cF hi with
  |some (.slice e),some x,some lo,some hi=>match P.info? e with
   |some j=>cond (Nat.blt 0 j.size) (some (.slice j.size x lo hi)) none
   |none=>none
  |some .string,some x,some lo,some hi=>some (.sliceS x lo hi)
  |some (.array n e),some x,some lo,some hi=>match P.info? e with
   |some j=>some (.sliceA n j.size x lo hi)
   |none=>none
  |_,_,_,_=>none
 |.slice t x none (some h) (some m)=>match P.underlying t,ak x,ak h,ak m with
  |some (.slice e),some x,some h,some m=>match P.info? e with
   |some j=>cond (Nat.blt 0 j.size) (some (.slice3 j.size x h m)) none
   |none=>none
  |_,_,_,_=>none
 |.build t parts=>match P.underlying t,cj P t with
  |some (.struct fs),some zs=>match aZ (fun i=>match fs[i]? with|some f=>(P.info? f.type).map fun j=>(f.offset,j.size)|none=>none) parts.toList with
   |some ps=>cond ((fs.toList.all fun f=>(P.info? f.type).isSome)&&ps.all fun p=>Nat.ble (p.1+p.2.1) zs.length) (some (.build zs ps)) none
   |none=>none
  |some (.array _ e),some zs=>match P.info? e with
   |some j=>match aZ (fun i=>some (i * j.size,j.size)) parts.toList with
    |some ps=>cond (ps.all fun p=>Nat.ble (p.1+p.2.1) zs.length) (some (.build zs ps)) none
    |none=>none
   |none=>none
  |_,_=>none
 |.buildSlice t n parts=>match P.underlying t with
  |some (.slice e)=>match P.info? e,cj P e,P.underlying e with
   |some j,some zs,some _=>match aZ (fun i=>some (i,0)) parts.toList with
    |some ps=>cond (Nat.ble (n * j.size) 16777216&&Nat.blt 0 j.size&&(au P e||Nat.beq j.size 1)&&ps.all fun p=>Nat.blt p.1 n) (some (.buildS e j.size n zs (ps.map fun p=>(p.1,p.2.2)))) none
    |none=>none
   |_,_,_=>none
  |_=>none
 |.makeMap t r=>match P.underlying t,r with
  |some (.map kt _),none=>match shapeOf P 100 kt with
   |some sh=>some (.mkmap (au P kt) sh)
   |none=>none
  |_,_=>none
 |.lookup t m k ok=>match P.underlying t,ak m,ak k with
  |some (.map kt e),some m,some k=>match shapeOf P 100 kt,zeroV P e with
   |some sh,some z=>some (.mlook (au P kt) sh z ok m k)
   |_,_=>none
  |_,_,_=>none
 |.mapUpdate t m k v=>match P.underlying t,ak m,ak k,ak v with
  |some (.map kt _),some m,some k,some v=>match shapeOf P 100 kt with
   |some sh=>some (.bA (au P kt) sh m k v)
   |none=>none
  |_,_,_,_=>none
 |.insert t m k v=>match P.underlying t,ak m,ak k,ak v with
  |some (.map kt _),some m,some k,some v=>match shapeOf P 100 kt with
   |some sh=>some (.bA (au P kt) sh m k v)
   |none=>none
  |_,_,_,_=>none
 |.range t m=>match P.underlying t,ak m with
  |some (.map _ _),some m=>some (.mrng m)
  |_,_=>none
 |.next x b=>cond b none ((ak x).map .mnext)
 |.entry x=>(ak x).map .ment
 |.extract x i=>(ak x).map fun x=>.ext x i
 |.nilCheck x=>(ak x).map .nilck
 |.panic _=>some .bad
 |.makeInterface _ _=>some .bad
 |.call c=>bG P c
 |_=>none
def fk(X:List FuncId):DOp->DOp
 |.append t e size bytes (.tmp k) x=>cond (X.contains (8000000+k)) (cond (X.contains (9000000+k)) (.appV size bytes (.tmp k) x) (.appT size bytes (.tmp k) x)) (.append t e size bytes (.tmp k) x)
 |.call f args=>cond (X.contains f) (.inl f args) (.call f args)
 |.buildS e size n zs parts=>cond (X.contains 2000000) (.buildT size n zs parts) (.buildS e size n zs parts)
 |o=>o
def pI(X:List FuncId)(k:Nat):List Nat:=X.filterMap fun n=>cond (Nat.beq (n / 1000000) (1000000+k)) (some (n % 1000000)) none
def pJ(X:List FuncId)(k:Nat):List Nat:=X.filterMap fun n=>cond (Nat.beq (n / 1000000) (2000000+k)) (some (n % 1000000)) none
def cX(X:List FuncId)(dst:Option Nat)(x:DOp):DOp:=
 match x,dst with
 |.buildS e size n zs parts,some k=>cond (X.contains (8000000+k)) (.buildF size n zs parts) (fk X (.buildS e size n zs parts))
 |.call f args,some k=>cond (X.contains (3000000+k)) (.fcall f args) (match pI X k with
  |[]=>fk X (.call f args)
  |n::ns=>.mcall (n::ns) f args)
 |.offA 0 x,some k=>match pJ X k with
  |[]=>.offA 0 x
  |n::_=>.nar n x
 |x,_=>fk X x
def okB(N:Nat):Option Nat->Bool
 |some n=>Nat.blt n N
 |none=>true
def jt(P:Program)(N:Nat)(X:List FuncId)(ops:Array Oper)(o:Oper):Option DI:=
 match ah P o.op with
 |some d=>
  let after:=(o.after.toList.filter fun e=>Region.binds .any e).map (·.on)
  let okd:=okB N o.dst
  match o.guard with
  |none=>cond okd (some {dst:=o.dst,op:=cX X o.dst d,guard:=none,after:=after }) none
  |some (j,want)=>match (ops[j]?).bind (·.dst) with
   |some g=>cond (okd&&Nat.blt g N) (some {dst:=o.dst,op:=cX X o.dst d,guard:=some (g,want),after:=after }) none
   |none=>none
 |none=>none
def dj(P:Program)(N:Nat)(X:List FuncId)(ops:Array Oper):List Oper->Option (List DI)
 |[]=>some []
 |o::os=>match jt P N X ops o,dj P N X ops os with
  |some d,some ds=>some (d::ds)
  |_,_=>none
inductive aV where
 |skip
 |region (is:List DI) (ck:List (List Nat))
 |seq (a b:aV)
 |cond (c:O) (a b:aV)
 |block (id:Nat) (b:aV)
 |loop (b:aV)
 |exit (id:Nat)
 |ret
 |sem (N:Nat) (c:Code)
 |cut (b:aV)
 deriving Inhabited
def O.reads:O->List Nat
 |.tmp n=>[n]
 |.const _=>[]
def pL:Option O->List Nat
 |none=>[]
 |some x=>x.reads
def aM:List O->List Nat
 |[]=>[]
 |x::xs=>x.reads++aM xs
def DOp.reads:DOp->List Nat
 |.mov x|.box _ x|.load _ _ x|.offA _ x|.nar _ x|.fld _ _ _ x|.not x|.neg x|.conv _ x|.len x|.lenS x|.ext x _|.nilck x|.clr _ _ x|.mlen x|.mclr x|.mrng x|.mnext x|.ment x|.prim _ x|.arrP _ x|.isnil _ _ x|.cpl x=>x.reads
 |.pick c a b=>c.reads++a.reads++b.reads
 |.alloc _|.mkmap _ _|.bad=>[]
 |.store _ a x|.idxA _ _ a x|.idxL _ a x|.idxV _ _ _ a x|.idxS a x|.bin _ a x|.eqv _ _ a x|.eqB _ a x|.maxI a x|.minI a x|.append _ _ _ _ a x|.mlook _ _ _ _ a x|.cH _ _ a x|.copy a x|.mkslice _ _ _ a x|.appT _ _ a x|.appV _ _ a x=>a.reads++x.reads
 |.bA _ _ a x y|.slice3 _ a x y=>a.reads++x.reads++y.reads
 |.slice _ x lo hi|.sliceS x lo hi|.sliceA _ _ x lo hi=>x.reads++pL lo++pL hi
 |.build _ ps=>aM (ps.map (·.2.2))
 |.buildS _ _ _ _ ps|.buildT _ _ _ ps|.buildF _ _ _ ps=>aM (ps.map (·.2))
 |.mkfn _ xs|.call _ xs|.inl _ xs|.fcall _ xs|.mcall _ _ xs=>aM xs
 |.bV x xs=>x.reads++aM xs
def DI.reads(i:DI):List Nat:=i.op.reads++(match i.guard with|some (g,_)=>[g]|none=>[])
def kr(n:Nat):List Nat->Bool
 |[]=>false
 |m::l=>cond (Nat.beq n m) true (kr n l)
def isD(n:Nat):Option Nat->Bool
 |some m=>Nat.beq n m
 |none=>false
def DI.apart(i j:DI):Bool:=
 (match i.dst with|some d=>cond (kr d j.reads) false (cond (isD d j.dst) false true)|none=>true)&&
 (match j.dst with|some d=>cond (kr d i.reads) false true|none=>true)
inductive Cls where
 |pure|load|look|make|store|fresh|mut|wild
 deriving DecidableEq
def DOp.cls:DOp->Cls
 |.mov _|.pick _ _ _|.offA _ _|.nar _ _|.idxA _ _ _ _|.idxL _ _ _|.fld _ _ _ _|.idxV _ _ _ _ _|.idxS _ _|.bin _ _ _|.eqv _ _ _ _|.eqB _ _ _|.not _|.neg _|.conv _ _|.len _|.lenS _|.maxI _ _|.minI _ _
 |.slice _ _ _ _|.sliceS _ _ _|.sliceA _ _ _ _ _|.build _ _|.buildT _ _ _ _|.mkfn _ _|.ext _ _|.nilck _|.arrP _ _|.slice3 _ _ _ _|.buildF _ _ _ _|.isnil _ _ _|.cpl _=>.pure
 |.load _ _ _|.mlook _ _ _ _ _ _|.mlen _|.prim _ _|.appT _ _ _ _=>.load
 |.call _ _|.bV _ _=>.look
 |.fcall _ _=>.fresh
 |.mcall _ _ _=>.mut
 |.alloc _|.box _ _|.mkmap _ _|.mkslice _ _ _ _ _=>.make
 |.store _ _ _|.bA _ _ _ _ _=>.store
 |_=>.wild
def Cls.std:Cls->Bool
 |.fresh=>false
 |.wild=>false
 |_=>true
def Cls.wr:Cls->Bool
 |.store=>true
 |.mut=>true
 |_=>false
def Cls.rdo:Cls->Bool
 |.pure=>true
 |.load=>true
 |_=>false
def aW:Cls->Cls->Option Bool
 |.wild,_|_,.wild=>none
 |.fresh,.pure|.fresh,.load|.fresh,.make|.pure,.fresh|.load,.fresh|.make,.fresh=>some false
 |.fresh,_|_,.fresh=>none
 |.mut,.pure|.pure,.mut=>some false
 |.mut,.load|.load,.mut=>some true
 |.mut,_|_,.mut=>none
 |.store,.store|.store,.load|.load,.store|.store,.look|.look,.store=>some true
 |_,_=>some false
def DI.indep(i j:DI):Bool:=i.apart j&&(aW i.op.cls j.op.cls).isSome
def has(m k:Nat):Bool:=Nat.beq (Nat.land (Nat.shiftRight m k) 1) 1
def fY(acc:List Nat):List Nat->Nat
 |[]=>0
 |k::ks=>Nat.lor (Nat.lor (Nat.shiftLeft 1 k) (acc[k]?.getD 0)) (fY acc ks)
def cN(acc:List Nat):List DI->List Nat
 |[]=>acc
 |i::rest=>cN (acc++[fY acc i.after]) rest
def fl(m:Nat)(j:DI):Nat->Nat->List DI->Bool
 |_,0,_=>true
 |_,_+1,[]=>true
 |k,c+1,i::is=>cond (cond (has m k) true (i.indep j)) (fl m j (k+1) c is) false
def iM(is:List DI):Nat->List DI->List Nat->Bool
 |n,j::rest,m::ms=>cond (j.after.all fun i=>Nat.blt i n) (cond (fl m j 0 n is) (iM is (n+1) rest ms) false) false
 |_,[],_=>true
 |_,_::_,[]=>false
def ib(is:List DI):Bool:=iM is 0 is (cN [] is)
def isTrue:Option Bool->Bool
 |some true=>true
 |_=>false
def iG(m:Nat)(j:DI):Nat->Nat->List DI->List Nat
 |_,0,_=>[]
 |_,_+1,[]=>[]
 |k,c+1,i::is=>cond (cond (has m k) false (isTrue (aW i.op.cls j.op.cls))) (k::iG m j (k+1) c is) (iG m j (k+1) c is)
def kZ(is:List DI):Nat->List DI->List Nat->List (List Nat)
 |n,j::rest,m::ms=>iG m j 0 n is::kZ is (n+1) rest ms
 |_,_,_=>[]
def eR(is:List DI):List (List Nat):=kZ is 0 is (cN [] is)
def eF(is:List DI):List (List Nat):=cond ((eR is).all (·.isEmpty)) [] (eR is)
def bx1:V->List Nat
 |.ptr n _=>[n]
 |.view n _ _ _=>[n]
 |.mp n=>[n]
 |_=>[]
def bx2:V->List Nat
 |.fn _ caps=>caps.flatMap bx1
 |v=>bx1 v
def bxs:V->List Nat
 |.fn _ caps=>caps.flatMap bx2
 |v=>bx1 v
def DOp.tch(x:DOp)(sl:Nat->V):List Nat:=
 match x with
 |.load _ _ a=>bx1 (ev sl a)
 |.store _ a _=>bx1 (ev sl a)
 |.mlook _ _ _ _ a _=>bx1 (ev sl a)
 |.mlen a=>bx1 (ev sl a)
 |.prim _ a=>bx1 (ev sl a)
 |.appT _ _ _ a=>bx1 (ev sl a)
 |.bA _ _ a _ _=>bx1 (ev sl a)
 |.call _ args=>(args.map (ev sl)).flatMap bx2
 |.fcall _ args=>(args.map (ev sl)).flatMap bx2
 |.mcall ms _ _=>ms
 |.bV x args=>bxs (ev sl x)++(args.map (ev sl)).flatMap bx2
 |_=>[]
def lM(a b:List Nat):Bool:=a.all fun n=> !b.contains n
def chk(l:List Nat)(acc:Nat->List Nat)(t:List Nat):Bool:=l.all fun i=>lM (acc i) t
def eG{α:Type}(k:Nat):List α->List (Nat×α)
 |[]=>[]
 |i::is=>(k,i)::eG (k+1) is
def bL[Glb](P:Program)(ck:List (List Nat))(acc:Nat->List Nat)(l:List (Nat×DI)):St->(St->Prop)->Prop:=
 List.rec (motive:=fun _=>(Nat->List Nat)->St->(St->Prop)->Prop) (fun _ st K=>K st)
  (fun p _ ih acc st K=>chk (ck[p.1]?.getD []) acc (p.2.op.tch st.sl)=true/\wpI P p.2 st fun st'=>ih (upd acc p.1 (p.2.op.tch st.sl)) st' K) l acc
def DI.bare(i:DI):DI:={i with after:=[]}
def cutAt(X:List FuncId)(a:Code)(d:aV):aV:=
 match a with
 |.region id _ _=>cond (X.contains (5000000+id)) (.cut d) d
 |_=>d
def bp(P:Program)(N:Nat)(X:List FuncId):Code->Option aV
 |.skip=>some .skip
 |.region id ops draw=>cond (X.contains (1000000+id)) (some (.sem N (.region id ops draw))) (match dj P N (cond (draw&& !X.contains (7000000+id)) (2000000::X) X) ops ops.toList with
  |some is=>cond (!draw||ib is) (some (cond (X.contains (6000000+id)) (.cut (.region (is.map DI.bare) (cond draw (eF is) []))) (.region (is.map DI.bare) (cond draw (eF is) [])))) none
  |none=>none)
 |.seq a b=>match bp P N X a,bp P N X b with
  |some x,some y=>some (cutAt X a (.seq x y))
  |_,_=>none
 |.cond c a b=>match ak c,bp P N X a,bp P N X b with
  |some z,some x,some y=>some (.cond z x y)
  |_,_,_=>none
 |.block id b=>match bp P N X b with
  |some x=>some (cond (X.contains (4000000+id)) (.cut (.block id x)) (.block id x))
  |none=>none
 |.scope b=>bp P N X b
 |.label _=>some .skip
 |.loop b=>match bp P N X b with
  |some x=>some (.loop x)
  |none=>none
 |.exit id=>some (.exit id)
 |.ret=>some .ret
 |_=>none
def lk{α:Type}(d:α):List (Nat×α)->Nat->α
 |[],_=>d
 |(k,v)::r,n=>cond (Nat.beq n k) v (lk d r n)
structure Wk where
 sl:List (Nat×V)
 bx:List (Nat×BX)
 gh:List (Nat×List (Nat×V)):=[]
 off:Nat:=0
 cx:aa->World->Prop:=fun _ _=>True
def Wk.mk'(s:Wk):St:={sl:=lk .top s.sl,bx:=lk none (s.bx.map fun p=>(p.1,some p.2)),gh:=fun k m=>lk .top (lk [] s.gh k) m,off:=s.off,cx:=s.cx }
inductive LeV (ks:List Nat) (bx:Nat->Option BX):V->V->Prop
 |same (v:V):LeV ks bx v v
 |nil (r:Nat) (e:TypeId) (n:Nat):LeV ks bx (.own r e n []) (.t .nil)
 |data (r:Nat) (e:TypeId) (n:Nat) (xs:List T):LeV ks bx (.t (.slice n xs)) (.own r e n xs)
 |empty (n:Nat):LeV ks bx (.t (.slice n [])) (.t .nil)
 |conv (v:V) (x:T) (rd:List Nat) (h:conv bx v=some (x,rd)) (hk: ∀n∈rd, ¬n∈ks):LeV ks bx (.t x) v
 |top (v:V):LeV ks bx .top v
 |knot (n:Nat) (f:FuncId) (A B:List V) (xa:List T) (ra:List Nat) (xb:List T) (rb:List Nat) (hb:bx n=some (.v [.fn f (A++ .ptr n 0::B)])) (ha:cK bx A=some (xa,ra)) (hbb:cK bx B=some (xb,rb)) (hk: ∀m∈n::(ra++rb), ¬m∈ks):LeV ks bx (.t (.knot f xa xb)) (.ptr n 0)
def iL(ks:List Nat)(bx:Nat->Option BX):List V->List V->Prop
 |[],[]=>True
 |u::us,v::vs=>LeV ks bx u v/\iL ks bx us vs
 |_,_=>False
def me(ks:List Nat)(bx:Nat->Option BX):List (Nat×V)->(Nat->V)->Prop
 |[],_=>True
 |(n,v)::r,sl=>LeV ks bx v (sl n)/\me ks bx r sl
def pE(ks:List Nat)(bx:Nat->Option BX):List (Nat×List (Nat×V))->(Nat->Nat->V)->Prop
 |[],_=>True
 |(k,l)::r,gh=>me ks bx l (gh k)/\pE ks bx r gh
inductive LeB (ks:List Nat) (bx:Nat->Option BX):BX->Option BX->Prop
 |same (b:BX):LeB ks bx b (some b)
 |m (ag:Bool) (sh:List Sh) (es:List (T×T)) (mb:Option (List Nat×Nat)):LeB ks bx (.m ag sh es none) (some (.m ag sh es mb))
 |v (us vs:List V) (h:iL ks bx us vs):LeB ks bx (.v us) (some (.v vs))
 |dv (n:Nat) (us:List V) (ts:List T) (h:iL ks bx us (ts.map .t)):LeB ks bx (.v us) (some (.d n ts))
def pD(ks:List Nat)(bx:Nat->Option BX):List (Nat×BX)->Prop
 |[]=>True
 |(n,b)::r=>LeB ks bx b (bx n)/\pD ks bx r
def gI(ks:List Nat):V->Bool
 |.ptr n _=>ks.contains n
 |.view n _ _ _=>ks.contains n
 |.mp n=>ks.contains n
 |.fn _ caps=>go caps
 |.tup vs=>go vs
 |.agv vs=>go vs
 |_=>true
where go:List V->Bool
 |[]=>true
 |v::vs=>gI ks v&&go vs
def lY(ks:List Nat):BX->Bool
 |.d _ _=>true
 |.v vs=>vs.all (gI ks)
 |.m _ _ _ _=>true
 |.it m _ _ _=>ks.contains m
 |.itd _ _=>true
def Wk.keys(s:Wk):List Nat:=s.bx.map (·.1)
def Wk.closed(s:Wk):Bool:=
 (s.sl.all fun p=>gI s.keys p.2)&&(s.bx.all fun p=>lY s.keys p.2)&&(s.gh.all fun p=>p.2.all fun q=>gI s.keys q.2)
def bQ(s:Wk)(st:St):Prop:=me s.keys st.bx s.sl st.sl/\pD s.keys st.bx s.bx/\pE s.keys st.bx s.gh st.gh/\s.off=st.off/\(∀ S0 w0,st.cx S0 w0->s.cx S0 w0)/\s.closed=true
inductive aG where
 |normal
 |exit (id:Nat)
 |ret
def bS[Glb](N:Nat)(w0:World)(S0:aa)(ds:List Deferred)(K:St->Prop)(a':Act)(w':World):Prop:= ∃(E':Env) (st':St),E'.w=w'/\SR N w0 S0 E' st' a'.tmps/\a'.defers=ds/\K st'
def bk[Glb](N:Nat)(w0:World)(S0:aa)(ds:List Deferred)(K:aG->St->Prop):Exit->Act->World->Prop
 |.normal,a,w=>bS N w0 S0 ds (K .normal) a w
 |.exit id,a,w=>bS N w0 S0 ds (K (.exit id)) a w
 |.ret,a,w=>bS N w0 S0 ds (K .ret) a w
 |_,_,_=>False
def se[Glb](P:Program)(N:Nat)(c:Code)(st:St)(Q:aG->St->Prop):Prop:=
 ∀(w0:World) (S0:aa) (E:Env) (a:Act),SR N w0 S0 E st a.tmps->c.wp P (bk N w0 S0 a.defers Q) a E.w
abbrev PT:=St->(aG->St->Prop)->Prop
def jC(Q:aG->St->Prop)(e:aG)(st:St):Prop:=Q e st\/ ∃s,bQ s st/\Q e s.mk'
def qu(I:Nat->Wk->Prop)(n:Nat)(Q:aG->St->Prop):aG->St->Prop
 |.normal,st'=> ∃m s',m<n/\bQ s' st'/\I m s'
 |.exit id,st'=>jC Q (.exit id) st'
 |.ret,st'=>Q .ret st'
def ez(F:PT)(st:St)(Q:aG->St->Prop):Prop:=
 ∃(I:Nat->Wk->Prop) (n:Nat) (s:Wk),bQ s st/\I n s/\ ∀n s,I n s-> ∃R,F s.mk' R/\ ∀e st',R e st'->qu I n Q e st'
def gm(F:PT)(st:St)(Q:aG->St->Prop):Prop:= ∃R,F st R/\ ∀e st',R e st'->jC Q e st'
def sJ[Glb](P:Program)(is:List DI)(ck:List (List Nat)):PT:=
 match ck with
 |[]=>fun st Q=>cR P is st (Q .normal)
 |p::ck=>fun st Q=>bL P (p::ck) (fun _=>[]) (eG 0 is) st (Q .normal)
def sK(A B:PT):PT:=fun st Q=>A st fun e st'=>match e with
 |.normal=>B st' Q
 |.exit id=>Q (.exit id) st'
 |.ret=>Q .ret st'
def jK(c:O)(A B:PT):PT:=fun st Q=>match ev st.sl c with
 |.t (.bool true)=>A st Q
 |.t (.bool false)=>B st Q
 |_=>False
def qW(id:Nat)(A:PT):PT:=fun st Q=>A st fun e st'=>match e with
 |.normal=>Q .normal st'
 |.exit k=>cond (Nat.beq k id) (Q .normal st') (Q (.exit k) st')
 |.ret=>Q .ret st'
def wpC[Glb](P:Program)(d:aV):PT:=
 aV.rec (motive:=fun _=>PT) (fun st Q=>Q .normal st) (fun is ck=>sJ P is ck) (fun _ _ A B=>sK A B) (fun c _ _ A B=>jK c A B) (fun id _ A=>qW id A)
  (fun _ A=>ez A) (fun id st Q=>Q (.exit id) st) (fun st Q=>Q .ret st) (fun N c st Q=>se P N c st Q) (fun _ A=>gm A) d
def fX(args:List T):St:={sl:=fun m=>match args[m]? with|some t=>.t t|none=>.top,bx:=fun _=>none }
def lH(bx:Nat->Option BX)(n:Nat):List V->Option (List V×Nat×List V)
 |[]=>none
 |v::vs=>match (match v with
   |.ptr k 0=>match bx k with
    |some (.v [.ptr m 0])=>cond (Nat.beq m n) (some k) none
    |_=>none
   |_=>none) with
  |some k=>some ([],k,vs)
  |none=>match lH bx n vs with
   |some (a,k,b)=>some (v::a,k,b)
   |none=>none
def qk(bx:Nat->Option BX)(n off:Nat):Option (T×List Nat):=
 match bx n with
 |some (.v [.fn f1 c1,.fn f2 c2])=>match lH bx n c1,lH bx n c2 with
  |some (a1,k1,b1),some (a2,k2,b2)=>match cK bx a1,cK bx b1,cK bx a2,cK bx b2 with
   |some (x1,r1),some (y1,s1),some (x2,r2),some (y2,s2)=>cond (Nat.beq k1 k2) (some (.wrld f1 x1 y1 f2 x2 y2 off,n::k1::(r1++s1++r2++s2))) none
   |_,_,_,_=>none
  |_,_=>none
 |_=>none
def nA(bx:Nat->Option BX)(v:V):Option (T×List Nat):=
 match v with
 |.ptr n off=>match qk bx n off with
  |some r=>some r
  |none=>conv bx (.ptr n off)
 |v=>conv bx v
def iz(sizes:TypeId->Option (Nat×Bool))(st:St):List ResultVar->List T->Prop
 |[],[]=>True
 |.tmp t::rs,x::xs=>(nA st.bx (st.sl t)).map (·.1)=some x/\iz sizes st rs xs
 |.cell a ty::rs,x::xs=>(match st.sl a,sizes ty with
  |.ptr b off,some (n,agg)=>match st.bx b with
   |some cs=>match eM b cs off n agg with
    |.yes e=>asT e.val=some x
    |.eq c t _=>c/\t=x
    |_=>False
   |none=>False
  |_,_=>False)/\iz sizes st rs xs
 |_,_=>False
def nq(sizes:TypeId->Option (Nat×Bool))(rs:List ResultVar)(r:List T):aG->St->Prop
 |.normal,st=>iz sizes st rs r
 |.ret,st=>iz sizes st rs r
 |.exit _,_=>False
theorem sM{F:PT}{st:St}{Q:aG->St->Prop}{α:Type}(S:α->Wk)(inv:α->Prop)(μ:α->Nat)(a0:α)(h0:inv a0)(hw:bQ (S a0) st)
  (h: ∀a,inv a->F (S a).mk' fun e st'=>match e with
   |.normal=> ∃a',inv a'/\μ a'<μ a/\bQ (S a') st'
   |.exit id=>Q (.exit id) st'
   |.ret=>Q .ret st'):ez F st Q:=by
 refine ⟨fun n s=> ∃a,inv a/\μ a=n/\s=S a,μ a0,S a0,hw,⟨a0,h0,rfl,rfl⟩,?_⟩;rintro n s ⟨a,ha,rfl,rfl⟩;refine ⟨_,h a ha,fun e st' he=>?_⟩;cases e with
 |normal=>
  obtain ⟨a',h1,h2,h3⟩:=he;exact ⟨μ a',S a',h2,h3,a',h1,rfl,rfl⟩
 |exit id=>exact .inl he
 |ret=>exact he
theorem sa{F:PT}{st:St}{Q:aG->St->Prop}{α β:Type}(id:Nat)(S:α->Wk)(inv:α->Prop)(μ:α->Nat)(SE:β->Wk)(invE:β->Prop)(a0:α)(h0:inv a0)(hw:bQ (S a0) st)
  (h: ∀a,inv a->F (S a).mk' fun e st'=>match e with
   |.normal=> ∃a',inv a'/\μ a'<μ a/\bQ (S a') st'
   |.exit k=>cond (Nat.beq k id) (∃ x,invE x/\bQ (SE x) st') (Q (.exit k) st')
   |.ret=>Q .ret st') (hE: ∀x,invE x->Q (.exit id) (SE x).mk'):ez F st Q:=by
 refine ⟨fun n s=> ∃a,inv a/\μ a=n/\s=S a,μ a0,S a0,hw,⟨a0,h0,rfl,rfl⟩,?_⟩;rintro n s ⟨a,ha,rfl,rfl⟩;refine ⟨_,h a ha,fun e st' he=>?_⟩;cases e with
 |normal=>
  obtain ⟨a',h1,h2,h3⟩:=he;exact ⟨μ a',S a',h2,h3,a',h1,rfl,rfl⟩
 |exit k=>
  revert he
  show (bif Nat.beq k id then (∃ x,invE x/\bQ (SE x) st') else Q (.exit k) st')->_
  cases hk:Nat.beq k id with
  |true=>
   rintro ⟨x,h1,h2⟩;obtain rfl:=Nat.eq_of_beq_eq_true hk;exact .inr ⟨_,h2,hE x h1⟩
  |false=>exact .inl
 |ret=>exact he
theorem sO{F:PT}{st:St}{Q:aG->St->Prop}{β:Type}(SE:β->Wk)(invE:β->Prop)
  (h:F st fun e st'=>match e with
   |.normal=> ∃x,invE x/\bQ (SE x) st'
   |.exit k=>Q (.exit k) st'
   |.ret=>Q .ret st') (hE: ∀x,invE x->Q .normal (SE x).mk'):gm F st Q:=by
 refine ⟨_,h,fun e s he=>?_⟩;cases e with
 |normal=>
  obtain ⟨x,h1,h2⟩:=he;exact .inr ⟨_,h2,hE x h1⟩
 |exit k=>exact .inl he
 |ret=>exact .inl he
attribute [irreducible] ez gm
end Go.DL
end
section
namespace Go.DL
open Go.RowKit
section
variable [Glb]
structure Grow (E E':Env):Prop where
 B:E'.B=E.B
 κ: ∀n,E.live n=true->E'.live n=true/\E'.κ n=E.κ n
 ρ: ∀r g,E.ρ r=some g->E'.ρ r=some g/\E'.w.heap[g]? =E.w.heap[g]? /\ ∀o,E'.S g o↔E.S g o
 S: ∀b o,E.S b o->E'.S b o
 cell: ∀b o,E.S b o->aB E.w E'.w b o
end
section
theorem Grow.rep{E E':Env}(h:Grow E E'){v:Value}{t:T}(r:Rep E.S E.w v t):Rep E'.S E'.w v t:=r.mono h.S h.cell
theorem fm{w w':World}{base:Nat}{e:TypeId}{size:Nat}{v:Value}{n:Nat}{xs:List Value}(h:w.ownsRow base e size v n xs)
  (hh: ∀g,v.ownBlock=some g->w'.heap[g]? =w.heap[g]?):w'.ownsRow base e size v n xs:=by
 refine ⟨h.1,?_⟩;rcases h.2 with hn|⟨g,cap,cur,rfl,hb,hg,rest⟩
 ·exact .inl hn
 ·exact .inr ⟨g,cap,cur,rfl,hb,(hh g rfl).trans hg,rest⟩
theorem bN.grow{E E':Env}(g:Grow E E'){v:Value}{r:Nat}{e:TypeId}{size:Nat}{xs:List T}(h:bN E v r e size xs):bN E' v r e size xs:=by
 obtain ⟨cells,h1,h2,h3⟩:=h.ex;refine ⟨⟨cells,?_,h2,fun i x t hx ht=>g.rep (h3 i x t hx ht)⟩,h.uni,h.one,fun b hb=>?_⟩
 ·rw [g.B];exact fm h1 fun b hb=>(g.ρ r b (h.row b hb).1).2.1
 ·obtain ⟨k1,k2⟩:=h.row b hb;obtain ⟨l1,_,l3⟩:=g.ρ r b k1;exact ⟨l1,fun o=>(l3 o).trans (k2 o)⟩
theorem VR.grow{E E':Env}(g:Grow E E'){v:Value}{u:V}(h:VR E v u):VR E' v u:=by
 induction h with
 |top v=>exact .top v
 |t v x h=>exact .t v x (g.rep h)
 |ptr n off hl=>obtain ⟨h1,h2⟩:=g.κ n hl;rw [<- h2];exact .ptr n off h1
 |view n off len size cap hl hc=>obtain ⟨h1,h2⟩:=g.κ n hl;rw [<- h2];exact .view n off len size cap h1 hc
 |own v r e size xs h=>exact .own v r e size xs (h.grow g)
 |full a len size xs h=>exact .full a len size xs (g.rep h)
 |fn f cs vs hs _ ih=>exact .fn f cs vs hs ih
 |tup cs vs hs _ ih=>exact .tup cs vs hs ih
 |agv cs vs hs h1 _ ih=>exact .agv cs vs hs h1 ih
 |raw v h1=>exact .raw v h1
 |mp n hl=>obtain ⟨h1,h2⟩:=g.κ n hl;rw [<- h2];exact .mp n h1
theorem cD.grow{E E':Env}(g:Grow E E'){cs:Array Value}{b:BX}(h:cD E cs b):cD E' cs b:=by
 cases h with
 |d n ts hl hs h=>exact .d n ts hl hs fun i x t hx ht=>⟨g.rep (h i x t hx ht).1,(h i x t hx ht).2⟩
 |v vs hs h=>exact .v vs hs fun i x u hx hu=>⟨(h i x u hx hu).1.grow g,(h i x u hx hu).2⟩
theorem bI.grow{E E':Env}(g:Grow E E'){arr:Array MapEntry}{clock:Nat}{ag:Bool}{sh:List Sh}{es:List (T×T)}{mb:Option (List Nat×Nat)}(h:bI E arr clock ag sh es mb):bI E' arr clock ag sh es mb:=
 ⟨h.size,fun i x e hx he=>⟨g.rep (h.at_ i x e hx he).1,g.rep (h.at_ i x e hx he).2.1,(h.at_ i x e hx he).2.2⟩,h.lt,h.apart,h.mb⟩
theorem bM.grow{E E':Env}(g:Grow E E'){o:Obj}{b:BX}(h:bM E o b):bM E' o b:=by
 cases h with
 |cells cs e b h=>exact .cells cs e b (h.grow g)
 |map arr clock ag sh es mb h=>exact .map arr clock ag sh es mb (h.grow g)
 |itd k arr c ag sh es ix hg hS hR=>exact .itd k arr c ag sh es ix ((g.cell _ _ hS).map _ _ hg) (g.S _ _ hS) (hR.grow g)
 |it m bs c ix hl=>obtain ⟨h1,h2⟩:=g.κ m hl;rw [<- h2];exact .it m bs c ix h1
theorem bD.grow{E E':Env}(g:Grow E E'){k:Nat}{b:BX}(h:bD E k b)(hh:E'.w.heap[k]? =E.w.heap[k]?)(hf: ∀o, ¬E'.S k o):bD E' k b:=by
 obtain ⟨o,h1,h2⟩:=h.at_;exact ⟨by rw [g.B];exact h.old,hf,o,hh.trans h1,h2.grow g⟩
end
section
variable [Glb]
theorem bo.up{S S':ar}{w w':World}(h:bo S w)(hS: ∀b o,S b o->S' b o)(hb:Below w.heap.size w w'):bo S' w':=fun g cs hg=>by
 obtain ⟨h1,v,h2⟩:=h g cs hg;refine ⟨Nat.lt_of_lt_of_le h1 hb.size,v,fun i t ht=>?_⟩;obtain ⟨k1,k2,k3,k4,k5⟩:=h2 i t ht;exact ⟨(aB.dw hb h1).cell.trans k1,hS _ _ k2,k3,k4,k5.of_flat k4⟩
theorem bo.rep{S:ar}{w:World}(h:bo S w){g:Nat}{cs:List T}(hg:Glb.gs g=some cs)(off:Nat):Rep S w (.pointer (some ⟨g,off,none⟩)) (.cptr cs off):=by
 obtain ⟨_,v,h2⟩:=h g cs hg;have get: ∀i,i<cs.length->cs[i]? =some cs[i]! :=fun i hi=>by simp [hi]
 have:=Rep.cptr (S:=S) (w:=w) g 0 off cs v (fun t ht=>by
   obtain ⟨i,hi⟩:=List.mem_iff_getElem?.1 ht;exact (h2 i t hi).2.2.1)
  (fun i hi=>by
   obtain ⟨k1,k2,_⟩:=h2 i _ (ggZ hi);rw [Nat.zero_add];exact ⟨k1,k2⟩)
  (fun i t ht=>(h2 i t ht).2.2.2.2.of_flat (h2 i t ht).2.2.2.1)
 rwa [Nat.zero_add] at this
theorem SR.iJ{N:Nat}{w0:World}{S0:aa}{E:Env}{st:St}{a:Array Value}(h:SR N w0 S0 E st a):bo E.S E.w:=h.glob.up h.s0 h.below
end
section
theorem jm{a:Array Value}{d m:Nat}{v:Value}(hd:d<a.size):(a.setIfInBounds d v).getD m undef=if m=d then v else a.getD m undef:=by
 by_cases h:m=d
 ·subst h;simp [hd]
 ·have: ¬d=m:=fun e=>h e.symm
  simp [h,this]
end
section
variable [Glb]
theorem SR.put{N:Nat}{w0:World}{S0:aa}{E:Env}{st:St}{a:Array Value}(h:SR N w0 S0 E st a){d:Nat}(hd:d<N){v:Value}{u:V}(hv:VR E v u):
  SR N w0 S0 E (st.set (some d) u) (a.setIfInBounds d v):=by
 refine {h with size:=by simp [h.size],sl:=fun m=>?_ };rw [jm (by rw [h.size];exact hd)]
 by_cases hm:m=d
 ·subst hm;rw [if_pos rfl];show VR E v (upd st.sl m u m)
  rw [aj];exact hv
 ·rw [if_neg hm];show VR E _ (upd st.sl d u m)
  rw [ae _ _ _ _ hm];exact h.sl m
def ay(N:Nat):Option Nat->Prop
 |some d=>d<N
 |none=>True
theorem SR.cJ{N:Nat}{w0:World}{S0:aa}{E:Env}{st:St}{a:Act}(h:SR N w0 S0 E st a.tmps){d:Option Nat}(hd:ay N d){v:Value}{u:V}(hv:VR E v u):
  SR N w0 S0 E (st.set d u) (a.put d v).tmps:=by
 cases d with
 |none=>exact h
 |some d=>exact h.put hd hv
theorem SR.world{N:Nat}{w0:World}{S0:aa}{E:Env}{st:St}{a:Array Value}(h:SR N w0 S0 E st a){w':World}(hb:Below E.w.heap.size E.w w')
  (S':ar) (hS: ∀b o,S' b o↔E.S b o\/(S' b o/\E.w.heap.size<=b/\b<w'.heap.size)):SR N w0 S0 {E with w:=w',S:=S' } st a:=by
 have keep: ∀b o,b<E.w.heap.size->(S' b o↔E.S b o):=fun b o hlt=>by
  rw [hS];constructor
  ·rintro (h|⟨_,h,_⟩)
   ·exact h
   ·omega
  ·exact .inl
 have g:Grow E {E with w:=w',S:=S' }:=⟨rfl,fun _ hl=>⟨hl,rfl⟩,fun r g hr=>⟨hr,hb.block g (h.rows r g hr).2.1,fun o=>keep g o (h.rows r g hr).2.1⟩,fun b o hs=>(hS b o).2 (.inl hs),
  fun b o hs=>aB.dw hb (h.lt b o hs)⟩
 refine ⟨h.size,h.base,h.glob,fun m=>(h.sl m).grow g,fun k m=>(h.gh k m).grow g,fun n b hn=>?_,h.live,h.inj,fun r k hr=>?_,h.rinj,fun b o hs=>?_,?_,fun b o hs=>(hS b o).2 (.inl (h.s0 b o hs)),fun b o hs=>?_,fun k o hk=>⟨(h.obj k o hk).1,(hb.block k (Array.getElem?_eq_some_iff.1 (h.obj k o hk).2).1).trans (h.obj k o hk).2⟩,h.cx⟩
 ·have hB:=h.bx n b hn;have hlt:E.κ n<E.w.heap.size:=by
   exact hB.lt
  exact hB.grow g (hb.block _ hlt) (fun o=>fun hs=>hB.free o ((keep _ o hlt).1 hs))
 ·obtain ⟨h1,h2,h3⟩:=h.rows r k hr;exact ⟨h1,Nat.lt_of_lt_of_le h2 hb.size,h3⟩
 ·rcases (hS b o).1 hs with h1|⟨_,_,h1⟩
  ·exact Nat.lt_of_lt_of_le (h.lt b o h1) hb.size
  ·exact h1
 ·exact h.below.trans (hb.mono h.below.size)
 ·rcases (hS b o).1 hs with h1|⟨_,h1,_⟩
  ·exact h.s1 b o h1
  ·exact .inr (Nat.le_trans h.below.size h1)
theorem SR.drew{N:Nat}{w0:World}{S0:aa}{E:Env}{st:St}{a:Array Value}(h:SR N w0 S0 E st a):SR N w0 S0 {E with w:=E.w.drew } st a:=
 h.world (w':=E.w.drew) ((Below.refl _ _).drew) E.S (fun _ _=>⟨.inl,fun hh=>hh.elim id fun k=>k.1⟩)
theorem SR.alloc{N:Nat}{w0:World}{S0:aa}{E:Env}{st:St}{a:Array Value}(h:SR N w0 S0 E st a){n:Nat}(hn:st.bx n=none)(cs:Array Value)(e:TypeId)(b:BX)(hc:cD E cs b)
  {d:Nat} (hd:d<N) (off:Nat):
  SR N w0 S0 {E with w:=E.w.alloc (.cells cs e),κ:=upd E.κ n E.w.heap.size,live:=upd E.live n true } {st with sl:=upd st.sl d (.ptr n off),bx:=upd st.bx n (some b)}
   (a.setIfInBounds d (.pointer (some ⟨E.w.heap.size,off,none⟩))):=by
 have jQ:E.live n=false:=by rw [h.live,hn];rfl
 have ne: ∀m,E.live m=true->m≠n:=fun m hm e=>by rw [e,jQ] at hm;cases hm
 have hkl: ∀m,E.live m=true->E.κ m<E.w.heap.size:=fun m hm=>by
  rw [h.live] at hm;obtain ⟨b',hb'⟩:=Option.isSome_iff_exists.1 hm;exact (h.bx m b' hb').lt
 have hb:Below E.w.heap.size E.w (E.w.alloc (.cells cs e)):=(Below.refl _ _).alloc (Nat.le_refl _) _;have g:Grow E {E with w:=E.w.alloc (.cells cs e),κ:=upd E.κ n E.w.heap.size,live:=upd E.live n true }:=
  ⟨rfl,fun m hm=>⟨by show upd E.live n true m=true;rw [ae _ _ _ _ (ne m hm)];exact hm,ae _ _ _ _ (ne m hm)⟩,
   fun r k hr=>⟨hr,hb.block k (h.rows r k hr).2.1,fun _=>Iff.rfl⟩,fun _ _ hs=>hs,fun b o hs=>aB.dw hb (h.lt b o hs)⟩
 refine ⟨by simp [h.size],h.base,h.glob,fun m=>?_,fun k m=>(h.gh k m).grow g,fun m b' hm=>?_,fun m=>?_,fun m m' hm hm' he=>?_,fun r k hr=>?_,h.rinj,fun b o hs=>?_,?_,h.s0,h.s1,fun k o hk=>⟨(h.obj k o hk).1,(hb.block k (Array.getElem?_eq_some_iff.1 (h.obj k o hk).2).1).trans (h.obj k o hk).2⟩,h.cx⟩
 ·rw [jm (by rw [h.size];exact hd)]
  by_cases hm:m=d
  ·subst hm;rw [if_pos rfl];show VR _ _ (upd st.sl m _ m)
   rw [aj]
   have:=VR.ptr (E:={E with w:=E.w.alloc (.cells cs e),κ:=upd E.κ n E.w.heap.size,live:=upd E.live n true }) n off (by show upd E.live n true n=true;exact aj _ _ _)
   have hk:upd E.κ n E.w.heap.size n=E.w.heap.size:=aj _ _ _;simp only [hk] at this;exact this
  ·rw [if_neg hm];show VR _ _ (upd st.sl d _ m)
   rw [ae _ _ _ _ hm];exact (h.sl m).grow g
 ·by_cases hmn:m=n
  ·subst hmn;have hb':b=b':=by
    have:upd st.bx m (some b) m=some b':=hm
    rw [aj] at this;exact Option.some.inj this
   subst hb';show bD _ (upd E.κ m E.w.heap.size m) b
   rw [aj];refine ⟨by rw [g.B,h.base];exact h.below.size,fun o hs=>absurd (h.lt _ o hs) (Nat.lt_irrefl _),_,heap_alloc_new _ _,.cells cs e b (hc.grow g)⟩
  ·have hm':st.bx m=some b':=by
    have:upd st.bx n (some b) m=some b':=hm
    rwa [ae _ _ _ _ hmn] at this
   show bD _ (upd E.κ n E.w.heap.size m) b'
   rw [ae _ _ _ _ hmn];have hB:=h.bx m b' hm';exact hB.grow g (hb.block _ (hkl m (by rw [h.live,hm'];rfl))) hB.free
 ·show upd E.live n true m=(upd st.bx n (some b) m).isSome
  by_cases hmn:m=n
  ·subst hmn;rw [aj,aj];rfl
  ·rw [ae _ _ _ _ hmn,ae _ _ _ _ hmn];exact h.live m
 ·have hm:upd E.live n true m=true:=hm;have hm':upd E.live n true m'=true:=hm';have he:upd E.κ n E.w.heap.size m=upd E.κ n E.w.heap.size m':=he
  by_cases h1:m=n <;> by_cases h2:m'=n
  ·rw [h1,h2]
  ·subst h1;rw [ae _ _ _ _ h2] at hm';rw [aj,ae _ _ _ _ h2] at he;exact absurd (hkl m' hm') (by omega)
  ·subst h2;rw [ae _ _ _ _ h1] at hm;rw [aj,ae _ _ _ _ h1] at he;exact absurd (hkl m hm) (by omega)
  ·rw [ae _ _ _ _ h1] at hm he;rw [ae _ _ _ _ h2] at hm' he;exact h.inj m m' hm hm' he
 ·obtain ⟨h1,h2,h3⟩:=h.rows r k hr;refine ⟨h1,by simp;omega,fun m hm=>?_⟩;have hm:upd E.live n true m=true:=hm;show upd E.κ n E.w.heap.size m≠k
  by_cases hmn:m=n
  ·subst hmn;rw [aj];omega
  ·rw [ae _ _ _ _ hmn] at hm ⊢;exact h3 m hm
 ·have:=h.lt b o hs
  simp;omega
 ·exact h.below.trans (hb.mono h.below.size)
theorem SR.write{N:Nat}{w0:World}{S0:aa}{E:Env}{st:St}{a:Array Value}(h:SR N w0 S0 E st a){n:Nat}{b:BX}(hn:st.bx n=some b)(hM:b.isM=false)(cs:Array Value)(b':BX)
  (hc: ∀E':Env,Grow E E'->cD E' cs b'):
  SR N w0 S0 {E with w:=E.w.setRow (E.κ n) cs } {st with bx:=upd st.bx n (some b')} a:=by
 have hB:=h.bx n b hn;obtain ⟨cs0,e0,h0,_⟩:=hB.cells hM;have hl:E.live n=true:=by rw [h.live,hn];rfl
 have hlt:E.κ n<E.w.heap.size:=(Array.getElem?_eq_some_iff.1 h0).1;have other: ∀k,k≠E.κ n->(E.w.setRow (E.κ n) cs).heap[k]? =E.w.heap[k]? :=fun k hk=>setRow_other _ _ _ _ hk
 have g:Grow E {E with w:=E.w.setRow (E.κ n) cs }:=⟨rfl,fun _ h=>⟨h,rfl⟩,fun r k hr=>⟨hr,other k (fun e=>(h.rows r k hr).2.2 n hl e.symm),fun _=>Iff.rfl⟩,fun _ _ hs=>hs,
  fun b o hs=>aB.dz (other b (fun e=>hB.free o (e▸hs)))⟩
 have hsz:(E.w.setRow (E.κ n) cs).heap.size=E.w.heap.size:=by simp
 refine ⟨h.size,h.base,h.glob,fun m=>(h.sl m).grow g,fun k m=>(h.gh k m).grow g,fun m b1 hm=>?_,fun m=>?_,h.inj,fun r k hr=>?_,h.rinj,fun b o hs=>?_,?_,h.s0,h.s1,fun k o hk=>⟨(h.obj k o hk).1,(other k fun e=>by have h1:=(h.obj k o hk);rw [e,h0] at h1;have h2:=h1.2;cases h2;cases h1.1).trans (h.obj k o hk).2⟩,h.cx⟩
 ·by_cases hmn:m=n
  ·subst hmn;have hb':b'=b1:=by
    have:upd st.bx m (some b') m=some b1:=hm
    rw [aj] at this;exact Option.some.inj this
   subst hb';exact ⟨hB.old,hB.free,_,setRow_heap _ _ _ _ _ _ h0,.cells cs e0 _ (hc _ g)⟩
  ·have hm':st.bx m=some b1:=by
    have:upd st.bx n (some b') m=some b1:=hm
    rwa [ae _ _ _ _ hmn] at this
   have hB1:=h.bx m b1 hm';exact hB1.grow g (other _ (fun e=>hmn (h.inj m n (by rw [h.live,hm'];rfl) hl e))) hB1.free
 ·show E.live m=(upd st.bx n (some b') m).isSome
  by_cases hmn:m=n
  ·subst hmn;rw [aj];exact hl
  ·rw [ae _ _ _ _ hmn];exact h.live m
 ·obtain ⟨h1,h2,h3⟩:=h.rows r k hr;exact ⟨h1,by rw [hsz];exact h2,h3⟩
 ·rw [hsz];exact h.lt b o hs
 ·refine h.below.trans (.of rfl rfl rfl (by rw [hsz];exact Nat.le_refl _) (fun k hk=>other k ?_) (Nat.le_refl _))
  have:=hB.old
  rw [h.base] at this;omega
end
end Go.DL
end
section
namespace Go.DL
open Go.RowKit
section
variable [Glb]{P:Program}
end
section
variable {P:Program}
theorem fD{S:ar}{w:World}{v:Value}{t:T}(h:dP v=some t):Rep S w v t/\t.one=true:=by
 unfold dP at h;split at h <;> first|(cases h;refine ⟨?_,rfl⟩;constructor)|cases h
theorem gL{α β:Type}(f:α->Option β): ∀(l:List α) (r:List β),l.mapM f=some r->l.length=r.length/\ ∀(i:Nat) (x:α) (y:β),l[i]? =some x->r[i]? =some y->f x=some y
 |[],r,h=>by simp at h;subst h;exact ⟨rfl,fun i x y hx=>by simp at hx⟩
 |a::l,r,h=>by
  rw [List.mapM_cons] at h;simp only [Option.bind_eq_bind,Option.bind_eq_some_iff] at h;obtain ⟨b,hb,r',hr',h⟩:=h;simp at h;subst h;obtain ⟨h1,h2⟩:=gL f l r' hr';refine ⟨by simp [h1],fun i x y hx hy=>?_⟩;cases i with
  |zero=>simp at hx hy;subst hx;subst hy;exact hb
  |succ i=>simp at hx hy;exact h2 i x y hx hy
theorem gp{S:ar}{w:World}{v:Value}{t:T}(h:eA v=some t):Rep S w v t:=by
 unfold eA at h;split at h
 ·rename_i cs;cases hm:cs.toList.mapM dP with
  |none=>rw [hm] at h;cases h
  |some ts=>
   rw [hm] at h;simp at h;subst h;obtain ⟨h1,h2⟩:=gL _ _ _ hm;refine .agg cs ts (by simpa using h1) (fun t ht=>?_) (fun i x t hx ht=>(fD (h2 i x t (by simpa using hx) ht)).1);obtain ⟨i,hi⟩:=List.mem_iff_getElem?.1 ht;have hlt:i<cs.toList.length:=by rw [h1];exact (gsZ hi).1
   exact (fD (S:=S) (w:=w) (h2 i _ t (ggZ hlt) hi)).2
 ·exact (fD h).1
theorem af{E:Env}{st:St}{a:Act}(hs: ∀m,VR E (a.tmps.getD m undef) (st.sl m)){x:Operand}{y:O}(h:ak x=some y):VR E (a.eval x) (ev st.sl y):=by
 cases x with
 |tmp t=>simp [ak] at h;subst h;exact hs t
 |const v=>
  simp only [ak,Option.map_eq_some_iff] at h;obtain ⟨t,ht,rfl⟩:=h;exact .t _ _ (gp ht)
 |global g=>cases h;exact .t _ _ (.glob g 0)
 |func f=>
  simp [ak] at h;subst h;exact .t _ _ (.clos f #[] [] rfl (fun i x t hx=>by simp at hx))
end
section
variable [Glb]{P:Program}
section inv
variable {E:Env}{v:Value}
end inv
end
section
variable {P:Program}
variable {E:Env}{v:Value}
theorem VR.ax{x:T}(h:VR E v (.t x)):Rep E.S E.w v x:=by cases h;assumption
theorem VR.eC{n:Nat}(h:VR E v (.mp n)):v= .map (some (E.κ n))/\E.live n=true:=by cases h;exact ⟨rfl,by assumption⟩
theorem VR.bd{n off:Nat}(h:VR E v (.ptr n off)):v= .pointer (some ⟨E.κ n,off,none⟩)/\E.live n=true:=by cases h;exact ⟨rfl,by assumption⟩
theorem VR.bJ{n off len size:Nat}(h:VR E v (.view n off len size)): ∃cap,v= .slice (some ⟨E.κ n,off,none⟩) len cap/\len<=cap/\E.live n=true:=by
 cases h;exact ⟨_,rfl,by assumption,by assumption⟩
theorem Rep.aA{S:ar}{w:World}{k:IntKind}{n:Int}(h:Rep S w v (.int k n)):v= .int k n:=by cases h;rfl
theorem Rep.aO{S:ar}{w:World}{b:Bool}(h:Rep S w v (.bool b)):v= .bool b:=by cases h;rfl
theorem Rep.bf{S:ar}{w:World}{s:ByteArray}(h:Rep S w v (.str s)):v= .string s:=by cases h;rfl
theorem VR.aA{k:IntKind}{n:Int}(h:VR E v (.t (.int k n))):v= .int k n:=h.ax.aA
theorem VR.aO{b:Bool}(h:VR E v (.t (.bool b))):v= .bool b:=h.ax.aO
theorem VR.bf{s:ByteArray}(h:VR E v (.t (.str s))):v= .string s:=h.ax.bf
theorem bN.rep{r:Nat}{e:TypeId}{size:Nat}{xs:List T}(h:bN E v r e size xs):Rep E.S E.w v (.slice size xs):=by
 obtain ⟨cells,h1,h2,h3⟩:=h.ex;rcases h1.2 with ⟨rfl,hn⟩|⟨g,cap,cur,rfl,hb,hg,hc,hm,hs,htk⟩
 ·have hx:xs=[]:=List.eq_nil_of_length_eq_zero hn;subst hx;exact .slice none 0 0 0 0 size [] (fun _=>undef) rfl (Nat.le_refl _) (fun x hx=>by simp at hx) (fun t ht=>by simp at ht) (fun hh=>by simp at hh) (fun i hi=>by simp at hi) (fun i t ht=>by simp at ht)
 ·refine .slice _ g 0 xs.length cap size xs (fun i=>cells[i]?.getD undef) rfl hc h.uni h.one (fun _=>rfl) (fun i hi=>?_) (fun i t ht=>?_)
  ·have hlt:i<cells.length:=by omega
   have hc:=h1.cells (g:=g) rfl i cells[i] (ggZ hlt);have pj:(⟨g,0,none⟩:Addr).add i=⟨g,0+i,none⟩:=by unfold Addr.add;split <;> simp_all
   rw [pj] at hc;refine ⟨by rw [hc];simp [ggZ hlt],?_⟩;rw [Nat.zero_add];exact ((h.row g rfl).2 i).2 hi
  ·have hlt:i<cells.length:=by rw [h2];exact (gsZ ht).1
   have:=h3 i cells[i] t (ggZ hlt) ht
   simpa [ggZ hlt] using this
theorem aC{u:V}{x:T}(h:VR E v u)(ha:asT u=some x):Rep E.S E.w v x:=by
 cases h with
 |t v x' h=>simp [asT] at ha;subst ha;exact h
 |own v r e size xs h=>simp [asT] at ha;subst ha;exact h.rep
 |full a len size xs h=>simp [asT] at ha;subst ha;exact h
 |_=>cases ha
end
section
variable [Glb]{P:Program}
section inv
variable {E:Env}{v:Value}
end inv
def Did(P:Program)(N:Nat)(w0:World)(S0:aa)(o:Oper)(a:Act)(E:Env)(st':St):Prop:=
 ∃(nx:Next) (v:Value) (E':Env),(execOp a.eval o).run P E.w= .ok nx E'.w/\(nx= .value v\/(nx= .skip/\v=undef))/\SR N w0 S0 E' st' (a.put o.dst v).tmps
theorem ai{N:Nat}{w0:World}{S0:aa}{o:Oper}{a:Act}{E:Env}{st:St}(h:SR N w0 S0 E st a.tmps)(hd:ay N o.dst){v:Value}{u:V}{rd:List Nat}
  (hr:(execOp a.eval o).run P E.w= .ok (.value v) E.w) (hv:VR E v u):Did P N w0 S0 o a E (st.app o.dst {val:=u,rd:=rd }):=
 ⟨_,v,E,hr,.inl rfl,h.cJ hd hv⟩
def Sound(P:Program)(N:Nat)(w0:World)(S0:aa)(o:Oper)(a:Act)(E:Env)(st:St):cm->Prop
 |.no=>True
 |.yes e=>Did P N w0 S0 o a E (st.app o.dst e)
 |.need c e=>c->Did P N w0 S0 o a E (st.app o.dst e)
 |.alt c b f=>c->Did P N w0 S0 o a E (st.app o.dst (f b))
 |.eq c t f=>c->Did P N w0 S0 o a E (st.app o.dst (f t))
section ops
variable {N:Nat}{w0:World}{S0:aa}{o:Oper}{a:Act}{E:Env}{st:St}
theorem pR(op:BinOp)(k k':IntKind)(x y:Int)(t ty:TypeId)(h:SR N w0 S0 E st a.tmps)(hd:ay N o.dst)(X Y:Operand)(ho:o.op= .binOp op t X Y ty)(hX:a.eval X= .int k x)(hY:a.eval Y= .int k' y):
  Sound P N w0 S0 o a E st (nv op k k' x y):=by
 have run: ∀r:Value,(binOp op t (.int k x) (.int k' y)).run P E.w= .ok r E.w->(execOp a.eval o).run P E.w= .ok (.value r) E.w:=fun r hr=>by
  unfold execOp;simp only [ho,hX,hY];have hg:eqGuard op t X Y (.int k x) (.int k' y)=pure ():=by cases op <;> rfl
  simp [hg,hr]
 have fin: ∀r:T,(∀ S w, ∃v,Rep S w v r/\(binOp op t (.int k x) (.int k' y)).run P E.w= .ok v E.w)->Did P N w0 S0 o a E (st.app o.dst {val:=.t r }):=fun r hr=>by
  obtain ⟨v,h1,h2⟩:=hr E.S E.w;exact ai h hd (run v h2) (.t _ _ h1)
 have bad: ∀(r:cm),(k=k'->Sound P N w0 S0 o a E st r)->Sound P N w0 S0 o a E st (if k≠k' then cm.no else r):=fun r hr=>by
  by_cases hk:k=k'
  ·simp only [ne_eq,hk,not_true_eq_false,if_false];exact hr hk
  ·simp only [ne_eq,hk,not_false_eq_true,if_true];trivial
 unfold nv;cases op with
 |shl=>
  intro hc;exact fin _ fun S w=>⟨_,.int _ _,by simp [binOp,Op.shift,if_neg (show ¬y<0 by omega)]⟩
 |shr=>
  intro hc;exact fin _ fun S w=>⟨_,.int _ _,by simp [binOp,Op.shift,if_neg (show ¬y<0 by omega)]⟩
 |add=>exact bad _ fun hk=>by subst hk;exact fin _ fun S w=>⟨_,.int _ _,by simp [binOp,Op.intArith]⟩
 |sub=>exact bad _ fun hk=>by subst hk;exact fin _ fun S w=>⟨_,.int _ _,by simp [binOp,Op.intArith]⟩
 |mul=>exact bad _ fun hk=>by subst hk;exact fin _ fun S w=>⟨_,.int _ _,by simp [binOp,Op.intArith]⟩
 |quo=>exact bad _ fun hk=>by subst hk;intro hc;exact fin _ fun S w=>⟨_,.int _ _,by simp [binOp,Op.intDiv,if_neg hc]⟩
 |rem=>exact bad _ fun hk=>by subst hk;intro hc;exact fin _ fun S w=>⟨_,.int _ _,by simp [binOp,Op.intDiv,if_neg hc]⟩
 |and=>exact bad _ fun hk=>by subst hk;exact fin _ fun S w=>⟨_,.int _ _,by simp [binOp];rfl⟩
 |or=>exact bad _ fun hk=>by subst hk;exact fin _ fun S w=>⟨_,.int _ _,by simp [binOp];rfl⟩
 |xor=>exact bad _ fun hk=>by subst hk;exact fin _ fun S w=>⟨_,.int _ _,by simp [binOp];rfl⟩
 |andNot=>exact bad _ fun hk=>by subst hk;exact fin _ fun S w=>⟨_,.int _ _,by simp [binOp];rfl⟩
 |eql=>exact bad _ fun hk=>by subst hk;intro _;exact fin _ fun S w=>⟨_,.bool _,by simp [binOp,Op.intCmp]⟩
 |neq=>exact bad _ fun hk=>by subst hk;intro _;exact fin _ fun S w=>⟨_,.bool _,by simp [binOp,Op.intCmp]⟩
 |lss=>exact bad _ fun hk=>by subst hk;intro _;exact fin _ fun S w=>⟨_,.bool _,by simp [binOp,Op.intCmp]⟩
 |leq=>exact bad _ fun hk=>by subst hk;intro _;exact fin _ fun S w=>⟨_,.bool _,by simp [binOp,Op.intCmp]⟩
 |gtr=>exact bad _ fun hk=>by subst hk;intro _;exact fin _ fun S w=>⟨_,.bool _,by simp [binOp,Op.intCmp]⟩
 |geq=>exact bad _ fun hk=>by subst hk;intro _;exact fin _ fun S w=>⟨_,.bool _,by simp [binOp,Op.intCmp]⟩
theorem pS(op:BinOp)(x y:ByteArray)(t ty:TypeId)(h:SR N w0 S0 E st a.tmps)(hd:ay N o.dst)(X Y:Operand)(ho:o.op= .binOp op t X Y ty)(hX:a.eval X= .string x)(hY:a.eval Y= .string y):
  Sound P N w0 S0 o a E st (nw op x y):=by
 have run: ∀r:Value,(binOp op t (.string x) (.string y)).run P E.w= .ok r E.w->(execOp a.eval o).run P E.w= .ok (.value r) E.w:=fun r hr=>by
  unfold execOp;simp only [ho,hX,hY];have hg:eqGuard op t X Y (.string x) (.string y)=pure ():=by cases op <;> rfl
  simp [hg,hr]
 have fin: ∀r:T,(∀ S w, ∃v,Rep S w v r/\(binOp op t (.string x) (.string y)).run P E.w= .ok v E.w)->Did P N w0 S0 o a E (st.app o.dst {val:=.t r }):=fun r hr=>by
  obtain ⟨v,h1,h2⟩:=hr E.S E.w;exact ai h hd (run v h2) (.t _ _ h1)
 unfold nw;cases op with
 |add=>exact fun hc=>fin _ fun S w=>⟨_,.str _,by simp only [binOp,Op.stringOp,if_neg (show ¬(((x.size+y.size:Nat):Int)>IntKind.i64.max) by omega)];rfl⟩
 |eql=>exact fun _=>fin _ fun S w=>⟨_,.bool _,by simp [binOp,Op.stringOp]⟩
 |neq=>exact fun _=>fin _ fun S w=>⟨_,.bool _,by simp [binOp,Op.stringOp]⟩
 |lss=>exact fun _=>fin _ fun S w=>⟨_,.bool _,by simp [binOp,Op.stringOp]⟩
 |leq=>exact fun _=>fin _ fun S w=>⟨_,.bool _,by simp [binOp,Op.stringOp]⟩
 |gtr=>exact fun _=>fin _ fun S w=>⟨_,.bool _,by simp only [binOp,Op.stringOp];rfl⟩
 |geq=>exact fun _=>fin _ fun S w=>⟨_,.bool _,by simp [binOp,Op.stringOp]⟩
 |_=>trivial
end ops
end
end Go.DL
end
section
namespace Go.DL
open Go.RowKit
section
variable [Glb]{P:Program}{N:Nat}{w0:World}{S0:aa}{o:Oper}{a:Act}{E:Env}{st:St}
end
section
variable {P:Program}{N:Nat}{w0:World}{S0:aa}{o:Oper}{a:Act}{E:Env}{st:St}
theorem fz{t:TypeId}{d:TypeDesc}(h:P.underlying t=some d)(w:World):(isAgg t).run P w= .ok (au P t) w:=by
 unfold isAgg au;rw [Sem.run_bind,run_underlying h w];simp only [Result.andThen_ok,h];cases d <;> rfl
theorem run_sizeOf{t:TypeId}{i:TypeInfo}(h:P.info? t=some i)(w:World):(sizeOf t).run P w= .ok i.size w:=by
 simp [sizeOf,typeInfo,h]
theorem bg(b o n:Nat):(⟨b,o,none⟩:Addr).add n=⟨b,o+n,none⟩:=by unfold Addr.add;split <;> simp_all
theorem bX{t:TypeId}{d:TypeDesc}{i:TypeInfo}(h:P.underlying t=some d)(hi:P.info? t=some i)(hg:au P t=true)(w:World)(b off:Nat)(cs:List Value)
  (hl:cs.length=i.size) (hc: ∀(j:Nat) (v:Value),cs[j]? =some v->w.cell? ⟨b,off+j,none⟩=some v):(loadVar t ⟨b,off,none⟩).run P w= .ok (.agg cs.toArray) w:=by
 have:=run_loadCells_list (P:=P) w ⟨b,off,none⟩ cs (fun j v hv=>by rw [bg];exact hc j v hv)
 rw [hl] at this;simp [loadVar,fz h,hg,run_sizeOf hi,this]
theorem ba{t:TypeId}{d:TypeDesc}(h:P.underlying t=some d)(hg:au P t=false)(w:World)(a:Addr)(v:Value)(hc:w.cell? a=some v):(loadVar t a).run P w= .ok v w:=by
 simp [loadVar,fz h,hg,hc]
theorem bW{t:TypeId}{A:Operand}(ho:o.op= .load t A){ad:Addr}(hA:a.eval A= .pointer (some ad)){w:World}{v:Value}(hr:(loadVar t ad).run P w= .ok v w):
  (execOp a.eval o).run P w= .ok (.value v) w:=by
 unfold execOp;simp [ho,hA,Instr.loadAt,Instr.sureAddr,hr]
theorem dS{S:ar}{w:World}{cs:List Value}{ts:List T}(h: ∀(i:Nat) (x:Value) (t:T),cs[i]? =some x->ts[i]? =some t->Rep S w x t/\t.one=true)(hl:cs.length=ts.length):
  Rep S w (.agg cs.toArray) (.agg ts):=by
 refine .agg _ _ (by simpa using hl) (fun t ht=>?_) (fun i x t hx ht=>(h i x t (by simpa using hx) ht).1);obtain ⟨i,hi⟩:=List.mem_iff_getElem?.1 ht;have hlt:i<cs.length:=by rw [hl];exact (gsZ hi).1
 exact (h i _ t (ggZ hlt) hi).2
theorem aF{α:Type}(l:List α)(off n j:Nat):((l.drop off).take n)[j]? =if j<n then l[off+j]? else none:=by
 rw [List.getElem?_take];split
 ·rw [List.getElem?_drop]
 ·rfl
theorem ki: ∀{vs:List V} {ts:List T},eE vs=some ts->vs.length=ts.length/\ ∀(j:Nat) (u:V) (t:T),vs[j]? =some u->ts[j]? =some t->asT u=some t
 |[],ts,h=>by cases h;exact ⟨rfl,fun j u t hu=>by simp at hu⟩
 |v::vs,ts,h=>by
  unfold eE at h;split at h
  ·rename_i x xs hx hxs;cases h;obtain ⟨h1,h2⟩:=ki hxs;refine ⟨by simp [h1],fun j u t hu ht=>?_⟩;cases j with
   |zero=>simp at hu ht;subst hu;subst ht;exact hx
   |succ j=>exact h2 j u t (by simpa using hu) (by simpa using ht)
  ·cases h
theorem Rep.jZ{S:ar}{w:World}{v:Value}{t:T}(h:Rep S w v t)(h1:v.oneCell'=true):t.one=true:=by
 cases h <;> first|rfl|simp [Value.oneCell'] at h1
end
section
variable [Glb]{P:Program}{N:Nat}{w0:World}{S0:aa}{o:Oper}{a:Act}{E:Env}{st:St}
theorem mw(h:SR N w0 S0 E st a.tmps)(hd:ay N o.dst){t:TypeId}{A:Operand}(ho:o.op= .load t A){d:TypeDesc}{i:TypeInfo}(hu:P.underlying t=some d)(hi:P.info? t=some i)
  (_:au P t=true\/i.size=1) {b off:Nat} (hA:a.eval A= .pointer (some ⟨E.κ b,off,none⟩)) {bx:BX} (hb:st.bx b=some bx):
  Sound P N w0 S0 o a E st (eM b bx off i.size (au P t)):=by
 have hB:=h.bx b bx hb;cases hM:bx.isM with
 |true=>cases bx <;> first|trivial|cases hM
 |false=>
 obtain ⟨cs,e,hg,hc⟩:=hB.cells hM;have cell: ∀j,E.w.cell? ⟨E.κ b,j,none⟩=cs[j]? :=fun j=>cell_of_row _ _ _ _ _ _ hg
 cases hc with
 |d m ts hl hs aq=>
  unfold eM ll;cases hag:au P t with
  |true=>
   have big:off+i.size<=m->Did P N w0 S0 o a E (st.app o.dst (aU [b] (.agg ((ts.drop off).take i.size)))):=fun hle=>by
    have hl2:((cs.toList.drop off).take i.size).length=i.size:=by simp;omega
    refine ai h hd (bW ho hA (bX hu hi hag _ _ _ ((cs.toList.drop off).take i.size) hl2 fun j v hj=>?_)) (.t _ _ (dS (fun j x u hx hu'=>?_) ?_))
    ·rw [aF] at hj;split at hj
     ·rw [cell];simpa using hj
     ·cases hj
    ·rw [aF] at hx hu';split at hx
     ·rename_i hj;rw [if_pos hj] at hu';exact aq (off+j) x u (by simpa using hx) hu'
     ·cases hx
    ·rw [hl2];simp [hl];omega
   simp only;cases hz:(Nat.beq off 0&&Nat.beq m i.size) with
   |true=>
    simp only [Bool.and_eq_true] at hz;have ho0:off=0:=Nat.eq_of_beq_eq_true hz.1;have hm:m=i.size:=Nat.eq_of_beq_eq_true hz.2
    have:=big (by omega)
    rw [ho0,List.drop_zero,List.take_of_length_le (by omega)] at this;exact this
   |false=>exact big
  |false=>
   intro hlt;have bP:off<cs.size:=by omega
   have b9:E.w.cell? ⟨E.κ b,off,none⟩=some cs[off]:=by rw [cell];simp [bP]
   have ht:ts[off]? =some (ts[off]?.getD .nil):=by
    have:off<ts.length:=by omega
    simp [this]
   exact ai h hd (bW ho hA (ba hu hag _ _ _ b9)) (.t _ _ (aq off _ _ (by simp [bP]) ht).1)
 |v vs hs aq=>
  unfold eM;cases hag:au P t with
  |true=>
   simp only;cases hT:eE ((vs.drop off).take i.size) with
   |none=>trivial
   |some ts=>
   simp only;cases hz:Nat.beq ts.length i.size with
   |false=>trivial
   |true=>
   have hz:=Nat.eq_of_beq_eq_true hz;obtain ⟨q1,q2⟩:=ki hT;rw [List.length_take,List.length_drop,hz] at q1;simp only [cond_true];have hl2:((cs.toList.drop off).take i.size).length=i.size:=by simp;omega
   refine ai h hd (bW ho hA (bX hu hi hag _ _ _ ((cs.toList.drop off).take i.size) hl2 fun j v hj=>?_)) (.t _ _ (dS (fun j x u hx hu'=>?_) ?_))
   ·rw [aF] at hj;split at hj
    ·rw [cell];simpa using hj
    ·cases hj
   ·have hx':=hx;rw [aF] at hx';split at hx'
    ·rename_i hj;have hlt:off+j<vs.length:=by
      have:=(gsZ hu').1
      omega
     have hv':((vs.drop off).take i.size)[j]? =some vs[off+j]:=by rw [aF,if_pos hj];exact ggZ hlt
     have hr:=aq (off+j) x _ (by simpa using hx') (ggZ hlt);have hR:=aC hr.1 (q2 j _ u hv' hu');exact ⟨hR,hR.jZ hr.2⟩
    ·cases hx'
   ·rw [hl2,hz]
  |false=>
   simp only;cases hv:vs[off]? with
   |none=>trivial
   |some u=>
    have hlt:off<cs.size:=Nat.lt_of_lt_of_le (gsZ hv).1 hs;have b9:E.w.cell? ⟨E.κ b,off,none⟩=some cs[off]:=by rw [cell];simp [hlt]
    exact ai h hd (bW ho hA (ba hu hag _ _ _ b9)) (aq off _ _ (by simp [hlt]) hv).1
theorem gS(h:SR N w0 S0 E st a.tmps)(hd:ay N o.dst){t:TypeId}{A:Operand}(ho:o.op= .load t A){d:TypeDesc}{i:TypeInfo}(hu:P.underlying t=some d)(hi:P.info? t=some i)
  (_:au P t=true\/i.size=1) {cs:List T} {off:Nat} (hA:Rep E.S E.w (a.eval A) (.cptr cs off)):
  Sound P N w0 S0 o a E st (match au P t with
   |true=>cond (Nat.beq off 0) (.eq (cs.length=i.size) (.agg cs) (aU [])) (.eq (off+i.size<=cs.length) (.agg ((cs.drop off).take i.size)) (aU []))
   |false=>.eq (off<cs.length) (cs[off]?.getD .nil) (aU [])):=by
 generalize hv:a.eval A=v at hA;cases hA with
 |cptr b o' _ _ g bP hg aq=>
  cases hag:au P t with
  |true=>
   have big:off+i.size<=cs.length->Did P N w0 S0 o a E (st.app o.dst (aU [] (.agg ((cs.drop off).take i.size)))):=fun hle=>by
    refine ai h hd (bW ho hv (bX hu hi hag _ _ _ ((List.range i.size).map fun j=>g (off+j)) (by simp) fun j v hj=>?_)) (.t _ _ (dS (fun j x u hx hu'=>?_) ?_))
    ·have hlt:j<i.size:=by simpa using (gsZ hj).1
     simp [hlt] at hj
     have:=(hg (off+j) (by omega)).1
     rw [show o'+off+j=o'+(off+j) by omega,this,hj]
    ·have hlt:j<i.size:=by simpa using (gsZ hx).1
     simp [hlt] at hx;rw [aF,if_pos hlt] at hu';subst hx;exact ⟨aq _ _ hu',bP _ (List.mem_of_getElem? hu')⟩
    ·simp;omega
   simp only;cases hz:Nat.beq off 0 with
   |true=>
    intro hcl;have ho0:off=0:=Nat.eq_of_beq_eq_true hz
    have:=big (by omega)
    rw [ho0,List.drop_zero,List.take_of_length_le (by omega)] at this;exact this
   |false=>exact big
  |false=>
   intro hlt;have hc:=(hg off hlt).1;have ht:cs[off]? =some (cs[off]?.getD .nil):=by simp [hlt]
   exact ai h hd (bW ho hv (ba hu hag _ _ _ hc)) (.t _ _ (aq off _ ht))
theorem pX(h:SR N w0 S0 E st a.tmps)(hd:ay N o.dst){t:TypeId}{A:Operand}(ho:o.op= .load t A){x:DOp}(hl:ah P o.op=some x):Sound P N w0 S0 o a E st (eff x (st.nm o.dst) st.sl st.bx):=by
 rw [ho] at hl;simp only [ah] at hl;split at hl
 ·rename_i d i y hu hi hy;have h1:au P t=true\/i.size=1:=by
   cases hc:(au P t||Nat.beq i.size 1) with
   |false=>rw [hc] at hl;cases hl
   |true=>
    rw [Bool.or_eq_true] at hc;exact hc.imp id Nat.eq_of_beq_eq_true
  have hc:(au P t||Nat.beq i.size 1)=true:=by
   rcases h1 with h1|h1 <;> simp [h1]
  rw [hc] at hl;simp only [cond_true,Option.some.injEq] at hl;subst hl;have he:=af h.sl hy;unfold eff;simp only;cases hev:ev st.sl y with
  |ptr b off=>
   rw [hev] at he;obtain ⟨hp,_⟩:=he.bd;simp only;cases hb:st.bx b with
   |none=>trivial
   |some bx=>exact mw h hd ho hu hi h1 hp hb
  |t v=>
   rw [hev] at he;cases v with
   |cptr cs off=>exact gS h hd ho hu hi h1 he.ax
   |glob g off=>
    simp only;cases hg:Glb.gs g with
    |none=>trivial
    |some cs=>
     have hr:=he.ax;have hA:Rep E.S E.w (a.eval A) (.cptr cs off):=by
      generalize a.eval A=v at hr;cases hr;exact h.iJ.rep hg off
     exact gS h hd ho hu hi h1 hA
   |knot f pre post=>
    simp only;cases hag:au P t with
    |true=>trivial
    |false=>
     have hr:=he.ax;generalize hv:a.eval A=v at hr;cases hr with
     |knot b o' _ c1 c2 _ _ hs1 hs2 hg hr1 hr2=>
      refine ai h hd (bW ho hv (ba hu hag _ _ _ hg.1)) (.t _ _ (.clos f _ _ (by simp [hs1,hs2];omega) fun i x u hx hu'=>?_))
      by_cases hi1:i<c1.size
      ·rw [Array.getElem?_append_left (by simp;omega),Array.getElem?_append_left hi1] at hx;rw [List.getElem?_append_left (by simp;omega),List.getElem?_append_left (by omega)] at hu';exact hr1 i x u hx hu'
      ·by_cases hi2:i=c1.size
       ·subst hi2;rw [Array.getElem?_append_left (by simp),Array.getElem?_append_right (by simp)] at hx;rw [List.getElem?_append_left (by simp [hs1]),List.getElem?_append_right (by omega)] at hu';simp [hs1] at hx hu';subst hx;subst hu';exact .knot b o' f c1 c2 pre post hs1 hs2 hg hr1 hr2
       ·rw [Array.getElem?_append_right (by simp;omega)] at hx;rw [List.getElem?_append_right (by simp;omega)] at hu';simp at hx hu';rw [<- hs1] at hu';exact hr2 _ x u hx hu'
   |wrld f1 a1 b1 f2 a2 b2 off=>
    simp only;cases hag:au P t with
    |true=>trivial
    |false=>
     have hr:=he.ax;generalize hv:a.eval A=v at hr;cases hr with
     |wrld b o' b' o'' _ _ _ c1 d1 c2 d2 _ _ _ _ hc1 hd1 hc2 hd2 hw h1 h2 r1 r2 r3 r4=>
      have self:Rep E.S E.w (.pointer (some ⟨b',o'',none⟩)) (.cptr [.wrld f1 a1 b1 f2 a2 b2 0] 0):=by
       have:=Rep.cptr (S:=E.S) (w:=E.w) b' o'' 0 [.wrld f1 a1 b1 f2 a2 b2 0] (fun _=>.pointer (some ⟨b,o',none⟩)) (by simp [T.one])
        (fun i hi=>by
         have:i=0:=by simp at hi;omega
         subst this;exact hw)
        (fun i t ht=>by
         have:i=0:=by have:=(gsZ ht).1;simp at this;omega
         subst this;simp at ht;subst ht;exact .wrld b o' b' o'' 0 f1 f2 c1 d1 c2 d2 a1 b1 a2 b2 hc1 hd1 hc2 hd2 hw h1 h2 r1 r2 r3 r4)
       exact this
      have split: ∀(f:FuncId) (c d:Array Value) (x y:List T),c.size=x.length->d.size=y.length->(∀ (i:Nat) (v:Value) (t:T),c[i]? =some v->x[i]? =some t->Rep E.S E.w v t)->(∀ (i:Nat) (v:Value) (t:T),d[i]? =some v->y[i]? =some t->Rep E.S E.w v t)->
        Rep E.S E.w (.func (.func f) #[] (c++ #[.pointer (some ⟨b',o'',none⟩)]++d)) (.clos f (x++[.cptr [.wrld f1 a1 b1 f2 a2 b2 0] 0]++y)):=fun f c d x y hs1 hs2 hr1 hr2=>by
       refine .clos f _ _ (by simp [hs1,hs2];omega) fun i v u hx hu'=>?_
       by_cases hi1:i<c.size
       ·rw [Array.getElem?_append_left (by simp;omega),Array.getElem?_append_left hi1] at hx;rw [List.getElem?_append_left (by simp;omega),List.getElem?_append_left (by omega)] at hu';exact hr1 i v u hx hu'
       ·by_cases hi2:i=c.size
        ·subst hi2;rw [Array.getElem?_append_left (by simp),Array.getElem?_append_right (by simp)] at hx;rw [List.getElem?_append_left (by simp [hs1]),List.getElem?_append_right (by omega)] at hu';simp [hs1] at hx hu';subst hx;subst hu';exact self
        ·rw [Array.getElem?_append_right (by simp;omega)] at hx;rw [List.getElem?_append_right (by simp;omega)] at hu';simp at hx hu';rw [<- hs1] at hu';exact hr2 _ v u hx hu'
      match off,hv with
      |0,hv=>exact ai h hd (bW ho hv (ba hu hag _ _ _ h1.1)) (.t _ _ (split f1 c1 d1 a1 b1 hc1 hd1 r1 r2))
      |1,hv=>exact ai h hd (bW ho hv (ba hu hag _ _ _ h2.1)) (.t _ _ (split f2 c2 d2 a2 b2 hc2 hd2 r3 r4))
      |_+2,_=>trivial
   |_=>trivial
  |_=>trivial
 ·cases hl
end
end Go.DL
end
section
namespace Go.DL
open Go.RowKit
section
variable [Glb]{P:Program}{N:Nat}{w0:World}{S0:aa}{o:Oper}{a:Act}{E:Env}{st:St}
end
section
variable {P:Program}{N:Nat}{w0:World}{S0:aa}{o:Oper}{a:Act}{E:Env}{st:St}
theorem fP{d:Option Nat}{v:V}{n:Nat}{c:BX}{rd:List Nat}:st.app d {val:=v,wr:=some (n,c),rd:=rd }=({st with bx:=upd st.bx n (some c)}:St).set d v:=by
 cases d <;> rfl
theorem VR.one{v:Value}{u:V}(h:VR E v u)(hu: ∀x,u≠ .t x)(ht:u≠ .top)(hp: ∀vs,u≠ .tup vs)(ha: ∀vs,u≠ .agv vs):v.oneCell'=true:=by
 cases h with
 |top=>exact absurd rfl ht
 |t v x h=>exact absurd rfl (hu x)
 |tup cs vs=>exact absurd rfl (hp vs)
 |agv cs vs=>exact absurd rfl (ha vs)
 |raw v h1=>exact h1
 |own v r e size xs h=>
  obtain ⟨cells,h1,_,_⟩:=h.ex;rcases h1.2 with ⟨rfl,_⟩|⟨g,cap,cur,rfl,_⟩ <;> rfl
 |_=>rfl
theorem VR.nV{v:Value}{u:V}(h:VR E v u)(hu: ∀x,u≠ .t x)(ht:u≠ .top)(hp: ∀vs,u≠ .tup vs)(ha: ∀vs,u≠ .agv vs):v.cells= #[v]:=by
 have:=h.one hu ht hp ha
 cases v <;> first|rfl|simp [Value.oneCell'] at this
theorem nE{t:TypeId}{A X:Operand}(ho:o.op= .store t A X){ad:Addr}(hA:a.eval A= .pointer (some ad)){i:TypeInfo}(hi:P.info? t=some i){w w':World}(hs:(a.eval X).cells.size=i.size)
  (hr:(storeCells ad (a.eval X).cells.toList).run P w= .ok () w'):(execOp a.eval o).run P w= .ok .skip w':=by
 unfold execOp;simp [ho,hA,Instr.storeAt,Instr.sureAddr,storeVar,run_sizeOf hi,hs,hr]
theorem bB{α:Type}(cs:List α)(off n:Nat)(vs:List α)(hn:vs.length=n)(hl:off+n<=cs.length)(j:Nat):
  (aP cs off n vs)[j]? =if j<off then cs[j]? else if j<off+n then vs[j - off]? else cs[j]? :=by
 unfold aP;rw [List.getElem?_append,List.length_take,Nat.min_eq_left (by omega)]
 by_cases h1:j<off
 ·rw [if_pos h1,if_pos h1,List.getElem?_take,if_pos h1]
 ·rw [if_neg h1,if_neg h1,List.getElem?_append,hn]
  by_cases h2:j<off+n
  ·rw [if_pos (by omega),if_pos h2]
  ·rw [if_neg (by omega),if_neg h2,List.getElem?_drop]
   congr 1;omega
theorem bK{α:Type}(cs:List α)(off n:Nat)(vs:List α)(hn:vs.length=n)(hl:off+n<=cs.length):(aP cs off n vs).length=cs.length:=by
 unfold aP;simp [hn];omega
end
section
variable [Glb]{P:Program}{N:Nat}{w0:World}{S0:aa}{o:Oper}{a:Act}{E:Env}{st:St}
theorem fe(h:SR N w0 S0 E st a.tmps)(hd:ay N o.dst){t:TypeId}{A X:Operand}(ho:o.op= .store t A X){i:TypeInfo}(hi:P.info? t=some i)
  {b off:Nat} (hA:a.eval A= .pointer (some ⟨E.κ b,off,none⟩)) {bx:BX} (hb:st.bx b=some bx) (hM:bx.isM=false) (vs:List Value) (hvs:(a.eval X).cells.toList=vs) (hlen:vs.length=i.size) (h1: ∀v∈vs,v.oneCell'=true)
  (b':BX) (fG: ∀cs:Array Value,cD E cs bx->off+vs.length<=cs.size/\ ∀E',Grow E E'->cD E' (cs.toList.take off++vs++cs.toList.drop (off+vs.length)).toArray b') {rd:List Nat}:
  Did P N w0 S0 o a E (st.app o.dst {val:=.top,wr:=some (b,b'),rd:=rd }):=by
 have hB:=h.bx b bx hb;obtain ⟨cs,e,hg,hc⟩:=hB.cells hM;obtain ⟨hf,hc'⟩:=fG cs hc;have hr:=run_storeCells_at P (E.κ b) off e vs 0 cs E.w hg (by omega) h1;simp only [Nat.add_zero] at hr;have hsz:(a.eval X).cells.size=i.size:=by rw [<- hlen, <-hvs];simp
 refine ⟨.skip,undef,{E with w:=E.w.setRow (E.κ b) (cs.toList.take off++vs++cs.toList.drop (off+vs.length)).toArray },nE ho hA hi hsz (by rw [hvs];exact hr),.inr ⟨rfl,rfl⟩,?_⟩;rw [fP];exact (h.write hb hM _ b' hc').cJ hd (.top _)
end
section
variable {P:Program}{N:Nat}{w0:World}{S0:aa}{o:Oper}{a:Act}{E:Env}{st:St}
theorem bu(cs:List Value)(off:Nat)(vs:List Value)(hl:off+vs.length<=cs.length)(j:Nat):
  (cs.take off++vs++cs.drop (off+vs.length))[j]? =if j<off then cs[j]? else if j<off+vs.length then vs[j - off]? else cs[j]? :=by
 have:=bB cs off vs.length vs rfl hl j
 unfold aP at this;rw [<- List.append_assoc] at this;exact this
end
section
variable [Glb]{P:Program}{N:Nat}{w0:World}{S0:aa}{o:Oper}{a:Act}{E:Env}{st:St}
theorem oJ(h:SR N w0 S0 E st a.tmps)(hd:ay N o.dst){t:TypeId}{A X:Operand}(ho:o.op= .store t A X){x:DOp}(hl:ah P o.op=some x):Sound P N w0 S0 o a E st (eff x (st.nm o.dst) st.sl st.bx):=by
 rw [ho] at hl;simp only [ah] at hl;split at hl
 ·rename_i i y z hi hy hz;simp only [Option.some.injEq] at hl;subst hl;have hey:=af h.sl hy;have hez:=af h.sl hz;unfold eff;simp only;cases hev:ev st.sl y with
  |ptr b off=>
   rw [hev] at hey;obtain ⟨hp,_⟩:=hey.bd;simp only;cases hb:st.bx b with
   |none=>trivial
   |some bx=>
    simp only;cases hM:bx.isM with
    |true=>cases bx <;> first|trivial|cases hM
    |false=>
    have oneD: ∀(m:Nat) (ts:List T) (u:T),bx= .d m ts->Rep E.S E.w (a.eval X) u->u.one=true->i.size=1->off<m->Did P N w0 S0 o a E (st.app o.dst {val:=.top,wr:=some (b,.d m (ts.set off u)),rd:=[b]}):=by
     intro m ts u hbx hr hu1 hs hlt;have hcl:(a.eval X).cells.toList=[a.eval X]:=by rw [hr.cells_one hu1]
     refine fe h hd ho hi hp hb hM [a.eval X] hcl (by simp [hs]) (by simp;exact hr.one hu1) _ (fun cs hc=>?_);subst hbx;cases hc with
     |d _ _ hl' hs' aq=>
      refine ⟨by simp;omega,fun E' g=>?_⟩;refine .d m _ (by simp [hl']) (by simp;omega) (fun j v w hv hw=>?_);rw [List.getElem?_toArray,bu _ _ _ (by simp;omega)] at hv;rw [List.getElem?_set] at hw
      by_cases hj:j=off
      ·subst hj;simp at hv hw;have hw':u=w:=hw.2;subst hw';subst hv;exact ⟨g.rep hr,hu1⟩
      ·rw [if_neg (show ¬off=j from fun e=>hj e.symm)] at hw
       by_cases h1:j<off
       ·rw [if_pos h1] at hv
        have:=aq j v w (by simpa using hv) hw
        exact ⟨g.rep this.1,this.2⟩
       ·rw [if_neg h1,if_neg (by simp;omega)] at hv
        have:=aq j v w (by simpa using hv) hw
        exact ⟨g.rep this.1,this.2⟩
    have dR: ∀(vs:List V) (u:V),(bx= .v vs\/ ∃m ts,bx= .d m ts/\vs=ts.map .t)->VR E (a.eval X) u->(a.eval X).oneCell'=true->i.size=1->off<vs.length->
      Did P N w0 S0 o a E (st.app o.dst {val:=.top,wr:=some (b,.v (vs.set off u)),rd:=[b]}):=by
     intro vs u hbx hr ho1 hs hlt;have hcl:(a.eval X).cells.toList=[a.eval X]:=by
      have:(a.eval X).cells= #[a.eval X]:=by
       revert ho1
       cases a.eval X <;> intro ho1 <;> first|rfl|simp [Value.oneCell'] at ho1
      rw [this]
     refine fe h hd ho hi hp hb hM [a.eval X] hcl (by simp [hs]) (by simp;exact ho1) _ (fun cs hc=>?_);have hc':vs.length<=cs.size/\ ∀(i:Nat) (x:Value) (u:V),cs[i]? =some x->vs[i]? =some u->VR E x u/\x.oneCell'=true:=by
      rcases hbx with rfl|⟨m,ts,rfl,rfl⟩
      ·cases hc with
       |v _ h1 h2=>exact ⟨h1,h2⟩
      ·cases hc with
       |d _ _ h1 h2 h3=>
        refine ⟨by simp;omega,fun j v w hv hw=>?_⟩;simp only [List.getElem?_map,Option.map_eq_some_iff] at hw;obtain ⟨t',ht',rfl⟩:=hw
        have:=h3 j v t' hv ht'
        exact ⟨.t _ _ this.1,this.1.one this.2⟩
     obtain ⟨hs',aq⟩:=hc';refine ⟨by simp;omega,fun E' g=>?_⟩;refine .v _ (by simp;omega) (fun j v w hv hw=>?_);rw [List.getElem?_toArray,bu _ _ _ (by simp;omega)] at hv;rw [List.getElem?_set] at hw
     by_cases hj:j=off
     ·subst hj;simp at hv hw;have hw':u=w:=hw.2;subst hw';subst hv;exact ⟨hr.grow g,ho1⟩
     ·rw [if_neg (show ¬off=j from fun e=>hj e.symm)] at hw
      by_cases h1:j<off
      ·rw [if_pos h1] at hv
       have:=aq j v w (by simpa using hv) hw
       exact ⟨this.1.grow g,this.2⟩
      ·rw [if_neg h1,if_neg (by simp;omega)] at hv
       have:=aq j v w (by simpa using hv) hw
       exact ⟨this.1.grow g,this.2⟩
    have many: ∀(m:Nat) (ts cs:List T),bx= .d m ts->Rep E.S E.w (a.eval X) (.agg cs)->cs.length=i.size/\off+i.size<=m->Did P N w0 S0 o a E (st.app o.dst {val:=.top,wr:=some (b,.d m (aP ts off i.size cs)),rd:=[b]}):=by
     rintro m ts us hbx hr ⟨hlen,hle⟩;obtain ⟨hc1,hc2⟩:=hr.cells (fun ts e=>by cases e);have hc1:(a.eval X).cells.size=us.length:=hc1;refine fe h hd ho hi hp hb hM (a.eval X).cells.toList rfl (by simp;omega) (fun v hv=>?_) _ (fun cs hc=>?_)
     ·obtain ⟨j,hj⟩:=List.mem_iff_getElem?.1 hv;have hlt:j<us.length:=by
       have:=(gsZ hj).1
       simp at this;omega
      have:=hc2 j v us[j] (by simpa using hj) (ggZ hlt)
      exact this.1.one this.2
     ·subst hbx;cases hc with
      |d _ _ hl' hs' aq=>
       refine ⟨by simp;omega,fun E' g=>?_⟩;have hL:(a.eval X).cells.toList.length=i.size:=by simp;omega
       refine .d m _ (by rw [bK _ _ _ _ hlen (by omega)];exact hl') (by simp;omega) (fun j v w hv hw=>?_);rw [List.getElem?_toArray,bu _ _ _ (by simp;omega)] at hv;rw [bB _ _ _ _ hlen (by omega)] at hw
       by_cases h1:j<off
       ·rw [if_pos h1] at hv hw
        have:=aq j v w (by simpa using hv) hw
        exact ⟨g.rep this.1,this.2⟩
       ·rw [if_neg h1] at hv hw
        by_cases h2:j<off+i.size
        ·rw [if_pos (by omega)] at hv;rw [if_pos h2] at hw
         have:=hc2 (j - off) v w (by simpa using hv) hw
         exact ⟨g.rep this.1,this.2⟩
        ·rw [if_neg (by omega)] at hv;rw [if_neg h2] at hw
         have:=aq j v w (by simpa using hv) hw
         exact ⟨g.rep this.1,this.2⟩
    have manyV: ∀(vs:List V) (cs:List T),bx= .v vs->Rep E.S E.w (a.eval X) (.agg cs)->cs.length=i.size/\off+i.size<=vs.length->Did P N w0 S0 o a E (st.app o.dst {val:=.top,wr:=some (b,.v (aP vs off i.size (cs.map .t))),rd:=[b]}):=by
     rintro vs us hbx hr ⟨hlen,hle⟩;obtain ⟨hc1,hc2⟩:=hr.cells (fun ts e=>by cases e);have hc1:(a.eval X).cells.size=us.length:=hc1;refine fe h hd ho hi hp hb hM (a.eval X).cells.toList rfl (by simp;omega) (fun v hv=>?_) _ (fun cs hc=>?_)
     ·obtain ⟨j,hj⟩:=List.mem_iff_getElem?.1 hv;have hlt:j<us.length:=by
       have:=(gsZ hj).1
       simp at this;omega
      have:=hc2 j v us[j] (by simpa using hj) (ggZ hlt)
      exact this.1.one this.2
     ·subst hbx;cases hc with
      |v _ hs' aq=>
       refine ⟨by simp;omega,fun E' g=>?_⟩;have hL:(a.eval X).cells.toList.length=i.size:=by simp;omega
       refine .v _ (by rw [bK _ _ _ _ (by simpa using hlen) (by omega)];simp;omega) (fun j v w hv hw=>?_);rw [List.getElem?_toArray,bu _ _ _ (by simp;omega)] at hv;rw [bB _ _ _ _ (by simpa using hlen) (by omega)] at hw
       by_cases h1:j<off
       ·rw [if_pos h1] at hv hw
        have:=aq j v w (by simpa using hv) hw
        exact ⟨this.1.grow g,this.2⟩
       ·rw [if_neg h1] at hv hw
        by_cases h2:j<off+i.size
        ·rw [if_pos (by omega)] at hv;rw [if_pos h2] at hw;simp only [List.getElem?_map,Option.map_eq_some_iff] at hw;obtain ⟨w',hw',rfl⟩:=hw
         have:=hc2 (j - off) v w' (by simpa using hv) hw'
         exact ⟨.t _ _ (g.rep this.1),this.1.one this.2⟩
        ·rw [if_neg (by omega)] at hv;rw [if_neg h2] at hw
         have:=aq j v w (by simpa using hv) hw
         exact ⟨this.1.grow g,this.2⟩
    cases hx:ev st.sl z with
    |t u=>
     rw [hx] at hez;have hr:=hez.ax;cases bx with
     |m _ _ _ _=>cases hM
     |it _ _ _ _=>cases hM
     |itd _ _=>cases hM
     |d m ts=>
      cases u with
      |tup _=>trivial
      |agg cs=>exact many m ts cs rfl hr
      |_=>
       unfold gg;simp only;cases hs:Nat.beq i.size 1 with
       |false=>trivial
       |true=>exact fun hlt=>oneD m ts _ rfl hr rfl (Nat.eq_of_beq_eq_true hs) hlt
     |v vs=>
      cases u with
      |tup _=>trivial
      |agg cs=>exact manyV vs cs rfl hr
      |_=>
       unfold gg;simp only;cases hs:Nat.beq i.size 1 with
       |false=>trivial
       |true=>exact fun hlt=>dR vs _ (.inl rfl) hez (hr.one rfl) (Nat.eq_of_beq_eq_true hs) hlt
    |top=>cases bx <;> trivial
    |tup vs=>cases bx <;> trivial
    |agv vs=>cases bx <;> trivial
    |_=>
     rw [hx] at hez;have ho1:=hez.one (fun _ e=>by cases e) (fun e=>by cases e) (fun _ e=>by cases e) (fun _ e=>by cases e);cases bx with
     |m _ _ _ _=>cases hM
     |it _ _ _ _=>cases hM
     |itd _ _=>cases hM
     |d m ts=>
      unfold gg;simp only;cases hs:Nat.beq i.size 1 with
      |false=>trivial
      |true=>
       intro hlt;have hm:ts.length=m:=by
        obtain ⟨cs,e,hg,hc⟩:=(h.bx b _ hb).cells rfl;cases hc with
        |d _ _ hl' _ _=>exact hl'
       exact dR (ts.map .t) _ (.inr ⟨m,ts,rfl,rfl⟩) hez ho1 (Nat.eq_of_beq_eq_true hs) (by simp;omega)
     |v vs=>
      unfold gg;simp only;cases hs:Nat.beq i.size 1 with
      |false=>trivial
      |true=>exact fun hlt=>dR vs _ (.inl rfl) hez ho1 (Nat.eq_of_beq_eq_true hs) hlt
  |t v=>trivial
  |_=>trivial
 ·cases hl
end
end Go.DL
end
section
namespace Go.DL
open Go.RowKit
section
variable [Glb]{P:Program}{N:Nat}{w0:World}{S0:aa}{o:Oper}{a:Act}{E:Env}{st:St}
theorem fR(h:SR N w0 S0 E st a.tmps){d q:Nat}(hd:d<N)(aw:o.dst=some d)(hn:st.bx q=none)(cs:Array Value)(e:TypeId)(b:BX)(hc:cD E cs b){rd:List Nat}
  (hr:(execOp a.eval o).run P E.w= .ok (.value (.pointer (some ⟨E.w.heap.size,0,none⟩))) (E.w.alloc (.cells cs e))):
  Did P N w0 S0 o a E (st.app (some d) {val:=.ptr q 0,wr:=some (q,b),rd:=rd }):=by
 refine ⟨_,_,{E with w:=E.w.alloc (.cells cs e),κ:=upd E.κ q E.w.heap.size,live:=upd E.live q true },hr,.inl rfl,?_⟩;rw [aw];exact h.alloc hn cs e b hc hd 0
end
section
variable {P:Program}{N:Nat}{w0:World}{S0:aa}{o:Oper}{a:Act}{E:Env}{st:St}
theorem hU{S:ar}{w:World}{v:Value}{t:T}(h:eA v=some t):v.cells.size=t.cells.length/\ ∀(i:Nat) (x:Value) (u:T),v.cells[i]? =some x->t.cells[i]? =some u->Rep S w x u/\u.one=true:=by
 refine (gp h).cells (fun ts e=>?_);subst e;unfold eA at h;split at h
 ·cases hm:List.mapM dP _ with
  |none=>rw [hm] at h;cases h
  |some ts=>rw [hm] at h;cases h
 ·unfold dP at h;split at h <;> cases h
theorem cZ{t:TypeId}{zs:List T}(h:cj P t=some zs): ∃i z,P.info? t=some i/\i.zero=some z/\i.size=zs.length/\z.cells.size=zs.length/\(∀ (S:ar) (w:World) (j:Nat) (x:Value) (u:T),z.cells[j]? =some x->zs[j]? =some u->Rep S w x u/\u.one=true)/\
  ∃t',eA z=some t'/\t'.cells=zs:=by
 unfold cj at h;split at h
 ·rename_i i hi;split at h
  ·rename_i z hz;split at h
   ·rename_i x hx;cases hb:Nat.beq x.cells.length i.size with
    |false=>rw [hb] at h;cases h
    |true=>
     rw [hb] at h;simp only [cond_true,Option.some.injEq] at h;subst h
     have:=Nat.eq_of_beq_eq_true hb
     exact ⟨i,z,hi,hz,this.symm,(hU (S:=fun _ _=>False) (w:=default) hx).1,fun S w=>(hU (S:=S) (w:=w) hx).2,x,hx,rfl⟩
   ·cases h
  ·cases h
 ·cases h
end
section
variable [Glb]{P:Program}{N:Nat}{w0:World}{S0:aa}{o:Oper}{a:Act}{E:Env}{st:St}
theorem oy(h:SR N w0 S0 E st a.tmps)(hd:ay N o.dst){t:TypeId}(ho:o.op= .alloc t){x:DOp}(hl:ah P o.op=some x):Sound P N w0 S0 o a E st (eff x (st.nm o.dst) st.sl st.bx):=by
 rw [ho] at hl;simp only [ah,Option.map_eq_some_iff] at hl;obtain ⟨zs,hz,rfl⟩:=hl;obtain ⟨i,z,hi,hiz,_,hsz,aq,_⟩:=cZ hz;unfold eff;cases aw:o.dst with
 |none=>trivial
 |some d=>
  rw [aw] at hd;simp only [St.nm];cases hn:st.bx (d+st.off) with
  |some b=>trivial
  |none=>
   show Did P N w0 S0 o a E (st.app o.dst _)
   rw [aw];refine fR h hd aw hn z.cells t _ (.d _ zs rfl (Nat.le_of_eq hsz.symm) (aq _ _)) ?_;unfold execOp;simp [ho,Instr.alloc,zeroValue,typeInfo,hi,hiz,newVar,newRow]
theorem qH(h:SR N w0 S0 E st a.tmps)(hd:ay N o.dst){t:TypeId}{X:Operand}(ho:o.op= .box t X){x:DOp}(hl:ah P o.op=some x):Sound P N w0 S0 o a E st (eff x (st.nm o.dst) st.sl st.bx):=by
 rw [ho] at hl;simp only [ah] at hl;split at hl
 ·rename_i i y hi hy;simp only [Option.some.injEq] at hl;subst hl;have he:=af h.sl hy;unfold eff;cases aw:o.dst with
  |none=>trivial
  |some d=>
   rw [aw] at hd;simp only [St.nm];have run:(execOp a.eval o).run P E.w= .ok (.value (.pointer (some ⟨E.w.heap.size,0,none⟩))) (E.w.alloc (.cells (a.eval X).cells t)):=by
    unfold execOp;simp [ho,Instr.box,newVar,newRow]
   cases hn:st.bx (d+st.off) with
   |some b=>trivial
   |none=>
    have one1: ∀u:V,ev st.sl y=u->(∀ x,u≠ .t x)->u≠ .top->(∀ vs,u≠ .tup vs)->(∀ vs,u≠ .agv vs)->Sound P N w0 S0 o a E st (match (none:Option BX),cond (Nat.beq i.size 1) (some (True,BX.v [u])) none with
      |none,some (c,b)=>cm.need c {val:=.ptr (d+st.off) 0,wr:=some (d+st.off,b),rd:=[d+st.off]}
      |_,_=>.no):=by
     intro u hu h1 h2 h3 h4;rw [hu] at he;cases Nat.beq i.size 1 with
     |false=>trivial
     |true=>
      intro _;rw [aw];refine fR h hd aw hn _ t _ (.v _ (by rw [he.nV h1 h2 h3 h4];exact Nat.le_refl _) (fun j v w hv hw=>?_)) run;rw [he.nV h1 h2 h3 h4] at hv;cases j with
      |zero=>simp at hv hw;subst hv;subst hw;exact ⟨he,he.one h1 h2 h3 h4⟩
      |succ j=>simp at hw
    cases hx:ev st.sl y with
    |t u=>
     rw [hx] at he;have hr:=he.ax;have oneT:u.one=true->Sound P N w0 S0 o a E st (match (none:Option BX),cond (Nat.beq i.size 1) (some (True,BX.d 1 [u])) none with
      |none,some (c,b)=>cm.need c {val:=.ptr (d+st.off) 0,wr:=some (d+st.off,b),rd:=[d+st.off]}
      |_,_=>.no):=by
      intro hu1;cases Nat.beq i.size 1 with
      |false=>trivial
      |true=>
       intro _;rw [aw];refine fR h hd aw hn _ t _ (.d 1 [u] rfl (by rw [hr.cells_one hu1];exact Nat.le_refl _) (fun j v w hv hw=>?_)) run;rw [hr.cells_one hu1] at hv;cases j with
       |zero=>simp at hv hw;subst hv;subst hw;exact ⟨hr,hu1⟩
       |succ j=>simp at hw
     cases u with
     |tup _=>trivial
     |agg cs=>
      intro hlen;rw [aw];obtain ⟨h1,h2⟩:=hr.cells (fun ts e=>by cases e);exact fR h hd aw hn _ t _ (.d _ cs hlen (Nat.le_of_eq (h1.trans hlen).symm) h2) run
     |_=>exact oneT rfl
    |top=>trivial
    |tup vs=>trivial
    |agv vs=>
     rw [hx] at he;intro hlen;rw [aw];generalize a.eval X=v at he run;cases he with
     |agv cs _ hs h1 hh=>exact fR h hd aw hn _ t _ (.v vs (Nat.le_of_eq hs.symm) (fun j v w hv hw=>⟨hh j v w hv hw,h1 j v hv⟩)) run
    |_=>exact one1 _ hx (fun _ e=>by cases e) (fun e=>by cases e) (fun _ e=>by cases e) (fun _ e=>by cases e)
 ·cases hl
theorem nk(h:SR N w0 S0 E st a.tmps)(hd:ay N o.dst){X:Operand}{y:O}(ho:o.op= .move X\/o.op= .assign X)(hy:ak X=some y):Sound P N w0 S0 o a E st (eff (.mov y) (st.nm o.dst) st.sl st.bx):=by
 refine ai h hd (v:=a.eval X) ?_ (af h.sl hy);unfold execOp;rcases ho with ho|ho <;> simp [ho]
theorem qc(h:SR N w0 S0 E st a.tmps)(hd:ay N o.dst){C A B:Operand}{c x y:O}(ho:o.op= .pick C A B)(hc:ak C=some c)(hx:ak A=some x)(hy:ak B=some y):
  Sound P N w0 S0 o a E st (eff (.pick c x y) (st.nm o.dst) st.sl st.bx):=by
 have he:=af h.sl hc;unfold eff;simp only;cases hv:ev st.sl c with
 |t u=>
  rw [hv] at he;cases u with
  |bool b=>
   have hb:=he.aO;cases b with
   |true=>exact ai h hd (v:=a.eval A) (by unfold execOp;simp [ho,hb,asBool]) (af h.sl hx)
   |false=>exact ai h hd (v:=a.eval B) (by unfold execOp;simp [ho,hb,asBool]) (af h.sl hy)
  |_=>trivial
 |_=>trivial
theorem qa(h:SR N w0 S0 E st a.tmps)(hd:ay N o.dst){s:TypeId}{X:Operand}{f:Nat}(ho:o.op= .fieldAddr s X f){x:DOp}(hl:ah P o.op=some x):Sound P N w0 S0 o a E st (eff x (st.nm o.dst) st.sl st.bx):=by
 rw [ho] at hl;simp only [ah] at hl;split at hl
 ·rename_i fs y hu hy;split at hl
  ·rename_i fd hf;split at hl
   ·rename_i i hi;cases hz:Nat.beq i.size 0 with
    |true=>rw [hz] at hl;cases hl
    |false=>
     rw [hz] at hl;simp only [cond_false,Option.some.injEq] at hl;subst hl;have hne:i.size≠0:=fun e=>by rw [e] at hz;cases hz
     have run: ∀b off,a.eval X= .pointer (some ⟨b,off,none⟩)->(execOp a.eval o).run P E.w= .ok (.value (.pointer (some ⟨b,off+fd.offset,none⟩))) E.w:=fun b off hX=>by
      unfold execOp;simp [ho,hX,Instr.fieldAt,run_underlying hu,hf,Instr.sureAddr,fieldPlace,run_sizeOf hi,hne,bg]
     have he:=af h.sl hy;unfold eff;simp only;cases hv:ev st.sl y with
     |ptr b off=>
      rw [hv] at he;obtain ⟨hp,hlv⟩:=he.bd;exact ai h hd (run _ _ hp) (.ptr b _ hlv)
     |t u=>
      rw [hv] at he;cases u with
      |cptr cs off=>
       have hr:=he.ax;generalize hX:a.eval X=v at hr;cases hr with
       |cptr b o' _ _ g h1 hg aq=>
        refine ai h hd (run _ _ hX) (.t _ _ ?_);rw [Nat.add_assoc];exact .cptr b o' _ cs g h1 hg aq
      |glob g off=>
       have hr:=he.ax;generalize hX:a.eval X=v at hr;cases hr;exact ai h hd (run _ _ hX) (.t _ _ (.glob g _))
      |wrld f1 a1 b1 f2 a2 b2 off=>
       have hr:=he.ax;generalize hX:a.eval X=v at hr;cases hr with
       |wrld b o' b' o'' _ _ _ c1 d1 c2 d2 _ _ _ _ hc1 hd1 hc2 hd2 hw h1 h2 r1 r2 r3 r4=>
        refine ai h hd (run _ _ hX) (.t _ _ ?_);rw [Nat.add_assoc];exact .wrld b o' b' o'' _ f1 f2 c1 d1 c2 d2 a1 b1 a2 b2 hc1 hd1 hc2 hd2 hw h1 h2 r1 r2 r3 r4
      |_=>trivial
     |_=>trivial
   ·cases hl
  ·cases hl
 ·cases hl
end
section
variable {P:Program}{N:Nat}{w0:World}{S0:aa}{o:Oper}{a:Act}{E:Env}{st:St}
theorem dN{t e:TypeId}{len:Nat}{j:TypeInfo}(hu:P.underlying t=some (.array len e))(hj:P.info? e=some j)(b off:Nat)(k:IntKind)(n:Int)(h0:0<=n)(h1:n<len)(w:World):
  (Instr.indexAt t (.pointer (some ⟨b,off,none⟩)) (.int k n)).run P w= .ok (.pointer (some ⟨b,off+n.toNat * j.size,none⟩)) w:=by
 simp [Instr.indexAt,asIntOf,run_underlying hu,Instr.sureAddr,h0,h1,run_sizeOf hj,bg]
theorem gd{t e:TypeId}{j:TypeInfo}(hu:P.underlying t=some (.slice e))(hj:P.info? e=some j)(b off len cap:Nat)(k:IntKind)(n:Int)(h0:0<=n)(h1:n<len)(w:World):
  (Instr.indexAt t (.slice (some ⟨b,off,none⟩) len cap) (.int k n)).run P w= .ok (.pointer (some ⟨b,off+n.toNat * j.size,none⟩)) w:=by
 simp [Instr.indexAt,asIntOf,run_underlying hu,h0,h1,run_sizeOf hj,bg]
theorem jj{n:Nat}: ∀{xs:List T} (_: ∀x∈xs,x.cells.length=n) (k:Nat) (x:T),xs[k]? =some x-> ∀j,j<n->(xs.flatMap T.cells)[k * n+j]? =x.cells[j]?
 |[],_,k,x,hx,_,_=>by simp at hx
 |y::ys,hu,k,x,hx,j,hj=>by
  rw [List.flatMap_cons];have hy:=hu y (by simp);cases k with
  |zero=>
   simp at hx;subst hx;rw [Nat.zero_mul,Nat.zero_add,List.getElem?_append_left (by omega)]
  |succ k=>
   rw [List.getElem?_append_right (by rw [hy,Nat.add_mul];omega)]
   have:=jj (fun x hx=>hu x (List.mem_cons_of_mem _ hx)) k x (by simpa using hx) j hj
   rw [<- this]
   congr 1
   rw [hy,Nat.add_mul];omega
theorem aI{n:Nat}: ∀{xs:List T} (_: ∀x∈xs,x.cells.length=n),(xs.flatMap T.cells).length=xs.length * n
 |[],_=>by simp
 |y::ys,hu=>by
  rw [List.flatMap_cons,List.length_append,hu y (by simp),aI (fun x hx=>hu x (List.mem_cons_of_mem _ hx)),List.length_cons,Nat.add_mul];omega
theorem pM{S:ar}{w:World}{v:Value}{n:Nat}{xs:List T}(h:Rep S w v (.slice n xs))(k:Nat)(hk:k<xs.length)(hn:0<n):
  ∃b off cap,v= .slice (some ⟨b,off,none⟩) xs.length cap/\Rep S w (.pointer (some ⟨b,off+k * n,none⟩)) (.cptr (xs[k]?.getD .nil).cells 0):=by
 cases h with
 |slice a b off len cap _ _ g hl hc hu h1 ha hg aq=>
  subst hl;have hlen:=aI hu;have aH:0<(xs.flatMap T.cells).length:=by rw [hlen];exact Nat.mul_pos (by omega) hn
  have hxk:xs[k]? =some xs[k]:=ggZ hk;have hsz:(xs[k]).cells.length=n:=hu _ (List.getElem_mem hk);have hin: ∀j,j<n->k * n+j<(xs.flatMap T.cells).length:=fun j hj=>by
   rw [hlen]
   have:(k+1) * n<=xs.length * n:=Nat.mul_le_mul_right _ hk
   rw [Nat.add_mul] at this;omega
  refine ⟨b,off,cap,by rw [ha aH],?_⟩;rw [hxk]
  have:=Rep.cptr (S:=S) (w:=w) b (off+k * n) 0 (xs[k]).cells (fun j=>g (k * n+j))
   (fun t ht=>h1 t (List.mem_flatMap.2 ⟨_,List.getElem_mem hk,ht⟩))
   (fun i hi=>by
    have:=hg (k * n+i) (hin i (by omega))
    rwa [<- Nat.add_assoc] at this)
   (fun i t ht=>aq (k * n+i) t (by rw [jj hu k _ hxk i (by have:=(gsZ ht).1;omega)];exact ht))
  simpa using this
end
section
variable [Glb]{P:Program}{N:Nat}{w0:World}{S0:aa}{o:Oper}{a:Act}{E:Env}{st:St}
theorem kX(h:SR N w0 S0 E st a.tmps)(hd:ay N o.dst){t:TypeId}{X I:Operand}(ho:o.op= .indexAddr t X I){x:DOp}(hl:ah P o.op=some x):Sound P N w0 S0 o a E st (eff x (st.nm o.dst) st.sl st.bx):=by
 have exec: ∀r,(Instr.indexAt t (a.eval X) (a.eval I)).run P E.w= .ok r E.w->(execOp a.eval o).run P E.w= .ok (.value r) E.w:=fun r hr=>by
  unfold execOp;simp [ho,hr]
 rw [ho] at hl;simp only [ah] at hl;split at hl
 ·rename_i len e y z hu hy hz;split at hl
  ·rename_i j hj;simp only [Option.some.injEq] at hl;subst hl;have hey:=af h.sl hy;have hez:=af h.sl hz;unfold eff;simp only;split
   ·rename_i b off k n h1 h2;rw [h1] at hey;rw [h2] at hez;obtain ⟨hp,hlv⟩:=hey.bd;rintro ⟨h0,h1⟩;exact ai h hd (exec _ (by rw [hp,hez.aA];exact dN hu hj _ _ _ _ h0 h1 _)) (.ptr b _ hlv)
   ·rename_i cs off k n h1 h2;rw [h1] at hey;rw [h2] at hez;rintro ⟨h0,h1⟩;have hr:=hey.ax;generalize hX:a.eval X=v at hr;cases hr with
    |cptr b o' _ _ g hh hg aq=>
     refine ai h hd (exec _ (by rw [hX,hez.aA];exact dN hu hj _ _ _ _ h0 h1 _)) (.t _ _ ?_);rw [Nat.add_assoc];exact .cptr b o' _ cs g hh hg aq
   ·rename_i g off k n h1 h2;rw [h1] at hey;rw [h2] at hez;rintro ⟨h0,h1⟩;have hr:=hey.ax;generalize hX:a.eval X=v at hr;cases hr;exact ai h hd (exec _ (by rw [hX,hez.aA];exact dN hu hj _ _ _ _ h0 h1 _)) (.t _ _ (.glob g _))
   ·trivial
  ·cases hl
 ·rename_i e y z hu hy hz;split at hl
  ·rename_i j hj;cases aH:Nat.blt 0 j.size with
   |false=>rw [aH] at hl;cases hl
   |true=>
   rw [aH] at hl;have aH:0<j.size:=Nat.lt_of_lt_of_le (Nat.lt_succ_self 0) (nlZ aH);simp only [cond_true,Option.some.injEq] at hl;subst hl;have hey:=af h.sl hy;have hez:=af h.sl hz;have data: ∀(xs:List T) (k:IntKind) (n:Int),Rep E.S E.w (a.eval X) (.slice j.size xs)->a.eval I= .int k n->0<=n/\n<xs.length->
     Did P N w0 S0 o a E (st.app o.dst {val:=.t (.cptr (xs[n.toNat]?.getD .nil).cells 0)}):=fun xs k n hr hI hn=>by
    obtain ⟨b,off,cap,hv,hr'⟩:=pM hr n.toNat (by omega) aH;exact ai h hd (exec _ (by rw [hv,hI];exact gd hu hj _ _ _ _ _ _ hn.1 hn.2 _)) (.t _ _ hr')
   unfold eff;simp only;split
   ·rename_i b off len sz k n h1 h2;rw [h1] at hey;rw [h2] at hez;obtain ⟨cap,hp,_,hlv⟩:=hey.bJ;cases hb:Nat.beq j.size sz with
    |false=>trivial
    |true=>
     rintro ⟨h0,h1⟩;exact ai h hd (exec _ (by rw [hp,hez.aA];exact gd hu hj _ _ _ _ _ _ h0 h1 _)) (.ptr b _ hlv)
   ·rename_i v k n h2 _;rw [h2] at hez;split
    ·rename_i sz xs ha;cases hb:Nat.beq j.size sz with
     |false=>trivial
     |true=>
      have hs:j.size=sz:=Nat.eq_of_beq_eq_true hb;intro hn;have hr:=aC hey ha;rw [<- hs] at hr;exact data xs k n hr hez.aA hn
    ·trivial
   ·trivial
  ·cases hl
 all_goals cases hl
end
end Go.DL
end
section
namespace Go.DL
open Go.RowKit
section
variable [Glb]{P:Program}{N:Nat}{w0:World}{S0:aa}{o:Oper}{a:Act}{E:Env}{st:St}
end
section
variable {P:Program}{N:Nat}{w0:World}{S0:aa}{o:Oper}{a:Act}{E:Env}{st:St}
theorem e7{t:TypeId}{d:TypeDesc}{i:TypeInfo}(hu:P.underlying t=some d)(hi:P.info? t=some i)(hg:au P t=true)(cs:Array Value)(off:Nat)(w:World):
  (part t cs off).run P w= .ok (.agg (cs.extract off (off+i.size))) w:=by
 simp [part,fz hu,hg,run_sizeOf hi]
theorem e8{t:TypeId}{d:TypeDesc}(hu:P.underlying t=some d)(hg:au P t=false)(cs:Array Value)(off:Nat)(v:Value)(hv:cs[off]? =some v)(w:World):
  (part t cs off).run P w= .ok v w:=by
 simp [part,fz hu,hg,hv]
theorem ni{S:ar}{w:World}{cs:Array Value}{ts:List T}(h:Rep S w (.agg cs) (.agg ts))(off n:Nat)(hle:off+n<=ts.length):Rep S w (.agg (cs.extract off (off+n))) (.agg ((ts.drop off).take n)):=by
 cases h with
 |agg _ _ hs h1 aq=>
  refine .agg _ _ (by simp [hs];omega) (fun t ht=>h1 t ?_) (fun i x t hx ht=>?_)
  ·exact List.mem_of_mem_drop (List.mem_of_mem_take ht)
  ·rw [aF] at ht;split at ht
   ·rw [Array.getElem?_extract] at hx;split at hx
    ·exact aq (off+i) x t hx ht
    ·cases hx
   ·cases ht
theorem nh{S:ar}{w:World}{cs:Array Value}{ts:List T}(h:Rep S w (.agg cs) (.agg ts))(off:Nat)(hlt:off<ts.length): ∃v,cs[off]? =some v/\Rep S w v (ts[off]?.getD .nil):=by
 cases h with
 |agg _ _ hs h1 aq=>
  have:off<cs.size:=by omega
  refine ⟨cs[off],by simp [this],aq off _ _ (by simp [this]) (by simp [hlt])⟩
theorem fZ{S:ar}{w:World}{v:Value}{ts:List T}(h:Rep S w v (.agg ts)): ∃cs,v= .agg cs:=by cases h;exact ⟨_,rfl⟩
end
section
variable [Glb]{P:Program}{N:Nat}{w0:World}{S0:aa}{o:Oper}{a:Act}{E:Env}{st:St}
theorem oB(h:SR N w0 S0 E st a.tmps)(hd:ay N o.dst){s:TypeId}{X:Operand}{f:Nat}(ho:o.op= .field s X f){x:DOp}(hl:ah P o.op=some x):Sound P N w0 S0 o a E st (eff x (st.nm o.dst) st.sl st.bx):=by
 have exec: ∀r,(Instr.field s (a.eval X) f).run P E.w= .ok r E.w->(execOp a.eval o).run P E.w= .ok (.value r) E.w:=fun r hr=>by
  unfold execOp;simp [ho,hr]
 rw [ho] at hl;simp only [ah] at hl;split at hl
 ·rename_i fs y hu hy;split at hl
  ·rename_i fd hf;split at hl
   ·rename_i i d hi hud;simp only [Option.some.injEq] at hl;subst hl;have he:=af h.sl hy;unfold eff;simp only;split
    ·rename_i cs hv;rw [hv] at he;have hr:=he.ax;obtain ⟨vs,hvs⟩:=fZ hr;rw [hvs] at hr;split
     ·rename_i hag;intro hle;exact ai h hd (exec _ (by simp [Instr.field,run_underlying hu,hf,hvs,asAgg,e7 hud hi hag])) (.t _ _ (ni hr _ _ hle))
     ·rename_i hag;intro hlt;obtain ⟨v,hv,hr'⟩:=nh hr _ hlt;exact ai h hd (exec _ (by simp [Instr.field,run_underlying hu,hf,hvs,asAgg,e8 hud hag _ _ _ hv])) (.t _ _ hr')
    ·trivial
   ·cases hl
  ·cases hl
 ·cases hl
end
section
variable {P:Program}{N:Nat}{w0:World}{S0:aa}{o:Oper}{a:Act}{E:Env}{st:St}
theorem oV(s:ByteArray)(n:Nat)(h:n<s.size):s[n]? =some (s.toList[n]?.getD 0):=by
 have h1:s[n]? =some s[n]:=getElem?_pos s n h;rw [h1];rw [ByteArray.toList_eq]
 have:n<s.data.toList.length:=by simpa using h
 simp [ggZ this];rfl
end
section
variable [Glb]{P:Program}{N:Nat}{w0:World}{S0:aa}{o:Oper}{a:Act}{E:Env}{st:St}
theorem oC(h:SR N w0 S0 E st a.tmps)(hd:ay N o.dst){t:TypeId}{X I:Operand}(ho:o.op= .index t X I){x:DOp}(hl:ah P o.op=some x):Sound P N w0 S0 o a E st (eff x (st.nm o.dst) st.sl st.bx):=by
 have exec: ∀r,(Instr.index t (a.eval X) (a.eval I)).run P E.w= .ok r E.w->(execOp a.eval o).run P E.w= .ok (.value r) E.w:=fun r hr=>by
  unfold execOp;simp [ho,hr]
 rw [ho] at hl;simp only [ah] at hl;split at hl
 ·rename_i len e y z hu hy hz;split at hl
  ·rename_i j d hj hud;simp only [Option.some.injEq] at hl;subst hl;have hey:=af h.sl hy;have hez:=af h.sl hz;unfold eff;simp only;split
   ·rename_i cs k n h1 h2;rw [h1] at hey;rw [h2] at hez;have hr:=hey.ax;obtain ⟨vs,hvs⟩:=fZ hr;rw [hvs] at hr;split
    ·rename_i hag;rintro ⟨h0,h1,hle⟩;exact ai h hd (exec _ (by simp [Instr.index,asIntOf,hez.aA,run_underlying hu,hvs,h0,h1,run_sizeOf hj,e7 hud hj hag])) (.t _ _ (ni hr _ _ hle))
    ·rename_i hag;rintro ⟨h0,h1,hlt⟩;obtain ⟨v,hv,hr'⟩:=nh hr _ hlt;exact ai h hd (exec _ (by simp [Instr.index,asIntOf,hez.aA,run_underlying hu,hvs,h0,h1,run_sizeOf hj,e8 hud hag _ _ _ hv])) (.t _ _ hr')
   ·trivial
  ·cases hl
 ·rename_i y z hu hy hz;simp only [Option.some.injEq] at hl;subst hl;have hey:=af h.sl hy;have hez:=af h.sl hz;unfold eff;simp only;split
  ·rename_i s k n h1 h2;rw [h1] at hey;rw [h2] at hez;rintro ⟨h0,h1⟩;refine ai h hd (exec _ ?_) (.t _ _ (.int _ _));have hb:=oV s n.toNat (by omega);simp [Instr.index,asIntOf,hez.aA,run_underlying hu,hey.bf,h0,hb]
  ·trivial
 all_goals cases hl
theorem qP(h:SR N w0 S0 E st a.tmps)(hd:ay N o.dst){t:TypeId}{X:Operand}{y:O}(ho:o.op= .unOp .not t X)(hy:ak X=some y):Sound P N w0 S0 o a E st (eff (.not y) (st.nm o.dst) st.sl st.bx):=by
 have he:=af h.sl hy;unfold eff;simp only;split
 ·rename_i b hv;rw [hv] at he;exact ai h hd (by unfold execOp;simp [ho,he.aO,Op.unary]) (.t _ _ (.bool _))
 ·trivial
theorem qO(h:SR N w0 S0 E st a.tmps)(hd:ay N o.dst){t:TypeId}{X:Operand}{y:O}(ho:o.op= .unOp .neg t X)(hy:ak X=some y):Sound P N w0 S0 o a E st (eff (.neg y) (st.nm o.dst) st.sl st.bx):=by
 have he:=af h.sl hy;unfold eff;simp only;split
 ·rename_i k n hv;rw [hv] at he;exact ai h hd (v:=.int k (k.wrap (0 - n))) (by unfold execOp;simp [ho,he.aA,Op.unary,Op.intArith]) (.t _ _ (.int _ _))
 ·trivial
theorem mz(h:SR N w0 S0 E st a.tmps)(hd:ay N o.dst){f:FuncId}{caps:Array Operand}(ho:o.op= .makeFunc (.func f) #[] caps){ys:List O}(hy:dM caps.toList=some ys):
  Sound P N w0 S0 o a E st (eff (.mkfn f ys) (st.nm o.dst) st.sl st.bx):=by
 obtain ⟨hlen,gD⟩:=gL _ _ _ hy;refine ai h hd (v:=.func (.func f) #[] (caps.map a.eval)) (by unfold execOp;simp [ho,Instr.makeFunc]) (.fn f _ _ (by simpa using hlen) fun i x u hx hu=>?_);simp only [Array.getElem?_map,Option.map_eq_some_iff] at hx;simp only [List.getElem?_map,Option.map_eq_some_iff] at hu;obtain ⟨X,hX,rfl⟩:=hx;obtain ⟨y,hy,rfl⟩:=hu;exact af h.sl (gD i X y (by simpa using hX) hy)
theorem mS(h:SR N w0 S0 E st a.tmps)(hd:ay N o.dst){X:Operand}{i:Nat}{y:O}(ho:o.op= .extract X i)(hy:ak X=some y):Sound P N w0 S0 o a E st (eff (.ext y i) (st.nm o.dst) st.sl st.bx):=by
 have he:=af h.sl hy;unfold eff;simp only;split
 ·rename_i ts hv;rw [hv] at he;split
  ·rename_i t ht;have hr:=he.ax;generalize hX:a.eval X=v at hr;cases hr with
   |tup cs _ hs aq=>
    have hlt:i<cs.size:=by rw [hs];exact (gsZ ht).1
    exact ai h hd (v:=cs[i]) (by unfold execOp;simp [ho,hX,Instr.extract,hlt]) (.t _ _ (aq i _ t (by simp [hlt]) ht))
  ·trivial
 ·rename_i vs hv;rw [hv] at he;split
  ·rename_i t ht;generalize hX:a.eval X=v at he;cases he with
   |tup cs _ hs aq=>
    have hlt:i<cs.size:=by rw [hs];exact (gsZ ht).1
    exact ai h hd (v:=cs[i]) (by unfold execOp;simp [ho,hX,Instr.extract,hlt]) (aq i _ t (by simp [hlt]) ht)
  ·trivial
 ·trivial
theorem oH(h:SR N w0 S0 E st a.tmps)(hd:ay N o.dst){X:Operand}{y:O}(ho:o.op= .nilCheck X)(hy:ak X=some y):Sound P N w0 S0 o a E st (eff (.nilck y) (st.nm o.dst) st.sl st.bx):=by
 have he:=af h.sl hy;have exec: ∀ad,a.eval X= .pointer (some ad)->(execOp a.eval o).run P E.w= .ok (.value (a.eval X)) E.w:=fun ad hX=>by
  unfold execOp;simp [ho,hX]
 unfold eff;simp only;split
 ·rename_i b off hv;rw [hv] at he;exact ai h hd (exec _ he.bd.1) he
 ·rename_i cs off hv;rw [hv] at he;have hr:=he.ax
  have: ∃ad,a.eval X= .pointer (some ad):=by
   generalize a.eval X=v at hr;cases hr;exact ⟨_,rfl⟩
  obtain ⟨ad,hX⟩:=this;exact ai h hd (exec _ hX) he
 ·rename_i hv;rw [hv] at he;have hr:=he.ax
  have: ∃ad,a.eval X= .pointer (some ad):=by
   generalize a.eval X=v at hr;cases hr;exact ⟨_,rfl⟩
  obtain ⟨ad,hX⟩:=this;exact ai h hd (exec _ hX) he
 ·rename_i f p q hv;rw [hv] at he;have hr:=he.ax
  have: ∃ad,a.eval X= .pointer (some ad):=by
   generalize a.eval X=v at hr;cases hr;exact ⟨_,rfl⟩
  obtain ⟨ad,hX⟩:=this;exact ai h hd (exec _ hX) he
 ·rename_i hv;rw [hv] at he;have hr:=he.ax
  have: ∃ad,a.eval X= .pointer (some ad):=by
   generalize a.eval X=v at hr;cases hr;exact ⟨_,rfl⟩
  obtain ⟨ad,hX⟩:=this;exact ai h hd (exec _ hX) he
 ·trivial
end
section
variable {P:Program}{N:Nat}{w0:World}{S0:aa}{o:Oper}{a:Act}{E:Env}{st:St}
theorem aD{b:Builtin}{args:Array Operand}{ts:Array TypeId}(ho:o.op= .call {callee:=.builtin b,args:=args,argTypes:=ts }){w:World}{nx:Next}{w':World}
  (hr:(builtin b ts o.type (args.map fun|.const _=>true|_=>false) (args.map a.eval)).run P w= .ok nx w'):(execOp a.eval o).run P w= .ok nx w':=by
 unfold execOp;simp only [ho,resolve,Sem.run_bind,Sem.run_pure,Result.andThen_ok,invoke];exact hr
theorem bN.len{v:Value}{r:Nat}{e:TypeId}{size:Nat}{xs:List T}(h:bN E v r e size xs): ∃A cap,v= .slice A xs.length cap:=by
 obtain ⟨cells,h1,_,_⟩:=h.ex;rcases h1.2 with ⟨rfl,hn⟩|⟨g,cap,cur,rfl,_⟩
 ·exact ⟨none,0,by rw [hn]⟩
 ·exact ⟨_,cap,rfl⟩
theorem VR.eU{v:Value}{r:Nat}{e:TypeId}{size:Nat}{xs:List T}(h:VR E v (.own r e size xs)):bN E v r e size xs:=by cases h;assumption
end
section
variable [Glb]{P:Program}{N:Nat}{w0:World}{S0:aa}{o:Oper}{a:Act}{E:Env}{st:St}
theorem qL(h:SR N w0 S0 E st a.tmps)(hd:ay N o.dst){X:Operand}{t e:TypeId}{y:O}(ho:o.op= .call {callee:=.builtin .len,args:= #[X],argTypes:= #[t]})(hy:ak X=some y)
  (hu:P.underlying t=some (.slice e)):Sound P N w0 S0 o a E st (eff (.len y) (st.nm o.dst) st.sl st.bx):=by
 have he:=af h.sl hy;have sl: ∀A n c,a.eval X= .slice A n c->Did P N w0 S0 o a E (st.app o.dst {val:=.t (.int .i64 n)}):=fun A n c hX=>
  ai h hd (v:=.int .i64 n) (aD ho (by simp [builtin,Builtin.len_,hX,run_underlying hu,goInt])) (.t _ _ (.int _ _))
 unfold eff;simp only;split
 ·rename_i n xs hv;rw [hv] at he;have hr:=he.ax;generalize hX:a.eval X=v at hr;cases hr with
  |slice A b off len cap _ _ g hl hc=>
   subst hl;exact sl _ _ _ hX
 ·rename_i r e size xs hv;rw [hv] at he;obtain ⟨A,cap,hX⟩:=he.eU.len;exact sl _ _ _ hX
 ·rename_i n xs hv;rw [hv] at he;have hr:=aC he (rfl:asT (.full n xs)=some (.slice n xs));generalize hX:a.eval X=v at hr;cases hr with
  |slice A b off len cap _ _ g hl hc=>
   subst hl;exact sl _ _ _ hX
 ·rename_i hv;rw [hv] at he;have hr:=he.ax;generalize hX:a.eval X=v at hr;cases hr;exact sl _ _ _ hX
 ·rename_i b off n sz hv;rw [hv] at he;obtain ⟨cap,hX,_,_⟩:=he.bJ;exact sl _ _ _ hX
 ·trivial
theorem pW(h:SR N w0 S0 E st a.tmps)(hd:ay N o.dst){X:Operand}{t:TypeId}{y:O}(ho:o.op= .call {callee:=.builtin .len,args:= #[X],argTypes:= #[t]})(hy:ak X=some y)
  (hu:P.underlying t=some .string):Sound P N w0 S0 o a E st (eff (.lenS y) (st.nm o.dst) st.sl st.bx):=by
 have he:=af h.sl hy;unfold eff;simp only;split
 ·rename_i s hv;rw [hv] at he;have hX:=he.bf;exact ai h hd (v:=.int .i64 s.size) (aD ho (by simp [builtin,Builtin.len_,hX,run_underlying hu,goInt])) (.t _ _ (.int _ _))
 ·trivial
theorem qM(h:SR N w0 S0 E st a.tmps)(hd:ay N o.dst){X Y:Operand}{ts:Array TypeId}{x y:O}(ho:o.op= .call {callee:=.builtin .max,args:= #[X,Y],argTypes:=ts })(hx:ak X=some x)(hy:ak Y=some y):
  Sound P N w0 S0 o a E st (eff (.maxI x y) (st.nm o.dst) st.sl st.bx):=by
 have hex:=af h.sl hx;have hey:=af h.sl hy;unfold eff;simp only;split
 ·rename_i k m k' n h1 h2;rw [h1] at hex;rw [h2] at hey;exact ai h hd (v:=.int k (if n>m then n else m)) (aD ho (by simp [builtin,Builtin.max_,Builtin.max2,hex.aA,hey.aA])) (.t _ _ (.int _ _))
 ·trivial
theorem qN(h:SR N w0 S0 E st a.tmps)(hd:ay N o.dst){X Y:Operand}{ts:Array TypeId}{x y:O}(ho:o.op= .call {callee:=.builtin .min,args:= #[X,Y],argTypes:=ts })(hx:ak X=some x)(hy:ak Y=some y):
  Sound P N w0 S0 o a E st (eff (.minI x y) (st.nm o.dst) st.sl st.bx):=by
 have hex:=af h.sl hx;have hey:=af h.sl hy;unfold eff;simp only;split
 ·rename_i k m k' n h1 h2;rw [h1] at hex;rw [h2] at hey;exact ai h hd (v:=.int k (if n<m then n else m)) (aD ho (by simp [builtin,Builtin.min_,Builtin.min2,hex.aA,hey.aA])) (.t _ _ (.int _ _))
 ·trivial
end
end Go.DL
end
section
namespace Go.DL
open Go.RowKit
section
variable [Glb]{P:Program}{N:Nat}{w0:World}{S0:aa}{o:Oper}{a:Act}{E:Env}{st:St}
def Bnd(x:Option Value)(n:Int)(dflt:Nat):Prop:=(x=none/\n=dflt)\/ ∃k,x=some (.int k n)
theorem dO(h:SR N w0 S0 E st a.tmps){X:Option Operand}{y:Option O}(hy:cF X=some y){n:Int}(hn:eo (y.map (ev st.sl))=some n):Bnd (X.map a.eval) n 0:=by
 cases X with
 |none=>
  simp [cF] at hy;subst hy;simp [eo] at hn;subst hn;exact .inl ⟨rfl,rfl⟩
 |some X=>
  simp only [cF,Option.map_eq_some_iff] at hy;obtain ⟨z,hz,rfl⟩:=hy;have he:=af h.sl hz;simp only [Option.map_some,eo] at hn;split at hn
  ·rename_i heq;cases heq
  ·rename_i k m heq;simp only [Option.some.injEq] at heq hn;subst hn;rw [heq] at he;exact .inr ⟨k,by simp [he.aA]⟩
  ·cases hn
theorem dt(h:SR N w0 S0 E st a.tmps){X:Option Operand}{y:Option O}(hy:cF X=some y){n:Int}{len:Nat}(hn:df (y.map (ev st.sl)) len=some n):Bnd (X.map a.eval) n len:=by
 cases X with
 |none=>
  simp [cF] at hy;subst hy;simp [df] at hn;subst hn;exact .inl ⟨rfl,rfl⟩
 |some X=>
  simp only [cF,Option.map_eq_some_iff] at hy;obtain ⟨z,hz,rfl⟩:=hy;have he:=af h.sl hz;simp only [Option.map_some,df] at hn;split at hn
  ·rename_i heq;cases heq
  ·rename_i k m heq;simp only [Option.some.injEq] at heq hn;subst hn;rw [heq] at he;exact .inr ⟨k,by simp [he.aA]⟩
  ·cases hn
end
section
variable {P:Program}{N:Nat}{w0:World}{S0:aa}{o:Oper}{a:Act}{E:Env}{st:St}
theorem bw(isS:Bool){len cap:Nat}{lo hi:Option Value}{l h:Int}(hl:Bnd lo l 0)(hh:Bnd hi h len)(h0:0<=l)(h1:l<=h)(h2:h<=cap)(w:World):
  (Instr.sliceBounds isS len cap lo hi none).run P w= .ok (l.toNat,h.toNat,cap) w:=by
 have hh0:(0:Int)<=h:=by omega
 have hlh:l<=((h.toNat:Nat):Int):=by omega
 rcases hh with ⟨rfl,rfl⟩|⟨k,rfl⟩ <;> rcases hl with ⟨rfl,rfl⟩|⟨k',rfl⟩
 ·simp [Instr.sliceBounds]
 ·simp only [Int.toNat_natCast] at hlh;simp [Instr.sliceBounds,Instr.sliceBound,asIntOf,h0,hlh]
 ·simp [Instr.sliceBounds,Instr.sliceBound,asIntOf,hh0,h2]
 ·simp [Instr.sliceBounds,Instr.sliceBound,asIntOf,h0,hh0,h2];intro hc;omega
theorem ph{n:Nat}{xs:List T}(hu: ∀x∈xs,x.cells.length=n)(l h:Nat)(hl:l<=h)(hh:h<=xs.length)(i:Nat)(hi:i<(h - l) * n):
  (((xs.take h).drop l).flatMap T.cells)[i]? =(xs.flatMap T.cells)[l * n+i]? :=by
 have e:xs=xs.take l++((xs.take h).drop l++xs.drop h):=by
  have h1:(xs.take h).drop l++xs.drop h=xs.drop l:=by
   rw [List.drop_take]
   have:xs.drop h=(xs.drop l).drop (h - l):=by rw [List.drop_drop];congr 1;omega
   rw [this,List.take_append_drop]
  rw [h1,List.take_append_drop]
 have hA:((xs.take l).flatMap T.cells).length=l * n:=by
  rw [aI (n:=n) (fun x hx=>hu x (List.mem_of_mem_take hx)),List.length_take,Nat.min_eq_left (by omega)]
 have hM:(((xs.take h).drop l).flatMap T.cells).length=(h - l) * n:=by
  rw [aI (n:=n) (fun x hx=>hu x (List.mem_of_mem_take (List.mem_of_mem_drop hx))),List.length_drop,List.length_take,Nat.min_eq_left hh]
 conv=>rhs;rw [e]
 rw [List.flatMap_append,List.flatMap_append,List.getElem?_append_right (by omega),hA,List.getElem?_append_left (by rw [hM];omega)]
 congr 1;omega
theorem gR{S:ar}{w:World}{A:Option Addr}{len cap n:Nat}{xs:List T}(h:Rep S w (.slice A len cap) (.slice n xs))(l hh:Nat)(hl:l<=hh)(hle:hh<=xs.length):
  Rep S w (.slice (if cap=l then A else A.map (·.add (l * n))) (hh - l) (cap - l)) (.slice n ((xs.take hh).drop l)):=by
 cases h with
 |slice _ b off _ _ _ _ g hlen hc hu h1 ha hg aq=>
  subst hlen;have hu': ∀x∈(xs.take hh).drop l,x.cells.length=n:=fun x hx=>hu x (List.mem_of_mem_take (List.mem_of_mem_drop hx))
  have hM:(((xs.take hh).drop l).flatMap T.cells).length=(hh - l) * n:=by
   rw [aI hu',List.length_drop,List.length_take,Nat.min_eq_left hle]
  have hT:=aI hu;have hb: ∀i,i<(hh - l) * n->l * n+i<xs.length * n:=fun i hi=>by
   have:l * n+(hh - l) * n<=xs.length * n:=by rw [<- Nat.add_mul];exact Nat.mul_le_mul_right _ (by omega)
   omega
  refine .slice _ b (off+l * n) _ _ n _ (fun i=>g (l * n+i)) (by simp;omega) (by omega) hu' (fun t ht=>?_) (fun aH=>?_) (fun i hi=>?_) (fun i t ht=>?_)
  ·obtain ⟨x,hx,htx⟩:=List.mem_flatMap.1 ht;exact h1 t (List.mem_flatMap.2 ⟨x,List.mem_of_mem_take (List.mem_of_mem_drop hx),htx⟩)
  ·rw [hM] at aH;have hlt:l<hh:=by
    rcases Nat.lt_or_ge l hh with h|h
    ·exact h
    ·have:hh - l=0:=by omega
     rw [this,Nat.zero_mul] at aH;omega
   have:=hb 0 aH
   have hA:=ha (by rw [hT];omega);rw [if_neg (by omega),hA];simp [bg]
  ·rw [hM] at hi
   have:=hg (l * n+i) (by rw [hT];exact hb i hi)
   rw [Nat.add_assoc];exact this
  ·have hi:i<(hh - l) * n:=by rw [<- hM];exact (gsZ ht).1
   rw [ph hu l hh hl hle i hi] at ht;exact aq _ t ht
theorem dU{S:ar}{w:World}{v:Value}{n:Nat}{xs:List T}(h:Rep S w v (.slice n xs)): ∃A cap,v= .slice A xs.length cap/\xs.length<=cap:=by
 cases h with
 |slice A b off len cap _ _ g hl hc=>subst hl;exact ⟨_,_,rfl,hc⟩
theorem cS{size:Nat}(h0:0<size): ∀(n:Nat) (cs:List T),n * size<=cs.length->(∀ t∈cs,t.one=true)->(chunk size n cs).flatMap T.cells=cs.take (n * size)/\(chunk size n cs).length=n/\ ∀x∈chunk size n cs,x.cells.length=size
 |0,cs,_,_=>by simp [chunk]
 |n+1,cs,h,h1=>by
  rw [Nat.add_mul,Nat.one_mul] at h;have hel:(elemOf size (cs.take size)).cells=cs.take size:=by
   unfold elemOf;cases hb:Nat.beq size 1 with
   |false=>rfl
   |true=>
    have:size=1:=Nat.eq_of_beq_eq_true hb
    subst this
    match cs,h,h1 with
    |[],h,_=>simp at h
    |t::cs,_,h1=>exact T.cells_one (h1 t (by simp))
  obtain ⟨k1,k2,k3⟩:=cS h0 n (cs.drop size) (by simp;omega) (fun t ht=>h1 t (List.mem_of_mem_drop ht));unfold chunk;refine ⟨?_,by simp [k2],fun x hx=>?_⟩
  ·rw [List.flatMap_cons,hel,k1,Nat.add_mul,Nat.one_mul,Nat.add_comm (n * size) size,List.take_add]
  ·rcases List.mem_cons.1 hx with rfl|hx
   ·rw [hel];simp;omega
   ·exact k3 x hx
end
section
variable [Glb]{P:Program}{N:Nat}{w0:World}{S0:aa}{o:Oper}{a:Act}{E:Env}{st:St}
theorem oI(h:SR N w0 S0 E st a.tmps)(hd:ay N o.dst){t:TypeId}{X:Operand}{lo hi:Option Operand}(ho:o.op= .slice t X lo hi none){x:DOp}(hl:ah P o.op=some x):Sound P N w0 S0 o a E st (eff x (st.nm o.dst) st.sl st.bx):=by
 have exec: ∀r,(Instr.sliceAt t (a.eval X) (lo.map a.eval) (hi.map a.eval) none).run P E.w= .ok r E.w->(execOp a.eval o).run P E.w= .ok (.value r) E.w:=fun r hr=>by
  unfold execOp;simp [ho,hr]
 rw [ho] at hl;simp only [ah] at hl;split at hl
 ·rename_i e y lo' hi' hu hy hlo hhi;split at hl
  ·rename_i j hj;cases aH:Nat.blt 0 j.size with
   |false=>rw [aH] at hl;cases hl
   |true=>
   rw [aH] at hl;have aH:0<j.size:=Nat.lt_of_lt_of_le (Nat.lt_succ_self 0) (nlZ aH);simp only [cond_true,Option.some.injEq] at hl;subst hl;have he:=af h.sl hy;have run: ∀A len cap (l hh:Int),a.eval X= .slice A len cap->Bnd (lo.map a.eval) l 0->Bnd (hi.map a.eval) hh len->0<=l->l<=hh->hh<=cap->
     (execOp a.eval o).run P E.w= .ok (.value (.slice (if cap=l.toNat then A else A.map (·.add (l.toNat * j.size))) (hh.toNat - l.toNat) (cap - l.toNat))) E.w:=fun A len cap l hh hX h1 h2 h3 h4 h5=>by
    refine exec _ ?_;simp only [Instr.sliceAt,Instr.slice,Sem.run_bind,run_underlying hu,Result.andThen_ok,hX,bw true h1 h2 h3 h4 h5,run_sizeOf hj,Sem.run_pure]
   unfold eff;simp only;split
   ·rename_i b off len sz hv;rw [hv] at he;obtain ⟨cap,hX,cO,hlv⟩:=he.bJ;split
    ·rename_i l hh hl1 hh1;cases hb:Nat.beq j.size sz with
     |false=>trivial
     |true=>
      rintro ⟨h3,h4,h5,h6⟩;refine ai h hd (run _ _ _ l hh hX (dO h hlo hl1) (dt h hhi hh1) h3 h4 (by omega)) ?_;rw [if_neg (by omega)];simp only [Option.map_some,bg];exact .view b _ _ sz _ hlv (by omega)
    ·trivial
   ·rename_i v hv;split
    ·rename_i sz xs ha;have hr:=aC he ha;obtain ⟨A,cap,hX,cO⟩:=dU hr;split
     ·rename_i l hh hl1 hh1;cases hb:Nat.beq j.size sz with
      |false=>trivial
      |true=>
       have hs:j.size=sz:=Nat.eq_of_beq_eq_true hb;subst hs;rintro ⟨h3,h4,h5⟩;rw [hX] at hr;exact ai h hd (run _ _ _ l hh hX (dO h hlo hl1) (dt h hhi hh1) h3 h4 (by omega)) (.t _ _ (gR hr _ _ (by omega) (by omega)))
     ·trivial
    ·rename_i ha;have hr:=aC he ha;have hX:a.eval X= .slice none 0 0:=by
      generalize a.eval X=v at hr;cases hr;rfl
     split
     ·rename_i l hh hl1 hh1;rintro ⟨rfl,rfl⟩;exact ai h hd (run _ _ _ 0 0 hX (dO h hlo hl1) (dt h hhi hh1) (by omega) (by omega) (by omega)) (.t _ _ .nil)
     ·trivial
    ·trivial
  ·cases hl
 ·rename_i y lo' hi' hu hy hlo hhi;simp only [Option.some.injEq] at hl;subst hl;have he:=af h.sl hy;unfold eff;simp only;split
  ·rename_i s hv;rw [hv] at he;have hX:=he.bf;split
   ·rename_i l hh hl1 hh1;rintro ⟨h3,h4,h5⟩;refine ai h hd (exec _ ?_) (.t _ _ (.str _));have hb:=bw (P:=P) false (dO h hlo hl1) (dt h hhi hh1) h3 h4 h5 E.w;simp [Instr.sliceAt,Instr.slice,run_underlying hu,hX,hb]
   ·trivial
  ·trivial
 ·rename_i n e y lo' hi' hu hy hlo hhi;split at hl
  ·rename_i j hj;simp only [Option.some.injEq] at hl;subst hl;have he:=af h.sl hy;unfold eff;simp only;split
   ·rename_i b off hv;rw [hv] at he;obtain ⟨hX,hlv⟩:=he.bd;split
    ·have h1:lo=none:=by cases lo <;> simp_all [cF]
     have h2:hi=none:=by cases hi <;> simp_all [cF]
     subst h1;subst h2;refine ai h hd (v:=.slice (some ⟨E.κ b,off,none⟩) n n) (exec _ ?_) (.view b off n _ n hlv (Nat.le_refl _));have hb:=bw (P:=P) false (len:=n) (cap:=n) (lo:=none) (hi:=none) (l:=0) (h:=n) (.inl ⟨rfl,rfl⟩) (.inl ⟨rfl,rfl⟩) (by omega) (by omega) (by omega) E.w;simp only [Instr.sliceAt,Sem.run_bind,run_underlying hu,Result.andThen_ok,hX,Instr.sureAddr,Sem.run_pure,Option.map_none,hb,run_sizeOf hj];simp [bg]
    ·split
     ·rename_i l hh hl1 hh1;rintro ⟨h3,h4,h5,h6⟩;refine ai h hd (v:=.slice (some ⟨E.κ b,off+l.toNat * j.size,none⟩) (hh.toNat - l.toNat) (n - l.toNat)) (exec _ ?_) (.view b _ _ _ _ hlv (by omega));have hb:=bw (P:=P) false (len:=n) (cap:=n) (dO h hlo hl1) (dt h hhi hh1) h3 h4 h5 E.w;simp only [Instr.sliceAt,Sem.run_bind,run_underlying hu,Result.andThen_ok,hX,Instr.sureAddr,Sem.run_pure,hb,run_sizeOf hj];rw [if_neg (by omega),bg]
     ·trivial
   ·rename_i cs off hv;rw [hv] at he;have aq:=he.ax;split
    ·rename_i l hh hl1 hh1;cases aH:Nat.blt 0 j.size with
     |false=>trivial
     |true=>
     have aH:0<j.size:=Nat.lt_of_lt_of_le (Nat.lt_succ_self 0) (nlZ aH);rintro ⟨h3,h4,h5,h6⟩;generalize hX:a.eval X=v at aq;cases aq with
     |cptr b o' _ _ g h1 hg hr=>
     have hb:=bw (P:=P) false (len:=n) (cap:=n) (dO h hlo hl1) (dt h hhi hh1) h3 h4 h5 E.w;have hmul:l.toNat * j.size+(hh.toNat - l.toNat) * j.size<=n * j.size:=by rw [<- Nat.add_mul];exact Nat.mul_le_mul_right _ (by omega)
     obtain ⟨k1,k2,k3⟩:=cS aH (hh.toNat - l.toNat) (cs.drop (off+l.toNat * j.size)) (by rw [List.length_drop];omega) (fun t ht=>h1 t (List.mem_of_mem_drop ht));refine ai h hd (v:=.slice (some (if n=l.toNat then ⟨b,o'+off,none⟩ else ⟨b,o'+off+l.toNat * j.size,none⟩)) (hh.toNat - l.toNat) (n - l.toNat)) (exec _ ?_) (.t _ _ (.slice _ b (o'+off+l.toNat * j.size) _ _ _ _ (fun i=>g (off+l.toNat * j.size+i)) k2 (by omega) k3 (fun t ht=>?_) (fun hp=>?_) (fun i hi=>?_) (fun i t ht=>?_)))
     ·simp only [Instr.sliceAt,Sem.run_bind,run_underlying hu,Result.andThen_ok,hX,Instr.sureAddr,Sem.run_pure,hb,run_sizeOf hj,bg]
     ·rw [k1] at ht;exact h1 t (List.mem_of_mem_drop (List.mem_of_mem_take ht))
     ·rw [k1,List.length_take] at hp
      have:0<hh.toNat - l.toNat:=by
       rcases Nat.eq_zero_or_pos (hh.toNat - l.toNat) with e|e
       ·rw [e,Nat.zero_mul] at hp;omega
       ·exact e
      rw [if_neg (by omega)]
     ·rw [k1,List.length_take,List.length_drop] at hi
      have:=hg (off+l.toNat * j.size+i) (by omega)
      rw [show o'+off+l.toNat * j.size+i=o'+(off+l.toNat * j.size+i) by omega];exact this
     ·rw [k1,List.getElem?_take] at ht;split at ht
      ·rw [List.getElem?_drop] at ht;exact hr _ t ht
      ·cases ht
    ·trivial
   ·rename_i g0 off hv;rw [hv] at he;have qn:=he.ax;split
    ·rename_i cs hg0;have aq:Rep E.S E.w (a.eval X) (.cptr cs off):=by
      generalize a.eval X=v at qn;cases qn;exact h.iJ.rep hg0 off
     split
     ·rename_i l hh hl1 hh1;cases aH:Nat.blt 0 j.size with
      |false=>trivial
      |true=>
      have aH:0<j.size:=Nat.lt_of_lt_of_le (Nat.lt_succ_self 0) (nlZ aH);rintro ⟨h3,h4,h5,h6⟩;generalize hX:a.eval X=v at aq;cases aq with
      |cptr b o' _ _ g h1 hg hr=>
      have hb:=bw (P:=P) false (len:=n) (cap:=n) (dO h hlo hl1) (dt h hhi hh1) h3 h4 h5 E.w;have hmul:l.toNat * j.size+(hh.toNat - l.toNat) * j.size<=n * j.size:=by rw [<- Nat.add_mul];exact Nat.mul_le_mul_right _ (by omega)
      obtain ⟨k1,k2,k3⟩:=cS aH (hh.toNat - l.toNat) (cs.drop (off+l.toNat * j.size)) (by rw [List.length_drop];omega) (fun t ht=>h1 t (List.mem_of_mem_drop ht));refine ai h hd (v:=.slice (some (if n=l.toNat then ⟨b,o'+off,none⟩ else ⟨b,o'+off+l.toNat * j.size,none⟩)) (hh.toNat - l.toNat) (n - l.toNat)) (exec _ ?_) (.t _ _ (.slice _ b (o'+off+l.toNat * j.size) _ _ _ _ (fun i=>g (off+l.toNat * j.size+i)) k2 (by omega) k3 (fun t ht=>?_) (fun hp=>?_) (fun i hi=>?_) (fun i t ht=>?_)))
      ·simp only [Instr.sliceAt,Sem.run_bind,run_underlying hu,Result.andThen_ok,hX,Instr.sureAddr,Sem.run_pure,hb,run_sizeOf hj,bg]
      ·rw [k1] at ht;exact h1 t (List.mem_of_mem_drop (List.mem_of_mem_take ht))
      ·rw [k1,List.length_take] at hp
       have:0<hh.toNat - l.toNat:=by
        rcases Nat.eq_zero_or_pos (hh.toNat - l.toNat) with e|e
        ·rw [e,Nat.zero_mul] at hp;omega
        ·exact e
       rw [if_neg (by omega)]
      ·rw [k1,List.length_take,List.length_drop] at hi
       have:=hg (off+l.toNat * j.size+i) (by omega)
       rw [show o'+off+l.toNat * j.size+i=o'+(off+l.toNat * j.size+i) by omega];exact this
      ·rw [k1,List.getElem?_take] at ht;split at ht
       ·rw [List.getElem?_drop] at ht;exact hr _ t ht
       ·cases ht
     ·trivial
    ·trivial
   ·trivial
  ·cases hl
 ·cases hl
end
end Go.DL
end
section
namespace Go.DL
open Go.RowKit
section
variable [Glb]{P:Program}{N:Nat}{w0:World}{S0:aa}{o:Oper}{a:Act}{E:Env}{st:St}
def bh(S:ar)(w:World)(cs:List Value)(ts:List T):Prop:=
 cs.length=ts.length/\ ∀(i:Nat) (x:Value) (t:T),cs[i]? =some x->ts[i]? =some t->Rep S w x t/\t.one=true
end
section
variable {P:Program}{N:Nat}{w0:World}{S0:aa}{o:Oper}{a:Act}{E:Env}{st:St}
theorem bh.put{S:ar}{w:World}{cs vs:List Value}{ts us:List T}(h:bh S w cs ts)(g:bh S w vs us){off n:Nat}(hn:vs.length=n)(hle:off+n<=cs.length):bh S w (aP cs off n vs) (aP ts off n us):=by
 have hu:us.length=n:=by rw [<- g.1];exact hn
 refine ⟨by rw [bK _ _ _ _ hn hle,bK _ _ _ _ hu (by rw [<- h.1];exact hle)];exact h.1,fun i x t hx ht=>?_⟩;rw [bB _ _ _ _ hn hle] at hx;rw [bB _ _ _ _ hu (by rw [<- h.1];exact hle)] at ht
 by_cases h1:i<off
 ·rw [if_pos h1] at hx ht;exact h.2 i x t hx ht
 ·rw [if_neg h1] at hx ht
  by_cases h2:i<off+n
  ·rw [if_pos h2] at hx ht;exact g.2 _ x t hx ht
  ·rw [if_neg h2] at hx ht;exact h.2 i x t hx ht
theorem kJ(off:Nat): ∀(vs:List Value) (k:Nat) (cs:Array Value),off+k+vs.length<=cs.size->
  ((vs.zipIdx k).foldl (fun (cs:Array Value) (p:Value×Nat)=>cs.setIfInBounds (off+p.2) p.1) cs).toList=aP cs.toList (off+k) vs.length vs
 |[],k,cs,_=>by
  simp [aP]
 |v::vs,k,cs,h=>by
  simp only [List.zipIdx_cons,List.foldl_cons,List.length_cons] at h ⊢;rw [kJ off vs (k+1) _ (by simp;omega)]
  apply List.ext_getElem?
  intro j;rw [bB _ _ _ _ rfl (by simp;omega),bB _ _ _ _ (by simp) (by simp;omega)];simp only [Array.toList_setIfInBounds,List.getElem?_set,Array.length_toList]
  by_cases h1:j<off+k
  ·rw [if_pos (by omega),if_pos h1,if_neg (by omega)]
  ·rw [if_neg h1]
   by_cases h2:j=off+k
   ·subst h2;rw [if_pos (by omega),if_pos rfl,if_pos (by omega),if_pos (by omega)];simp
   ·rw [if_neg (by omega)]
    by_cases h3:j<off+k+(vs.length+1)
    ·rw [if_pos (by omega),if_pos h3]
     have:j - (off+k)=(j - (off+(k+1)))+1:=by omega
     rw [this,List.getElem?_cons_succ]
    ·rw [if_neg (by omega),if_neg h3,if_neg (by omega)]
theorem je(off:Nat)(vs cs:Array Value)(h:off+vs.size<=cs.size):
  (vs.zipIdx.foldl (fun (cs:Array Value) (p:Value×Nat)=>cs.setIfInBounds (off+p.2) p.1) cs).toList=aP cs.toList off vs.size vs.toList:=by
 have:=kJ off vs.toList 0 cs (by simpa using h)
 rw [<- Array.foldl_toList,Array.toList_zipIdx];simpa using this
theorem ie{sl:Nat->V}: ∀{ps:List (Nat×Nat×O)} {zs ts:List T} {c c':Prop},cU sl zs c ps=some (ts,c')->c'->c
 |[],zs,ts,c,c',h,hc=>by simp [cU] at h;rw [h.2];exact hc
 |(off,size,x)::rest,zs,ts,c,c',h,hc=>by
  unfold cU at h;split at h
  ·cases h
  ·exact (ie h hc).1
  ·cases hb:Nat.beq size 1 with
   |false=>rw [hb] at h;cases h
   |true=>rw [hb] at h;exact ie h hc
  ·cases h
theorem eZ{place:Nat->Option (Nat×Nat)}: ∀{parts:List (Nat×Operand)} {i:Nat} {X:Operand} {rest:List (Nat×Operand)} {ps:List (Nat×Nat×O)},parts=(i,X)::rest->aZ place parts=some ps->
  ∃off size y r,place i=some (off,size)/\ak X=some y/\aZ place rest=some r/\ps=(off,size,y)::r:=by
 rintro parts i X rest ps rfl h;unfold aZ at h;split at h
 ·rename_i off size y r h1 h2 h3;simp only [Option.some.injEq] at h;exact ⟨off,size,y,r,h1,h2,h3,h.symm⟩
 ·cases h
theorem gA(hs: ∀m,VR E (a.tmps.getD m undef) (st.sl m)){place mplace:Nat->Option (Nat×Nat)}(hp: ∀i p,place i=some p->mplace i=some p):
  ∀(parts:List (Nat×Operand)) (ps:List (Nat×Nat×O)) (cells:Array Value) (zs ts:List T) (c c':Prop),aZ place parts=some ps->bh E.S E.w cells.toList zs->(∀ p∈ps,p.1+p.2.1<=zs.length)->
   cU st.sl zs c ps=some (ts,c')->c'-> ∃cells',Instr.fill mplace cells (parts.map fun (i,x)=>(i,a.eval x))=some cells'/\bh E.S E.w cells'.toList ts
 |[],ps,cells,zs,ts,c,c',hl,hc,_,hf,_=>by
  simp [aZ] at hl;subst hl;simp [cU] at hf;exact ⟨cells,rfl,hf.1▸hc⟩
 |(i,X)::rest,ps,cells,zs,ts,c,c',hl,hc,hb,hf,hc'=>by
  obtain ⟨off,size,y,r,h1,h2,h3,rfl⟩:=eZ rfl hl;have he:=af hs h2;have hle:off+size<=zs.length:=hb (off,size,y) (by simp);have hb': ∀p∈r,p.1+p.2.1<=zs.length:=fun p hp=>hb p (List.mem_cons_of_mem _ hp)
  have step: ∀(us:List T),bh E.S E.w (a.eval X).cells.toList us->us.length=size-> ∀c0,cU st.sl (aP zs off size us) c0 r=some (ts,c')->
    ∃cells',Instr.fill mplace cells (((i,X)::rest).map fun (i,x)=>(i,a.eval x))=some cells'/\bh E.S E.w cells'.toList ts:=fun us hr hlen c0 hf'=>by
   have hsz:(a.eval X).cells.size=size:=by have:=hr.1;simp at this;omega
   have hcl:cells.size=zs.length:=by have:=hc.1;simpa using this
   have eW:bh E.S E.w ((a.eval X).cells.zipIdx.foldl (fun (cs:Array Value) (p:Value×Nat)=>cs.setIfInBounds (off+p.2) p.1) cells).toList (aP zs off size us):=by
    rw [je _ _ _ (by omega),hsz];exact hc.put hr (by simpa using hsz) (by simp;omega)
   have hl':(aP zs off size us).length=zs.length:=bK _ _ _ _ hlen hle;obtain ⟨cells',g1,g2⟩:=gA hs hp rest r _ _ ts c0 c' h3 eW (fun p hp=>by rw [hl'];exact hb' p hp) hf' hc';refine ⟨cells',?_,g2⟩;simp only [List.map_cons,Instr.fill,hp i _ h1];rw [if_neg (by simp [hsz];omega)];exact g1
  unfold cU at hf;split at hf
  ·cases hf
  ·rename_i cs ha;have hr:=aC he ha;obtain ⟨hc1,hc2⟩:=hr.cells (fun ts e=>by cases e);have himp:=ie hf hc';exact step cs ⟨by simpa [T.cells] using hc1,fun j x t hx ht=>hc2 j x t (by simpa using hx) ht⟩ himp.2 _ hf
  ·rename_i t h1' h2' ha;cases hb1:Nat.beq size 1 with
   |false=>rw [hb1] at hf;cases hf
   |true=>
    rw [hb1] at hf;have hs1:size=1:=Nat.eq_of_beq_eq_true hb1;subst hs1;have hr:=aC he ha;have h1:t.one=true:=by
     cases t with
     |agg cs=>exact absurd rfl (h2' cs)
     |tup ts=>exact absurd rfl (h1' ts)
     |_=>rfl
    refine step [t] ⟨by rw [hr.cells_one h1];rfl,fun j x u hx hu=>?_⟩ rfl _ hf;rw [hr.cells_one h1] at hx;cases j with
    |zero=>simp at hx hu;subst hx;subst hu;exact ⟨hr,h1⟩
    |succ j=>simp at hu
  ·cases hf
end
section
variable [Glb]{P:Program}{N:Nat}{w0:World}{S0:aa}{o:Oper}{a:Act}{E:Env}{st:St}
def dE(E:Env)(cs:List Value)(us:List V):Prop:=cs.length=us.length/\ ∀(i:Nat) (x:Value) (u:V),cs[i]? =some x->us[i]? =some u->VR E x u/\x.oneCell'=true
end
section
variable {P:Program}{N:Nat}{w0:World}{S0:aa}{o:Oper}{a:Act}{E:Env}{st:St}
theorem dE.put{cs vs:List Value}{us ws:List V}{off n:Nat}(h:dE E cs us)(g:dE E vs ws)(hn:vs.length=n)(hl:off+n<=cs.length):dE E (aP cs off n vs) (aP us off n ws):=by
 have hn':ws.length=n:=by rw [<- g.1];exact hn
 have hl':off+n<=us.length:=by rw [<- h.1];exact hl
 refine ⟨by rw [bK _ _ _ _ hn hl,bK _ _ _ _ hn' hl'];exact h.1,fun i x u hx hu=>?_⟩;rw [bB _ _ _ _ hn hl] at hx;rw [bB _ _ _ _ hn' hl'] at hu
 by_cases h1:i<off
 ·rw [if_pos h1] at hx hu;exact h.2 i x u hx hu
 ·rw [if_neg h1] at hx hu
  by_cases h2:i<off+n
  ·rw [if_pos h2] at hx hu;exact g.2 _ x u hx hu
  ·rw [if_neg h2] at hx hu;exact h.2 i x u hx hu
theorem ig{sl:Nat->V}: ∀{ps:List (Nat×Nat×O)} {zs ts:List V} {c c':Prop},cV sl zs c ps=some (ts,c')->c'->c
 |[],zs,ts,c,c',h,hc=>by simp [cV] at h;rw [h.2];exact hc
 |(off,size,x)::rest,zs,ts,c,c',h,hc=>by
  unfold cV at h;split at h
  ·cases h
  ·exact (ig h hc).1
  ·cases h
  ·cases h
  ·cases h
  ·cases hb:Nat.beq size 1 with
   |false=>rw [hb] at h;cases h
   |true=>rw [hb] at h;exact ig h hc
theorem fE(hs: ∀m,VR E (a.tmps.getD m undef) (st.sl m)){place mplace:Nat->Option (Nat×Nat)}(hp: ∀i p,place i=some p->mplace i=some p):
  ∀(parts:List (Nat×Operand)) (ps:List (Nat×Nat×O)) (cells:Array Value) (zs ts:List V) (c c':Prop),aZ place parts=some ps->dE E cells.toList zs->(∀ p∈ps,p.1+p.2.1<=zs.length)->
   cV st.sl zs c ps=some (ts,c')->c'-> ∃cells',Instr.fill mplace cells (parts.map fun (i,x)=>(i,a.eval x))=some cells'/\dE E cells'.toList ts
 |[],ps,cells,zs,ts,c,c',hl,hc,_,hf,_=>by
  simp [aZ] at hl;subst hl;simp [cV] at hf;exact ⟨cells,rfl,hf.1▸hc⟩
 |(i,X)::rest,ps,cells,zs,ts,c,c',hl,hc,hb,hf,hc'=>by
  obtain ⟨off,size,y,r,h1,h2,h3,rfl⟩:=eZ rfl hl;have he:=af hs h2;have hle:off+size<=zs.length:=hb (off,size,y) (by simp);have hb': ∀p∈r,p.1+p.2.1<=zs.length:=fun p hp=>hb p (List.mem_cons_of_mem _ hp)
  have step: ∀(us:List V),dE E (a.eval X).cells.toList us->us.length=size-> ∀c0,cV st.sl (aP zs off size us) c0 r=some (ts,c')->
    ∃cells',Instr.fill mplace cells (((i,X)::rest).map fun (i,x)=>(i,a.eval x))=some cells'/\dE E cells'.toList ts:=fun us hr hlen c0 hf'=>by
   have hsz:(a.eval X).cells.size=size:=by have:=hr.1;simp at this;omega
   have hcl:cells.size=zs.length:=by have:=hc.1;simpa using this
   have eW:dE E ((a.eval X).cells.zipIdx.foldl (fun (cs:Array Value) (p:Value×Nat)=>cs.setIfInBounds (off+p.2) p.1) cells).toList (aP zs off size us):=by
    rw [je _ _ _ (by omega),hsz];exact hc.put hr (by simpa using hsz) (by simp;omega)
   have hl':(aP zs off size us).length=zs.length:=bK _ _ _ _ hlen hle;obtain ⟨cells',g1,g2⟩:=fE hs hp rest r _ _ ts c0 c' h3 eW (fun p hp=>by rw [hl'];exact hb' p hp) hf' hc';refine ⟨cells',?_,g2⟩;simp only [List.map_cons,Instr.fill,hp i _ h1];rw [if_neg (by simp [hsz];omega)];exact g1
  unfold cV at hf;split at hf
  ·cases hf
  ·rename_i cs ha;rw [ha] at he;have hr:=he.ax;obtain ⟨hc1,hc2⟩:=hr.cells (fun ts e=>by cases e);have himp:=ig hf hc';refine step (cs.map .t) ⟨by simpa [T.cells] using hc1,fun j x t hx ht=>?_⟩ (by simpa using himp.2) _ hf;rw [List.getElem?_map,Option.map_eq_some_iff] at ht;obtain ⟨t,ht,rfl⟩:=ht
   have:=hc2 j x t (by simpa using hx) ht
   exact ⟨.t _ _ this.1,this.1.one this.2⟩
  ·cases hf
  ·cases hf
  ·cases hf
  ·rename_i k1 k2 k3 k4 k5;cases hb1:Nat.beq size 1 with
   |false=>rw [hb1] at hf;cases hf
   |true=>
    rw [hb1] at hf;have hs1:size=1:=Nat.eq_of_beq_eq_true hb1;subst hs1;have h1:(a.eval X).oneCell'=true:=by
     cases hv:ev st.sl y with
     |t u=>
      rw [hv] at he;have hr:=he.ax;refine hr.one ?_;cases u with
      |agg cs=>exact absurd hv (k2 cs)
      |tup ts=>exact absurd hv (k1 ts)
      |_=>rfl
     |_=>
      refine he.one ?_ ?_ ?_ ?_
      all_goals (first|(intro vs e;rw [hv] at e;cases e;done)|(intro e;rw [hv] at e;cases e;done)|(intro vs e;first|exact k1 vs e|exact k2 vs e|exact k3 e|exact k4 vs e|exact k5 vs e)|(intro e;exact k3 e))
    have nZ:(a.eval X).cells= #[a.eval X]:=by
     generalize a.eval X=v at h1;cases v <;> first|rfl|simp [Value.oneCell'] at h1
    refine step [ev st.sl y] ⟨by rw [nZ];rfl,fun j x u hx hu=>?_⟩ rfl _ hf;rw [nZ] at hx;cases j with
    |zero=>simp at hx hu;subst hx;subst hu;exact ⟨he,h1⟩
    |succ j=>simp at hu
theorem bh.toV{cs:List Value}{ts:List T}(h:bh E.S E.w cs ts):dE E cs (ts.map .t):=by
 refine ⟨by simpa using h.1,fun i x u hx hu=>?_⟩;rw [List.getElem?_map,Option.map_eq_some_iff] at hu;obtain ⟨t,ht,rfl⟩:=hu
 have:=h.2 i x t hx ht
 exact ⟨.t _ _ this.1,this.1.one this.2⟩
theorem fA{fs:Array Field}(h: ∀f∈fs.toList, ∃i,P.info? f.type=some i)(w:World):
  (fs.mapM fun f=>do pure (f.offset, <-sizeOf f.type):Sem (Array (Nat×Nat))).run P w= .ok (fs.map fun f=>(f.offset,((P.info? f.type).map (·.size)).getD 0)) w:=by
 rw [Array.mapM_eq_mapM_toList];have key: ∀l:List Field,(∀ f∈l, ∃i,P.info? f.type=some i)->(l.mapM (fun f=>do pure (f.offset, <-sizeOf f.type)):Sem (List (Nat×Nat))).run P w= .ok (l.map fun f=>(f.offset,((P.info? f.type).map (·.size)).getD 0)) w:=by
  intro l
  induction l with
  |nil=>intro _;rfl
  |cons f l ih=>
   intro hl;obtain ⟨i,hi⟩:=hl f (by simp)
   have:=ih (fun g hg=>hl g (List.mem_cons_of_mem _ hg))
   rw [List.mapM_cons];simp only [Sem.run_bind,run_sizeOf hi,Result.andThen_ok,Sem.run_pure,this,List.map_cons,hi,Option.map_some,Option.getD_some]
 have:=key fs.toList h
 simp only [Sem.run_map,this,Result.andThen_ok]
 congr 1
 apply Array.ext'
 simp
end
section
variable [Glb]{P:Program}{N:Nat}{w0:World}{S0:aa}{o:Oper}{a:Act}{E:Env}{st:St}
theorem oz(h:SR N w0 S0 E st a.tmps)(hd:ay N o.dst){t:TypeId}{parts:Array (Nat×Operand)}(ho:o.op= .build t parts){x:DOp}(hl:ah P o.op=some x):Sound P N w0 S0 o a E st (eff x (st.nm o.dst) st.sl st.bx):=by
 have exec: ∀r,(Instr.build t (parts.map fun (i,x)=>(i,a.eval x))).run P E.w= .ok r E.w->(execOp a.eval o).run P E.w= .ok (.value r) E.w:=fun r hr=>by
  unfold execOp;simp only [ho,Sem.run_bind,hr,Result.andThen_ok,Sem.run_pure]
 have zero: ∀{zs},cj P t=some zs-> ∃z,(zeroValue t).run P E.w= .ok z E.w/\bh E.S E.w z.cells.toList zs:=fun hz=>by
  obtain ⟨i,z,hi,hiz,_,hsz,aq,_⟩:=cZ hz;exact ⟨z,by simp [zeroValue,typeInfo,hi,hiz],by simpa using hsz,fun j x u hx hu=>aq E.S E.w j x u (by simpa using hx) hu⟩
 have fin: ∀(cells:Array Value) (ts:List T),bh E.S E.w cells.toList ts->Rep E.S E.w (.agg cells) (.agg ts):=fun cells ts hc=>by
  have:=dS hc.2 hc.1
  simpa using this
 have finV: ∀(cells:Array Value) (us:List V),dE E cells.toList us->VR E (.agg cells) (.agv us):=fun cells us hc=>
  .agv cells us (by simpa using hc.1) (fun i x hx=>by
   have hlt:i<us.length:=by have:=(Array.getElem?_eq_some_iff.1 hx).1;have:=hc.1;simp at this;omega
   exact (hc.2 i x us[i] (by simpa using hx) (ggZ hlt)).2) (fun i x u hx hu=>(hc.2 i x u (by simpa using hx) hu).1)
 have ptl:(parts.map fun (i,x)=>(i,a.eval x)).toList=parts.toList.map fun (i,x)=>(i,a.eval x):=by simp
 rw [ho] at hl;simp only [ah] at hl;split at hl
 ·rename_i fs zs hu hz;split at hl
  ·rename_i ps hps;cases cB:((fs.toList.all fun f=>(P.info? f.type).isSome)&&ps.all fun p=>Nat.ble (p.1+p.2.1) zs.length) with
   |false=>rw [cB] at hl;cases hl
   |true=>
   rw [cB] at hl;simp only [cond_true,Option.some.injEq] at hl;subst hl;rw [Bool.and_eq_true,List.all_eq_true,List.all_eq_true] at cB;obtain ⟨hc1,hc2⟩:=cB;obtain ⟨z,hzr,hzc⟩:=zero hz;unfold eff;simp only;split
   ·rename_i ts c hf;intro hc;obtain ⟨cells',g1,g2⟩:=gA (mplace:=fun i=>(fs.map fun f=>(f.offset,((P.info? f.type).map (·.size)).getD 0))[i]?) h.sl (fun i p hp=>by
     split at hp
     ·rename_i f hf';simp only [Option.map_eq_some_iff] at hp;obtain ⟨j,hj,rfl⟩:=hp;simp [hf',hj]
     ·cases hp) parts.toList ps z.cells zs ts True c hps hzc (fun p hp=>nlZ (hc2 p hp)) hf hc
    refine ai h hd (exec (.agg cells') ?_) (.t _ _ (fin _ _ g2));have hm:=fA (P:=P) (fs:=fs) (fun f hf'=>Option.isSome_iff_exists.1 (hc1 f hf')) E.w;unfold Instr.build;simp only [Sem.run_bind,hzr,Result.andThen_ok,run_underlying hu,hm,ptl,g1,Sem.run_pure]
   ·split
    ·rename_i us c hf;intro hc;obtain ⟨cells',g1,g2⟩:=fE (mplace:=fun i=>(fs.map fun f=>(f.offset,((P.info? f.type).map (·.size)).getD 0))[i]?) h.sl (fun i p hp=>by
      split at hp
      ·rename_i f hf';simp only [Option.map_eq_some_iff] at hp;obtain ⟨j,hj,rfl⟩:=hp;simp [hf',hj]
      ·cases hp) parts.toList ps z.cells (zs.map .t) us True c hps hzc.toV (fun p hp=>by rw [List.length_map];exact nlZ (hc2 p hp)) hf hc
     refine ai h hd (exec (.agg cells') ?_) (finV _ _ g2);have hm:=fA (P:=P) (fs:=fs) (fun f hf'=>Option.isSome_iff_exists.1 (hc1 f hf')) E.w;unfold Instr.build;simp only [Sem.run_bind,hzr,Result.andThen_ok,run_underlying hu,hm,ptl,g1,Sem.run_pure]
    ·trivial
  ·cases hl
 ·rename_i n e zs hu hz;split at hl
  ·rename_i j hj;split at hl
   ·rename_i ps hps;cases cB:(ps.all fun p=>Nat.ble (p.1+p.2.1) zs.length) with
    |false=>rw [cB] at hl;cases hl
    |true=>
    rw [cB] at hl;simp only [cond_true,Option.some.injEq] at hl;subst hl;rw [List.all_eq_true] at cB;obtain ⟨z,hzr,hzc⟩:=zero hz;unfold eff;simp only;split
    ·rename_i ts c hf;intro hc;obtain ⟨cells',g1,g2⟩:=gA (mplace:=fun i=>some (i * j.size,j.size)) h.sl (fun i p hp=>hp) parts.toList ps z.cells zs ts True c hps hzc (fun p hp=>nlZ (cB p hp)) hf hc;refine ai h hd (exec (.agg cells') ?_) (.t _ _ (fin _ _ g2));unfold Instr.build;simp only [Sem.run_bind,hzr,Result.andThen_ok,run_underlying hu,run_sizeOf hj,ptl,g1,Sem.run_pure]
    ·split
     ·rename_i us c hf;intro hc;obtain ⟨cells',g1,g2⟩:=fE (mplace:=fun i=>some (i * j.size,j.size)) h.sl (fun i p hp=>hp) parts.toList ps z.cells (zs.map .t) us True c hps hzc.toV (fun p hp=>by rw [List.length_map];exact nlZ (cB p hp)) hf hc;refine ai h hd (exec (.agg cells') ?_) (finV _ _ g2);unfold Instr.build;simp only [Sem.run_bind,hzr,Result.andThen_ok,run_underlying hu,run_sizeOf hj,ptl,g1,Sem.run_pure]
     ·trivial
   ·cases hl
  ·cases hl
 ·cases hl
end
end Go.DL
end
section
namespace Go.DL
open Go.RowKit
section
variable [Glb]{P:Program}{N:Nat}{w0:World}{S0:aa}{o:Oper}{a:Act}{E:Env}{st:St}
end
section
variable {P:Program}{N:Nat}{w0:World}{S0:aa}{o:Oper}{a:Act}{E:Env}{st:St}
theorem bz: ∀{sh:List Sh} {xs:List T},fits sh xs->xs.length=sh.length
 |[],[],_=>rfl
 |[],_::_,h=>by simp [fits] at h
 |_::_,[],h=>by simp [fits] at h
 |s::sh,x::xs,h=>by
  have:fits sh xs:=by
   cases s <;> cases x <;> simp only [fits] at h <;> first|exact h.2|exact h|exact h.elim
  simp [bz this]
theorem bc: ∀{s1 s2:List Sh} {xs:List T},fits (s1++s2) xs->fits s1 (xs.take s1.length)/\fits s2 (xs.drop s1.length)
 |[],s2,xs,h=>by simpa [fits] using h
 |s::s1,s2,[],h=>by simp [fits] at h
 |s::s1,s2,x::xs,h=>by
  simp only [List.cons_append,List.length_cons,List.take_succ_cons,List.drop_succ_cons] at h ⊢;cases s <;> cases x <;> simp only [fits] at h ⊢ <;> first
   |exact h.elim
   |(obtain ⟨h1,h2⟩:=bc h.2;exact ⟨⟨h.1,h1⟩,h2⟩)
   |exact bc h
theorem eK: ∀(a c:List T) (b d:List T),a.length=c.length->eqL (a++b) (c++d)=(eqL a c&&eqL b d)
 |[],[],b,d,_=>by simp [eqL]
 |[],_::_,_,_,h=>by simp at h
 |_::_,[],_,_,h=>by simp at h
 |x::a,y::c,b,d,h=>by
  have ih:=eK a c b d (by simpa using h);cases x <;> cases y <;> simp [eqL,ih,Bool.and_assoc]
end
section
variable [Glb]{P:Program}{N:Nat}{w0:World}{S0:aa}{o:Oper}{a:Act}{E:Env}{st:St}
structure Of (P:Program) (S:ar) (w:World) (t:TypeId) (x:Value) (xs:List T):Prop where
 agg:au P t=true-> ∃c,x= .agg c
 one:au P t=false->x.oneCell'=true
 rep:bh S w x.cells.toList xs
end
section
variable {P:Program}{N:Nat}{w0:World}{S0:aa}{o:Oper}{a:Act}{E:Env}{st:St}
theorem eH{x:Value}(h:x.oneCell'=true):x.cells= #[x]:=by cases x <;> first|rfl|simp [Value.oneCell'] at h
theorem oX{S:ar}{w:World}{cs:List Value}{ts:List T}(h:bh S w cs ts)(off n:Nat):bh S w ((cs.drop off).take n) ((ts.drop off).take n):=by
 refine ⟨by simp [h.1],fun i x t hx ht=>?_⟩;rw [aF] at hx ht;split at hx
 ·rename_i hi;rw [if_pos hi] at ht;exact h.2 _ x t hx ht
 ·cases hx
theorem dV{S:ar}{w:World}{t:TypeId}{d:TypeDesc}{i:TypeInfo}(hu:P.underlying t=some d)(hi:P.info? t=some i)(h1:au P t=false->i.size=1){cs:Array Value}{ts:List T}(h:bh S w cs.toList ts)
  {off:Nat} (hle:off+i.size<=ts.length): ∃v,(part t cs off).run P w= .ok v w/\Of P S w t v ((ts.drop off).take i.size):=by
 have hsz:cs.size=ts.length:=by simpa using h.1
 cases hag:au P t with
 |true=>
  refine ⟨_,e7 hu hi hag cs off w,fun _=>⟨_,rfl⟩,(fun hh=>by rw [hag] at hh;cases hh),?_⟩
  have:=oX h off i.size
  show bh S w (cs.extract off (off+i.size)).toList _
  rw [Array.toList_extract,List.extract_eq_take_drop];rw [show off+i.size - off=i.size by omega];exact this
 |false=>
  have h1:=h1 hag;have hlt:off<cs.size:=by omega
  have ht:ts[off]? =some (ts[off]'(by omega)):=ggZ _;have hr:=h.2 off cs[off] _ (by simp [hlt]) ht;refine ⟨cs[off],e8 hu hag cs off _ (by simp [hlt]) w,(fun hh=>by rw [hag] at hh;cases hh),fun _=>hr.1.one hr.2,?_⟩;rw [eH (hr.1.one hr.2),h1]
  have:(ts.drop off).take 1=[ts[off]'(by omega)]:=by
   rw [List.drop_eq_getElem_cons (by omega)];rfl
  rw [this];refine ⟨rfl,fun j x u hx hu=>?_⟩;cases j with
  |zero=>simp at hx hu;subst hx;subst hu;exact hr
  |succ j=>simp at hu
end
section
variable [Glb]{P:Program}{N:Nat}{w0:World}{S0:aa}{o:Oper}{a:Act}{E:Env}{st:St}
def oO(P:Program)(d:Nat)(t:TypeId)(sh:List Sh):Prop:=
 ∀(S:ar) (w:World) (D:Nat) (x y:Value) (xs ys:List T),d<=D->Of P S w t x xs->Of P S w t y ys->fits sh xs->fits sh ys->(Op.equalIn D t x y).run P w= .ok (eqL xs ys) w
end
section
variable {P:Program}{N:Nat}{w0:World}{S0:aa}{o:Oper}{a:Act}{E:Env}{st:St}
theorem jP{d:Nat}{e:TypeId}{de:TypeDesc}{i:TypeInfo}{s:List Sh}(ih:oO P d e s)(hu:P.underlying e=some de)(hi:P.info? e=some i)(hs:s.length=i.size)(aH:0<i.size)(h1:au P e=false->i.size=1)
  {S:ar} {w:World} {D:Nat} (hD:d<=D) {X Y:Array Value} {A B:List T} (hX:bh S w X.toList A) (hY:bh S w Y.toList B): ∀(m k:Nat),fits (List.replicate m s).flatten (A.drop (k * i.size))->fits (List.replicate m s).flatten (B.drop (k * i.size))->
   (Op.eqItems D e i.size X Y (List.range' k m)).run P w= .ok (eqL (A.drop (k * i.size)) (B.drop (k * i.size))) w
 |0,k,fa,fb=>by
  have ha:A.drop (k * i.size)=[]:=by cases h:A.drop (k * i.size) with|nil=>rfl|cons x xs=>rw [h] at fa;simp [fits] at fa
  have hb:B.drop (k * i.size)=[]:=by cases h:B.drop (k * i.size) with|nil=>rfl|cons x xs=>rw [h] at fb;simp [fits] at fb
  rw [ha,hb];simp [Op.eqItems,eqL]
 |m+1,k,fa,fb=>by
  have la:=bz fa;have lb:=bz fb;rw [List.replicate_succ,List.flatten_cons] at fa fb;rw [List.replicate_succ,List.flatten_cons,List.length_append,List.length_drop] at la lb;obtain ⟨fa1,fa2⟩:=bc fa;obtain ⟨fb1,fb2⟩:=bc fb;rw [hs] at fa1 fa2 fb1 fb2;rw [List.drop_drop] at fa2 fb2;have hk:k * i.size+i.size=(k+1) * i.size:=by rw [Nat.add_mul];omega
  rw [hk] at fa2 fb2;obtain ⟨u,hu1,hu2⟩:=dV hu hi h1 hX (off:=k * i.size) (by omega);obtain ⟨v,hv1,hv2⟩:=dV hu hi h1 hY (off:=k * i.size) (by omega);have heq:=ih S w D u v _ _ hD hu2 hv2 fa1 fb1;have rest:=jP ih hu hi hs aH h1 hD hX hY m (k+1) fa2 fb2;have lX:eqL (A.drop (k * i.size)) (B.drop (k * i.size))=(eqL ((A.drop (k * i.size)).take i.size) ((B.drop (k * i.size)).take i.size)&&eqL (A.drop ((k+1) * i.size)) (B.drop ((k+1) * i.size))):=by
   rw [<- eK _ _ _ _ (by simp;omega)]
   congr 1
   ·rw [<- hk, <-List.drop_drop,List.take_append_drop]
   ·rw [<- hk, <-List.drop_drop,List.take_append_drop]
  rw [List.range'_succ];simp only [Op.eqItems,Sem.run_bind,hu1,hv1,heq,Result.andThen_ok,lX];cases eqL ((A.drop (k * i.size)).take i.size) ((B.drop (k * i.size)).take i.size) with
  |true=>simpa using rest
  |false=>simp
theorem iS{d:Nat}(ih: ∀t sh,shapeOf P d t=some sh->oO P d t sh)(fG: ∀t sh,shapeOf P d t=some sh->(∃ de,P.underlying t=some de)/\(au P t=false->sh.length=1))
  {S:ar} {w:World} {D:Nat} (hD:d<=D) {X Y:Array Value} {A B:List T} (hX:bh S w X.toList A) (hY:bh S w Y.toList B): ∀(fs:List Field) (off:Nat) (ss:List Sh),shapeOf.shapesOf (shapeOf P d) P fs off=some ss->
   fits ss (A.drop off)->fits ss (B.drop off)->(Op.eqFields D X Y fs).run P w= .ok (eqL (A.drop off) (B.drop off)) w
 |[],off,ss,h,fa,fb=>by
  simp [shapeOf.shapesOf] at h;subst h;have ha:A.drop off=[]:=by cases h:A.drop off with|nil=>rfl|cons x xs=>rw [h] at fa;simp [fits] at fa
  have hb:B.drop off=[]:=by cases h:B.drop off with|nil=>rfl|cons x xs=>rw [h] at fb;simp [fits] at fb
  rw [ha,hb];simp [Op.eqFields,eqL]
 |f::fs,off,ss,h,fa,fb=>by
  unfold shapeOf.shapesOf at h;split at h
  ·rename_i s r hs hr;cases hc:(Nat.beq s.length (P.cellsOf f.type)&&Nat.beq f.offset off&&f.name != "_" &&Nat.blt 0 s.length) with
   |false=>rw [hc] at h;cases h
   |true=>
   rw [hc] at h;simp only [cond_true,Option.some.injEq] at h;subst h;simp only [Bool.and_eq_true] at hc;obtain ⟨⟨⟨hc1,hc2⟩,hc3⟩,hc4⟩:=hc;have aH:0<s.length:=Nat.lt_of_lt_of_le (Nat.lt_succ_self 0) (nlZ hc4);have hsl:s.length=P.cellsOf f.type:=Nat.eq_of_beq_eq_true hc1;have pA:f.offset=off:=Nat.eq_of_beq_eq_true hc2;have nI:f.name≠ "_" :=by simpa using hc3
   obtain ⟨⟨de,hu⟩,bP⟩:=fG _ _ hs;have la:=bz fa;have lb:=bz fb;rw [List.length_append,List.length_drop] at la lb;have sY:s.length=0\/ ∃i,P.info? f.type=some i/\i.size=s.length:=by
    cases hi:P.info? f.type with
    |none=>left;rw [hsl];simp [Program.cellsOf,hi]
    |some i=>right;exact ⟨i,rfl,by rw [hsl];simp [Program.cellsOf,hi]⟩
   have lR: ∃i,P.info? f.type=some i/\i.size=s.length:=by
    cases hi:P.info? f.type with
    |none=>simp [Program.underlying,hi] at hu
    |some i=>exact ⟨i,rfl,by rw [hsl];simp [Program.cellsOf,hi]⟩
   obtain ⟨i,hi,bj⟩:=lR;obtain ⟨fa1,fa2⟩:=bc fa;obtain ⟨fb1,fb2⟩:=bc fb;rw [List.drop_drop] at fa2 fb2;rw [<- bj] at fa1 fa2 fb1 fb2;obtain ⟨u,hu1,hu2⟩:=dV hu hi (fun hh=>by rw [bj];exact bP hh) hX (off:=off) (by omega);obtain ⟨v,hv1,hv2⟩:=dV hu hi (fun hh=>by rw [bj];exact bP hh) hY (off:=off) (by omega);have heq:=ih _ _ hs S w D u v _ _ hD hu2 hv2 fa1 fb1;have rest:=iS ih fG hD hX hY fs (off+i.size) r (by rw [bj,hsl];exact hr) fa2 fb2;have lX:eqL (A.drop off) (B.drop off)=(eqL ((A.drop off).take i.size) ((B.drop off).take i.size)&&eqL (A.drop (off+i.size)) (B.drop (off+i.size))):=by
    rw [<- eK _ _ _ _ (by simp;omega)]
    congr 1
    ·rw [<- List.drop_drop,List.take_append_drop]
    ·rw [<- List.drop_drop,List.take_append_drop]
   unfold Op.eqFields;rw [if_pos nI,pA];simp only [Sem.run_bind,hu1,hv1,heq,Result.andThen_ok,lX];cases eqL ((A.drop off).take i.size) ((B.drop off).take i.size) with
   |true=>simpa using rest
   |false=>simp
  ·cases h
theorem dC: ∀(d:Nat) (t:TypeId) (sh:List Sh),shapeOf P d t=some sh->(∃ de,P.underlying t=some de)/\(au P t=false->sh.length=1)
 |0,_,_,h=>by simp [shapeOf] at h
 |d+1,t,sh,h=>by
  unfold shapeOf at h;split at h
  ·rename_i hu;cases h;exact ⟨⟨_,hu⟩,fun _=>rfl⟩
  ·rename_i k hu;cases h;exact ⟨⟨_,hu⟩,fun _=>rfl⟩
  ·rename_i hu;cases h;exact ⟨⟨_,hu⟩,fun _=>rfl⟩
  ·rename_i len e hu;exact ⟨⟨_,hu⟩,fun hh=>by simp [au,hu] at hh⟩
  ·rename_i fs hu;exact ⟨⟨_,hu⟩,fun hh=>by simp [au,hu] at hh⟩
  ·cases h
theorem single{S:ar}{w:World}{t:TypeId}{x:Value}{xs:List T}(h:Of P S w t x xs)(hg:au P t=false){s:Sh}(hf:fits [s] xs): ∃u,xs=[u]/\Rep S w x u/\fits [s] [u]:=by
 have h1:=h.one hg;have hr:=h.rep;rw [eH h1] at hr;cases xs with
 |nil=>simp [fits] at hf
 |cons u us=>
  have hl:=hr.1
  have:us=[]:=by cases us with|nil=>rfl|cons _ _=>simp at hl
  subst this;exact ⟨u,rfl,(hr.2 0 x u rfl rfl).1,hf⟩
theorem gP: ∀(d:Nat) (t:TypeId) (sh:List Sh),shapeOf P d t=some sh->oO P d t sh
 |0,_,_,h=>by simp [shapeOf] at h
 |d+1,t,sh,h=>by
  intro S w D x y xs ys hD hx hy fx fy;obtain ⟨D,rfl⟩: ∃D',D=D'+1:=⟨D - 1,by omega⟩
  unfold shapeOf at h;split at h
  ·rename_i hu;cases h;have hg:au P t=false:=by simp [au,hu]
   obtain ⟨u,rfl,hu1,fu⟩:=single hx hg fx;obtain ⟨v,rfl,hv1,fv⟩:=single hy hg fy;cases u <;> simp only [fits] at fu
   cases v <;> simp only [fits] at fv
   rw [hu1.aO,hv1.aO,run_equalIn_bool' w D t _ _ hu];simp [eqL]
  ·rename_i k hu;cases h;have hg:au P t=false:=by simp [au,hu]
   obtain ⟨u,rfl,hu1,fu⟩:=single hx hg fx;obtain ⟨v,rfl,hv1,fv⟩:=single hy hg fy;cases u <;> simp only [fits] at fu
   cases v <;> simp only [fits] at fv
   obtain ⟨rfl,_⟩:=fu;obtain ⟨rfl,_⟩:=fv;rw [hu1.aA,hv1.aA,run_equalIn_int w D t _ _ _ _ hu];simp [eqL]
  ·rename_i hu;cases h;have hg:au P t=false:=by simp [au,hu]
   obtain ⟨u,rfl,hu1,fu⟩:=single hx hg fx;obtain ⟨v,rfl,hv1,fv⟩:=single hy hg fy;cases u <;> simp only [fits] at fu
   cases v <;> simp only [fits] at fv
   rw [hu1.bf,hv1.bf,run_equalIn_string w D t _ _ hu];simp [eqL,beq_toListBytes]
  ·rename_i len e hu;split at h
   ·rename_i s hs;cases hc:(Nat.beq s.length (P.cellsOf e)&&Nat.blt 0 s.length) with
    |false=>rw [hc] at h;cases h
    |true=>
    rw [hc] at h;simp only [cond_true,Option.some.injEq] at h;subst h;rw [Bool.and_eq_true] at hc;have hsl:s.length=P.cellsOf e:=Nat.eq_of_beq_eq_true hc.1;have aH:0<s.length:=Nat.lt_of_lt_of_le (Nat.lt_succ_self 0) (nlZ hc.2);have hg:au P t=true:=by simp [au,hu]
    obtain ⟨X,rfl⟩:=hx.agg hg;obtain ⟨Y,rfl⟩:=hy.agg hg;obtain ⟨⟨de,hue⟩,bP⟩:=dC d e s hs;have lR: ∃i,P.info? e=some i/\i.size=s.length:=by
     cases hi:P.info? e with
     |none=>simp [Program.underlying,hi] at hue
     |some i=>exact ⟨i,rfl,by rw [hsl];simp [Program.cellsOf,hi]⟩
    obtain ⟨i,hi,bj⟩:=lR
    have:=jP (gP d e s hs) hue hi bj.symm (by omega) (fun hh=>by rw [bj];exact bP hh) (show d<=D by omega) hx.rep hy.rep len 0 (by simpa using fx) (by simpa using fy)
    have hce:P.cellsOf e=i.size:=by rw [bj,hsl]
    rw [run_equalIn_array w D X Y hu hi,List.range_eq_range',hce];rw [Nat.zero_mul,List.drop_zero,List.drop_zero] at this;exact this
   ·cases h
  ·rename_i fs hu;cases hst:P.stoodInHeld t with
   |true=>rw [hst] at h;simp at h
   |false=>
   rw [hst] at h;simp only [Bool.false_eq_true,if_false] at h;have hg:au P t=true:=by simp [au,hu]
   obtain ⟨X,rfl⟩:=hx.agg hg;obtain ⟨Y,rfl⟩:=hy.agg hg;have hfo:P.fieldsOf t=fs:=by simp [Program.fieldsOf,hu]
   rw [run_equalIn_struct w D t X Y (by rw [hfo];exact hu) hst,hfo]
   have:=iS (gP d) (dC d) (show d<=D by omega) hx.rep hy.rep fs.toList 0 sh h (by simpa using fx) (by simpa using fy)
   rw [List.drop_zero,List.drop_zero] at this;exact this
  ·cases h
theorem mh{S:ar}{w:World}{t:TypeId}(hg:au P t=true){c:Array Value}{u:List T}(h:Rep S w (.agg c) (.agg u)):Of P S w t (.agg c) u:=by
 have hc:=h.cells (fun ts e=>by cases e);exact ⟨fun _=>⟨c,rfl⟩,(fun hh=>by rw [hg] at hh;cases hh),⟨by simpa [T.cells] using hc.1,fun i y v hy hv=>hc.2 i y v (by simpa using hy) hv⟩⟩
end
section
variable [Glb]{P:Program}{N:Nat}{w0:World}{S0:aa}{o:Oper}{a:Act}{E:Env}{st:St}
theorem qK(h:SR N w0 S0 E st a.tmps)(hd:ay N o.dst){op:BinOp}{t ty:TypeId}{X Y:Operand}{x y:O}(hop:op= .eql\/op= .neq)(ho:o.op= .binOp op t X Y ty)(hx:ak X=some x)(hy:ak Y=some y)
  {sh:List Sh} (hsh:shapeOf P 100 t=some sh) (hg:P.eqGuardType P.depth t=false) (hag:au P t=true):
  Sound P N w0 S0 o a E st (eff (.eqv (aL op) sh x y) (st.nm o.dst) st.sl st.bx):=by
 have hex:=af h.sl hx;have hey:=af h.sl hy;unfold eff;simp only;split
 ·rename_i u v hu hv;rw [hu] at hex;rw [hv] at hey;have hru:=hex.ax;have hrv:=hey.ax;rintro ⟨fu,fv⟩;obtain ⟨c,hX⟩:=fZ hru;obtain ⟨c',hY⟩:=fZ hrv;rw [hX] at hru;rw [hY] at hrv;have heq:=gP 100 t sh hsh E.S E.w 10000 _ _ u v (by omega) (mh hag hru) (mh hag hrv) fu fv;have hgd:=run_eqGuard_agg (P:=P) E.w op t X Y c c' hg;rcases hop with rfl|rfl
  ·refine ai h hd (v:=.bool (eqL u v)) ?_ (.t _ _ (.bool _));unfold execOp;simp only [ho,hX,hY,Sem.run_bind,hgd,Result.andThen_ok,run_eql_struct,heq,Sem.run_pure]
  ·refine ai h hd (v:=.bool (!eqL u v)) ?_ (.t _ _ (.bool _));unfold execOp;simp only [ho,hX,hY,Sem.run_bind,hgd,Result.andThen_ok,run_neq_struct,heq,Sem.run_pure]
 ·trivial
theorem qJ(h:SR N w0 S0 E st a.tmps)(hd:ay N o.dst){op:BinOp}{t ty:TypeId}{X Y:Operand}{x y:O}(hop:op= .eql\/op= .neq)(ho:o.op= .binOp op t X Y ty)(hx:ak X=some x)(hy:ak Y=some y)
  (hu:P.underlying t=some .bool):Sound P N w0 S0 o a E st (eff (.eqB (aL op) x y) (st.nm o.dst) st.sl st.bx):=by
 have hex:=af h.sl hx;have hey:=af h.sl hy;unfold eff;simp only;split
 ·rename_i u v hu' hv';rw [hu'] at hex;rw [hv'] at hey;have hX:=hex.aO;have hY:=hey.aO;have heq:=run_equal_bool (P:=P) E.w t u v hu;intro _;rcases hop with rfl|rfl
  ·refine ai h hd (v:=.bool (u==v)) ?_ (.t _ _ (.bool _));unfold execOp;simp [ho,hX,hY,binOp,heq,eqGuard]
  ·refine ai h hd (v:=.bool (!(u==v))) ?_ (.t _ _ (.bool _));unfold execOp;simp [ho,hX,hY,binOp,heq,eqGuard]
 ·trivial
end
section
variable {P:Program}{N:Nat}{w0:World}{S0:aa}{o:Oper}{a:Act}{E:Env}{st:St}
theorem ef{α:Type}{zs:List α}(hz:0<zs.length): ∀n j,j<n * zs.length->(List.replicate n zs).flatten[j]? =zs[j % zs.length]?
 |0,j,h=>by simp at h
 |n+1,j,h=>by
  rw [List.replicate_succ,List.flatten_cons]
  by_cases hj:j<zs.length
  ·rw [List.getElem?_append_left hj,Nat.mod_eq_of_lt hj]
  ·rw [List.getElem?_append_right (by omega),ef hz n (j - zs.length) (by rw [Nat.add_mul] at h;omega)];rw [<- Nat.mod_eq_sub_mod (by omega)]
end
section
variable [Glb]{P:Program}{N:Nat}{w0:World}{S0:aa}{o:Oper}{a:Act}{E:Env}{st:St}
theorem oA(h:SR N w0 S0 E st a.tmps)(hd:ay N o.dst){X:Operand}{t e:TypeId}{j:TypeInfo}{zs:List T}{y:O}(ho:o.op= .call {callee:=.builtin .clear,args:= #[X],argTypes:= #[t]})(hy:ak X=some y)
  (hu:P.underlying t=some (.slice e)) (hj:P.info? e=some j) (hz:cj P e=some zs) (aH:0<j.size):Sound P N w0 S0 o a E st (eff (.clr j.size zs y) (st.nm o.dst) st.sl st.bx):=by
 have he:=af h.sl hy;obtain ⟨i,z,hi,hiz,bj,jq,aq,_⟩:=cZ hz;rw [hj] at hi;cases hi;unfold eff;simp only;cases hv:ev st.sl y with
 |view b off len sz=>
  rw [hv] at he;obtain ⟨cap,hX,_,hlv⟩:=he.bJ;simp only;cases hb:st.bx b with
  |none=>trivial
  |some bx=>
   cases bx with
   |m _ _ _ _=>trivial
   |it _ _ _ _=>trivial
   |itd _ _=>trivial
   |v vs=>trivial
   |d m ts=>
    simp only;cases hs:Nat.beq j.size sz with
    |false=>trivial
    |true=>
     rintro ⟨hlen,hle⟩;obtain ⟨cs,e',hg,hc⟩:=(h.bx b _ hb).cells rfl;cases hc with
     |d _ _ hl hsz hh=>
      let vs:List Value:=(Builtin.zeroCells z.cells len).toList
      have hvl:vs.length=len * j.size:=by simp [vs,Builtin.zeroCells,jq,bj]
      have r5:0<zs.length:=by omega
      have gD: ∀(k:Nat) (x:Value) (u:T),vs[k]? =some x->(List.replicate len zs).flatten[k]? =some u->Rep E.S E.w x u/\u.one=true:=fun k x u hx hu=>by
       have hk:k<len * j.size:=by rw [<- hvl];exact (gsZ hx).1
       rw [ef r5 len k (by rw [<- bj];exact hk)] at hu;have lU:k % z.cells.size<z.cells.size:=Nat.mod_lt _ (by omega);have hx':z.cells[k % z.cells.size]? =some x:=by
        have:vs[k]? =some (z.cells[k % z.cells.size]!):=by simp [vs,Builtin.zeroCells,jq, <-bj,hk]
        rw [this] at hx;rw [<- hx];simp [lU]
       rw [jq] at hx';exact aq E.S E.w _ x u hx' hu
      have hfl:(List.replicate len zs).flatten.length=len * j.size:=by simp [bj]
      have h1: ∀v∈vs,v.oneCell'=true:=fun v hv=>by
       obtain ⟨k,hk⟩:=List.mem_iff_getElem?.1 hv;have hlt:k<(List.replicate len zs).flatten.length:=by rw [hfl, <-hvl];exact (gsZ hk).1
       have:=gD k v _ hk (ggZ hlt)
       exact this.1.one this.2
      have hr:=run_storeCells_at P (E.κ b) off e' vs 0 cs E.w hg (by omega) h1;simp only [Nat.add_zero] at hr;have run:(execOp a.eval o).run P E.w= .ok (.value (.tuple #[])) (E.w.setRow (E.κ b) (cs.toList.take off++vs++cs.toList.drop (off+vs.length)).toArray):=by
       obtain ⟨n,rfl⟩: ∃n,len=n+1:=⟨len - 1,by omega⟩
       refine aD ho ?_;have hr':(storeCells ⟨E.κ b,off,none⟩ (Builtin.zeroCells z.cells (n+1)).toList).run P E.w= .ok () (E.w.setRow (E.κ b) (cs.toList.take off++vs++cs.toList.drop (off+vs.length)).toArray):=hr;simp [builtin,Builtin.clear_,hX,run_underlying hu,zeroValue,typeInfo,hj,hiz,hr']
      refine ⟨_,_,{E with w:=E.w.setRow (E.κ b) (cs.toList.take off++vs++cs.toList.drop (off+vs.length)).toArray },run,.inl rfl,?_⟩;rw [fP];refine (h.write hb rfl _ _ fun E' g=>?_).cJ hd (.top _);refine .d m _ (by rw [bK _ _ _ _ hfl (by omega)];exact hl) (by simp;omega) (fun k v w hv' hw=>?_);rw [List.getElem?_toArray,bu _ _ _ (by simp;omega)] at hv';rw [bB _ _ _ _ hfl (by omega)] at hw
      by_cases g1:k<off
      ·rw [if_pos g1] at hv' hw
       have:=hh k v w (by simpa using hv') hw
       exact ⟨g.rep this.1,this.2⟩
      ·rw [if_neg g1] at hv' hw
       by_cases g2:k<off+len * j.size
       ·rw [if_pos (by omega)] at hv';rw [if_pos g2] at hw
        have:=gD (k - off) v w hv' hw
        exact ⟨g.rep this.1,this.2⟩
       ·rw [if_neg (by omega)] at hv';rw [if_neg g2] at hw
        have:=hh k v w (by simpa using hv') hw
        exact ⟨g.rep this.1,this.2⟩
 |_=>trivial
end
end Go.DL
end
section
namespace Go.DL
open Go.RowKit
section
variable [Glb]{P:Program}{N:Nat}{w0:World}{S0:aa}{o:Oper}{a:Act}{E:Env}{st:St}
theorem SR.jD{b:Array Value}(h:SR N w0 S0 E st b){n:Nat}(hn:st.bx n=none)(ob:Obj)(B:BX)(hB: ∀E':Env,Grow E E'->bM E' ob B)(v:Value)(u:V)
  (hu: ∀E':Env,E'.κ n=E.w.heap.size->E'.live n=true->VR E' v u) {d:Nat} (hd:d<N):
  SR N w0 S0 {E with w:=E.w.alloc ob,κ:=upd E.κ n E.w.heap.size,live:=upd E.live n true } {st with sl:=upd st.sl d u,bx:=upd st.bx n (some B)}
   (b.setIfInBounds d v):=by
 have jQ:E.live n=false:=by rw [h.live,hn];rfl
 have ne: ∀m,E.live m=true->m≠n:=fun m hm e=>by rw [e,jQ] at hm;cases hm
 have hkl: ∀m,E.live m=true->E.κ m<E.w.heap.size:=fun m hm=>by
  rw [h.live] at hm;obtain ⟨b',hb'⟩:=Option.isSome_iff_exists.1 hm;exact (h.bx m b' hb').lt
 have hb:Below E.w.heap.size E.w (E.w.alloc ob):=(Below.refl _ _).alloc (Nat.le_refl _) _;have g:Grow E {E with w:=E.w.alloc ob,κ:=upd E.κ n E.w.heap.size,live:=upd E.live n true }:=
  ⟨rfl,fun m hm=>⟨by show upd E.live n true m=true;rw [ae _ _ _ _ (ne m hm)];exact hm,ae _ _ _ _ (ne m hm)⟩,
   fun r k hr=>⟨hr,hb.block k (h.rows r k hr).2.1,fun _=>Iff.rfl⟩,fun _ _ hs=>hs,fun b o hs=>aB.dw hb (h.lt b o hs)⟩
 refine ⟨by simp [h.size],h.base,h.glob,fun m=>?_,fun k m=>(h.gh k m).grow g,fun m b' hm=>?_,fun m=>?_,fun m m' hm hm' he=>?_,fun r k hr=>?_,h.rinj,fun b o hs=>?_,?_,h.s0,h.s1,fun k o hk=>⟨(h.obj k o hk).1,(hb.block k (Array.getElem?_eq_some_iff.1 (h.obj k o hk).2).1).trans (h.obj k o hk).2⟩,h.cx⟩
 ·rw [jm (by rw [h.size];exact hd)]
  by_cases hm:m=d
  ·subst hm;rw [if_pos rfl];show VR _ _ (upd st.sl m _ m)
   rw [aj];exact hu _ (aj _ _ _) (aj _ _ _)
  ·rw [if_neg hm];show VR _ _ (upd st.sl d _ m)
   rw [ae _ _ _ _ hm];exact (h.sl m).grow g
 ·by_cases hmn:m=n
  ·subst hmn;have hb':B=b':=by
    have:upd st.bx m (some B) m=some b':=hm
    rw [aj] at this;exact Option.some.inj this
   subst hb';show bD _ (upd E.κ m E.w.heap.size m) _
   rw [aj];exact ⟨by rw [g.B,h.base];exact h.below.size,fun o hs=>absurd (h.lt _ o hs) (Nat.lt_irrefl _),_,heap_alloc_new _ _,hB _ g⟩
  ·have hm':st.bx m=some b':=by
    have:upd st.bx n (some B) m=some b':=hm
    rwa [ae _ _ _ _ hmn] at this
   show bD _ (upd E.κ n E.w.heap.size m) b'
   rw [ae _ _ _ _ hmn];have hB':=h.bx m b' hm';exact hB'.grow g (hb.block _ (hkl m (by rw [h.live,hm'];rfl))) hB'.free
 ·show upd E.live n true m=(upd st.bx n (some _) m).isSome
  by_cases hmn:m=n
  ·subst hmn;rw [aj,aj];rfl
  ·rw [ae _ _ _ _ hmn,ae _ _ _ _ hmn];exact h.live m
 ·have hm:upd E.live n true m=true:=hm;have hm':upd E.live n true m'=true:=hm';have he:upd E.κ n E.w.heap.size m=upd E.κ n E.w.heap.size m':=he
  by_cases h1:m=n <;> by_cases h2:m'=n
  ·rw [h1,h2]
  ·subst h1;rw [ae _ _ _ _ h2] at hm';rw [aj,ae _ _ _ _ h2] at he;exact absurd (hkl m' hm') (by omega)
  ·subst h2;rw [ae _ _ _ _ h1] at hm;rw [aj,ae _ _ _ _ h1] at he;exact absurd (hkl m hm) (by omega)
  ·rw [ae _ _ _ _ h1] at hm he;rw [ae _ _ _ _ h2] at hm' he;exact h.inj m m' hm hm' he
 ·obtain ⟨h1,h2,h3⟩:=h.rows r k hr;refine ⟨h1,by simp;omega,fun m hm=>?_⟩;have hm:upd E.live n true m=true:=hm;show upd E.κ n E.w.heap.size m≠k
  by_cases hmn:m=n
  ·subst hmn;rw [aj];omega
  ·rw [ae _ _ _ _ hmn] at hm ⊢;exact h3 m hm
 ·have:=h.lt b o hs
  simp;omega
 ·exact h.below.trans (hb.mono h.below.size)
theorem SR.qT{b:Array Value}(h:SR N w0 S0 E st b){n:Nat}(hn:st.bx n=none)(ag:Bool)(sh:List Sh)
  {d:Nat} (hd:d<N):
  SR N w0 S0 {E with w:=E.w.alloc (.map #[] 0),κ:=upd E.κ n E.w.heap.size,live:=upd E.live n true } {st with sl:=upd st.sl d (.mp n),bx:=upd st.bx n (some (.m ag sh [] none))}
   (b.setIfInBounds d (.map (some E.w.heap.size))):=
 h.jD hn _ _ (fun _ _=>.map #[] 0 ag sh [] none ⟨rfl,fun i x e hx=>by simp at hx,fun x hx=>by simp at hx,by simp,fun p hp=>by cases hp⟩) _ _ (fun E' hk hl=>by rw [<- hk];exact .mp n hl) hd
theorem SR.oM{b:Array Value}(h:SR N w0 S0 E st b){n:Nat}{B:BX}(hn:st.bx n=some B)(ob:Obj)(B':BX)
  (hc: ∀E':Env,Grow E E'->bM E' ob B'):
  SR N w0 S0 {E with w:={E.w with heap:=E.w.heap.setIfInBounds (E.κ n) ob }} {st with bx:=upd st.bx n (some B')} b:=by
 have hB:=h.bx n _ hn;obtain ⟨o0,h0,sE⟩:=hB.at_;have hnc:cp o0=false:=by cases sE <;> rfl
 have hl:E.live n=true:=by rw [h.live,hn];rfl
 have hlt:E.κ n<E.w.heap.size:=hB.lt;have other: ∀k,k≠E.κ n->(E.w.heap.setIfInBounds (E.κ n) ob)[k]? =E.w.heap[k]? :=fun k hk=>(Go.MapKept.heap_set h0).2 k hk
 have g:Grow E {E with w:={E.w with heap:=E.w.heap.setIfInBounds (E.κ n) ob }}:=⟨rfl,fun _ h=>⟨h,rfl⟩,fun r k hr=>⟨hr,other k (fun e=>(h.rows r k hr).2.2 n hl e.symm),fun _=>Iff.rfl⟩,fun _ _ hs=>hs,
  fun b o hs=>aB.dz (other b (fun e=>hB.free o (e▸hs)))⟩
 have hsz:(E.w.heap.setIfInBounds (E.κ n) ob).size=E.w.heap.size:=by simp
 refine ⟨h.size,h.base,h.glob,fun m=>(h.sl m).grow g,fun k m=>(h.gh k m).grow g,fun m b1 hm=>?_,fun m=>?_,h.inj,fun r k hr=>?_,h.rinj,fun b o hs=>?_,?_,h.s0,h.s1,
  fun k o hk=>⟨(h.obj k o hk).1,(other k fun e=>by have h1:=(h.obj k o hk);rw [e,h0] at h1;have h2:=h1.2;cases h2;rw [hnc] at h1;cases h1.1).trans (h.obj k o hk).2⟩,h.cx⟩
 ·by_cases hmn:m=n
  ·subst hmn;have hb':B'=b1:=by
    have:upd st.bx m (some B') m=some b1:=hm
    rw [aj] at this;exact Option.some.inj this
   subst hb';exact ⟨hB.old,hB.free,_,(Go.MapKept.heap_set h0).1,hc _ g⟩
  ·have hm':st.bx m=some b1:=by
    have:upd st.bx n (some B') m=some b1:=hm
    rwa [ae _ _ _ _ hmn] at this
   have hB1:=h.bx m b1 hm';exact hB1.grow g (other _ (fun e=>hmn (h.inj m n (by rw [h.live,hm'];rfl) hl e))) hB1.free
 ·show E.live m=(upd st.bx n (some _) m).isSome
  by_cases hmn:m=n
  ·subst hmn;rw [aj];exact hl
  ·rw [ae _ _ _ _ hmn];exact h.live m
 ·obtain ⟨h1,h2,h3⟩:=h.rows r k hr;exact ⟨h1,by rw [hsz];exact h2,h3⟩
 ·rw [hsz];exact h.lt b o hs
 ·refine h.below.trans (.of rfl rfl rfl (by rw [hsz];exact Nat.le_refl _) (fun k hk=>other k ?_) (Nat.le_refl _))
  have:=hB.old
  rw [h.base] at this;omega
theorem SR.mJ{b:Array Value}(h:SR N w0 S0 E st b){n:Nat}{ag:Bool}{sh:List Sh}{es:List (T×T)}{mb:Option (List Nat×Nat)}(hn:st.bx n=some (.m ag sh es mb))(arr:Array MapEntry)(clock:Nat)(es':List (T×T))
  (hc:bI E arr clock ag sh es' none):
  SR N w0 S0 {E with w:={E.w with heap:=E.w.heap.setIfInBounds (E.κ n) (.map arr clock)}} {st with bx:=upd st.bx n (some (.m ag sh es' none))} b:=
 h.oM hn _ _ fun _ g=>.map arr clock ag sh es' none (hc.grow g)
end
section
variable {P:Program}{N:Nat}{w0:World}{S0:aa}{o:Oper}{a:Act}{E:Env}{st:St}
theorem kQ: ∀{a b:List Sh},ka a b=true->a=b
 |[],[],_=>rfl
 |[],_::_,h=>by cases h
 |_::_,[],h=>by cases h
 |x::a,y::b,h=>by
  simp only [ka,Bool.and_eq_true] at h;have h1:x=y:=by
   have:=h.1
   cases x <;> cases y <;> simp_all [Sh.same]
  rw [h1,kQ h.2]
theorem eO{ag ag':Bool}{sh sh':List Sh}(h:cn ag sh ag' sh'=true):ag=ag'/\sh=sh':=by
 simp only [cn,Bool.and_eq_true,beq_iff_eq] at h;exact ⟨h.1,kQ h.2⟩
theorem lZ{S:ar}{w:World}{kt:TypeId}{v:Value}{k:T}{sh:List Sh}(h:Rep S w v k)(hk:aR (au P kt) sh k):Of P S w kt v k.cells/\fits sh k.cells:=by
 cases hg:au P kt with
 |true=>
  rw [hg] at hk;cases k with
  |agg ts=>obtain ⟨c,rfl⟩:=fZ h;exact ⟨mh hg h,hk.2⟩
  |_=>cases hk.1
 |false=>
  rw [hg] at hk;have one:k.one=true->k.cells=[k]->fits sh [k]->Of P S w kt v k.cells/\fits sh k.cells:=fun h1 hc hf=>by
   have ho:=h.one h1;rw [hc];refine ⟨⟨(fun hh=>by rw [hg] at hh;cases hh),fun _=>ho,?_⟩,hf⟩;rw [eH ho];exact ⟨rfl,fun i x t hx ht=>by
    cases i with
    |zero=>simp at hx ht;subst hx;subst ht;exact ⟨h,h1⟩
    |succ i=>simp at hx⟩
  cases k with
  |agg ts=>cases hk.1
  |tup ts=>exfalso;have:=hk.2;cases sh with
   |nil=>simp [fits] at this
   |cons s ss=>cases s <;> simp [fits] at this
  |_=>exact one rfl rfl hk.2
theorem kW{S:ar}{w:World}{kt:TypeId}{sh:List Sh}(hs:shapeOf P 100 kt=some sh){x y:Value}{a b:T}(hx:Rep S w x a)(hy:Rep S w y b)(ha:aR (au P kt) sh a)(hb:aR (au P kt) sh b):
  (Op.equal kt x y).run P w= .ok (eqL a.cells b.cells) w:=by
 obtain ⟨h1,f1⟩:=lZ hx ha;obtain ⟨h2,f2⟩:=lZ hy hb;exact gP 100 kt sh hs S w 10000 x y _ _ (by omega) h1 h2 f1 f2
end
section
variable [Glb]{P:Program}{N:Nat}{w0:World}{S0:aa}{o:Oper}{a:Act}{E:Env}{st:St}
def At(k:List T)(es:List (T×T))(l:List MapEntry)(i:Nat):Option (Nat×Value)->Prop
 |none=> ∀e∈es,eqL k e.1.cells=false
 |some (m,v)=> ∃j x e,m=i+j/\l[j]? =some x/\v=x.val/\es[j]? =some e/\eqL k e.1.cells=true/\ ∀e'∈es.take j,eqL k e'.1.cells=false
end
section
variable {P:Program}{N:Nat}{w0:World}{S0:aa}{o:Oper}{a:Act}{E:Env}{st:St}
theorem At.cons{k:List T}{e:T×T}{es:List (T×T)}{x:MapEntry}{l:List MapEntry}{i:Nat}{r:Option (Nat×Value)}(h:At k es l (i+1) r)(he:eqL k e.1.cells=false):At k (e::es) (x::l) i r:=by
 cases r with
 |none=>intro e' he';rcases List.mem_cons.1 he' with rfl|h';exact he;exact h e' h'
 |some p=>
  obtain ⟨m,v⟩:=p;obtain ⟨j,y,e',h1,h2,h3,h4,h5,h6⟩:=h;refine ⟨j+1,y,e',by omega,by simpa using h2,h3,by simpa using h4,h5,fun e2 he2=>?_⟩;rw [List.take_succ_cons] at he2;rcases List.mem_cons.1 he2 with rfl|h'
  ·exact he
  ·exact h6 e2 h'
theorem At.here{k:List T}{e:T×T}{es:List (T×T)}{x:MapEntry}{l:List MapEntry}{i:Nat}(he:eqL k e.1.cells=true):At k (e::es) (x::l) i (some (i,x.val)):=
 ⟨0,x,e,rfl,rfl,rfl,rfl,he,fun _ h=>by simp at h⟩
theorem ga{S:ar}{w:World}{kt:TypeId}{sh:List Sh}(hs:shapeOf P 100 kt=some sh){v:Value}{k:T}(hv:Rep S w v k)(hk:aR (au P kt) sh k): ∀(l:List MapEntry) (es:List (T×T)) (i:Nat),l.length=es.length->
  (∀ (j:Nat) (x:MapEntry) (e:T×T),l[j]? =some x->es[j]? =some e->Rep S w x.key e.1/\aR (au P kt) sh e.1)-> ∃r,(Instr.findAsking kt v l i).run P w= .ok r w/\At k.cells es l i r
 |[],[],i,_,_=>⟨none,rfl,fun e he=>by simp at he⟩
 |[],_::_,_,h,_=>by simp at h
 |_::_,[],_,h,_=>by simp at h
 |x::l,e::es,i,hl,h=>by
  obtain ⟨h1,h2⟩:=h 0 x e rfl rfl;have heq:=kW hs hv h1 hk h2;unfold Instr.findAsking;rw [Sem.run_bind,heq];simp only [Result.andThen_ok];cases he:eqL k.cells e.1.cells with
  |true=>exact ⟨_,by simp,At.here he⟩
  |false=>
   obtain ⟨r,hr,hat⟩:=ga hs hv hk l es (i+1) (by simpa using hl) (fun j x e hx he=>h (j+1) x e (by simpa using hx) (by simpa using he));exact ⟨r,by simpa using hr,hat.cons he⟩
theorem qE{S:ar}{w:World}{kt:TypeId}{sh:List Sh}(hs:shapeOf P 100 kt=some sh)(hg:au P kt=false){d:TypeDesc}(hd:P.underlying kt=some d){x y:Value}{a b:T}(hx:Rep S w x a)(hy:Rep S w y b)
  (ha:aR false sh a) (hb:aR false sh b):Instr.sameNow d x y=some (eqL a.cells b.cells):=by
 unfold shapeOf at hs;rw [hd] at hs;have no: ∀{ts:List T}, ¬aR false sh (.agg ts):=fun h=>by cases h.1
 have one: ∀{t:T},aR false sh t->fits sh [t]:=fun {t} h=>by cases t <;> first|exact h.2|exact absurd h no
 have fa:=one ha;have fb:=one hb;split at hs
 ·rename_i h;cases h;cases hs;cases a <;> simp only [fits] at fa
  cases b <;> simp only [fits] at fb
  rw [hx.aO,hy.aO];simp [Instr.sameNow,eqL,T.cells]
 ·rename_i k h;cases h;cases hs;cases a <;> simp only [fits] at fa
  cases b <;> simp only [fits] at fb
  obtain ⟨rfl,_⟩:=fa;obtain ⟨rfl,_⟩:=fb;rw [hx.aA,hy.aA];simp [Instr.sameNow,eqL,T.cells]
 ·rename_i h;cases h;cases hs;cases a <;> simp only [fits] at fa
  cases b <;> simp only [fits] at fb
  rw [hx.bf,hy.bf];simp [Instr.sameNow,eqL,T.cells]
 ·rename_i h;cases h;simp [au,hd] at hg
 ·rename_i h;cases h;simp [au,hd] at hg
 ·cases hs
theorem iV{S:ar}{w:World}{kt:TypeId}{sh:List Sh}(hs:shapeOf P 100 kt=some sh)(hg:au P kt=false){d:TypeDesc}(hd:P.underlying kt=some d){v:Value}{k:T}(hv:Rep S w v k)(hk:aR false sh k): ∀(l:List MapEntry) (es:List (T×T)) (i:Nat),l.length=es.length->
  (∀ (j:Nat) (x:MapEntry) (e:T×T),l[j]? =some x->es[j]? =some e->Rep S w x.key e.1/\aR false sh e.1)-> ∃r,Instr.findNow d v l i=some r/\At k.cells es l i r
 |[],[],i,_,_=>⟨none,rfl,fun e he=>by simp at he⟩
 |[],_::_,_,h,_=>by simp at h
 |_::_,[],_,h,_=>by simp at h
 |x::l,e::es,i,hl,h=>by
  obtain ⟨h1,h2⟩:=h 0 x e rfl rfl;have heq:=qE hs hg hd hv h1 hk h2;unfold Instr.findNow;rw [heq];cases he:eqL k.cells e.1.cells with
  |true=>exact ⟨_,rfl,At.here he⟩
  |false=>
   obtain ⟨r,hr,hat⟩:=iV hs hg hd hv hk l es (i+1) (by simpa using hl) (fun j x e hx he=>h (j+1) x e (by simpa using hx) (by simpa using he));exact ⟨r,hr,hat.cons he⟩
theorem cL{S:ar}{w:World}{kt:TypeId}{sh:List Sh}(hs:shapeOf P 100 kt=some sh){v:Value}{k:T}(hv:Rep S w v k)(hk:aR (au P kt) sh k)(l:List MapEntry)(es:List (T×T))(hl:l.length=es.length)
  (h: ∀(j:Nat) (x:MapEntry) (e:T×T),l[j]? =some x->es[j]? =some e->Rep S w x.key e.1/\aR (au P kt) sh e.1): ∃r,(Instr.findKey kt v l).run P w= .ok r w/\At k.cells es l 0 r:=by
 obtain ⟨⟨d,hd⟩,_⟩:=dC 100 kt sh hs;unfold Instr.findKey;rw [Sem.run_bind,run_underlying hd];simp only [Result.andThen_ok];cases hg:au P kt with
 |false=>
  rw [hg] at hk h;obtain ⟨r,hr,hat⟩:=iV hs hg hd hv hk l es 0 hl h;exact ⟨r,by rw [hr];rfl,hat⟩
 |true=>
  cases hn:Instr.findNow d v l 0 with
  |none=>exact ga hs hv hk l es 0 hl h
  |some r=>
   cases l with
   |nil=>
    have:es=[]:=List.length_eq_zero_iff.1 hl.symm
    subst this;simp only [Instr.findNow,Option.some.injEq] at hn;subst hn;exact ⟨none,rfl,fun e he=>by simp at he⟩
   |cons x l=>
    exfalso;unfold Instr.findNow at hn
    have:Instr.sameNow d v x.key=none:=by
     unfold au at hg;rw [hd] at hg;cases d <;> first|rfl|cases hg
    rw [this] at hn;cases hn
theorem At.find{k:List T}: ∀{es:List (T×T)} {l:List MapEntry} {i:Nat} {r:Option (Nat×Value)},At k es l i r->match r with
  |none=>ep k es=none/\cH k es=es
  |some (m,_)=> ∃e,es[m - i]? =some e/\ep k es=some e.2/\cH k es=es.eraseIdx (m - i)
 |es,l,i,none,h=>by
  induction es with
  |nil=>exact ⟨rfl,rfl⟩
  |cons e es ih=>
   have:=ih fun e' h'=>h e' (List.mem_cons_of_mem _ h')
   have he:=h e (by simp);simp only [ep,cH,he,cond_false];exact ⟨this.1,by rw [this.2]⟩
 |es,l,i,some (m,v),h=>by
  obtain ⟨j,x,e,rfl,h2,h3,h4,h5,h6⟩:=h;simp only [Nat.add_sub_cancel_left];refine ⟨e,h4,?_⟩;clear h2 h3 x v
  induction es generalizing j with
  |nil=>simp at h4
  |cons e0 es ih=>
   cases j with
   |zero=>
    simp at h4;subst h4;simp [ep,cH,h5]
   |succ j=>
    have he0:=h6 e0 (by simp)
    have:=ih j (by simpa using h4) (fun e' he'=>h6 e' (by rw [List.take_succ_cons];exact List.mem_cons_of_mem _ he'))
    simp only [ep,cH,he0,cond_false,List.eraseIdx_cons_succ];exact ⟨this.1,by rw [this.2]⟩
theorem At.put{k v:T}: ∀{es:List (T×T)} {l:List MapEntry} {i:Nat} {r:Option (Nat×Value)},At k.cells es l i r->match r with
  |none=>bA k v es=es++[(k,v)]
  |some (m,_)=>bA k v es=es.set (m - i) (k,v)
 |es,l,i,none,h=>by
  induction es with
  |nil=>rfl
  |cons e es ih=>
   have:=ih fun e' h'=>h e' (List.mem_cons_of_mem _ h')
   have he:=h e (by simp);simp only [bA,he,cond_false];rw [this];rfl
 |es,l,i,some (m,v'),h=>by
  obtain ⟨j,x,e,rfl,h2,h3,h4,h5,h6⟩:=h;simp only [Nat.add_sub_cancel_left];clear h2 h3 x v'
  induction es generalizing j with
  |nil=>simp at h4
  |cons e0 es ih=>
   cases j with
   |zero=>simp at h4;subst h4;simp [bA,h5]
   |succ j=>
    have he0:=h6 e0 (by simp)
    have:=ih j (by simpa using h4) (fun e' he'=>h6 e' (by rw [List.take_succ_cons];exact List.mem_cons_of_mem _ he'))
    simp only [bA,he0,cond_false,List.set_cons_succ];rw [this]
end
section
variable [Glb]{P:Program}{N:Nat}{w0:World}{S0:aa}{o:Oper}{a:Act}{E:Env}{st:St}
def rK(P:Program)(em:Bool)(d:Nat)(t:TypeId)(sh:List Sh):Prop:=
 ∀(S:ar) (w:World) (D:Nat) (x:Value) (xs:List T),d<=D->Of P S w t x xs->fits sh xs->(Instr.checkKey em D t x).run P w= .ok () w
end
section
variable {P:Program}{N:Nat}{w0:World}{S0:aa}{o:Oper}{a:Act}{E:Env}{st:St}
theorem mM{f:Field}{s:List Sh}{d:Nat}(hs:shapeOf P d f.type=some s)(hsl:s.length=P.cellsOf f.type): ∃i,P.info? f.type=some i/\i.size=s.length:=by
 obtain ⟨⟨de,hu⟩,_⟩:=dC d f.type s hs;cases hi:P.info? f.type with
 |none=>simp [Program.underlying,hi] at hu
 |some i=>exact ⟨i,rfl,by rw [hsl];simp [Program.cellsOf,hi]⟩
theorem fJ(em:Bool): ∀(d:Nat) (t:TypeId) (sh:List Sh),shapeOf P d t=some sh->rK P em d t sh
 |0,_,_,h=>by simp [shapeOf] at h
 |d+1,t,sh,h=>by
  intro S w D x xs hD hx fx;obtain ⟨D,rfl⟩: ∃D',D=D'+1:=⟨D - 1,by omega⟩
  unfold shapeOf at h;split at h
  ·rename_i hu;cases h;obtain ⟨u,rfl,hu1,fu⟩:=single hx (by simp [au,hu]) fx;simp [Instr.checkKey,run_underlying hu]
  ·rename_i k hu;cases h;simp [Instr.checkKey,run_underlying hu]
  ·rename_i hu;cases h;simp [Instr.checkKey,run_underlying hu]
  ·rename_i len e hu;split at h
   ·rename_i s hs;cases hc:(Nat.beq s.length (P.cellsOf e)&&Nat.blt 0 s.length) with
    |false=>rw [hc] at h;cases h
    |true=>
    rw [hc] at h;simp only [cond_true,Option.some.injEq] at h;subst h;rw [Bool.and_eq_true] at hc;have hsl:s.length=P.cellsOf e:=Nat.eq_of_beq_eq_true hc.1;have hg:au P t=true:=by simp [au,hu]
    obtain ⟨X,rfl⟩:=hx.agg hg;obtain ⟨⟨de,hue⟩,bP⟩:=dC d e s hs;have lR: ∃i,P.info? e=some i/\i.size=s.length:=by
     cases hi:P.info? e with
     |none=>simp [Program.underlying,hi] at hue
     |some i=>exact ⟨i,rfl,by rw [hsl];simp [Program.cellsOf,hi]⟩
    obtain ⟨i,hi,bj⟩:=lR;have IH:=fJ em d e s hs;rw [Instr.checkKey];simp only [Sem.run_bind,run_underlying hu,Result.andThen_ok];simp only [Std.Legacy.Range.forIn_eq_forIn_range',Std.Legacy.Range.size,Nat.sub_zero,Nat.add_one_sub_one,Nat.div_one];have each: ∀j∈List.range' 0 len, ∃a,(part e X (j * i.size)).run P w= .ok a w/\(Instr.checkKey em D e a).run P w= .ok () w:=fun j hj=>by
     have hj:j<len:=by simpa using hj
     have hl:=bz fx;have hlen:(List.replicate len s).flatten.length=len * s.length:=by simp
     rw [hlen] at hl;have hle:j * i.size+i.size<=xs.length:=by
      rw [hl,bj, <-Nat.succ_mul];exact Nat.mul_le_mul_right _ hj
     obtain ⟨v,h1,h2⟩:=dV hue hi (fun hh=>by rw [bj];exact bP hh) hx.rep (off:=j * i.size) hle;refine ⟨v,h1,IH S w D v _ (by omega) h2 ?_⟩;have cut: ∀(j m:Nat) (ys:List T),j<m->fits (List.replicate m s).flatten ys->fits s ((ys.drop (j * s.length)).take s.length):=by
      intro j
      induction j with
      |zero=>
       intro m ys hm hf;obtain ⟨m,rfl⟩: ∃k,m=k+1:=⟨m - 1,by omega⟩
       rw [List.replicate_succ,List.flatten_cons] at hf;simpa using (bc hf).1
      |succ j ih=>
       intro m ys hm hf;obtain ⟨m,rfl⟩: ∃k,m=k+1:=⟨m - 1,by omega⟩
       rw [List.replicate_succ,List.flatten_cons] at hf
       have:=ih m _ (by omega) (bc hf).2
       rw [List.drop_drop] at this;rwa [Nat.succ_mul,Nat.add_comm (j * s.length)]
     rw [bj];exact cut j len xs hj fx
    generalize List.range' 0 len=is at each
    induction is with
    |nil=>simp
    |cons j is ih=>
     obtain ⟨a,p1,p2⟩:=each j (by simp);simp only [List.forIn_cons,Sem.run_bind,run_sizeOf hi,Result.andThen_ok,p1,p2,Sem.run_pure];exact ih (fun y hy=>each y (by simp [hy]))
   ·cases h
  ·rename_i fs hu;cases hst:P.stoodInHeld t with
   |true=>rw [hst] at h;simp at h
   |false=>
   rw [hst] at h;simp only [Bool.false_eq_true,if_false] at h;have hg:au P t=true:=by simp [au,hu]
   obtain ⟨X,rfl⟩:=hx.agg hg;rw [Instr.checkKey];simp only [Sem.run_bind,run_underlying hu,Result.andThen_ok];rw [<- Array.forIn_toList];have all: ∀(L:List Field) (off:Nat) (ss:List Sh),shapeOf.shapesOf (shapeOf P d) P L off=some ss->fits ss (xs.drop off)-> ∀f∈L,f.name≠ "_" /\ ∃a,(part f.type X f.offset).run P w= .ok a w/\(Instr.checkKey em D f.type a).run P w= .ok () w:=by
    intro L
    induction L with
    |nil=>intro off ss _ _ f hf;cases hf
    |cons f0 L ih=>
     intro off ss h fa f hf;unfold shapeOf.shapesOf at h;split at h
     ·rename_i s r hs hr;cases hc:(Nat.beq s.length (P.cellsOf f0.type)&&Nat.beq f0.offset off&&f0.name != "_" &&Nat.blt 0 s.length) with
      |false=>rw [hc] at h;cases h
      |true=>
      rw [hc] at h;simp only [cond_true,Option.some.injEq] at h;subst h;simp only [Bool.and_eq_true] at hc;obtain ⟨⟨⟨hc1,hc2⟩,hc3⟩,hc4⟩:=hc;have hsl:s.length=P.cellsOf f0.type:=Nat.eq_of_beq_eq_true hc1;have pA:f0.offset=off:=Nat.eq_of_beq_eq_true hc2;have nI:f0.name≠ "_" :=by simpa using hc3
      obtain ⟨⟨de,hue⟩,bP⟩:=dC d _ _ hs;obtain ⟨i,hi,bj⟩:=mM hs hsl;obtain ⟨fa1,fa2⟩:=bc fa;rw [List.drop_drop] at fa2;have la:=bz fa;rw [List.length_append,List.length_drop] at la;have aH:0<s.length:=Nat.lt_of_lt_of_le (Nat.lt_succ_self 0) (nlZ hc4);rcases List.mem_cons.1 hf with rfl|hf'
      ·obtain ⟨v,h1,h2⟩:=dV hue hi (fun hh=>by rw [bj];exact bP hh) hx.rep (off:=off) (by omega);rw [bj] at h2;refine ⟨nI,v,by rw [pA];exact h1,fJ em d f.type s hs S w D v _ (by omega) h2 fa1⟩
      ·exact ih (off+s.length) r (by rw [hsl];exact hr) fa2 f hf'
     ·cases h
   have deep:=all fs.toList 0 sh h (by simpa using fx);generalize fs.toList=L at deep
   induction L with
   |nil=>simp
   |cons f L ih=>
    obtain ⟨hn,a,p1,p2⟩:=deep f (by simp);simp only [List.forIn_cons,Sem.run_bind,hn,ne_eq,not_false_eq_true,if_true,Result.andThen_ok,p1,p2,Sem.run_pure];exact ih (fun y hy=>deep y (by simp [hy]))
  ·cases h
theorem dn{S:ar}{w:World}{kt:TypeId}{sh:List Sh}(hs:shapeOf P 100 kt=some sh){v:Value}{k:T}(hv:Rep S w v k)(hk:aR (au P kt) sh k)(em:Bool):(Instr.checkKey em 10000 kt v).run P w= .ok () w:=by
 obtain ⟨h1,f1⟩:=lZ hv hk;exact fJ em 100 kt sh hs S w 10000 v _ (by omega) h1 f1
theorem kP{S:ar}{w:World}{s:Sh}{x y:Value}{u v:T}(hx:Rep S w x u)(hy:Rep S w y v)(fu:fits [s] [u])(fv:fits [s] [v])(he:eqL [u] [v]=true)(n:Nat):Instr.sameBits n x y=true:=by
 cases s with
 |int k=>
  cases u <;> simp only [fits] at fu
  cases v <;> simp only [fits] at fv
  obtain ⟨rfl,_⟩:=fu;obtain ⟨rfl,_⟩:=fv;rw [hx.aA,hy.aA];cases n <;> simpa [Instr.sameBits,eqL] using he
 |bool=>
  cases u <;> simp only [fits] at fu
  cases v <;> simp only [fits] at fv
  rw [hx.aO,hy.aO];cases n <;> simpa [Instr.sameBits,eqL] using he
 |str=>
  cases u <;> simp only [fits] at fu
  cases v <;> simp only [fits] at fv
  rw [hx.bf,hy.bf];cases n <;> simpa [Instr.sameBits,eqL] using he
theorem j9{S:ar}{w:World}(n:Nat): ∀(sh:List Sh) (us vs:List T) (xs ys:List Value),fits sh us->fits sh vs->eqL us vs=true->xs.length=us.length->ys.length=vs.length->
  (∀ (i:Nat) (x:Value) (u:T),xs[i]? =some x->us[i]? =some u->Rep S w x u)->(∀ (i:Nat) (x:Value) (u:T),ys[i]? =some x->vs[i]? =some u->Rep S w x u)->(xs.zip ys).all (fun (x,y)=>Instr.sameBits n x y)=true
 |[],us,vs,xs,ys,fu,fv,_,lx,ly,_,_=>by
  cases us with
  |cons u us=>simp [fits] at fu
  |nil=>cases xs with
   |nil=>rfl
   |cons _ _=>simp at lx
 |s::sh,us,vs,xs,ys,fu,fv,he,lx,ly,hx,hy=>by
  have h1:=bz fu;have h2:=bz fv;cases us with
  |nil=>simp at h1
  |cons u us=>
  cases vs with
  |nil=>simp at h2
  |cons v vs=>
  cases xs with
  |nil=>simp at lx
  |cons x xs=>
  cases ys with
  |nil=>simp at ly
  |cons y ys=>
  have f1:=bc (s1:=[s]) (s2:=sh) fu;have f2:=bc (s1:=[s]) (s2:=sh) fv;have e:=eK [u] [v] us vs rfl;simp only [List.length_singleton,List.take_succ_cons,List.take_zero,List.drop_succ_cons,List.drop_zero,List.singleton_append] at f1 f2 e;rw [e,Bool.and_eq_true] at he;rw [List.zip_cons_cons,List.all_cons,Bool.and_eq_true];exact ⟨kP (hx 0 x u rfl rfl) (hy 0 y v rfl rfl) f1.1 f2.1 he.1 n,
   j9 n sh us vs xs ys f1.2 f2.2 he.2 (by simpa using lx) (by simpa using ly) (fun i x u hx' hu=>hx (i+1) x u (by simpa using hx') (by simpa using hu)) (fun i x u hx' hu=>hy (i+1) x u (by simpa using hx') (by simpa using hu))⟩
theorem pT{S:ar}{w:World}{kt:TypeId}{sh:List Sh}{x y:Value}{u v:T}(hx:Rep S w x u)(hy:Rep S w y v)(hu:aR (au P kt) sh u)(hv:aR (au P kt) sh v)(he:eqL u.cells v.cells=true):Instr.sameBits 10000 x y=true:=by
 cases hg:au P kt with
 |true=>
  rw [hg] at hu hv;cases u with
  |agg us=>
   cases v with
   |agg vs=>
    cases hx with
    |agg cx _ hs1 _ h1=>
    cases hy with
    |agg cy _ hs2 _ h2=>
    have l1:=bz hu.2;have l2:=bz hv.2
    have:=j9 9999 sh us vs cx.toList cy.toList hu.2 hv.2 he (by simpa using hs1) (by simpa using hs2) (fun i x u hx hu=>h1 i x u (by simpa using hx) hu) (fun i x u hx hu=>h2 i x u (by simpa using hx) hu)
    simp only [Instr.sameBits,Bool.and_eq_true,beq_iff_eq];exact ⟨by omega,this⟩
   |_=>cases hv.1
  |_=>cases hu.1
 |false=>
  rw [hg] at hu hv;have one: ∀{t:T},aR false sh t->fits sh [t]/\t.cells=[t]:=fun {t} h=>by cases t <;> first|exact ⟨h.2,rfl⟩|(cases h.1;done)
  obtain ⟨fu,cu⟩:=one hu;obtain ⟨fv,cv⟩:=one hv;rw [cu,cv] at he;have l1:=bz fu;cases sh with
  |nil=>simp at l1
  |cons s sh=>
   cases sh with
   |nil=>exact kP hx hy fu fv he 10000
   |cons _ _=>simp at l1
theorem lN: ∀(a b:List T),eqL a b=eqL b a
 |[],[]=>rfl
 |[],_::_=>by simp [eqL]
 |_::_,[]=>by simp [eqL]
 |x::a,y::b=>by
  have ih:=lN a b;cases x <;> cases y <;> simp only [eqL,ih] <;> first|rfl|(congr 1;exact Bool.beq_comm)|(congr 1;rw [Bool.eq_iff_iff,Go.MapKept.bytes_beq,Go.MapKept.bytes_beq];exact eq_comm)
end
section
variable [Glb]{P:Program}{N:Nat}{w0:World}{S0:aa}{o:Oper}{a:Act}{E:Env}{st:St}
theorem oE(h:SR N w0 S0 E st a.tmps)(hd:ay N o.dst){t:TypeId}(ho:o.op= .makeMap t none)(ag:Bool)(sh:List Sh):Sound P N w0 S0 o a E st (eff (.mkmap ag sh) (st.nm o.dst) st.sl st.bx):=by
 unfold eff;cases aw:o.dst with
 |none=>trivial
 |some d=>
  rw [aw] at hd;simp only [St.nm];cases hn:st.bx (d+st.off) with
  |some b=>trivial
  |none=>
   show Did P N w0 S0 o a E (st.app o.dst _)
   rw [aw];refine ⟨.value (.map (some E.w.heap.size)),.map (some E.w.heap.size),{E with w:=E.w.alloc (.map #[] 0),κ:=upd E.κ (d+st.off) E.w.heap.size,live:=upd E.live (d+st.off) true },?_,.inl rfl,?_⟩
   ·unfold execOp;simp [ho,Instr.makeMap]
   ·rw [aw];exact h.qT hn ag sh hd
end
section
variable {P:Program}{N:Nat}{w0:World}{S0:aa}{o:Oper}{a:Act}{E:Env}{st:St}
theorem kg{t:TypeId}{z:T}(h:zeroV P t=some z): ∃v,(∀ w,(zeroValue t).run P w= .ok v w)/\ ∀(S:ar) (w:World),Rep S w v z:=by
 unfold zeroV at h;split at h
 ·rename_i i hi;split at h
  ·rename_i v hv;exact ⟨v,fun w=>by simp [zeroValue,typeInfo,hi,hv],fun S w=>gp h⟩
  ·cases h
 ·cases h
theorem bI.keys{E:Env}{arr:Array MapEntry}{clock:Nat}{ag:Bool}{sh:List Sh}{es:List (T×T)}{mb:Option (List Nat×Nat)}(h:bI E arr clock ag sh es mb):arr.toList.length=es.length/\
  ∀(j:Nat) (x:MapEntry) (e:T×T),arr.toList[j]? =some x->es[j]? =some e->Rep E.S E.w x.key e.1/\aR ag sh e.1:=
 ⟨by simpa using h.size,fun j x e hx he=>⟨(h.at_ j x e (by simpa using hx) he).1,(h.at_ j x e (by simpa using hx) he).2.2⟩⟩
theorem mf{ag:Bool}{sh:List Sh}{ks vs:List T}{v:Value}(h:Rep E.S E.w v (.mapd ag sh ks vs)): ∃g arr clock,v= .map (some g)/\E.w.heap[g]? =some (.map arr clock)/\bI E arr clock ag sh (ks.zip vs) none:=by
 cases h with
 |mapd g arr clock _ _ _ _ hk hv hg r1 r2 ok lt apart=>
  refine ⟨g,arr,clock,rfl,hg.1,by rw [List.length_zip,hk,hv];simp,fun i x e hx he=>?_,lt,apart,fun p hp=>by cases hp⟩;rw [List.getElem?_zip_eq_some] at he;exact ⟨r1 i x e.1 hx he.1,r2 i x e.2 hx he.2,ok _ (List.mem_of_getElem? he.1)⟩
end
section
variable [Glb]{P:Program}{N:Nat}{w0:World}{S0:aa}{o:Oper}{a:Act}{E:Env}{st:St}
theorem kL(h:SR N w0 S0 E st a.tmps)(hd:ay N o.dst){t kt e:TypeId}{M K:Operand}{ok:Bool}(ho:o.op= .lookup t M K ok)(hu:P.underlying t=some (.map kt e))
  {sh:List Sh} (hs:shapeOf P 100 kt=some sh) {z:T} (hz:zeroV P e=some z) {g:Nat} (hM:a.eval M= .map (some g)) {arr:Array MapEntry} {clock:Nat} (hg:E.w.heap[g]? =some (.map arr clock)) {es:List (T×T)} {mb:Option (List Nat×Nat)} (hR:bI E arr clock (au P kt) sh es mb)
  {key:T} (hK:Rep E.S E.w (a.eval K) key) (hko:aR (au P kt) sh key) {rd:List Nat}:Did P N w0 S0 o a E (st.app o.dst {val:=.t (nM z ok (ep key.cells es)),rd:=rd }):=by
 obtain ⟨zv,hz1,hz2⟩:=kg hz;obtain ⟨r,hr,hat⟩:=cL hs hK hko arr.toList es hR.keys.1 hR.keys.2;have hck:=dn hs hK hko arr.isEmpty;have gC:=hat.find;cases r with
 |none=>
  have hf:ep key.cells es=none:=gC.1;rw [hf]
  have:(execOp a.eval o).run P E.w= .ok (.value (if ok then .tuple #[zv,.bool false] else zv)) E.w:=by
   unfold execOp;simp [ho,Instr.lookup,hM,run_underlying hu,Go.MapKept.run_getObj_map hg,hck,hr,hz1]
  cases ok with
  |true=>exact ai h hd this (.t _ _ (.tup _ _ rfl (fun i x u hx hu=>by
    cases i with
    |zero=>simp at hx hu;subst hx;subst hu;exact hz2 _ _
    |succ i=>cases i with
     |zero=>simp at hx hu;subst hx;subst hu;exact .bool _
     |succ i=>simp at hx)))
  |false=>exact ai h hd this (.t _ _ (hz2 _ _))
 |some p=>
  obtain ⟨i,v⟩:=p;obtain ⟨j,x,e1,hj,hx,hv1,he1,_,_⟩:=hat;obtain ⟨e2,he2,hf,_⟩:=gC;have hij:i - 0=j:=by omega
  rw [hij,he1] at he2;cases he2;rw [hf];have aq:Rep E.S E.w v e1.2:=by rw [hv1];exact (hR.at_ j x e1 (by simpa using hx) he1).2.1
  have:(execOp a.eval o).run P E.w= .ok (.value (if ok then .tuple #[v,.bool true] else v)) E.w:=by
   unfold execOp;simp [ho,Instr.lookup,hM,run_underlying hu,Go.MapKept.run_getObj_map hg,hck,hr]
  cases ok with
  |true=>exact ai h hd this (.t _ _ (.tup _ _ rfl (fun i x u hx hu=>by
    cases i with
    |zero=>simp at hx hu;subst hx;subst hu;exact aq
    |succ i=>cases i with
     |zero=>simp at hx hu;subst hx;subst hu;exact .bool _
     |succ i=>simp at hx)))
  |false=>exact ai h hd this (.t _ _ aq)
theorem oG(h:SR N w0 S0 E st a.tmps)(hd:ay N o.dst){t kt e:TypeId}{M K:Operand}{ok:Bool}(ho:o.op= .lookup t M K ok){m k:O}(hm:ak M=some m)(hk:ak K=some k)(hu:P.underlying t=some (.map kt e))
  {sh:List Sh} (hs:shapeOf P 100 kt=some sh) {z:T} (hz:zeroV P e=some z):Sound P N w0 S0 o a E st (eff (.mlook (au P kt) sh z ok m k) (st.nm o.dst) st.sl st.bx):=by
 have hem:=af h.sl hm;have hek:=af h.sl hk;unfold eff;simp only;split
 ·rename_i b hv;rw [hv] at hem;obtain ⟨hM,hl⟩:=hem.eC;split
  ·rename_i ag' sh' es mb hb;split
   ·rename_i key gE;rw [gE] at hek;cases cW:cn (au P kt) sh ag' sh' with
    |false=>trivial
    |true=>
    obtain ⟨rfl,rfl⟩:=eO cW;intro hko;obtain ⟨arr,clock,hg,hR⟩:=(h.bx b _ hb).map;exact kL h hd ho hu hs hz hM hg hR hek.ax hko
   ·trivial
  ·trivial
 ·rename_i ag' sh' ks vs hv;rw [hv] at hem;split
  ·rename_i key gE;rw [gE] at hek;cases cW:cn (au P kt) sh ag' sh' with
   |false=>trivial
   |true=>
   obtain ⟨rfl,rfl⟩:=eO cW;intro hko;obtain ⟨g,arr,clock,hM,hg,hR⟩:=mf hem.ax;exact kL h hd ho hu hs hz hM hg hR hek.ax hko
  ·trivial
 ·rename_i hv;rw [hv] at hem;have hM:a.eval M= .map none:=by
   have:=hem.ax
   generalize a.eval M=v at this;cases this;rfl
  split
  ·rename_i key gE;rw [gE] at hek;intro hko;obtain ⟨zv,hz1,hz2⟩:=kg hz;obtain ⟨r,hr,hat⟩:=cL hs hek.ax hko [] [] rfl (fun j x e hx=>by simp at hx);have hck:=dn hs hek.ax hko true;have hr0:r=none:=by
    cases r with
    |none=>rfl
    |some p=>obtain ⟨i,v⟩:=p;obtain ⟨j,x,e1,_,hx,_⟩:=hat;simp at hx
   subst hr0
   have:(execOp a.eval o).run P E.w= .ok (.value (if ok then .tuple #[zv,.bool false] else zv)) E.w:=by
    unfold execOp;simp [ho,Instr.lookup,hM,run_underlying hu,hck,hr,hz1]
   cases ok with
   |true=>exact ai h hd this (.t _ _ (.tup _ _ rfl (fun i x u hx hu=>by
     cases i with
     |zero=>simp at hx hu;subst hx;subst hu;exact hz2 _ _
     |succ i=>cases i with
      |zero=>simp at hx hu;subst hx;subst hu;exact .bool _
      |succ i=>simp at hx)))
   |false=>exact ai h hd this (.t _ _ (hz2 _ _))
  ·trivial
 ·trivial
end
section
variable {P:Program}{N:Nat}{w0:World}{S0:aa}{o:Oper}{a:Act}{E:Env}{st:St}
theorem lC(arr:Array MapEntry)(i:Nat)(f:MapEntry->MapEntry)(hf: ∀e,(f e).born=e.born):(arr.modify i f).toList.map (·.born)=arr.toList.map (·.born):=by
 apply List.ext_getElem?
 intro j;simp only [List.getElem?_map,Array.getElem?_toList,Array.getElem?_modify];split
 ·cases arr[j]? with
  |none=>rfl
  |some x=>simp [hf]
 ·rfl
theorem bI.set{E:Env}{arr:Array MapEntry}{clock:Nat}{ag:Bool}{sh:List Sh}{es:List (T×T)}{mb:Option (List Nat×Nat)}(h:bI E arr clock ag sh es mb){j:Nat}{f:MapEntry->MapEntry}{k v:T}(hb: ∀e,(f e).born=e.born)
  (hk: ∀x,arr[j]? =some x->Rep E.S E.w (f x).key k/\Rep E.S E.w (f x).val v) (hko:aR ag sh k):bI E (arr.modify j f) clock ag sh (es.set j (k,v)) none:=by
 have hbs:=lC arr j f hb;refine ⟨by simp [h.size],fun i x e hx he=>?_,fun x hx=>?_,by rw [hbs];exact h.apart,fun p hp=>by cases hp⟩
 ·rw [Array.getElem?_modify] at hx;rw [List.getElem?_set] at he
  by_cases hij:j=i
  ·subst hij;rw [if_pos rfl] at hx he;split at he
   ·cases he;cases hx0:arr[j]? with
    |none=>rw [hx0] at hx;cases hx
    |some x0=>
     rw [hx0] at hx;cases hx;exact ⟨(hk x0 hx0).1,(hk x0 hx0).2,hko⟩
   ·cases he
  ·rw [if_neg hij] at hx he;exact h.at_ i x e hx he
 ·have:x.born∈(arr.modify j f).toList.map (·.born):=List.mem_map_of_mem hx
  rw [hbs] at this;obtain ⟨y,hy,he⟩:=List.mem_map.1 this;rw [<- he];exact h.lt y hy
theorem bI.push{E:Env}{arr:Array MapEntry}{clock:Nat}{ag:Bool}{sh:List Sh}{es:List (T×T)}{mb:Option (List Nat×Nat)}(h:bI E arr clock ag sh es mb){kv vv:Value}{k v:T}(hk:Rep E.S E.w kv k)(hv:Rep E.S E.w vv v)(hko:aR ag sh k):
  bI E (arr.push {key:=kv,val:=vv,born:=clock }) (clock+1) ag sh (es++[(k,v)]) none:=by
 refine ⟨by simp [h.size],fun i x e hx he=>?_,fun x hx=>?_,?_,fun p hp=>by cases hp⟩
 ·rw [Array.getElem?_push] at hx;rw [List.getElem?_append] at he
  by_cases hi:i=arr.size
  ·rw [if_pos hi] at hx;cases hx;rw [if_neg (by rw [<- h.size];omega),hi,h.size,Nat.sub_self] at he;cases he;exact ⟨hk,hv,hko⟩
  ·rw [if_neg hi] at hx;rw [if_pos (by rw [<- h.size];have:=(Array.getElem?_eq_some_iff.1 hx).1;omega)] at he;exact h.at_ i x e hx he
 ·simp only [Array.toList_push,List.mem_append,List.mem_singleton] at hx;rcases hx with hx|rfl
  ·exact Nat.lt_succ_of_lt (h.lt x hx)
  ·exact Nat.lt_succ_self _
 ·simp only [Array.toList_push,List.map_append,List.map_cons,List.map_nil];refine List.nodup_append.2 ⟨h.apart,by simp,fun a ha b hb=>?_⟩;simp at hb;subst hb;obtain ⟨y,hy,rfl⟩:=List.mem_map.1 ha
  have:=h.lt y hy
  omega
end
section
variable [Glb]{P:Program}{N:Nat}{w0:World}{S0:aa}{o:Oper}{a:Act}{E:Env}{st:St}
theorem mA(h:SR N w0 S0 E st a.tmps)(hd:ay N o.dst){t kt e:TypeId}{M K V:Operand}(ho:o.op= .mapUpdate t M K V\/o.op= .insert t M K V){m k v:O}(hm:ak M=some m)(hk:ak K=some k)(hv:ak V=some v)(hu:P.underlying t=some (.map kt e))
  {sh:List Sh} (hs:shapeOf P 100 kt=some sh):Sound P N w0 S0 o a E st (eff (.bA (au P kt) sh m k v) (st.nm o.dst) st.sl st.bx):=by
 have hem:=af h.sl hm;have hek:=af h.sl hk;have hev:=af h.sl hv;unfold eff;simp only;split
 ·rename_i b hv';rw [hv'] at hem;obtain ⟨hM,hl⟩:=hem.eC;split
  ·rename_i ag' sh' es mb hb;split
   ·rename_i key x gE hx;rw [gE] at hek;have hK:=hek.ax;have hX:=aC hev hx;cases cW:cn (au P kt) sh ag' sh' with
    |false=>trivial
    |true=>
    obtain ⟨rfl,rfl⟩:=eO cW;intro hko;obtain ⟨arr,clock,hg,hR⟩:=(h.bx b _ hb).map;obtain ⟨r,hr,hat⟩:=cL hs hK hko arr.toList es hR.keys.1 hR.keys.2;have hck:=dn hs hK hko false;have eW:=hat.put (v:=x);have fin: ∀arr' clock',(execOp a.eval o).run P E.w= .ok .skip {E.w with heap:=E.w.heap.setIfInBounds (E.κ b) (.map arr' clock')}->bI E arr' clock' (au P kt) sh (bA key x es) none->
      Did P N w0 S0 o a E (st.app o.dst {val:=.top,wr:=some (b,.m (au P kt) sh (bA key x es) none),rd:=[b]}):=fun arr' clock' aJ hR'=>by
     refine ⟨.skip,undef,{E with w:={E.w with heap:=E.w.heap.setIfInBounds (E.κ b) (.map arr' clock')}},aJ,.inr ⟨rfl,rfl⟩,?_⟩;rw [fP];exact (h.mJ hb arr' clock' _ hR').cJ hd (.top _)
    cases r with
    |none=>
     have hp:bA key x es=es++[(key,x)]:=eW;refine fin (arr.push {key:=a.eval K,val:=a.eval V,born:=clock }) (clock+1) ?_ (by rw [hp];exact hR.push hK hX hko);unfold execOp;rcases ho with ho|ho <;> simp [ho,Instr.mapUpdate,hM,run_underlying hu,Go.MapKept.run_getObj_map hg,hck,hr,Go.MapKept.run_setObj_map _ hg]
    |some p=>
     obtain ⟨i,v'⟩:=p;obtain ⟨j,x0,e1,hj,hx0,_,he1,heq,_⟩:=hat;have hp:bA key x es=es.set (i - 0) (key,x):=eW;have hij:i=j:=by omega
     subst hij;have rl:arr[i]? =some x0:=by simpa using hx0
     have hs0:Instr.sameBits 10000 x0.key (a.eval K)=true:=by
      have:=(hR.at_ i x0 e1 rl he1)
      refine pT this.1 hK this.2.2 hko ?_;rw [lN];exact heq
     refine fin (arr.modify i fun e=>{e with key:=a.eval K,val:=a.eval V }) clock ?_ (by rw [hp];exact hR.set (fun _=>rfl) (fun _ _=>⟨hK,hX⟩) hko);have hkt:(Instr.keyThatStays x0.key (a.eval K)).run P E.w= .ok (a.eval K) E.w:=by simp [Instr.keyThatStays,hs0]
     unfold execOp;rcases ho with ho|ho <;> simp [ho,Instr.mapUpdate,hM,run_underlying hu,Go.MapKept.run_getObj_map hg,hck,hr,rl,hkt,Go.MapKept.run_setObj_map _ hg]
   ·trivial
  ·trivial
 ·trivial
end
section
variable {P:Program}{N:Nat}{w0:World}{S0:aa}{o:Oper}{a:Act}{E:Env}{st:St}
theorem ft{w:World}{r:Nat}{m:Option Nat}{c t:Nat}{s:Array Nat}(hb:w.heap[r]? =some (.mapIter m c s t)):(getObj r).run P w= .ok (.mapIter m c s t) w:=by
 simp [getObj,Sem.run,hb]
theorem jO{X:Operand}(ho:o.op= .entry X){g k:Nat}(hP:a.eval X= .pointer (some ⟨k,0,none⟩)){arr:Array MapEntry}{c:Nat}{ix:List Nat}(hnd:(arr.toList.map (·.born)).Nodup)(hne:ix≠[])(hlt:ix.getLast?.getD 0<arr.size)
  (hg:E.w.heap[g]? =some (.map arr c)) (hgk:E.w.heap[k]? =some (.mapIter (some g) c (ix.map fun j=>(arr.toList.map (·.born)).getD j 0).toArray c)):
  (execOp a.eval o).run P E.w= .ok (.value (.tuple #[arr[ix.getLast?.getD 0].key,arr[ix.getLast?.getD 0].val])) E.w:=by
 obtain ⟨l,hl⟩: ∃l,ix.getLast? =some l:=by
  cases h:ix.getLast? with
  |none=>exact absurd (List.getLast?_eq_none_iff.1 h) hne
  |some l=>exact ⟨l,rfl⟩
 have lf:((ix.map fun j=>(arr.toList.map (·.born)).getD j 0).toArray).back? =some ((arr.toList.map (·.born)).getD l 0):=by
  simp [List.back?_toArray,hl]
 have hll:l<arr.size:=by rw [hl] at hlt;exact hlt
 have hst:(arr.toList.map (·.born)).getD l 0=arr[l].born:=by
  rw [List.getD_eq_getElem?_getD];simp [hll]
 have gC:arr.find? (fun e=>e.born==arr[l].born)=some arr[l]:=by
  rw [Array.find?_eq_some_iff_getElem];refine ⟨by simp,l,hll,rfl,fun j hj=>?_⟩;have hjl:j<arr.size:=by omega
  simp only [Bool.not_eq_true',beq_eq_false_iff_ne,ne_eq];intro he;have h1:(arr.toList.map (·.born))[j]'(by simpa using hjl)=(arr.toList.map (·.born))[l]'(by simpa using hll):=by simpa using he
  have:=(List.getElem_inj hnd).1 h1
  omega
 unfold execOp;simp only [hl,Option.getD_some];generalize hS:(ix.map fun j=>(arr.toList.map (·.born)).getD j 0).toArray=seen at lf hgk
 simp only [ho,hP,Instr.entry,Sem.run_bind,ft hgk,Result.andThen_ok,lf,hst,Go.MapKept.run_getObj_map hg,bne_self_eq_false,Bool.false_eq_true,if_false,gC,Sem.run_pure]
end
section
variable [Glb]{P:Program}{N:Nat}{w0:World}{S0:aa}{o:Oper}{a:Act}{E:Env}{st:St}
theorem p0(h:SR N w0 S0 E st a.tmps)(hd:ay N o.dst){X:Operand}{y:O}(ho:o.op= .entry X)(hy:ak X=some y):Sound P N w0 S0 o a E st (eff (.ment y) (st.nm o.dst) st.sl st.bx):=by
 have he:=af h.sl hy;have tup: ∀{S:ar} {w:World} {v1 v2:Value} {t1 t2:T},Rep S w v1 t1->Rep S w v2 t2->Rep S w (.tuple #[v1,v2]) (.tup [t1,t2]):=fun r1 r2=>.tup _ _ rfl fun i x u hx hu=>by
  match i,hx,hu with
  |0,hx,hu=>simp at hx hu;subst hx;subst hu;exact r1
  |1,hx,hu=>simp at hx hu;subst hx;subst hu;exact r2
  |i+2,hx,hu=>simp at hx
 unfold eff;simp only;split
 ·rename_i k hv;rw [hv] at he;obtain ⟨hP,hl⟩:=he.bd;split
  ·rename_i b bs c ix hbk;split
   ·rename_i ag sh es q hb;rintro ⟨hq,hne,hlt⟩;obtain ⟨arr,clock,hg,hR⟩:=(h.bx b _ hb).map;have hmb:=hR.mb q rfl;rw [hq] at hmb;simp only [Prod.mk.injEq] at hmb;obtain ⟨rfl,rfl⟩:=hmb;obtain ⟨ob,hgk,hob⟩:=(h.bx k _ hbk).at_;cases hob with
    |cells _ _ _ hc=>cases hc
    |it _ _ _ _ hlb=>
    have lT:ix.getLast?.getD 0<arr.size:=by rw [hR.size];exact hlt
    have hat:=hR.at_ _ _ _ (Array.getElem?_eq_getElem lT) (ggZ hlt);have px:km es ix= .tup [es[ix.getLast?.getD 0].1,es[ix.getLast?.getD 0].2]:=by
     unfold km;rw [ggZ hlt]
    rw [px];exact ai h hd (jO ho hP hR.apart hne lT hg hgk) (.t _ _ (tup hat.1 hat.2.1))
   ·trivial
  ·rename_i es ix hbk;rintro ⟨hne,hlt⟩;obtain ⟨ob,hgk,hob⟩:=(h.bx k _ hbk).at_;cases hob with
   |cells _ _ _ hc=>cases hc
   |itd g arr c ag sh _ _ hg hS hR=>
   have lT:ix.getLast?.getD 0<arr.size:=by rw [hR.size];exact hlt
   have hat:=hR.at_ _ _ _ (Array.getElem?_eq_getElem lT) (ggZ hlt);have px:km es ix= .tup [es[ix.getLast?.getD 0].1,es[ix.getLast?.getD 0].2]:=by
    unfold km;rw [ggZ hlt]
   rw [px];exact ai h hd (jO ho hP hR.apart hne lT hg hgk) (.t _ _ (tup hat.1 hat.2.1))
  ·trivial
 ·trivial
theorem p9(h:SR N w0 S0 E st a.tmps)(hd:ay N o.dst){X:Operand}{t kt e:TypeId}{y:O}(ho:o.op= .call {callee:=.builtin .len,args:= #[X],argTypes:= #[t]})(hy:ak X=some y)
  (hu:P.underlying t=some (.map kt e)):Sound P N w0 S0 o a E st (eff (.mlen y) (st.nm o.dst) st.sl st.bx):=by
 have he:=af h.sl hy;unfold eff;simp only;split
 ·rename_i b hv;rw [hv] at he;obtain ⟨hM,hl⟩:=he.eC;split
  ·rename_i ag sh es mb hb;obtain ⟨arr,clock,hg,hR⟩:=(h.bx b _ hb).map;exact ai h hd (v:=.int .i64 es.length) (aD ho (by simp [builtin,Builtin.len_,hM,run_underlying hu,goInt,Go.MapKept.run_getObj_map hg,hR.size])) (.t _ _ (.int _ _))
  ·trivial
 ·rename_i ks vs hv;rw [hv] at he;have hr:=he.ax;generalize hM:a.eval X=v at hr;cases hr with
  |mapd g arr clock _ _ _ _ hk hv' hg=>
   exact ai h hd (v:=.int .i64 ks.length) (aD ho (by simp [builtin,Builtin.len_,hM,run_underlying hu,goInt,Go.MapKept.run_getObj_map hg.1,hk])) (.t _ _ (.int _ _))
 ·rename_i hv;rw [hv] at he;have hM:a.eval X= .map none:=by
   have:=he.ax
   generalize a.eval X=v at this;cases this;rfl
  exact ai h hd (v:=.int .i64 0) (aD ho (by simp [builtin,Builtin.len_,hM,run_underlying hu,goInt])) (.t _ _ (.int _ _))
 ·trivial
theorem pY(h:SR N w0 S0 E st a.tmps)(hd:ay N o.dst){X:Operand}{t kt e:TypeId}{y:O}(ho:o.op= .call {callee:=.builtin .clear,args:= #[X],argTypes:= #[t]})(hy:ak X=some y)
  (hu:P.underlying t=some (.map kt e)):Sound P N w0 S0 o a E st (eff (.mclr y) (st.nm o.dst) st.sl st.bx):=by
 have he:=af h.sl hy;unfold eff;simp only;split
 ·rename_i b hv;rw [hv] at he;obtain ⟨hM,hl⟩:=he.eC;split
  ·rename_i ag sh es mb hb;obtain ⟨arr,clock,hg,hR⟩:=(h.bx b _ hb).map;refine ⟨.value (.tuple #[]),.tuple #[],{E with w:={E.w with heap:=E.w.heap.setIfInBounds (E.κ b) (.map #[] clock)}},aD ho (by simp [builtin,Builtin.clear_,hM,run_underlying hu,Go.MapKept.run_getObj_map hg,Go.MapKept.run_setObj_map _ hg]),.inl rfl,?_⟩;rw [fP];exact (h.mJ hb #[] clock _ ⟨rfl,fun i x e hx=>by simp at hx,fun x hx=>by simp at hx,by simp,fun p hp=>by cases hp⟩).cJ hd (.top _)
  ·trivial
 ·trivial
end
section
variable {P:Program}{N:Nat}{w0:World}{S0:aa}{o:Oper}{a:Act}{E:Env}{st:St}
theorem bI.erase{E:Env}{arr:Array MapEntry}{clock:Nat}{ag:Bool}{sh:List Sh}{es:List (T×T)}{mb:Option (List Nat×Nat)}(h:bI E arr clock ag sh es mb)(j:Nat):bI E (arr.eraseIdxIfInBounds j) clock ag sh (es.eraseIdx j) none:=by
 have dJ:(arr.eraseIdxIfInBounds j).toList=arr.toList.eraseIdx j:=by
  unfold Array.eraseIdxIfInBounds;split
  ·simp
  ·rename_i hj;rw [List.eraseIdx_of_length_le (by simpa using hj)]
 have hs:(arr.toList.eraseIdx j).Sublist arr.toList:=List.eraseIdx_sublist _ _;have hl:arr.toList.length=es.length:=by simpa using h.size
 refine ⟨?_,fun i x e hx he=>?_,fun x hx=>h.lt x (hs.subset (dJ▸hx)),?_,fun p hp=>by cases hp⟩
 ·rw [<- Array.length_toList,dJ,List.length_eraseIdx,List.length_eraseIdx,hl]
 ·rw [<- Array.getElem?_toList,dJ,List.getElem?_eraseIdx] at hx;rw [List.getElem?_eraseIdx] at he;split at hx
  ·rename_i hij;rw [if_pos hij] at he;exact h.at_ i x e (by simpa using hx) he
  ·rename_i hij;rw [if_neg hij] at he;exact h.at_ (i+1) x e (by simpa using hx) he
 ·rw [dJ];exact (hs.map _).nodup h.apart
end
section
variable [Glb]{P:Program}{N:Nat}{w0:World}{S0:aa}{o:Oper}{a:Act}{E:Env}{st:St}
theorem pZ(h:SR N w0 S0 E st a.tmps)(hd:ay N o.dst){M K:Operand}{t t2 kt e:TypeId}{m k:O}(ho:o.op= .call {callee:=.builtin .delete,args:= #[M,K],argTypes:= #[t,t2]})(hm:ak M=some m)(hk:ak K=some k)
  (hu:P.underlying t=some (.map kt e)) {sh:List Sh} (hs:shapeOf P 100 kt=some sh):Sound P N w0 S0 o a E st (eff (.cH (au P kt) sh m k) (st.nm o.dst) st.sl st.bx):=by
 have hem:=af h.sl hm;have hek:=af h.sl hk;unfold eff;simp only;split
 ·rename_i b hv;rw [hv] at hem;obtain ⟨hM,hl⟩:=hem.eC;split
  ·rename_i ag' sh' es mb hb;split
   ·rename_i key gE;rw [gE] at hek;have hK:=hek.ax;cases cW:cn (au P kt) sh ag' sh' with
    |false=>trivial
    |true=>
    obtain ⟨rfl,rfl⟩:=eO cW;intro hko;obtain ⟨arr,clock,hg,hR⟩:=(h.bx b _ hb).map;obtain ⟨r,hr,hat⟩:=cL hs hK hko arr.toList es hR.keys.1 hR.keys.2;have hck:=dn hs hK hko arr.isEmpty;have gC:=hat.find;have fin: ∀arr',(execOp a.eval o).run P E.w= .ok (.value (.tuple #[])) {E.w with heap:=E.w.heap.setIfInBounds (E.κ b) (.map arr' clock)}->bI E arr' clock (au P kt) sh (cH key.cells es) none->
      Did P N w0 S0 o a E (st.app o.dst {val:=.top,wr:=some (b,.m (au P kt) sh (cH key.cells es) none),rd:=[b]}):=fun arr' aJ hR'=>by
     refine ⟨.value (.tuple #[]),.tuple #[],{E with w:={E.w with heap:=E.w.heap.setIfInBounds (E.κ b) (.map arr' clock)}},aJ,.inl rfl,?_⟩;rw [fP];exact (h.mJ hb arr' clock _ hR').cJ hd (.top _)
    cases r with
    |none=>
     have hp:cH key.cells es=es:=gC.2;refine fin arr (aD ho ?_) (by rw [hp];exact ⟨hR.size,hR.at_,hR.lt,hR.apart,fun p hp=>by cases hp⟩);simp [builtin,Builtin.delete_,hM,run_underlying hu,Go.MapKept.run_getObj_map hg,hck,hr,Go.MapKept.run_setObj_map _ hg]
    |some p=>
     obtain ⟨i,v'⟩:=p;obtain ⟨e2,_,_,hp⟩:=gC;rw [Nat.sub_zero] at hp;refine fin (arr.eraseIdxIfInBounds i) (aD ho ?_) (by rw [hp];exact hR.erase i);simp [builtin,Builtin.delete_,hM,run_underlying hu,Go.MapKept.run_getObj_map hg,hck,hr,Go.MapKept.run_setObj_map _ hg]
   ·trivial
  ·trivial
 ·trivial
end
end Go.DL
end
