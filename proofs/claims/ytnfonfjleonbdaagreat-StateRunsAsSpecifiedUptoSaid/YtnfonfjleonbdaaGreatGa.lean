/- Joined by program: parts of a data level over the model, of the program's functions over it, and of the statement's proof. -/
import Derived.WalkKit
import Derived.Below
import Derived.Deep.LoopGhost
import Derived.ChangeKeysEq
import Derived.DeepKeys3
section
namespace Go
theorem nlZ{n m:Nat}(h:Nat.ble n m=true):n<=m:=Nat.le_of_ble_eq_true h
theorem gsZ{α:Type _}{l:List α}{i:Nat}{a:α}(h:l[i]? =some a): ∃h:i<l.length,l[i]=a:=List.getElem?_eq_some_iff.1 h
theorem ggZ{α:Type _}{l:List α}{i:Nat}(h:i<l.length):l[i]? =some l[i]:=List.getElem?_eq_getElem h
end Go
namespace Go.DL
open Go.RowKit
inductive Sh where
 |int (k:IntKind)|bool|str
 deriving DecidableEq,Inhabited
inductive T where
 |int (k:IntKind) (n:Int)
 |bool (b:Bool)
 |str (s:ByteArray)
 |agg (cs:List T)
 |slice (n:Nat) (xs:List T)
 |nil
 |nilptr
 |nilfn
 |nilif
 |nilmap
 |cptr (cs:List T) (off:Nat)
 |clos (f:FuncId) (caps:List T)
 |knot (f:FuncId) (pre post:List T)
 |tup (ts:List T)
 |mapd (ag:Bool) (sh:List Sh) (ks vs:List T)
 |glob (g off:Nat)
 |wrld (f1:FuncId) (a1 b1:List T) (f2:FuncId) (a2 b2:List T) (off:Nat)
 deriving Inhabited
def T.cells:T->List T
 |.agg cs=>cs
 |t=>[t]
def T.one:T->Bool
 |.agg _=>false
 |.tup _=>false
 |_=>true
def T.flat:T->Bool
 |.int _ _|.bool _|.str _|.nil|.nilptr|.nilfn|.nilif|.nilmap|.glob _ _=>true
 |.agg cs=>go cs
 |.tup ts=>go ts
 |.clos _ caps=>go caps
 |.slice _ xs=>xs.isEmpty
 |_=>false
where go:List T->Bool
 |[]=>true
 |t::ts=>t.flat&&go ts
def fits:List Sh->List T->Prop
 |[],[]=>True
 |.int k::s,.int k' _::ts=>k'=k/\fits s ts
 |.bool::s,.bool _::ts=>fits s ts
 |.str::s,.str _::ts=>fits s ts
 |_,_=>False
def aV(b:Bool)(c:List Sh):T->Prop
 |.agg ts=>b=true/\fits c ts
 |t=>b=false/\fits c [t]
abbrev ar:=Nat->Nat->Prop
structure Below (B:Nat) (w w':World):Prop extends Go.RowKit.Below B w w' where
 dr:w.drawn<=w'.drawn
theorem Below.of{B:Nat}{w w':World}(b:w'.os=w.os)(c:w'.tape=w.tape)(d:w'.output=w.output)(e:w.heap.size<=w'.heap.size)(f: ∀k,k<B->w'.heap[k]? =w.heap[k]?)(g:w.drawn<=w'.drawn):Below B w w':=⟨⟨b,c,d,e,f⟩,g⟩
theorem Below.refl(B:Nat)(w:World):Below B w w:=⟨Go.RowKit.Below.refl B w,Nat.le_refl _⟩
theorem Below.trans{B:Nat}{a b c:World}(h:Below B a b)(k:Below B b c):Below B a c:=⟨h.toBelow.trans k.toBelow,Nat.le_trans h.dr k.dr⟩
theorem Below.mono{B b:Nat}{w w':World}(h:Below B w w')(c:b<=B):Below b w w':=⟨h.toBelow.mono c,h.dr⟩
theorem Below.drew{B:Nat}{a w:World}(h:Below B a w):Below B a w.drew:=⟨h.toBelow.drew,Nat.le_trans h.dr (Nat.le_succ _)⟩
theorem Below.alloc{B:Nat}{a w:World}(h:Below B a w)(b:B<=w.heap.size)(o:Obj):Below B a (w.alloc o):=⟨h.toBelow.alloc b o,h.dr⟩
theorem Below.heap_alloc(w:World)(o:Obj)(k:Nat)(h:k<w.heap.size):(w.alloc o).heap[k]? =w.heap[k]? :=Go.RowKit.Below.heap_alloc w o k h
structure aC (w w':World) (b o:Nat):Prop where
 cell:w'.cell? ⟨b,o,none⟩=w.cell? ⟨b,o,none⟩
 map: ∀(arr:Array MapEntry) (c:Nat),w.heap[b]? =some (.map arr c)->w'.heap[b]? =some (.map arr c)
theorem aC.rfl{w:World}{b o:Nat}:aC w w b o:=⟨Eq.refl _,fun _ _ h=>h⟩
theorem aC.dG{w w':World}{b o:Nat}(h:w'.heap[b]? =w.heap[b]?):aC w w' b o:=
 ⟨World.cell?_of_block (w:=w) (a:=⟨b,o,none⟩) h,fun _ _ c=>h.trans c⟩
theorem aC.cY{w w':World}{n b o:Nat}(h:Below n w w')(c:b<n):aC w w' b o:=.dG (h.block b c)
inductive Rep (S:ar) (w:World):Value->T->Prop
 |int (k:IntKind) (n:Int):Rep S w (.int k n) (.int k n)
 |bool (b:Bool):Rep S w (.bool b) (.bool b)
 |str (s:ByteArray):Rep S w (.string s) (.str s)
 |nilptr:Rep S w (.pointer none) .nilptr
 |nilfn:Rep S w .nilFunc .nilfn
 |nilif:Rep S w .nilIface .nilif
 |nilmap:Rep S w (.map none) .nilmap
 |glob (g off:Nat):Rep S w (.pointer (some ⟨g,off,none⟩)) (.glob g off)
 |nil:Rep S w (.slice none 0 0) .nil
 |agg (cs:Array Value) (ts:List T) (hs:cs.size=ts.length) (h1: ∀t∈ts,t.one=true)
   (h: ∀(i:Nat) (x:Value) (t:T),cs[i]? =some x->ts[i]? =some t->Rep S w x t):Rep S w (.agg cs) (.agg ts)
 |tup (cs:Array Value) (ts:List T) (hs:cs.size=ts.length)
   (h: ∀(i:Nat) (x:Value) (t:T),cs[i]? =some x->ts[i]? =some t->Rep S w x t):Rep S w (.tuple cs) (.tup ts)
 |slice (a:Option Addr) (b o len cap n:Nat) (xs:List T) (g:Nat->Value) (hl:xs.length=len) (hc:len<=cap) (hu: ∀x∈xs,x.cells.length=n)
   (h1: ∀t∈xs.flatMap T.cells,t.one=true)
   (ha:0<(xs.flatMap T.cells).length->a=some ⟨b,o,none⟩)
   (hg: ∀(i:Nat),i<(xs.flatMap T.cells).length->w.cell? ⟨b,o+i,none⟩=some (g i)/\S b (o+i))
   (h: ∀(i:Nat) (t:T),(xs.flatMap T.cells)[i]? =some t->Rep S w (g i) t):Rep S w (.slice a len cap) (.slice n xs)
 |cptr (b o off:Nat) (cs:List T) (g:Nat->Value) (h1: ∀t∈cs,t.one=true)
   (hg: ∀(i:Nat),i<cs.length->w.cell? ⟨b,o+i,none⟩=some (g i)/\S b (o+i))
   (h: ∀(i:Nat) (t:T),cs[i]? =some t->Rep S w (g i) t):Rep S w (.pointer (some ⟨b,o+off,none⟩)) (.cptr cs off)
 |clos (f:FuncId) (cs:Array Value) (ts:List T) (hs:cs.size=ts.length)
   (h: ∀(i:Nat) (x:Value) (t:T),cs[i]? =some x->ts[i]? =some t->Rep S w x t):Rep S w (.func (.func f) #[] cs) (.clos f ts)
 |knot (b o:Nat) (f:FuncId) (c1 c2:Array Value) (t1 t2:List T) (hs1:c1.size=t1.length) (hs2:c2.size=t2.length)
   (hg:w.cell? ⟨b,o,none⟩=some (.func (.func f) #[] (c1++ #[.pointer (some ⟨b,o,none⟩)]++c2))/\S b o)
   (h1: ∀(i:Nat) (x:Value) (t:T),c1[i]? =some x->t1[i]? =some t->Rep S w x t)
   (h2: ∀(i:Nat) (x:Value) (t:T),c2[i]? =some x->t2[i]? =some t->Rep S w x t):Rep S w (.pointer (some ⟨b,o,none⟩)) (.knot f t1 t2)
 |mapd (g:Nat) (arr:Array MapEntry) (clock:Nat) (ag:Bool) (sh:List Sh) (ks vs:List T) (hk:arr.size=ks.length) (hv:vs.length=ks.length) (hg:w.heap[g]? =some (.map arr clock)/\S g 0)
   (r1: ∀(i:Nat) (x:MapEntry) (t:T),arr[i]? =some x->ks[i]? =some t->Rep S w x.key t)
   (r2: ∀(i:Nat) (x:MapEntry) (t:T),arr[i]? =some x->vs[i]? =some t->Rep S w x.val t)
   (ok: ∀k∈ks,aV ag sh k) (lt: ∀x∈arr.toList,x.born<clock) (apart:(arr.toList.map (·.born)).Nodup):Rep S w (.map (some g)) (.mapd ag sh ks vs)
 |wrld (b o b' o' off:Nat) (f1 f2:FuncId) (c1 d1 c2 d2:Array Value) (a1 b1 a2 b2:List T) (hc1:c1.size=a1.length) (hd1:d1.size=b1.length) (hc2:c2.size=a2.length) (hd2:d2.size=b2.length)
   (hw:w.cell? ⟨b',o',none⟩=some (.pointer (some ⟨b,o,none⟩))/\S b' o')
   (h1:w.cell? ⟨b,o,none⟩=some (.func (.func f1) #[] (c1++ #[.pointer (some ⟨b',o',none⟩)]++d1))/\S b o)
   (h2:w.cell? ⟨b,o+1,none⟩=some (.func (.func f2) #[] (c2++ #[.pointer (some ⟨b',o',none⟩)]++d2))/\S b (o+1))
   (r1: ∀(i:Nat) (x:Value) (t:T),c1[i]? =some x->a1[i]? =some t->Rep S w x t)
   (r2: ∀(i:Nat) (x:Value) (t:T),d1[i]? =some x->b1[i]? =some t->Rep S w x t)
   (r3: ∀(i:Nat) (x:Value) (t:T),c2[i]? =some x->a2[i]? =some t->Rep S w x t)
   (r4: ∀(i:Nat) (x:Value) (t:T),d2[i]? =some x->b2[i]? =some t->Rep S w x t):Rep S w (.pointer (some ⟨b,o+off,none⟩)) (.wrld f1 a1 b1 f2 a2 b2 off)
theorem Rep.mono{S K:ar}{w w':World}(l: ∀b o,S b o->K b o)(m: ∀b o,S b o->aC w w' b o)
  {v:Value} {t:T} (h:Rep S w v t):Rep K w' v t:=by
 induction h with
 |int k n=>exact .int k n
 |bool b=>exact .bool b
 |str s=>exact .str s
 |nilptr=>exact .nilptr
 |nilfn=>exact .nilfn
 |nilif=>exact .nilif
 |nilmap=>exact .nilmap
 |glob g off=>exact .glob g off
 |nil=>exact .nil
 |agg cs ts q d _ e=>exact .agg cs ts q d e
 |tup cs ts q _ e=>exact .tup cs ts q e
 |slice a b o len cap n xs g hl hc hu d Z c _ e=>
  exact .slice a b o len cap n xs g hl hc hu d Z (fun i hi=>⟨(m _ _ (c i hi).2).cell.trans (c i hi).1,l _ _ (c i hi).2⟩) e
 |cptr b o off cs g d c _ e=>exact .cptr b o off cs g d (fun i hi=>⟨(m _ _ (c i hi).2).cell.trans (c i hi).1,l _ _ (c i hi).2⟩) e
 |clos f cs ts q _ e=>exact .clos f cs ts q e
 |knot b o f u x t1 t2 D F c _ _ I J=>exact .knot b o f u x t1 t2 D F ⟨(m _ _ c.2).cell.trans c.1,l _ _ c.2⟩ I J
 |mapd g r j O sh ks vs hk hv c _ _ ok lt apart G H=>exact .mapd g r j O sh ks vs hk hv ⟨(m _ _ c.2).map _ _ c.1,l _ _ c.2⟩ G H ok lt apart
 |wrld b o Q o' off X Y u V x W L R M U z B A C p d y _ _ _ _ G H i3 i4=>
  exact .wrld b o Q o' off X Y u V x W L R M U z B A C ⟨(m _ _ p.2).cell.trans p.1,l _ _ p.2⟩ ⟨(m _ _ d.2).cell.trans d.1,l _ _ d.2⟩ ⟨(m _ _ y.2).cell.trans y.1,l _ _ y.2⟩ G H i3 i4
theorem Rep.one{S:ar}{w:World}{v:Value}{t:T}(h:Rep S w v t)(b:t.one=true):v.oneCell'=true:=by
 cases h <;> first|rfl|simp [T.one] at b
theorem Rep.cells_one{S:ar}{w:World}{v:Value}{t:T}(h:Rep S w v t)(b:t.one=true):v.cells= #[v]:=by
 cases h <;> first|rfl|simp [T.one] at b
theorem T.cells_one{t:T}(h:t.one=true):t.cells=[t]:=by cases t <;> first|rfl|simp [T.one] at h
theorem Rep.cells{S:ar}{w:World}{v:Value}{t:T}(h:Rep S w v t)(g: ∀ts,t≠ .tup ts):
  v.cells.size=t.cells.length/\ ∀(i:Nat) (x:Value) (u:T),v.cells[i]? =some x->t.cells[i]? =some u->Rep S w x u/\u.one=true:=by
 by_cases d:t.one=true
 ·rw [h.cells_one d,T.cells_one d];refine ⟨rfl,fun i x u c b=>?_⟩;cases i with
  |zero=>simp at c b;subst c;subst b;exact ⟨h,d⟩
  |succ i=>simp at c
 ·cases h with
  |agg cs ts e f h=>exact ⟨e,fun i x u c b=>⟨h i x u c b,f u (List.mem_of_getElem? b)⟩⟩
  |tup cs ts e h=>exact absurd rfl (g ts)
  |_=>simp [T.one] at d
mutual
theorem Rep.of_flat{S k:ar}{w w':World}: ∀{t:T} {v:Value},Rep S w v t->t.flat=true->Rep k w' v t
 |.int _ _,_,h,_=>by cases h;exact .int _ _
 |.bool _,_,h,_=>by cases h;exact .bool _
 |.str _,_,h,_=>by cases h;exact .str _
 |.nil,_,h,_=>by cases h;exact .nil
 |.nilptr,_,h,_=>by cases h;exact .nilptr
 |.nilfn,_,h,_=>by cases h;exact .nilfn
 |.nilif,_,h,_=>by cases h;exact .nilif
 |.nilmap,_,h,_=>by cases h;exact .nilmap
 |.glob _ _,_,h,_=>by cases h;exact .glob _ _
 |.agg ts,_,h,hf=>by
  cases h with
  |agg cs _ e j h=>exact .agg cs ts e j (fun i x t d c=>Rep.iy hf h i x t d c)
 |.tup ts,_,h,hf=>by
  cases h with
  |tup cs _ e h=>exact .tup cs ts e (fun i x t d c=>Rep.iy hf h i x t d c)
 |.clos f ts,_,h,hf=>by
  cases h with
  |clos _ cs _ e h=>exact .clos f cs ts e (fun i x t d c=>Rep.iy hf h i x t d c)
 |.slice n xs,_,h,hf=>by
  cases h with
  |slice a b o len cap _ _ g p m q j l r h=>
   have d:xs=[]:=by simpa [T.flat] using hf
   subst d;exact .slice a b o len cap n [] g p m q j l (fun i hi=>absurd hi (by simp)) (fun i t c=>by simp at c)
 |.cptr _ _,_,_,hf=>by simp [T.flat] at hf
 |.knot _ _ _,_,_,hf=>by simp [T.flat] at hf
 |.wrld _ _ _ _ _ _ _,_,_,hf=>by simp [T.flat] at hf
 |.mapd _ _ _ _,_,_,hf=>by simp [T.flat] at hf
theorem Rep.iy{S c:ar}{w w':World}{cs:Array Value}: ∀{ts:List T},T.flat.go ts=true->
  (∀ (i:Nat) (x:Value) (t:T),cs[i]? =some x->ts[i]? =some t->Rep S w x t)-> ∀(i:Nat) (x:Value) (t:T),cs[i]? =some x->ts[i]? =some t->Rep c w' x t
 |[],_,_,i,x,t,_,ht=>by simp at ht
 |t0::ts,hf,h,i,x,t,hx,ht=>by
  simp only [T.flat.go,Bool.and_eq_true] at hf;cases i with
  |zero=>simp at ht;subst ht;exact Rep.of_flat (h 0 x t0 hx rfl) hf.1
  |succ i=>
   refine Rep.iy (cs:=cs.extract 1 cs.size) (ts:=ts) hf.2 (fun j y u b e=>h (j+1) y u ?_ (by simpa using e)) i x t ?_ (by simpa using ht)
   ·rw [Array.getElem?_extract] at b;split at b
    ·rwa [Nat.add_comm] at b
    ·cases b
   ·have d:i+1<cs.size:=(Array.getElem?_eq_some_iff.1 hx).1;rw [Array.getElem?_extract,if_pos (by omega),Nat.add_comm];exact hx
end
inductive V where
 |top
 |t (x:T)
 |ptr (n off:Nat)
 |view (n off len size:Nat)
 |own (r:Nat) (e:TypeId) (size:Nat) (xs:List T)
 |full (size:Nat) (xs:List T)
 |fn (f:FuncId) (caps:List V)
 |tup (vs:List V)
 |agv (vs:List V)
 |raw (v:Value)
 |mp (n:Nat)
 deriving Inhabited
structure Env where
 S:ar
 w:World
 B:Nat
 κ:Nat->Nat
 ρ:Nat->Option Nat
 live:Nat->Bool
structure bU (E:Env) (v:Value) (r:Nat) (e:TypeId) (size:Nat) (xs:List T):Prop where
 ex: ∃cells:List Value,E.w.ownsRow E.B e size v xs.length cells/\cells.length=(xs.flatMap T.cells).length/\
  (∀ (i:Nat) (x:Value) (t:T),cells[i]? =some x->(xs.flatMap T.cells)[i]? =some t->Rep E.S E.w x t)
 uni: ∀x∈xs,x.cells.length=size
 one: ∀t∈xs.flatMap T.cells,t.one=true
 row: ∀g,v.ownBlock=some g->E.ρ r=some g/\ ∀o,E.S g o↔o<(xs.flatMap T.cells).length
inductive VR (E:Env):Value->V->Prop
 |top (v:Value):VR E v .top
 |t (v:Value) (x:T) (h:Rep E.S E.w v x):VR E v (.t x)
 |ptr (n off:Nat) (hl:E.live n=true):VR E (.pointer (some ⟨E.κ n,off,none⟩)) (.ptr n off)
 |view (n off len size cap:Nat) (hl:E.live n=true) (hc:len<=cap):VR E (.slice (some ⟨E.κ n,off,none⟩) len cap) (.view n off len size)
 |own (v:Value) (r:Nat) (e:TypeId) (size:Nat) (xs:List T) (h:bU E v r e size xs):VR E v (.own r e size xs)
 |full (a:Option Addr) (len size:Nat) (xs:List T) (h:Rep E.S E.w (.slice a len len) (.slice size xs)):VR E (.slice a len len) (.full size xs)
 |fn (f:FuncId) (cs:Array Value) (vs:List V) (hs:cs.size=vs.length)
   (h: ∀(i:Nat) (x:Value) (u:V),cs[i]? =some x->vs[i]? =some u->VR E x u):VR E (.func (.func f) #[] cs) (.fn f vs)
 |tup (cs:Array Value) (vs:List V) (hs:cs.size=vs.length)
   (h: ∀(i:Nat) (x:Value) (u:V),cs[i]? =some x->vs[i]? =some u->VR E x u):VR E (.tuple cs) (.tup vs)
 |agv (cs:Array Value) (vs:List V) (hs:cs.size=vs.length) (h1: ∀(i:Nat) (x:Value),cs[i]? =some x->x.oneCell'=true)
   (h: ∀(i:Nat) (x:Value) (u:V),cs[i]? =some x->vs[i]? =some u->VR E x u):VR E (.agg cs) (.agv vs)
 |raw (v:Value) (h1:v.oneCell'=true):VR E v (.raw v)
 |mp (n:Nat) (hl:E.live n=true):VR E (.map (some (E.κ n))) (.mp n)
end Go.DL
end
section
namespace Go.DL
open Go.RowKit
inductive O where
 |tmp (n:Nat)
 |const (t:T)
 deriving Inhabited
inductive Prim where
 |strB|bytS|strS
 deriving DecidableEq,Inhabited
inductive DOp where
 |mov (x:O)
 |prim (p:Prim) (x:O)
 |arrP (n:Nat) (x:O)
 |copy (x y:O)
 |slice3 (size:Nat) (x hi mx:O)
 |buildF (size n:Nat) (zs:List T) (parts:List (Nat×O))
 |appT (size bytes:Nat) (s x:O)
 |appV (size bytes:Nat) (s x:O)
 |isnil (k:Nat) (neg:Bool) (x:O)
 |cpl (x:O)
 |mkslice (size bytes:Nat) (zs:List T) (l c:O)
 |pick (c a b:O)
 |alloc (zs:List T)
 |box (n:Nat) (x:O)
 |load (n:Nat) (agg:Bool) (a:O)
 |store (n:Nat) (a x:O)
 |offA (k:Nat) (a:O)
 |nar (n:Nat) (a:O)
 |idxA (len:Nat) (size:Nat) (a i:O)
 |idxL (size:Nat) (a i:O)
 |fld (off size:Nat) (agg:Bool) (x:O)
 |idxV (len size:Nat) (agg:Bool) (x i:O)
 |idxS (x i:O)
 |bin (op:BinOp) (x y:O)
 |eqv (neg:Bool) (sh:List Sh) (x y:O)
 |eqB (neg:Bool) (x y:O)
 |not (x:O)
 |neg (x:O)
 |conv (k:IntKind) (x:O)
 |len (x:O)
 |lenS (x:O)
 |maxI (x y:O)
 |minI (x y:O)
 |append (t e:TypeId) (size bytes:Nat) (s x:O)
 |slice (size:Nat) (x:O) (lo hi:Option O)
 |sliceS (x:O) (lo hi:Option O)
 |sliceA (len size:Nat) (x:O) (lo hi:Option O)
 |build (zs:List T) (parts:List (Nat×Nat×O))
 |buildS (e:TypeId) (size n:Nat) (zs:List T) (parts:List (Nat×O))
 |buildT (size n:Nat) (zs:List T) (parts:List (Nat×O))
 |mkfn (f:FuncId) (caps:List O)
 |call (f:FuncId) (args:List O)
 |inl (f:FuncId) (args:List O)
 |fcall (f:FuncId) (args:List O)
 |mcall (ms:List Nat) (f:FuncId) (args:List O)
 |cd (x:O) (args:List O)
 |ext (x:O) (i:Nat)
 |clr (size:Nat) (zs:List T) (x:O)
 |nilck (x:O)
 |mkmap (ag:Bool) (sh:List Sh)
 |mlook (ag:Bool) (sh:List Sh) (z:T) (ok:Bool) (m k:O)
 |bF (ag:Bool) (sh:List Sh) (m k v:O)
 |mlen (m:O)
 |cS (ag:Bool) (sh:List Sh) (m k:O)
 |mclr (m:O)
 |mrng (m:O)
 |mnext (x:O)
 |ment (x:O)
 |bad
 deriving Inhabited
structure DI where
 dst:Option Nat
 op:DOp
 guard:Option (Nat×Bool)
 after:List Nat
 deriving Inhabited
inductive BX where
 |d (n:Nat) (ts:List T)
 |v (vs:List V)
 |m (ag:Bool) (sh:List Sh) (es:List (T×T)) (mb:Option (List Nat×Nat))
 |it (m:Nat) (bs:List Nat) (c:Nat) (ix:List Nat)
 |itd (es:List (T×T)) (ix:List Nat)
 deriving Inhabited
def bY:Obj->Bool
 |.cells .. =>false
 |.map .. =>false
 |.mapIter .. =>false
 |_=>true
structure aa where
 S:ar
 vals:Nat->Nat->Value:=fun _ _=>undef
 objs:Nat->Option Obj:=fun _=>none
structure St where
 sl:Nat->V
 bx:Nat->Option BX
 gh:Nat->Nat->V:=fun _ _=>.top
 off:Nat:=0
 cx:aa->World->Prop:=fun _ _=>True
def St.nm(st:St)(d:Option Nat):Option Nat:=
 match d with
 |some n=>some (n+st.off)
 |none=>none
def upd{α:Type}(f:Nat->α)(n:Nat)(v:α):Nat->α:=fun m=>cond (Nat.beq m n) v (f m)
theorem cG(n:Nat):Nat.beq n n=true:=Nat.beq_refl n
theorem iI{n m:Nat}(h:m≠n):Nat.beq m n=false:=by
 cases b:Nat.beq m n with
 |false=>rfl
 |true=>exact absurd (Nat.eq_of_beq_eq_true b) h
theorem ai{α:Type}(f:Nat->α)(n:Nat)(v:α):upd f n v n=v:=by simp [upd,cG]
theorem ae{α:Type}(f:Nat->α)(n m:Nat)(v:α)(h:m≠n):upd f n v m=f m:=by simp [upd,iI h]
def St.set(st:St)(d:Option Nat)(v:V):St:=
 match d with
 |some n=>{st with sl:=upd st.sl n v }
 |none=>st
def ev(b:Nat->V):O->V
 |.tmp n=>b n
 |.const t=>.t t
class Glb where
 gs:Nat->Option (List T)
def bH[Glb](S:ar)(w:World):Prop:= ∀g cs,Glb.gs g=some cs->g<w.heap.size/\ ∃v:Nat->Value, ∀i t,cs[i]? =some t->
 w.cell? ⟨g,i,none⟩=some (v i)/\S g i/\t.one=true/\t.flat=true/\Rep (fun _ _=>False) w (v i) t
structure Eff where
 val:V
 wr:Option (Nat×BX):=none
 rd:List Nat:=[]
inductive cA where
 |no
 |yes (e:Eff)
 |need (c:Prop) (e:Eff)
 |alt (c:Prop) (b:Bool) (f:Bool->Eff)
 |eq (c:Prop) (t:T) (f:T->Eff)
def val(v:V):cA:=.yes {val:=v }
def aL(t:T):cA:=.yes {val:=.t t }
def aW(rd:List Nat)(t:T):Eff:={val:=.t t,rd:=rd }
def asT:V->Option T
 |.t x=>some x
 |.own _ _ n xs=>some (.slice n xs)
 |.full n xs=>some (.slice n xs)
 |_=>none
def eO:List V->Option (List T)
 |[]=>some []
 |v::vs=>match asT v,eO vs with
  |some x,some xs=>some (x::xs)
  |_,_=>none
def oH(n:Nat):V->Option (Prop×BX)
 |.t (.tup _)=>none
 |.t (.agg cs)=>some (cs.length=n,.d n cs)
 |.t x=>cond (Nat.beq n 1) (some (True,.d 1 [x])) none
 |.top=>none
 |.tup _=>none
 |.agv vs=>some (vs.length=n,.v vs)
 |v=>cond (Nat.beq n 1) (some (True,.v [v])) none
def mi(rd:List Nat)(m:Nat)(cs:List T)(off n:Nat)(agg:Bool):cA:=
 match agg with
 |true=>cond (Nat.beq off 0&&Nat.beq m n) (.yes (aW rd (.agg cs))) (.eq (off+n<=m) (.agg ((cs.drop off).take n)) (aW rd))
 |false=>.eq (off<m) (cs[off]?.getD .nil) (aW rd)
def eX(b:Nat)(bx:BX)(off n:Nat)(agg:Bool):cA:=
 match bx with
 |.d m ts=>mi [b] m ts off n agg
 |.v vs=>match agg with
  |false=>match vs[off]? with
   |some v=>.yes {val:=v,rd:=[b]}
   |none=>.no
  |true=>match eO ((vs.drop off).take n) with
   |some ts=>cond (Nat.beq ts.length n) (.yes (aW [b] (.agg ts))) .no
   |none=>.no
 |.m _ _ _ _=>.no
 |.it _ _ _ _=>.no
 |.itd _ _=>.no
def aP{α:Type}(cs:List α)(off n:Nat)(vs:List α):List α:=cs.take off++(vs++cs.drop (off+n))
def gP(b:Nat)(bx:BX)(off n:Nat)(x:V):cA:=
 match bx,x with
 |.m _ _ _ _,_=>.no
 |.it _ _ _ _,_=>.no
 |.itd _ _,_=>.no
 |.d _ _,.t (.tup _)=>.no
 |.d m ts,.t (.agg cs)=>.need (cs.length=n/\off+n<=m) {val:=.top,wr:=some (b,.d m (aP ts off n cs)),rd:=[b]}
 |.d m ts,.t t=>cond (Nat.beq n 1) (.need (off<m) {val:=.top,wr:=some (b,.d m (ts.set off t)),rd:=[b]}) .no
 |.v vs,.t (.agg cs)=>.need (cs.length=n/\off+n<=vs.length) {val:=.top,wr:=some (b,.v (aP vs off n (cs.map .t))),rd:=[b]}
 |.v _,.t (.tup _)=>.no
 |.v _,.tup _=>.no
 |.d _ _,.top=>.no
 |.d _ _,.tup _=>.no
 |.v _,.top=>.no
 |.d _ _,.agv _=>.no
 |.v _,.agv _=>.no
 |.d m ts,v=>cond (Nat.beq n 1) (.need (off<m) {val:=.top,wr:=some (b,.v ((ts.map .t).set off v)),rd:=[b]}) .no
 |.v vs,v=>cond (Nat.beq n 1) (.need (off<vs.length) {val:=.top,wr:=some (b,.v (vs.set off v)),rd:=[b]}) .no
def jl(c:BinOp)(k:IntKind)(x y:Int):Int:=
 let a:=BitVec.ofInt k.bits x
 let b:=BitVec.ofInt k.bits y
 match c with
 |.and=>k.wrap (a &&& b).toNat
 |.or=>k.wrap (a ||| b).toNat
 |.xor=>k.wrap (a ^^^ b).toNat
 |_=>k.wrap (a &&& ~~~b).toNat
def dN(b:Bool):Eff:={val:=.t (.bool b)}
def oE(c:BinOp)(k d:IntKind)(a b:Int):cA:=
 match c with
 |.shl=>.need (0<=b) {val:=.t (.int k (k.wrap (a * 2^(min b.toNat k.bits))))}
 |.shr=>.need (0<=b) {val:=.t (.int k (a.fdiv (2^(min b.toNat k.bits))))}
 |c=>if k≠d then .no else match c with
  |.add=>aL (.int k (k.wrap (a+b)))
  |.sub=>aL (.int k (k.wrap (a - b)))
  |.mul=>aL (.int k (k.wrap (a * b)))
  |.quo=>.need (b≠0) {val:=.t (.int k (k.wrap (a.tdiv b)))}
  |.rem=>.need (b≠0) {val:=.t (.int k (a.tmod b))}
  |.and=>aL (.int k (jl .and k a b))
  |.or=>aL (.int k (jl .or k a b))
  |.xor=>aL (.int k (jl .xor k a b))
  |.andNot=>aL (.int k (jl .andNot k a b))
  |.eql=>.alt True (a==b) dN
  |.neq=>.alt True (a !=b) dN
  |.lss=>.alt True (decide (a<b)) dN
  |.leq=>.alt True (decide (a<=b)) dN
  |.gtr=>.alt True (decide (a>b)) dN
  |.geq=>.alt True (decide (a>=b)) dN
  |_=>.no
def oG(b:BinOp)(x y:ByteArray):cA:=
 match b with
 |.add=>.need (((x.size+y.size:Nat):Int)<=IntKind.i64.max) {val:=.t (.str (x++y))}
 |.eql=>.alt True (x.toList==y.toList) dN
 |.neq=>.alt True (!(x.toList==y.toList)) dN
 |.lss=>.alt True (Op.bytesLess x.toList y.toList) dN
 |.leq=>.alt True (Op.bytesLess x.toList y.toList||x.toList==y.toList) dN
 |.gtr=>.alt True (!(Op.bytesLess x.toList y.toList||x.toList==y.toList)) dN
 |.geq=>.alt True (!(Op.bytesLess x.toList y.toList)) dN
 |_=>.no
def eqL:List T->List T->Bool
 |[],[]=>true
 |.int _ a::xs,.int _ b::ys=>a==b&&eqL xs ys
 |.bool a::xs,.bool b::ys=>a==b&&eqL xs ys
 |.str a::xs,.str b::ys=>a==b&&eqL xs ys
 |_,_=>false
def Sh.same:Sh->Sh->Bool
 |.int k,.int k'=>k==k'
 |.bool,.bool=>true
 |.str,.str=>true
 |_,_=>false
def kY:List Sh->List Sh->Bool
 |[],[]=>true
 |a::az,b::bs=>a.same b&&kY az bs
 |_,_=>false
def cC(d:Bool)(e:List Sh)(b:Bool)(c:List Sh):Bool:=(d==b)&&kY e c
def eH(k:List T):List (T×T)->Option T
 |[]=>none
 |e::es=>cond (eqL k e.1.cells) (some e.2) (eH k es)
def bF(k v:T):List (T×T)->List (T×T)
 |[]=>[(k,v)]
 |e::es=>cond (eqL k.cells e.1.cells) ((k,v)::es) (e::bF k v es)
def cS(k:List T):List (T×T)->List (T×T)
 |[]=>[]
 |e::es=>cond (eqL k e.1.cells) es (e::cS k es)
def oW(z:T)(ok:Bool):Option T->T
 |some v=>cond ok (.tup [v,.bool true]) v
 |none=>cond ok (.tup [z,.bool false]) z
def lr(b:List (T×T))(ix:List Nat):T:=
 match b[ix.getLast?.getD 0]? with
 |some e=>.tup [e.1,e.2]
 |none=>.nil
def elemOf(size:Nat)(cs:List T):T:=cond (Nat.beq size 1) (cs.headD .nil) (.agg cs)
def chunk(size:Nat):Nat->List T->List T
 |0,_=>[]
 |n+1,cs=>elemOf size (cs.take size)::chunk size n (cs.drop size)
def aY(bx:Nat->Option BX):V->Option (T×List Nat)
 |.t x=>some (x,[])
 |.own _ _ n xs=>some (.slice n xs,[])
 |.full n xs=>some (.slice n xs,[])
 |.ptr n off=>match bx n with
  |some (.d _ ts)=>some (.cptr ts off,[n])
  |some (.v vs)=>match eO vs with
   |some ts=>some (.cptr ts off,[n])
   |none=>none
  |some (.m _ _ _ _)=>none
  |some (.it _ _ _ _)=>none
  |some (.itd _ _)=>none
  |none=>none
 |.view n off len size=>match bx n with
  |some (.d m ts)=>cond (Nat.blt 0 size&&Nat.ble (off+len * size) m) (some (.slice size (chunk size len (ts.drop off)),[n])) none
  |_=>none
 |.mp n=>match bx n with
  |some (.m ag sh es _)=>some (.mapd ag sh (es.map (·.1)) (es.map (·.2)),[n])
  |_=>none
 |_=>none
def cT(bx:Nat->Option BX):List V->Option (List T×List Nat)
 |[]=>some ([],[])
 |v::vs=>match aY bx v,cT bx vs with
  |some (x,r),some (xs,rs)=>some (x::xs,r++rs)
  |_,_=>none
def conv(bx:Nat->Option BX):V->Option (T×List Nat)
 |.fn f caps=>match cT bx caps with
  |some (ts,r)=>some (.clos f ts,r)
  |none=>none
 |v=>aY bx v
def bt(bx:Nat->Option BX):List V->Option (List T×List Nat)
 |[]=>some ([],[])
 |v::vs=>match conv bx v,bt bx vs with
  |some (x,r),some (xs,rs)=>some (x::xs,r++rs)
  |_,_=>none
def b9(s:ByteArray):List T:=s.data.toList.map fun b=>.int .u8 (b.toNat:Int)
def uz:T->UInt8
 |.int _ n=>UInt8.ofNat n.toNat
 |_=>0
def pc(xs:List T):ByteArray:=⟨(xs.map uz).toArray⟩
def kj:List T->Prop
 |[]=>True
 |.int .u8 _::xs=>kj xs
 |_=>False
def da(bx:Nat->Option BX):V->Option T
 |.t (.str s)=>some (.slice 1 (b9 s))
 |.view n off len size=>match aY bx (.view n off len size) with
  |some (t,_)=>some t
  |none=>none
 |v=>asT v
def mj:Prim->T->Option (Prop×T)
 |.strB,.slice _ xs=>some (kj xs,.str (pc xs))
 |.strB,.nil=>some (True,.str ByteArray.empty)
 |.bytS,.str s=>some (True,.slice 1 (b9 s))
 |.strS,.str s=>some (True,.str s)
 |_,_=>none
def eG(lo:Option V):Option Int:=
 match lo with
 |none=>some 0
 |some (.t (.int _ n))=>some n
 |_=>none
def dC(hi:Option V)(len:Nat):Option Int:=
 match hi with
 |none=>some len
 |some (.t (.int _ n))=>some n
 |_=>none
def dm(b:Nat->V)(d:List T)(c:Prop):List (Nat×Nat×O)->Option (List T×Prop)
 |[]=>some (d,c)
 |(off,size,x)::rest=>match asT (ev b x) with
  |some (.tup _)=>none
  |some (.agg cs)=>dm b (aP d off size cs) (c/\cs.length=size) rest
  |some t=>cond (Nat.beq size 1) (dm b (aP d off 1 [t]) c rest) none
  |none=>none
def dn(b:Nat->V)(d:List V)(c:Prop):List (Nat×Nat×O)->Option (List V×Prop)
 |[]=>some (d,c)
 |(off,size,x)::rest=>match ev b x with
  |.t (.tup _)=>none
  |.t (.agg cs)=>dn b (aP d off size (cs.map .t)) (c/\cs.length=size) rest
  |.top=>none
  |.tup _=>none
  |.agv _=>none
  |v=>cond (Nat.beq size 1) (dn b (aP d off 1 [v]) c rest) none
def aZ(d:Nat->V)(size:Nat)(b:List T)(c:Prop):List (Nat×O)->Option (List T×Prop)
 |[]=>some (b,c)
 |(i,x)::rest=>match asT (ev d x) with
  |some (.tup _)=>none
  |some (.agg cs)=>aZ d size (b.set i (.agg cs)) (c/\cs.length=size) rest
  |some t=>cond (Nat.beq size 1) (aZ d size (b.set i t) c rest) none
  |none=>none
def eff[Glb](o:DOp)(d:Option Nat)(e:Nat->V)(bx:Nat->Option BX):cA:=
 match o with
 |.mov x=>val (ev e x)
 |.pick c a b=>match ev e c with
  |.t (.bool true)=>val (ev e a)
  |.t (.bool false)=>val (ev e b)
  |_=>.no
 |.alloc zs=>match d with
  |some n=>match bx n with
   |none=>.yes {val:=.ptr n 0,wr:=some (n,.d zs.length zs),rd:=[n]}
   |some _=>.no
  |none=>.no
 |.box m x=>match d with
  |some n=>match bx n,oH m (ev e x) with
   |none,some (c,b)=>.need c {val:=.ptr n 0,wr:=some (n,b),rd:=[n]}
   |_,_=>.no
  |none=>.no
 |.load n agg a=>match ev e a with
  |.ptr b off=>match bx b with
   |some cs=>eX b cs off n agg
   |none=>.no
  |.t (.cptr cs off)=>match agg with
   |true=>cond (Nat.beq off 0) (.eq (cs.length=n) (.agg cs) (aW [])) (.eq (off+n<=cs.length) (.agg ((cs.drop off).take n)) (aW []))
   |false=>.eq (off<cs.length) (cs[off]?.getD .nil) (aW [])
  |.t (.glob g off)=>match Glb.gs g with
   |some cs=>(match agg with
    |true=>cond (Nat.beq off 0) (.eq (cs.length=n) (.agg cs) (aW [])) (.eq (off+n<=cs.length) (.agg ((cs.drop off).take n)) (aW []))
    |false=>.eq (off<cs.length) (cs[off]?.getD .nil) (aW []))
   |none=>.no
  |.t (.knot f pre post)=>match agg with
   |false=>aL (.clos f (pre++[.knot f pre post]++post))
   |true=>.no
  |.t (.wrld f1 a1 b1 f2 a2 b2 off)=>match agg,off with
   |false,0=>aL (.clos f1 (a1++[.cptr [.wrld f1 a1 b1 f2 a2 b2 0] 0]++b1))
   |false,1=>aL (.clos f2 (a2++[.cptr [.wrld f1 a1 b1 f2 a2 b2 0] 0]++b2))
   |_,_=>.no
  |_=>.no
 |.store n a x=>match ev e a with
  |.ptr b off=>match bx b with
   |some cs=>gP b cs off n (ev e x)
   |none=>.no
  |_=>.no
 |.nar n a=>match ev e a with
  |.t (.cptr cs 0)=>.need (n<=cs.length) {val:=.t (.cptr (cs.take n) 0)}
  |_=>.no
 |.offA k a=>match ev e a with
  |.ptr b off=>val (.ptr b (off+k))
  |.t (.cptr cs off)=>aL (.cptr cs (off+k))
  |.t (.glob g off)=>aL (.glob g (off+k))
  |.t (.wrld f1 a1 b1 f2 a2 b2 off)=>aL (.wrld f1 a1 b1 f2 a2 b2 (off+k))
  |_=>.no
 |.idxA len size a i=>match ev e a,ev e i with
  |.ptr b off,.t (.int _ n)=>.need (0<=n/\n<len) {val:=.ptr b (off+n.toNat * size)}
  |.t (.cptr cs off),.t (.int _ n)=>.need (0<=n/\n<len) {val:=.t (.cptr cs (off+n.toNat * size))}
  |.t (.glob g off),.t (.int _ n)=>.need (0<=n/\n<len) {val:=.t (.glob g (off+n.toNat * size))}
  |_,_=>.no
 |.idxL size a i=>match ev e a,ev e i with
  |.view b off len sz,.t (.int _ n)=>cond (Nat.beq size sz) (.need (0<=n/\n<len) {val:=.ptr b (off+n.toNat * size)}) .no
  |v,.t (.int _ n)=>match asT v with
   |some (.slice sz xs)=>cond (Nat.beq size sz) (.eq (0<=n/\n<xs.length) (xs[n.toNat]?.getD .nil) fun t=>{val:=.t (.cptr t.cells 0)}) .no
   |_=>.no
  |_,_=>.no
 |.fld off size agg x=>match ev e x with
  |.t (.agg cs)=>match agg with
   |true=>.eq (off+size<=cs.length) (.agg ((cs.drop off).take size)) (aW [])
   |false=>.eq (off<cs.length) (cs[off]?.getD .nil) (aW [])
  |_=>.no
 |.idxV len size agg x i=>match ev e x,ev e i with
  |.t (.agg cs),.t (.int _ n)=>match agg with
   |true=>.eq (0<=n/\n<len/\n.toNat * size+size<=cs.length) (.agg ((cs.drop (n.toNat * size)).take size)) (aW [])
   |false=>.eq (0<=n/\n<len/\n.toNat * size<cs.length) (cs[n.toNat * size]?.getD .nil) (aW [])
  |_,_=>.no
 |.idxS x i=>match ev e x,ev e i with
  |.t (.str s),.t (.int _ n)=>.eq (0<=n/\n<s.size) (.int .u8 ((s.toList[n.toNat]?.getD 0).toNat:Int)) (aW [])
  |_,_=>.no
 |.bin op x y=>match ev e x,ev e y with
  |.t (.int k a),.t (.int k' b)=>oE op k k' a b
  |.t (.str a),.t (.str b)=>oG op a b
  |_,_=>.no
 |.eqv ng sh x y=>match ev e x,ev e y with
  |.t (.agg a),.t (.agg b)=>.alt (fits sh a/\fits sh b) (cond ng (!eqL a b) (eqL a b)) dN
  |_,_=>.no
 |.eqB ng x y=>match ev e x,ev e y with
  |.t (.bool a),.t (.bool b)=>.alt True (cond ng (!(a==b)) (a==b)) dN
  |_,_=>.no
 |.not x=>match ev e x with
  |.t (.bool b)=>aL (.bool (!b))
  |_=>.no
 |.neg x=>match ev e x with
  |.t (.int k n)=>aL (.int k (k.wrap (0 - n)))
  |_=>.no
 |.conv k x=>match ev e x with
  |.t (.int _ n)=>aL (.int k (k.wrap n))
  |_=>.no
 |.len x=>match ev e x with
  |.t (.slice _ xs)=>aL (.int .i64 xs.length)
  |.own _ _ _ xs=>aL (.int .i64 xs.length)
  |.full _ xs=>aL (.int .i64 xs.length)
  |.t .nil=>aL (.int .i64 0)
  |.view _ _ n _=>aL (.int .i64 n)
  |_=>.no
 |.lenS x=>match ev e x with
  |.t (.str s)=>aL (.int .i64 s.size)
  |_=>.no
 |.maxI x y=>match ev e x,ev e y with
  |.t (.int k a),.t (.int _ b)=>aL (.int k (if b>a then b else a))
  |_,_=>.no
 |.minI x y=>match ev e x,ev e y with
  |.t (.int k a),.t (.int _ b)=>aL (.int k (if b<a then b else a))
  |_,_=>.no
 |.slice size x lo hi=>match ev e x with
  |.view b off len sz=>match eG (lo.map (ev e)),dC (hi.map (ev e)) len with
   |some l,some h=>cond (Nat.beq size sz) (.need (0<=l/\l<=h/\h<=len/\l.toNat<len) {val:=.view b (off+l.toNat * size) (h.toNat - l.toNat) sz }) .no
   |_,_=>.no
  |v=>match asT v with
   |some (.slice sz xs)=>match eG (lo.map (ev e)),dC (hi.map (ev e)) xs.length with
    |some l,some h=>cond (Nat.beq size sz) (.eq (0<=l/\l<=h/\h<=xs.length) (.slice sz ((xs.take h.toNat).drop l.toNat)) (aW [])) .no
    |_,_=>.no
   |some .nil=>match eG (lo.map (ev e)),dC (hi.map (ev e)) 0 with
    |some l,some h=>.need (l=0/\h=0) {val:=.t .nil }
    |_,_=>.no
   |_=>.no
 |.sliceS x lo hi=>match ev e x with
  |.t (.str s)=>match eG (lo.map (ev e)),dC (hi.map (ev e)) s.size with
   |some l,some h=>.eq (0<=l/\l<=h/\h<=s.size) (.str (s.extract l.toNat h.toNat)) (aW [])
   |_,_=>.no
  |_=>.no
 |.sliceA len size x lo hi=>match ev e x with
  |.ptr b off=>match lo,hi with
   |none,none=>val (.view b off len size)
   |_,_=>match eG (lo.map (ev e)),dC (hi.map (ev e)) len with
    |some l,some h=>.need (0<=l/\l<=h/\h<=len/\l.toNat<len) {val:=.view b (off+l.toNat * size) (h.toNat - l.toNat) size }
    |_,_=>.no
  |.t (.cptr cs off)=>match eG (lo.map (ev e)),dC (hi.map (ev e)) len with
   |some l,some h=>cond (Nat.blt 0 size) (.eq (0<=l/\l<=h/\h<=len/\off+len * size<=cs.length) (.slice size (chunk size (h.toNat - l.toNat) (cs.drop (off+l.toNat * size)))) (aW [])) .no
   |_,_=>.no
  |.t (.glob g off)=>match Glb.gs g with
   |some cs=>(match eG (lo.map (ev e)),dC (hi.map (ev e)) len with
    |some l,some h=>cond (Nat.blt 0 size) (.eq (0<=l/\l<=h/\h<=len/\off+len * size<=cs.length) (.slice size (chunk size (h.toNat - l.toNat) (cs.drop (off+l.toNat * size)))) (aW [])) .no
    |_,_=>.no)
   |none=>.no
  |_=>.no
 |.mkslice size bytes zs l c=>match d with
  |some q=>match bx q,ev e l,ev e c with
   |none,.t (.int _ n),.t (.int _ k)=>.need (0<=n/\n=k/\(bytes:Int) * k<=281474976710656/\k<=9223372036854775807) {val:=.view q 0 n.toNat size,wr:=some (q,.d (n.toNat * size) (List.replicate n.toNat zs).flatten),rd:=[q]}
   |_,_,_=>.no
  |none=>.no
 |.slice3 size x hi mx=>match ev e hi,ev e mx with
  |.t (.int _ h),.t (.int _ m)=>match asT (ev e x) with
   |some (.slice sz xs)=>cond (Nat.beq size sz) (.need (0<=h/\h=m/\h<=xs.length) {val:=.full sz (xs.take h.toNat)}) .no
   |some .nil=>.need (h=0/\m=0) {val:=.full size []}
   |_=>.no
  |_,_=>.no
 |.buildF size n zs parts=>match d,aZ e size (List.replicate n (cond (Nat.beq size 1) (zs.headD .nil) (.agg zs))) True parts with
  |some _,some (es,c)=>.need c {val:=.full size es }
  |_,_=>.no
 |.appT size bytes s x=>match da bx (ev e x) with
  |some (.slice n ys)=>(match ev e s with
   |.full sz xs=>cond (Nat.beq size sz) (.need ((n=size\/ys=[])/\(xs.length+ys.length) * bytes<=140737488355328) {val:=.t (.slice size (xs++ys))}) .no
   |.t .nil=>.need ((n=size\/ys=[])/\ys.length * bytes<=140737488355328) {val:=.t (.slice size ys)}
   |_=>.no)
  |some .nil=>(match ev e s with
   |.full sz xs=>cond (Nat.beq size sz) (.need (xs.length * bytes<=140737488355328) {val:=.t (.slice size xs)}) .no
   |.t .nil=>.need True {val:=.t (.slice size [])}
   |_=>.no)
  |_=>.no
 |.isnil k ng x=>match k,ev e x with
  |0,.ptr _ _=>aL (.bool ng)
  |0,.t (.cptr _ _)=>aL (.bool ng)
  |0,.t (.glob _ _)=>aL (.bool ng)
  |0,.t .nilptr=>aL (.bool (!ng))
  |1,.view _ _ _ _=>aL (.bool ng)
  |1,.t .nil=>aL (.bool (!ng))
  |1,v=>match asT v with
   |some (.slice _ xs)=>.need (0<(xs.flatMap T.cells).length) {val:=.t (.bool ng)}
   |_=>.no
  |2,.mp _=>aL (.bool ng)
  |2,.t (.mapd _ _ _ _)=>aL (.bool ng)
  |2,.t .nilmap=>aL (.bool (!ng))
  |3,.fn _ _=>aL (.bool ng)
  |3,.t (.clos _ _)=>aL (.bool ng)
  |3,.t .nilfn=>aL (.bool (!ng))
  |_,_=>.no
 |.cpl x=>match ev e x with
  |.t (.int k n)=>aL (.int k (jl .xor k (if k.signed then -1 else k.max) n))
  |_=>.no
 |.prim p x=>match aY bx (ev e x) with
  |some (t,rd)=>match mj p t with
   |some (c,r)=>.eq c r (aW rd)
   |none=>.no
  |none=>.no
 |.arrP n x=>match ev e x with
  |.view b off len _=>.need (n<=len) {val:=.ptr b off }
  |v=>match asT v with
   |some (.slice _ xs)=>.need (n=xs.length/\0<(xs.flatMap T.cells).length) {val:=.t (.cptr (xs.flatMap T.cells) 0)}
   |_=>.no
 |.copy x y=>match ev e x with
  |.view b off len sz=>match bx b,da bx (ev e y) with
   |some (.d m ts),some (.slice n ys)=>cond (Nat.beq sz 1&&Nat.beq n 1) (.need (off+len<=m/\ys.all T.one=true) {val:=.t (.int .i64 (Nat.min ys.length len:Nat)),wr:=some (b,.d m (aP ts off (Nat.min ys.length len) (ys.take (Nat.min ys.length len)))),rd:=[b]}) .no
   |some (.d m _),some .nil=>.need (off+len<=m) (aW [b] (.int .i64 0))
   |_,_=>.no
  |_=>.no
 |.build zs parts=>match dm e zs True parts with
  |some (ts,c)=>.need c {val:=.t (.agg ts)}
  |none=>match dn e (zs.map .t) True parts with
   |some (vs,c)=>.need c {val:=.agv vs }
   |none=>.no
 |.buildT size n zs parts=>match d,aZ e size (List.replicate n (cond (Nat.beq size 1) (zs.headD .nil) (.agg zs))) True parts with
  |some _,some (es,c)=>.need c {val:=.t (.slice size es)}
  |_,_=>.no
 |.mkfn f caps=>val (.fn f (caps.map (ev e)))
 |.ext x i=>match ev e x with
  |.t (.tup ts)=>match ts[i]? with
   |some t=>aL t
   |none=>.no
  |.tup vs=>match vs[i]? with
   |some v=>val v
   |none=>.no
  |_=>.no
 |.clr size zs x=>match ev e x with
  |.view b off len sz=>match bx b with
   |some (.d m ts)=>cond (Nat.beq size sz) (.need (0<len/\off+len * size<=m) {val:=.top,wr:=some (b,.d m (aP ts off (len * size) (List.replicate len zs).flatten)),rd:=[b]}) .no
   |_=>.no
  |_=>.no
 |.nilck x=>match ev e x with
  |.ptr b off=>val (.ptr b off)
  |.t (.cptr cs off)=>aL (.cptr cs off)
  |.t (.glob g off)=>aL (.glob g off)
  |.t (.knot f a b)=>aL (.knot f a b)
  |.t (.wrld f1 a1 b1 f2 a2 b2 off)=>aL (.wrld f1 a1 b1 f2 a2 b2 off)
  |_=>.no
 |.mkmap ag sh=>match d with
  |some n=>match bx n with
   |none=>.yes {val:=.mp n,wr:=some (n,.m ag sh [] none),rd:=[n]}
   |some _=>.no
  |none=>.no
 |.mlook ag sh z ok m k=>match ev e m with
  |.mp b=>match bx b with
   |some (.m ag' sh' es _)=>match ev e k with
    |.t key=>cond (cC ag sh ag' sh') (.eq (aV ag sh key) (oW z ok (eH key.cells es)) (aW [b])) .no
    |_=>.no
   |_=>.no
  |.t (.mapd ag' sh' ks vs)=>match ev e k with
   |.t key=>cond (cC ag sh ag' sh') (.eq (aV ag sh key) (oW z ok (eH key.cells (ks.zip vs))) (aW [])) .no
   |_=>.no
  |.t .nilmap=>match ev e k with
   |.t key=>.need (aV ag sh key) (aW [] (oW z ok none))
   |_=>.no
  |_=>.no
 |.bF ag sh m k v=>match ev e m with
  |.mp b=>match bx b with
   |some (.m ag' sh' es _)=>match ev e k,asT (ev e v) with
    |.t key,some x=>cond (cC ag sh ag' sh') (.need (aV ag sh key) {val:=.top,wr:=some (b,.m ag sh (bF key x es) none),rd:=[b]}) .no
    |_,_=>.no
   |_=>.no
  |_=>.no
 |.mlen m=>match ev e m with
  |.mp b=>match bx b with
   |some (.m _ _ es _)=>.yes (aW [b] (.int .i64 es.length))
   |_=>.no
  |.t (.mapd _ _ ks _)=>.yes (aW [] (.int .i64 ks.length))
  |.t .nilmap=>.yes (aW [] (.int .i64 0))
  |_=>.no
 |.cS ag sh m k=>match ev e m with
  |.mp b=>match bx b with
   |some (.m ag' sh' es _)=>match ev e k with
    |.t key=>cond (cC ag sh ag' sh') (.need (aV ag sh key) {val:=.top,wr:=some (b,.m ag sh (cS key.cells es) none),rd:=[b]}) .no
    |_=>.no
   |_=>.no
  |_=>.no
 |.mclr m=>match ev e m with
  |.mp b=>match bx b with
   |some (.m ag sh _ _)=>.yes {val:=.top,wr:=some (b,.m ag sh [] none),rd:=[b]}
   |_=>.no
  |_=>.no
 |.ment x=>match ev e x with
  |.ptr k 0=>match bx k with
   |some (.it b bs c ix)=>match bx b with
    |some (.m _ _ es (some q))=>.eq (q=(bs,c)/\ix≠[]/\ix.getLast?.getD 0<es.length) (lr es ix) (aW [k,b])
    |_=>.no
   |some (.itd es ix)=>.eq (ix≠[]/\ix.getLast?.getD 0<es.length) (lr es ix) (aW [k])
   |_=>.no
  |_=>.no
 |_=>.no
def St.app(st:St)(d:Option Nat)(e:Eff):St:=
 let b:=st.set d e.val
 match e.wr with
 |some (n,c)=>{b with bx:=upd b.bx n (some c)}
 |none=>b
def bM(P:Program)(f:FuncId):Prop:= ∀(b:Array Value) (w:World),(callFunc f b).run P w= .ok (.enter f b) w
def DCalls[Glb](P:Program)(f:FuncId)(c:List T)(r:T):Prop:=
 bM P f/\ ∀(S:ar) (w:World) (vs:List Value),(∀ b o,S b o->b<w.heap.size)->bH S w->vs.length=c.length->
  (∀ (i:Nat) (v:Value) (t:T),vs[i]? =some v->c[i]? =some t->Rep S w v t)->
  Calls P f vs.toArray w fun e w'=> ∃v,e= .returned v/\Below w.heap.size w w'/\Rep (fun b o=>S b o\/(w.heap.size<=b/\b<w'.heap.size)) w' v r
mutual
def dg(r d:Nat):V->V
 |.own q e n xs=>cond (Nat.beq q r||Nat.beq q d) (.t (.slice n xs)) (.own q e n xs)
 |.fn f caps=>.fn f (dgs r d caps)
 |.tup vs=>.tup (dgs r d vs)
 |.agv vs=>.agv (dgs r d vs)
 |v=>v
def dgs(r d:Nat):List V->List V
 |[]=>[]
 |v::vs=>dg r d v::dgs r d vs
end
def dgB(r d:Nat):BX->BX
 |.d n ts=>.d n ts
 |.m ag sh es mb=>.m ag sh es mb
 |.it m bs c ix=>.it m bs c ix
 |.itd es ix=>.itd es ix
 |.v vs=>.v (dgs r d vs)
def St.dg(st:St)(r d:Nat):St:=
 {st with sl:=fun m=>DL.dg r d (st.sl m),bx:=fun n=>(st.bx n).map (dgB r d),gh:=fun k m=>DL.dg r d (st.gh k m)}
def St.put(st:St)(d:Nat)(v:V):St:={st with sl:=upd st.sl d v }
def fG(e:TypeId)(size b:Nat)(d q:Nat)(s x:V)(st:St)(K:St->Prop):Prop:=
 match da st.bx x with
 |some (.slice n ys)=>(n=size\/ys=[])/\(match s with
  |.t .nil=>(ys.length * b<=140737488355328)/\K ((st.dg q q).put d (.own q e size ys))
  |.own r e' size' xs=>cond (Nat.beq e' e&&Nat.beq size' size) (((xs.length+ys.length) * b<=140737488355328)/\K ((st.dg r q).put d (.own q e size (xs++ys)))) False
  |_=>False)
 |some .nil=>(match s with
  |.t .nil=>K ((st.dg q q).put d (.own q e size []))
  |.own r e' size' xs=>cond (Nat.beq e' e&&Nat.beq size' size) ((xs.length * b<=140737488355328)/\K ((st.dg r q).put d (.own q e size xs))) False
  |_=>False)
 |_=>False
def cO[Glb](P:Program)(f:FuncId)(b:List V)(d:Option Nat)(st:St)(K:St->Prop):Prop:=
 match bt st.bx b with
 |some (ts,[])=> ∃r,DCalls P f ts r/\K (st.set d (.t r))
 |some (ts,_::_)=> ∃r,DCalls P f ts r/\r.flat=true/\K (st.set d (.t r))
 |none=>False
inductive cM (E:Env) (cs:Array Value):BX->Prop
 |d (n:Nat) (ts:List T) (hl:ts.length=n) (hs:n<=cs.size)
   (h: ∀(i:Nat) (x:Value) (t:T),cs[i]? =some x->ts[i]? =some t->Rep E.S E.w x t/\t.one=true):cM E cs (.d n ts)
 |v (vs:List V) (hs:vs.length<=cs.size)
   (h: ∀(i:Nat) (x:Value) (u:V),cs[i]? =some x->vs[i]? =some u->VR E x u/\x.oneCell'=true):cM E cs (.v vs)
structure bN (E:Env) (arr:Array MapEntry) (clock:Nat) (ag:Bool) (sh:List Sh) (es:List (T×T)) (mb:Option (List Nat×Nat)):Prop where
 size:arr.size=es.length
 at_: ∀(i:Nat) (x:MapEntry) (e:T×T),arr[i]? =some x->es[i]? =some e->Rep E.S E.w x.key e.1/\Rep E.S E.w x.val e.2/\aV ag sh e.1
 lt: ∀x∈arr.toList,x.born<clock
 apart:(arr.toList.map (·.born)).Nodup
 mb: ∀p,mb=some p->p=(arr.toList.map (·.born),clock)
inductive bS (E:Env):Obj->BX->Prop
 |cells (cs:Array Value) (e:TypeId) (b:BX) (h:cM E cs b):bS E (.cells cs e (0,0)) b
 |map (arr:Array MapEntry) (clock:Nat) (ag:Bool) (sh:List Sh) (es:List (T×T)) (mb:Option (List Nat×Nat)) (h:bN E arr clock ag sh es mb):bS E (.map arr clock) (.m ag sh es mb)
 |it (m:Nat) (bs:List Nat) (c:Nat) (ix:List Nat) (hl:E.live m=true):bS E (.mapIter (some (E.κ m)) c (ix.map fun j=>bs.getD j 0).toArray c) (.it m bs c ix)
 |itd (g:Nat) (arr:Array MapEntry) (c:Nat) (ag:Bool) (sh:List Sh) (es:List (T×T)) (ix:List Nat) (hg:E.w.heap[g]? =some (.map arr c)) (hS:E.S g 0) (hR:bN E arr c ag sh es none):
   bS E (.mapIter (some g) c (ix.map fun j=>(arr.toList.map (·.born)).getD j 0).toArray c) (.itd es ix)
structure bI (E:Env) (g:Nat) (b:BX):Prop where
 old:E.B<=g
 free: ∀o, ¬E.S g o
 at_: ∃o,E.w.heap[g]? =some o/\bS E o b
theorem bI.lt{E:Env}{g:Nat}{b:BX}(h:bI E g b):g<E.w.heap.size:=by
 obtain ⟨o,c,_⟩:=h.at_;exact (Array.getElem?_eq_some_iff.1 c).1
def BX.isM:BX->Bool
 |.m _ _ _ _=>true
 |.it _ _ _ _=>true
 |.itd _ _=>true
 |_=>false
theorem bI.cells{E:Env}{g:Nat}{b:BX}(h:bI E g b)(c:b.isM=false): ∃cs e,E.w.heap[g]? =some (.cells cs e (0,0))/\cM E cs b:=by
 obtain ⟨o,d,f⟩:=h.at_;cases f with
 |cells cs e _ h=>exact ⟨cs,e,d,h⟩
 |map _ _ _ _ _ _ _=>cases c
 |it _ _ _ _ _=>cases c
 |itd=>cases c
theorem bI.map{E:Env}{g:Nat}{d:Bool}{j:List Sh}{f:List (T×T)}{i:Option (List Nat×Nat)}(h:bI E g (.m d j f i)): ∃c b,E.w.heap[g]? =some (.map c b)/\bN E c b d j f i:=by
 obtain ⟨o,k,l⟩:=h.at_;cases l with
 |cells cs e _ h=>cases h
 |map c b _ _ _ _ h=>exact ⟨c,b,k,h⟩
structure SR [Glb] (N:Nat) (w0:World) (S0:aa) (E:Env) (st:St) (a:Array Value):Prop where
 size:a.size=N
 base:E.B=w0.heap.size
 glob:bH S0.S w0
 sl: ∀m,VR E (a.getD m undef) (st.sl m)
 gh: ∀k m,VR E (S0.vals k m) (st.gh k m)
 bx: ∀n b,st.bx n=some b->bI E (E.κ n) b
 live: ∀n,E.live n=(st.bx n).isSome
 inj: ∀n m,E.live n=true->E.live m=true->E.κ n=E.κ m->n=m
 rows: ∀r g,E.ρ r=some g->E.B<=g/\g<E.w.heap.size/\ ∀n,E.live n=true->E.κ n≠g
 rinj: ∀r r' g,E.ρ r=some g->E.ρ r'=some g->r=r'
 lt: ∀b o,E.S b o->b<E.w.heap.size
 below:Below w0.heap.size w0 E.w
 s0: ∀b o,S0.S b o->E.S b o
 s1: ∀b o,E.S b o->S0.S b o\/w0.heap.size<=b
 obj: ∀(g:Nat) (o:Obj),S0.objs g=some o->bY o=true/\E.w.heap[g]? =some o
 cx:st.cx S0 w0
def lE(a:Array Value):Option Nat->Value->Array Value
 |some n,v=>a.setIfInBounds n v
 |none,_=>a
def WC[Glb](P:Program)(f:FuncId)(us:List V)(d:Option Nat)(st:St)(K:St->Prop):Prop:=
 bM P f/\ ∀(N:Nat) (w0:World) (S0:aa) (E:Env) (a vs:Array Value),SR N w0 S0 E st a->vs.size=us.length->
  (∀ (i:Nat) (v:Value) (u:V),vs[i]? =some v->us[i]? =some u->VR E v u)->(∀ n,d=some n->n<N)->
  Calls P f vs E.w fun e w'=> ∃v,e= .returned v/\ ∃(c:Env) (b:St),c.w=w'/\K b/\SR N w0 S0 c b (lE a d v)
def MC[Glb](P:Program)(f:FuncId)(us:List V)(c:List (Nat×BX))(e:List Nat)(m:Nat)(b:BX)(r:T):Prop:=
 ∀(d:Option Nat) (st:St) (K:St->Prop),(∀ p∈c,st.bx p.1=some p.2)->(∀ n∈e,st.bx n=none)->K (({st with bx:=upd st.bx m (some b)}:St).set d (.t r))->WC P f us d st K
def wpR(r:cA)(d:Option Nat)(st:St)(K:St->Prop):Prop:=
 match r with
 |.no=>False
 |.yes e=>K (st.app d e)
 |.need c e=>c/\K (st.app d e)
 |.alt c b f=>c/\ ∀g,b=g->K (st.app d (f g))
 |.eq c t f=>c/\ ∀h,t=h->K (st.app d (f h))
structure fH (w w':World) (v:Value) (e:TypeId) (size:Nat) (xs:List T):Prop where
 ex: ∃cells:List Value,w'.ownsRow w.heap.size e size v xs.length cells/\cells.length=(xs.flatMap T.cells).length/\ ∀(i:Nat) (x:Value) (t:T),cells[i]? =some x->(xs.flatMap T.cells)[i]? =some t->Rep (fun _ _=>False) w' x t
 uni: ∀x∈xs,x.cells.length=size
 one: ∀t∈xs.flatMap T.cells,t.one=true
 flat: ∀t∈xs.flatMap T.cells,t.flat=true
def gR(v:Value):List Value->Value
 |[]=>v
 |us=>.tuple (v::us).toArray
def dA[Glb](P:Program)(f:FuncId)(ts:List T)(e:TypeId)(size:Nat)(xs rest:List T):Prop:=
 bM P f/\ ∀(S:ar) (w:World) (vs:List Value),(∀ b o,S b o->b<w.heap.size)->bH S w->vs.length=ts.length->(∀ (i:Nat) (v:Value) (t:T),vs[i]? =some v->ts[i]? =some t->Rep S w v t)->
  Calls P f vs.toArray w fun c w'=> ∃(v:Value) (us:List Value),c= .returned (gR v us)/\Below w.heap.size w w'/\fH w w' v e size xs/\
   us.length=rest.length/\ ∀(i:Nat) (u:Value) (t:T),us[i]? =some u->rest[i]? =some t->t.flat=true/\Rep (fun _ _=>False) w' u t
def dK[Glb](P:Program)(f:FuncId)(b:List V)(d:Option Nat)(st:St)(K:St->Prop):Prop:=
 match d with
 |some n=>(match bt st.bx b with
  |some (ts,_)=> ∃(e:TypeId) (size:Nat) (xs:List T),dA P f ts e size xs []/\ ∀q,K (st.set (some n) (.own q e size xs))
  |none=>False)
 |none=>False
def noRoom(size:Nat):V->Bool
 |.t .nil=>true
 |.full sz []=>Nat.beq size sz
 |_=>false
def lf(size b:Nat)(d q:Nat)(s x:V)(st:St)(K:St->Prop):Prop:=
 match da st.bx x,st.bx q with
 |some (.slice n ys),none=>cond (noRoom size s) ((n=size/\0<ys.length/\ys.length * b<=140737488355328)/\K (({st with bx:=upd st.bx q (some (.d (ys.length * size) (ys.flatMap T.cells)))}:St).put d (.view q 0 ys.length size))) False
 |_,_=>False
def wpO[Glb](P:Program)(o:DOp)(d:Option Nat)(st:St)(K:St->Prop):Prop:=
 match o with
 |.append _ e size bytes s x=>match d with
  |some n=>fG e size bytes n (n+st.off) (ev st.sl s) (ev st.sl x) st K
  |none=>False
 |.appV size bytes s x=>match d with
  |some n=>lf size bytes n (n+st.off) (ev st.sl s) (ev st.sl x) st K
  |none=>False
 |.buildS e size n zs parts=>match d with
  |some m=>(match aZ st.sl size (List.replicate n (cond (Nat.beq size 1) (zs.headD .nil) (.agg zs))) True parts with
   |some (es,c)=>c/\K ((st.dg (m+st.off) (m+st.off)).put m (.own (m+st.off) e size es))
   |none=>False)
  |none=>False
 |.mrng m=>match d with
  |some n=>(match ev st.sl m with
   |.mp b=>(match st.bx b,st.bx (n+st.off) with
    |some (.m ag sh es _),none=> ∀(bs:List Nat) (c:Nat),bs.length=es.length->bs.Nodup->(∀ x∈bs,x<c)->
      K {st with sl:=upd st.sl n (.ptr (n+st.off) 0),bx:=upd (upd st.bx b (some (.m ag sh es (some (bs,c))))) (n+st.off) (some (.it b bs c []))}
    |_,_=>False)
   |.t (.mapd _ _ ks vs)=>(match st.bx (n+st.off) with
    |none=>K {st with sl:=upd st.sl n (.ptr (n+st.off) 0),bx:=upd st.bx (n+st.off) (some (.itd (ks.zip vs) []))}
    |some _=>False)
   |_=>False)
  |none=>False
 |.mnext x=>match d with
  |some n=>(match ev st.sl x with
   |.ptr k 0=>(match st.bx k with
    |some (.it b bs c ix)=>(match st.bx b with
     |some (.m _ _ es (some q))=>q=(bs,c)/\bs.Nodup/\(∀ x∈bs,x<c)/\bs.length=es.length/\(∀ j∈ix,j<es.length)/\
       (∀ (j:Nat) (e:T×T),es[j]? =some e-> ¬j∈ix->K {st with sl:=upd st.sl n (.t (.tup [.bool true,e.1,e.2])),bx:=upd st.bx k (some (.it b bs c (ix++[j])))})/\
       ((∀ j,j<es.length->j∈ix)->K (st.put n (.t (.tup [.bool false]))))
     |_=>False)
    |some (.itd es ix)=>(∀ j∈ix,j<es.length)/\
       (∀ (j:Nat) (e:T×T),es[j]? =some e-> ¬j∈ix->K {st with sl:=upd st.sl n (.t (.tup [.bool true,e.1,e.2])),bx:=upd st.bx k (some (.itd es (ix++[j])))})/\
       ((∀ j,j<es.length->j∈ix)->K (st.put n (.t (.tup [.bool false]))))
    |_=>False)
   |_=>False)
  |none=>False
 |.call f args=>cO P f (args.map (ev st.sl)) d st K
 |.inl f args=>WC P f (args.map (ev st.sl)) d st K
 |.fcall f args=>dK P f (args.map (ev st.sl)) d st K
 |.mcall ms f args=> ∃(g:List (Nat×BX)) (h:List Nat) (m:Nat) (b:BX) (r:T),MC P f (args.map (ev st.sl)) g h m b r/\(∀ p∈g,st.bx p.1=some p.2)/\(∀ n∈h,st.bx n=none)/\m∈ms/\(st.bx m).isSome=true/\K (({st with bx:=upd st.bx m (some b)}:St).set d (.t r))
 |.cd x args=>match ev st.sl x with
  |.t (.clos f caps)=>cO P f (args.map (ev st.sl)++caps.map .t) d st K
  |.fn f caps=>cO P f (args.map (ev st.sl)++caps) d st K
  |_=>False
 |o=>wpR (eff o (st.nm d) st.sl st.bx) d st K
abbrev bJ:V:=.t (.tup [])
def wpI[Glb](P:Program)(i:DI)(st:St)(K:St->Prop):Prop:=
 match i.guard with
 |none=>wpO P i.op i.dst st K
 |some (g,want)=>match st.sl g with
  |.t (.bool b)=>match b,want with
   |true,true=>wpO P i.op i.dst st K
   |false,false=>wpO P i.op i.dst st K
   |true,false=>K (st.set i.dst bJ)
   |false,true=>K (st.set i.dst bJ)
  |.t (.tup [])=>K (st.set i.dst bJ)
  |_=>False
noncomputable def bp[Glb](P:Program)(is:List DI):St->(St->Prop)->Prop:=
 List.rec (motive:=fun _=>St->(St->Prop)->Prop) (fun st K=>K st) (fun i _ c st K=>wpI P i st fun b=>c b K) is
end Go.DL
end
noncomputable section
namespace Go.DL
open Go.RowKit
def dZ:Value->Option T
 |.int k n=>some (.int k n)
 |.bool b=>some (.bool b)
 |.string s=>some (.str s)
 |.pointer none=>some .nilptr
 |.slice none 0 0=>some .nil
 |.nilFunc=>some .nilfn
 |.nilIface=>some .nilif
 |.map none=>some .nilmap
 |_=>none
def eL:Value->Option T
 |.agg cs=>(cs.toList.mapM dZ).map .agg
 |v=>dZ v
def ak:Operand->Option O
 |.tmp t=>some (.tmp t)
 |.const v=>(eL v).map .const
 |.func f=>some (.const (.clos f []))
 |.global g=>some (.const (.glob g 0))
def au(P:Program)(t:TypeId):Bool:=
 match P.underlying t with
 |some (.struct _)=>true
 |some (.array _ _)=>true
 |_=>false
def cz(P:Program)(t:TypeId):Option (List T):=
 match P.info? t with
 |some i=>match i.zero with
  |some z=>match eL z with
   |some x=>cond (Nat.beq x.cells.length i.size) (some x.cells) none
   |none=>none
  |none=>none
 |none=>none
def zeroV(P:Program)(t:TypeId):Option T:=
 match P.info? t with
 |some i=>match i.zero with
  |some z=>eL z
  |none=>none
 |none=>none
def shapeOf(P:Program):Nat->TypeId->Option (List Sh)
 |0,_=>none
 |d+1,t=>match P.underlying t with
  |some .bool=>some [.bool]
  |some (.int k)=>some [.int k]
  |some .string=>some [.str]
  |some (.array len e)=>match shapeOf P d e with
   |some s=>cond (Nat.beq s.length (P.cellsOf e)&&Nat.blt 0 s.length) (some (List.replicate len s).flatten) none
   |none=>none
  |some (.struct fs)=>if P.stoodInHeld t then none else shapesOf (shapeOf P d) P fs.toList 0
  |_=>none
where shapesOf (rec:TypeId->Option (List Sh)) (P:Program):List Field->Nat->Option (List Sh)
 |[],_=>some []
 |f::fs,off=>match rec f.type,shapesOf rec P fs (off+P.cellsOf f.type) with
  |some s,some ss=>cond (Nat.beq s.length (P.cellsOf f.type)&&Nat.beq f.offset off&&f.name != "_" &&Nat.blt 0 s.length) (some (s++ss)) none
  |_,_=>none
def dW(xs:List Operand):Option (List O):=xs.mapM ak
def ba(b:Nat->Option (Nat×Nat)):List (Nat×Operand)->Option (List (Nat×Nat×O))
 |[]=>some []
 |(i,x)::rest=>match b i,ak x,ba b rest with
  |some (off,size),some y,some r=>some ((off,size,y)::r)
  |_,_,_=>none
def cQ:Option Operand->Option (Option O)
 |none=>some none
 |some x=>(ak x).map some
def aM:BinOp->Bool
 |.neq=>true
 |_=>false
def pA(P:Program)(t:TypeId):Bool:=
 match P.underlying t with
 |some .string=>true
 |_=>false
def lC(P:Program)(t:TypeId):Bool:=
 match P.underlying t with
 |some (.int .u8)=>true
 |_=>false
def bL(P:Program)(c:Call):Option DOp:=
 match c.callee with
 |.value (.func f)=>match P.funcs[f]?,dW c.args.toList with
  |some fn,some az=>cond (fn.body.isSome&&fn.name != "runtime.NumGoroutine") (some (.call f az)) none
  |_,_=>none
 |.value x=>match ak x,dW c.args.toList with
  |some x,some az=>some (.cd x az)
  |_,_=>none
 |.builtin .len=>match c.args.toList,c.argTypes.toList with
  |[x],[t]=>match P.underlying t,ak x with
   |some (.slice _),some x=>some (.len x)
   |some .string,some x=>some (.lenS x)
   |some (.map _ _),some x=>some (.mlen x)
   |_,_=>none
  |_,_=>none
 |.builtin .max=>match c.args.toList with
  |[x,y]=>match ak x,ak y with
   |some x,some y=>some (.maxI x y)
   |_,_=>none
  |_=>none
 |.builtin .min=>match c.args.toList with
  |[x,y]=>match ak x,ak y with
   |some x,some y=>some (.minI x y)
   |_,_=>none
  |_=>none
 |.builtin .append=>match c.args.toList,c.argTypes.toList with
  |[s,x],[t,u]=>match P.underlying t,ak s,ak x with
   |some (.slice e),some s,some x=>match P.info? e,cz P e with
     |some j,some _=>cond ((Nat.beq t u||pA P u)&&Nat.blt 0 j.size&&Nat.blt 0 j.bytes) (some (.append t e j.size j.bytes s x)) none
     |_,_=>none
   |_,_,_=>none
  |_,_=>none
 |.builtin .clear=>match c.args.toList,c.argTypes.toList with
  |[x],[t]=>match P.underlying t,ak x with
   |some (.slice e),some x=>match P.info? e,cz P e with
    |some j,some zs=>cond (Nat.blt 0 j.size) (some (.clr j.size zs x)) none
    |_,_=>none
   |some (.map _ _),some x=>some (.mclr x)
   |_,_=>none
  |_,_=>none
 |.builtin .copy=>match c.args.toList,c.argTypes.toList with
  |[x,y],[t,_]=>match P.underlying t,ak x,ak y with
   |some (.slice e),some x,some y=>match P.info? e with
    |some j=>cond (Nat.beq j.size 1) (some (.copy x y)) none
    |none=>none
   |_,_,_=>none
  |_,_=>none
 |.builtin .delete=>match c.args.toList,c.argTypes.toList with
  |[x,k],[t,_]=>match P.underlying t,ak x,ak k with
   |some (.map kt _),some x,some k=>match shapeOf P 100 kt with
    |some b=>some (.cS (au P kt) b x k)
    |none=>none
   |_,_,_=>none
  |_,_=>none
 |_=>none
def kQ(P:Program)(t:TypeId)(b:O):Option Nat:=
 match P.underlying t,b with
 |some (.pointer _),.const .nilptr=>some 0
 |some (.slice _),.const .nil=>some 1
 |some (.map _ _),.const .nilmap=>some 2
 |some (.func _ _ _),.const .nilfn=>some 3
 |_,_=>none
def ah(P:Program):Op->Option DOp
 |.move x=>(ak x).map .mov
 |.assign x=>(ak x).map .mov
 |.pick c a b=>match ak c,ak a,ak b with
  |some c,some a,some b=>some (.pick c a b)
  |_,_,_=>none
 |.alloc e=>(cz P e).map .alloc
 |.box t x=>match P.info? t,ak x with
  |some i,some x=>some (.box i.size x)
  |_,_=>none
 |.load t a=>match P.underlying t,P.info? t,ak a with
  |some _,some i,some a=>cond (au P t||Nat.beq i.size 1) (some (.load i.size (au P t) a)) none
  |_,_,_=>none
 |.store t a x=>match P.info? t,ak a,ak x with
  |some i,some a,some x=>some (.store i.size a x)
  |_,_,_=>none
 |.fieldAddr s x f=>match P.underlying s,ak x with
  |some (.struct fs),some x=>match fs[f]? with
   |some fd=>match P.info? fd.type with
    |some i=>cond (Nat.beq i.size 0) none (some (.offA fd.offset x))
    |none=>none
   |none=>none
  |_,_=>none
 |.field s x f=>match P.underlying s,ak x with
  |some (.struct fs),some x=>match fs[f]? with
   |some fd=>match P.info? fd.type,P.underlying fd.type with
    |some i,some _=>some (.fld fd.offset i.size (au P fd.type) x)
    |_,_=>none
   |none=>none
  |_,_=>none
 |.indexAddr t x i=>match P.underlying t,ak x,ak i with
  |some (.array len e),some x,some i=>match P.info? e with
   |some j=>some (.idxA len j.size x i)
   |none=>none
  |some (.slice e),some x,some i=>match P.info? e with
   |some j=>cond (Nat.blt 0 j.size) (some (.idxL j.size x i)) none
   |none=>none
  |_,_,_=>none
 |.index t x i=>match P.underlying t,ak x,ak i with
  |some (.array len e),some x,some i=>match P.info? e,P.underlying e with
   |some j,some _=>some (.idxV len j.size (au P e) x i)
   |_,_=>none
  |some .string,some x,some i=>some (.idxS x i)
  |_,_,_=>none
 |.binOp op t x y _=>match ak x,ak y with
  |some a,some b=>match op with
   |.eql|.neq=>match kQ P t b with
    |some k=>some (.isnil k (aM op) a)
    |none=>match P.underlying t with
    |some (.int _)=>some (.bin op a b)
    |some .string=>some (.bin op a b)
    |some .bool=>some (.eqB (aM op) a b)
    |_=>match shapeOf P 100 t with
     |some g=>cond (P.eqGuardType P.depth t|| !au P t) none (some (.eqv (aM op) g a b))
     |none=>none
   |_=>some (.bin op a b)
  |_,_=>none
 |.unOp .not _ x=>(ak x).map .not
 |.unOp .neg _ x=>(ak x).map .neg
 |.unOp .xor _ x=>(ak x).map .cpl
 |.convert s d x=>match P.underlying s,P.underlying d,ak x with
  |some (.int _),some (.int k),some x=>some (.conv k x)
  |some .string,some .string,some x=>some (.prim .strS x)
  |some (.slice e),some .string,some x=>cond (lC P e) (some (.prim .strB x)) none
  |some .string,some (.slice e),some x=>cond (lC P e) (some (.prim .bytS x)) none
  |_,_,_=>none
 |.makeSlice t l c=>match P.underlying t,ak l,ak c with
  |some (.slice e),some l,some c=>match P.info? e,cz P e with
   |some j,some zs=>cond (Nat.blt 0 j.size) (some (.mkslice j.size j.bytes zs l c)) none
   |_,_=>none
  |_,_,_=>none
 |.sliceToArrayPointer t x=>match P.underlying t,ak x with
  |some (.array n _),some x=>some (.arrP n x)
  |_,_=>none
 |.makeFunc fn first caps=>match fn,dW caps.toList with
  |.func f,some cs=>cond (Nat.beq first.size 0) (some (.mkfn f cs)) none
  |_,_=>none
 |.slice t x lo hi none=>match P.underlying t,ak x,cQ lo,cQ hi with
  |some (.slice e),some x,some lo,some hi=>match P.info? e with
   |some j=>cond (Nat.blt 0 j.size) (some (.slice j.size x lo hi)) none
   |none=>none
  |some .string,some x,some lo,some hi=>some (.sliceS x lo hi)
  |some (.array n e),some x,some lo,some hi=>match P.info? e with
   |some j=>some (.sliceA n j.size x lo hi)
   |none=>none
  |_,_,_,_=>none
 |.slice t x none (some h) (some m)=>match P.underlying t,ak x,ak h,ak m with
  |some (.slice e),some x,some h,some m=>match P.info? e with
   |some j=>cond (Nat.blt 0 j.size) (some (.slice3 j.size x h m)) none
   |none=>none
  |_,_,_,_=>none
 |.build t parts=>match P.underlying t,cz P t with
  |some (.struct fs),some zs=>match ba (fun i=>match fs[i]? with|some f=>(P.info? f.type).map fun j=>(f.offset,j.size)|none=>none) parts.toList with
   |some q=>cond ((fs.toList.all fun f=>(P.info? f.type).isSome)&&q.all fun p=>Nat.ble (p.1+p.2.1) zs.length) (some (.build zs q)) none
   |none=>none
  |some (.array _ e),some zs=>match P.info? e with
   |some j=>match ba (fun i=>some (i * j.size,j.size)) parts.toList with
    |some q=>cond (q.all fun p=>Nat.ble (p.1+p.2.1) zs.length) (some (.build zs q)) none
    |none=>none
   |none=>none
  |_,_=>none
 |.buildSlice t n parts=>match P.underlying t with
  |some (.slice e)=>match P.info? e,cz P e,P.underlying e with
   |some j,some zs,some _=>match ba (fun i=>some (i,0)) parts.toList with
    |some q=>cond (Nat.ble (n * j.size) 16777216&&Nat.blt 0 j.size&&(au P e||Nat.beq j.size 1)&&q.all fun p=>Nat.blt p.1 n) (some (.buildS e j.size n zs (q.map fun p=>(p.1,p.2.2)))) none
    |none=>none
   |_,_,_=>none
  |_=>none
 |.makeMap t r=>match P.underlying t,r with
  |some (.map kt _),none=>match shapeOf P 100 kt with
   |some g=>some (.mkmap (au P kt) g)
   |none=>none
  |_,_=>none
 |.lookup t m k ok=>match P.underlying t,ak m,ak k with
  |some (.map kt e),some m,some k=>match shapeOf P 100 kt,zeroV P e with
   |some g,some z=>some (.mlook (au P kt) g z ok m k)
   |_,_=>none
  |_,_,_=>none
 |.mapUpdate t m k v=>match P.underlying t,ak m,ak k,ak v with
  |some (.map kt _),some m,some k,some v=>match shapeOf P 100 kt with
   |some g=>some (.bF (au P kt) g m k v)
   |none=>none
  |_,_,_,_=>none
 |.insert t m k v=>match P.underlying t,ak m,ak k,ak v with
  |some (.map kt _),some m,some k,some v=>match shapeOf P 100 kt with
   |some g=>some (.bF (au P kt) g m k v)
   |none=>none
  |_,_,_,_=>none
 |.range t m=>match P.underlying t,ak m with
  |some (.map _ _),some m=>some (.mrng m)
  |_,_=>none
 |.next x b=>cond b none ((ak x).map .mnext)
 |.entry x=>(ak x).map .ment
 |.extract x i=>(ak x).map fun x=>.ext x i
 |.nilCheck x=>(ak x).map .nilck
 |.panic _=>some .bad
 |.makeInterface _ _=>some .bad
 |.call c=>bL P c
 |_=>none
def fN(X:List FuncId):DOp->DOp
 |.append t e size bytes (.tmp k) x=>cond (X.contains (8000000+k)) (cond (X.contains (9000000+k)) (.appV size bytes (.tmp k) x) (.appT size bytes (.tmp k) x)) (.append t e size bytes (.tmp k) x)
 |.call f args=>cond (X.contains f) (.inl f args) (.call f args)
 |.buildS e size n zs parts=>cond (X.contains 2000000) (.buildT size n zs parts) (.buildS e size n zs parts)
 |o=>o
def qP(X:List FuncId)(k:Nat):List Nat:=X.filterMap fun n=>cond (Nat.beq (n / 1000000) (1000000+k)) (some (n % 1000000)) none
def qQ(X:List FuncId)(k:Nat):List Nat:=X.filterMap fun n=>cond (Nat.beq (n / 1000000) (2000000+k)) (some (n % 1000000)) none
def dt(X:List FuncId)(b:Option Nat)(x:DOp):DOp:=
 match x,b with
 |.buildS e size n zs parts,some k=>cond (X.contains (8000000+k)) (.buildF size n zs parts) (fN X (.buildS e size n zs parts))
 |.call f args,some k=>cond (X.contains (3000000+k)) (.fcall f args) (match qP X k with
  |[]=>fN X (.call f args)
  |n::ns=>.mcall (n::ns) f args)
 |.offA 0 x,some k=>match qQ X k with
  |[]=>.offA 0 x
  |n::_=>.nar n x
 |x,_=>fN X x
def okB(N:Nat):Option Nat->Bool
 |some n=>Nat.blt n N
 |none=>true
def jY(P:Program)(N:Nat)(X:List FuncId)(c:Array Oper)(o:Oper):Option DI:=
 match ah P o.op with
 |some d=>
  let after:=(o.after.toList.filter fun e=>Region.binds .any e).map (·.on)
  let b:=okB N o.dst
  match o.guard with
  |none=>cond b (some {dst:=o.dst,op:=dt X o.dst d,guard:=none,after:=after }) none
  |some (j,want)=>match (c[j]?).bind (·.dst) with
   |some g=>cond (b&&Nat.blt g N) (some {dst:=o.dst,op:=dt X o.dst d,guard:=some (g,want),after:=after }) none
   |none=>none
 |none=>none
def bQ(P:Program)(N:Nat)(X:List FuncId)(b:Array Oper):List Oper->Option (List DI)
 |[]=>some []
 |o::os=>match jY P N X b o,bQ P N X b os with
  |some d,some ds=>some (d::ds)
  |_,_=>none
inductive aQ where
 |skip
 |region (is:List DI) (ck:List (List Nat))
 |seq (a b:aQ)
 |cond (c:O) (a b:aQ)
 |block (id:Nat) (b:aQ)
 |loop (b:aQ)
 |exit (id:Nat)
 |ret
 |sem (N:Nat) (c:Code)
 |cut (b:aQ)
 deriving Inhabited
def O.reads:O->List Nat
 |.tmp n=>[n]
 |.const _=>[]
def qS:Option O->List Nat
 |none=>[]
 |some x=>x.reads
def aN:List O->List Nat
 |[]=>[]
 |x::xs=>x.reads++aN xs
def DOp.reads:DOp->List Nat
 |.mov x|.box _ x|.load _ _ x|.offA _ x|.nar _ x|.fld _ _ _ x|.not x|.neg x|.conv _ x|.len x|.lenS x|.ext x _|.nilck x|.clr _ _ x|.mlen x|.mclr x|.mrng x|.mnext x|.ment x|.prim _ x|.arrP _ x|.isnil _ _ x|.cpl x=>x.reads
 |.pick c a b=>c.reads++a.reads++b.reads
 |.alloc _|.mkmap _ _|.bad=>[]
 |.store _ a x|.idxA _ _ a x|.idxL _ a x|.idxV _ _ _ a x|.idxS a x|.bin _ a x|.eqv _ _ a x|.eqB _ a x|.maxI a x|.minI a x|.append _ _ _ _ a x|.mlook _ _ _ _ a x|.cS _ _ a x|.copy a x|.mkslice _ _ _ a x|.appT _ _ a x|.appV _ _ a x=>a.reads++x.reads
 |.bF _ _ a x y|.slice3 _ a x y=>a.reads++x.reads++y.reads
 |.slice _ x lo hi|.sliceS x lo hi|.sliceA _ _ x lo hi=>x.reads++qS lo++qS hi
 |.build _ ps=>aN (ps.map (·.2.2))
 |.buildS _ _ _ _ ps|.buildT _ _ _ ps|.buildF _ _ _ ps=>aN (ps.map (·.2))
 |.mkfn _ xs|.call _ xs|.inl _ xs|.fcall _ xs|.mcall _ _ xs=>aN xs
 |.cd x xs=>x.reads++aN xs
def DI.reads(i:DI):List Nat:=i.op.reads++(match i.guard with|some (g,_)=>[g]|none=>[])
def lD(n:Nat):List Nat->Bool
 |[]=>false
 |m::l=>cond (Nat.beq n m) true (lD n l)
def isD(n:Nat):Option Nat->Bool
 |some m=>Nat.beq n m
 |none=>false
def DI.apart(i j:DI):Bool:=
 (match i.dst with|some d=>cond (lD d j.reads) false (cond (isD d j.dst) false true)|none=>true)&&
 (match j.dst with|some d=>cond (lD d i.reads) false true|none=>true)
inductive Cls where
 |pure|load|look|make|store|fresh|mut|wild
 deriving DecidableEq
def DOp.cls:DOp->Cls
 |.mov _|.pick _ _ _|.offA _ _|.nar _ _|.idxA _ _ _ _|.idxL _ _ _|.fld _ _ _ _|.idxV _ _ _ _ _|.idxS _ _|.bin _ _ _|.eqv _ _ _ _|.eqB _ _ _|.not _|.neg _|.conv _ _|.len _|.lenS _|.maxI _ _|.minI _ _
 |.slice _ _ _ _|.sliceS _ _ _|.sliceA _ _ _ _ _|.build _ _|.buildT _ _ _ _|.mkfn _ _|.ext _ _|.nilck _|.arrP _ _|.slice3 _ _ _ _|.buildF _ _ _ _|.isnil _ _ _|.cpl _=>.pure
 |.load _ _ _|.mlook _ _ _ _ _ _|.mlen _|.prim _ _|.appT _ _ _ _=>.load
 |.call _ _|.cd _ _=>.look
 |.fcall _ _=>.fresh
 |.mcall _ _ _=>.mut
 |.alloc _|.box _ _|.mkmap _ _|.mkslice _ _ _ _ _=>.make
 |.store _ _ _|.bF _ _ _ _ _=>.store
 |_=>.wild
def Cls.std:Cls->Bool
 |.fresh=>false
 |.wild=>false
 |_=>true
def Cls.wr:Cls->Bool
 |.store=>true
 |.mut=>true
 |_=>false
def Cls.rdo:Cls->Bool
 |.pure=>true
 |.load=>true
 |_=>false
def aX:Cls->Cls->Option Bool
 |.wild,_|_,.wild=>none
 |.fresh,.pure|.fresh,.load|.fresh,.make|.pure,.fresh|.load,.fresh|.make,.fresh=>some false
 |.fresh,_|_,.fresh=>none
 |.mut,.pure|.pure,.mut=>some false
 |.mut,.load|.load,.mut=>some true
 |.mut,_|_,.mut=>none
 |.store,.store|.store,.load|.load,.store|.store,.look|.look,.store=>some true
 |_,_=>some false
def DI.indep(i j:DI):Bool:=i.apart j&&(aX i.op.cls j.op.cls).isSome
def has(m k:Nat):Bool:=Nat.beq (Nat.land (Nat.shiftRight m k) 1) 1
def gL(acc:List Nat):List Nat->Nat
 |[]=>0
 |k::ks=>Nat.lor (Nat.lor (Nat.shiftLeft 1 k) (acc[k]?.getD 0)) (gL acc ks)
def cX(acc:List Nat):List DI->List Nat
 |[]=>acc
 |i::rest=>cX (acc++[gL acc i.after]) rest
def fO(m:Nat)(j:DI):Nat->Nat->List DI->Bool
 |_,0,_=>true
 |_,_+1,[]=>true
 |k,c+1,i::is=>cond (cond (has m k) true (i.indep j)) (fO m j (k+1) c is) false
def jv(is:List DI):Nat->List DI->List Nat->Bool
 |n,j::rest,m::ms=>cond (j.after.all fun i=>Nat.blt i n) (cond (fO m j 0 n is) (jv is (n+1) rest ms) false) false
 |_,[],_=>true
 |_,_::_,[]=>false
def iQ(is:List DI):Bool:=jv is 0 is (cX [] is)
def isTrue:Option Bool->Bool
 |some true=>true
 |_=>false
def jm(m:Nat)(j:DI):Nat->Nat->List DI->List Nat
 |_,0,_=>[]
 |_,_+1,[]=>[]
 |k,c+1,i::is=>cond (cond (has m k) false (isTrue (aX i.op.cls j.op.cls))) (k::jm m j (k+1) c is) (jm m j (k+1) c is)
def me(is:List DI):Nat->List DI->List Nat->List (List Nat)
 |n,j::rest,m::ms=>jm m j 0 n is::me is (n+1) rest ms
 |_,_,_=>[]
def fi(is:List DI):List (List Nat):=me is 0 is (cX [] is)
def eP(is:List DI):List (List Nat):=cond ((fi is).all (·.isEmpty)) [] (fi is)
def bx1:V->List Nat
 |.ptr n _=>[n]
 |.view n _ _ _=>[n]
 |.mp n=>[n]
 |_=>[]
def bx2:V->List Nat
 |.fn _ caps=>caps.flatMap bx1
 |v=>bx1 v
def bxs:V->List Nat
 |.fn _ caps=>caps.flatMap bx2
 |v=>bx1 v
def DOp.tch(x:DOp)(b:Nat->V):List Nat:=
 match x with
 |.load _ _ a=>bx1 (ev b a)
 |.store _ a _=>bx1 (ev b a)
 |.mlook _ _ _ _ a _=>bx1 (ev b a)
 |.mlen a=>bx1 (ev b a)
 |.prim _ a=>bx1 (ev b a)
 |.appT _ _ _ a=>bx1 (ev b a)
 |.bF _ _ a _ _=>bx1 (ev b a)
 |.call _ args=>(args.map (ev b)).flatMap bx2
 |.fcall _ args=>(args.map (ev b)).flatMap bx2
 |.mcall ms _ _=>ms
 |.cd x args=>bxs (ev b x)++(args.map (ev b)).flatMap bx2
 |_=>[]
def mK(a b:List Nat):Bool:=a.all fun n=> !b.contains n
def chk(l:List Nat)(acc:Nat->List Nat)(t:List Nat):Bool:=l.all fun i=>mK (acc i) t
def eQ{α:Type}(k:Nat):List α->List (Nat×α)
 |[]=>[]
 |i::is=>(k,i)::eQ (k+1) is
def bR[Glb](P:Program)(c:List (List Nat))(acc:Nat->List Nat)(l:List (Nat×DI)):St->(St->Prop)->Prop:=
 List.rec (motive:=fun _=>(Nat->List Nat)->St->(St->Prop)->Prop) (fun _ st K=>K st)
  (fun p _ d acc st K=>chk (c[p.1]?.getD []) acc (p.2.op.tch st.sl)=true/\wpI P p.2 st fun b=>d (upd acc p.1 (p.2.op.tch st.sl)) b K) l acc
def DI.bare(i:DI):DI:={i with after:=[]}
def cutAt(X:List FuncId)(a:Code)(d:aQ):aQ:=
 match a with
 |.region id _ _=>cond (X.contains (5000000+id)) (.cut d) d
 |_=>d
def bo(P:Program)(N:Nat)(X:List FuncId):Code->Option aQ
 |.skip=>some .skip
 |.region id ops draw=>cond (X.contains (1000000+id)) (some (.sem N (.region id ops draw))) (match bQ P N (cond (draw&& !X.contains (7000000+id)) (2000000::X) X) ops ops.toList with
  |some is=>cond (!draw||iQ is) (some (cond (X.contains (6000000+id)) (.cut (.region (is.map DI.bare) (cond draw (eP is) []))) (.region (is.map DI.bare) (cond draw (eP is) [])))) none
  |none=>none)
 |.seq a b=>match bo P N X a,bo P N X b with
  |some x,some y=>some (cutAt X a (.seq x y))
  |_,_=>none
 |.cond c a b=>match ak c,bo P N X a,bo P N X b with
  |some z,some x,some y=>some (.cond z x y)
  |_,_,_=>none
 |.block id b=>match bo P N X b with
  |some x=>some (cond (X.contains (4000000+id)) (.cut (.block id x)) (.block id x))
  |none=>none
 |.scope b=>bo P N X b
 |.label _=>some .skip
 |.loop b=>match bo P N X b with
  |some x=>some (.loop x)
  |none=>none
 |.exit id=>some (.exit id)
 |.ret=>some .ret
 |_=>none
def lk{α:Type}(d:α):List (Nat×α)->Nat->α
 |[],_=>d
 |(k,v)::r,n=>cond (Nat.beq n k) v (lk d r n)
structure Wk where
 sl:List (Nat×V)
 bx:List (Nat×BX)
 gh:List (Nat×List (Nat×V)):=[]
 off:Nat:=0
 cx:aa->World->Prop:=fun _ _=>True
def Wk.mk'(s:Wk):St:={sl:=lk .top s.sl,bx:=lk none (s.bx.map fun p=>(p.1,some p.2)),gh:=fun k m=>lk .top (lk [] s.gh k) m,off:=s.off,cx:=s.cx }
inductive LeV (ks:List Nat) (bx:Nat->Option BX):V->V->Prop
 |same (v:V):LeV ks bx v v
 |nil (r:Nat) (e:TypeId) (n:Nat):LeV ks bx (.own r e n []) (.t .nil)
 |data (r:Nat) (e:TypeId) (n:Nat) (xs:List T):LeV ks bx (.t (.slice n xs)) (.own r e n xs)
 |empty (n:Nat):LeV ks bx (.t (.slice n [])) (.t .nil)
 |conv (v:V) (x:T) (rd:List Nat) (h:conv bx v=some (x,rd)) (hk: ∀n∈rd, ¬n∈ks):LeV ks bx (.t x) v
 |top (v:V):LeV ks bx .top v
 |knot (n:Nat) (f:FuncId) (A B:List V) (xa:List T) (ra:List Nat) (xb:List T) (rb:List Nat) (hb:bx n=some (.v [.fn f (A++ .ptr n 0::B)])) (ha:cT bx A=some (xa,ra)) (hbb:cT bx B=some (xb,rb)) (hk: ∀m∈n::(ra++rb), ¬m∈ks):LeV ks bx (.t (.knot f xa xb)) (.ptr n 0)
def ju(ks:List Nat)(bx:Nat->Option BX):List V->List V->Prop
 |[],[]=>True
 |u::us,v::vs=>LeV ks bx u v/\ju ks bx us vs
 |_,_=>False
def nk(ks:List Nat)(bx:Nat->Option BX):List (Nat×V)->(Nat->V)->Prop
 |[],_=>True
 |(n,v)::r,sl=>LeV ks bx v (sl n)/\nk ks bx r sl
def qL(ks:List Nat)(bx:Nat->Option BX):List (Nat×List (Nat×V))->(Nat->Nat->V)->Prop
 |[],_=>True
 |(k,l)::r,gh=>nk ks bx l (gh k)/\qL ks bx r gh
inductive LeB (ks:List Nat) (bx:Nat->Option BX):BX->Option BX->Prop
 |same (b:BX):LeB ks bx b (some b)
 |m (ag:Bool) (sh:List Sh) (es:List (T×T)) (mb:Option (List Nat×Nat)):LeB ks bx (.m ag sh es none) (some (.m ag sh es mb))
 |v (us vs:List V) (h:ju ks bx us vs):LeB ks bx (.v us) (some (.v vs))
 |dv (n:Nat) (us:List V) (ts:List T) (h:ju ks bx us (ts.map .t)):LeB ks bx (.v us) (some (.d n ts))
def qK(ks:List Nat)(bx:Nat->Option BX):List (Nat×BX)->Prop
 |[]=>True
 |(n,b)::r=>LeB ks bx b (bx n)/\qK ks bx r
def ir(ks:List Nat):V->Bool
 |.ptr n _=>ks.contains n
 |.view n _ _ _=>ks.contains n
 |.mp n=>ks.contains n
 |.fn _ caps=>go caps
 |.tup vs=>go vs
 |.agv vs=>go vs
 |_=>true
where go:List V->Bool
 |[]=>true
 |v::vs=>ir ks v&&go vs
def mZ(ks:List Nat):BX->Bool
 |.d _ _=>true
 |.v vs=>vs.all (ir ks)
 |.m _ _ _ _=>true
 |.it m _ _ _=>ks.contains m
 |.itd _ _=>true
def Wk.keys(s:Wk):List Nat:=s.bx.map (·.1)
def Wk.closed(s:Wk):Bool:=
 (s.sl.all fun p=>ir s.keys p.2)&&(s.bx.all fun p=>mZ s.keys p.2)&&(s.gh.all fun p=>p.2.all fun q=>ir s.keys q.2)
def bX(s:Wk)(st:St):Prop:=nk s.keys st.bx s.sl st.sl/\qK s.keys st.bx s.bx/\qL s.keys st.bx s.gh st.gh/\s.off=st.off/\(∀ S0 w0,st.cx S0 w0->s.cx S0 w0)/\s.closed=true
inductive aF where
 |normal
 |exit (id:Nat)
 |ret
def bz[Glb](N:Nat)(w0:World)(S0:aa)(ds:List Deferred)(K:St->Prop)(d:Act)(w':World):Prop:= ∃(c:Env) (b:St),c.w=w'/\SR N w0 S0 c b d.tmps/\d.defers=ds/\K b
def bg[Glb](N:Nat)(w0:World)(S0:aa)(ds:List Deferred)(K:aF->St->Prop):Exit->Act->World->Prop
 |.normal,a,w=>bz N w0 S0 ds (K .normal) a w
 |.exit id,a,w=>bz N w0 S0 ds (K (.exit id)) a w
 |.ret,a,w=>bz N w0 S0 ds (K .ret) a w
 |_,_,_=>False
def sE[Glb](P:Program)(N:Nat)(c:Code)(st:St)(Q:aF->St->Prop):Prop:=
 ∀(w0:World) (S0:aa) (E:Env) (a:Act),SR N w0 S0 E st a.tmps->c.wp P (bg N w0 S0 a.defers Q) a E.w
abbrev PT:=St->(aF->St->Prop)->Prop
def kh(Q:aF->St->Prop)(e:aF)(st:St):Prop:=Q e st\/ ∃s,bX s st/\Q e s.mk'
def rP(I:Nat->Wk->Prop)(n:Nat)(Q:aF->St->Prop):aF->St->Prop
 |.normal,st'=> ∃m s',m<n/\bX s' st'/\I m s'
 |.exit id,st'=>kh Q (.exit id) st'
 |.ret,st'=>Q .ret st'
def eK(F:PT)(st:St)(Q:aF->St->Prop):Prop:=
 ∃(I:Nat->Wk->Prop) (n:Nat) (s:Wk),bX s st/\I n s/\ ∀n s,I n s-> ∃R,F s.mk' R/\ ∀e b,R e b->rP I n Q e b
def gU(F:PT)(st:St)(Q:aF->St->Prop):Prop:= ∃R,F st R/\ ∀e b,R e b->kh Q e b
def ux[Glb](P:Program)(is:List DI)(b:List (List Nat)):PT:=
 match b with
 |[]=>fun st Q=>bp P is st (Q .normal)
 |p::b=>fun st Q=>bR P (p::b) (fun _=>[]) (eQ 0 is) st (Q .normal)
def uy(A B:PT):PT:=fun st Q=>A st fun e b=>match e with
 |.normal=>B b Q
 |.exit id=>Q (.exit id) b
 |.ret=>Q .ret b
def kr(c:O)(A B:PT):PT:=fun st Q=>match ev st.sl c with
 |.t (.bool true)=>A st Q
 |.t (.bool false)=>B st Q
 |_=>False
def sJ(id:Nat)(A:PT):PT:=fun st Q=>A st fun e b=>match e with
 |.normal=>Q .normal b
 |.exit k=>cond (Nat.beq k id) (Q .normal b) (Q (.exit k) b)
 |.ret=>Q .ret b
def wpC[Glb](P:Program)(d:aQ):PT:=
 aQ.rec (motive:=fun _=>PT) (fun st Q=>Q .normal st) (fun is b=>ux P is b) (fun _ _ A B=>uy A B) (fun c _ _ A B=>kr c A B) (fun id _ A=>sJ id A)
  (fun _ A=>eK A) (fun id st Q=>Q (.exit id) st) (fun st Q=>Q .ret st) (fun N c st Q=>sE P N c st Q) (fun _ A=>gU A) d
def ft(b:List T):St:={sl:=fun m=>match b[m]? with|some t=>.t t|none=>.top,bx:=fun _=>none }
def mG(bx:Nat->Option BX)(n:Nat):List V->Option (List V×Nat×List V)
 |[]=>none
 |v::vs=>match (match v with
   |.ptr k 0=>match bx k with
    |some (.v [.ptr m 0])=>cond (Nat.beq m n) (some k) none
    |_=>none
   |_=>none) with
  |some k=>some ([],k,vs)
  |none=>match mG bx n vs with
   |some (a,k,b)=>some (v::a,k,b)
   |none=>none
def rG(bx:Nat->Option BX)(n off:Nat):Option (T×List Nat):=
 match bx n with
 |some (.v [.fn f1 c1,.fn f2 c2])=>match mG bx n c1,mG bx n c2 with
  |some (a1,k1,b1),some (a2,k2,b2)=>match cT bx a1,cT bx b1,cT bx a2,cT bx b2 with
   |some (x1,r1),some (y1,s1),some (x2,r2),some (y2,s2)=>cond (Nat.beq k1 k2) (some (.wrld f1 x1 y1 f2 x2 y2 off,n::k1::(r1++s1++r2++s2))) none
   |_,_,_,_=>none
  |_,_=>none
 |_=>none
def oJ(bx:Nat->Option BX)(v:V):Option (T×List Nat):=
 match v with
 |.ptr n off=>match rG bx n off with
  |some r=>some r
  |none=>conv bx (.ptr n off)
 |v=>conv bx v
def jc(d:TypeId->Option (Nat×Bool))(st:St):List ResultVar->List T->Prop
 |[],[]=>True
 |.tmp t::rs,x::xs=>(oJ st.bx (st.sl t)).map (·.1)=some x/\jc d st rs xs
 |.cell a ty::rs,x::xs=>(match st.sl a,d ty with
  |.ptr b off,some (n,agg)=>match st.bx b with
   |some cs=>match eX b cs off n agg with
    |.yes e=>asT e.val=some x
    |.eq c t _=>c/\t=x
    |_=>False
   |none=>False
  |_,_=>False)/\jc d st rs xs
 |_,_=>False
def oB(b:TypeId->Option (Nat×Bool))(rs:List ResultVar)(r:List T):aF->St->Prop
 |.normal,st=>jc b st rs r
 |.ret,st=>jc b st rs r
 |.exit _,_=>False
theorem uA{F:PT}{st:St}{Q:aF->St->Prop}{α:Type}(S:α->Wk)(b:α->Prop)(g:α->Nat)(f:α)(j:b f)(q:bX (S f) st)
  (h: ∀a,b a->F (S a).mk' fun e c=>match e with
   |.normal=> ∃d,b d/\g d<g a/\bX (S d) c
   |.exit id=>Q (.exit id) c
   |.ret=>Q .ret c):eK F st Q:=by
 refine ⟨fun n s=> ∃a,b a/\g a=n/\s=S a,g f,S f,q,⟨f,j,rfl,rfl⟩,?_⟩;rintro n s ⟨a,p,rfl,rfl⟩;refine ⟨_,h a p,fun e c i=>?_⟩;cases e with
 |normal=>
  obtain ⟨d,k,l,m⟩:=i;exact ⟨g d,S d,l,m,d,k,rfl,rfl⟩
 |exit id=>exact .inl i
 |ret=>exact i
theorem tT{F:PT}{st:St}{Q:aF->St->Prop}{α β:Type}(id:Nat)(S:α->Wk)(d:α->Prop)(i:α->Nat)(j:β->Wk)(c:β->Prop)(g:α)(q:d g)(y:bX (S g) st)
  (h: ∀a,d a->F (S a).mk' fun e b=>match e with
   |.normal=> ∃f,d f/\i f<i a/\bX (S f) b
   |.exit k=>cond (Nat.beq k id) (∃ x,c x/\bX (j x) b) (Q (.exit k) b)
   |.ret=>Q .ret b) (t: ∀x,c x->Q (.exit id) (j x).mk'):eK F st Q:=by
 refine ⟨fun n s=> ∃a,d a/\i a=n/\s=S a,i g,S g,y,⟨g,q,rfl,rfl⟩,?_⟩;rintro n s ⟨a,u,rfl,rfl⟩;refine ⟨_,h a u,fun e b p=>?_⟩;cases e with
 |normal=>
  obtain ⟨f,l,m,r⟩:=p;exact ⟨i f,S f,m,r,f,l,rfl,rfl⟩
 |exit k=>
  revert p
  show (bif Nat.beq k id then (∃ x,c x/\bX (j x) b) else Q (.exit k) b)->_
  cases w:Nat.beq k id with
  |true=>
   rintro ⟨x,l,m⟩;obtain rfl:=Nat.eq_of_beq_eq_true w;exact .inr ⟨_,m,t x l⟩
  |false=>exact .inl
 |ret=>exact p
theorem uE{F:PT}{st:St}{Q:aF->St->Prop}{β:Type}(f:β->Wk)(b:β->Prop)
  (h:F st fun e c=>match e with
   |.normal=> ∃x,b x/\bX (f x) c
   |.exit k=>Q (.exit k) c
   |.ret=>Q .ret c) (j: ∀x,b x->Q .normal (f x).mk'):gU F st Q:=by
 refine ⟨_,h,fun e s d=>?_⟩;cases e with
 |normal=>
  obtain ⟨x,g,i⟩:=d;exact .inr ⟨_,i,j x g⟩
 |exit k=>exact .inl d
 |ret=>exact .inl d
attribute [irreducible] eK gU
end Go.DL
end
section
namespace Go.DL
open Go.RowKit
section
variable [Glb]
structure Grow (E E':Env):Prop where
 B:E'.B=E.B
 κ: ∀n,E.live n=true->E'.live n=true/\E'.κ n=E.κ n
 ρ: ∀r g,E.ρ r=some g->E'.ρ r=some g/\E'.w.heap[g]? =E.w.heap[g]? /\ ∀o,E'.S g o↔E.S g o
 S: ∀b o,E.S b o->E'.S b o
 cell: ∀b o,E.S b o->aC E.w E'.w b o
end
section
theorem Grow.rep{E b:Env}(h:Grow E b){v:Value}{t:T}(r:Rep E.S E.w v t):Rep b.S b.w v t:=r.mono h.S h.cell
theorem fP{w w':World}{base:Nat}{e:TypeId}{size:Nat}{v:Value}{n:Nat}{xs:List Value}(h:w.ownsRow base e size v n xs)
  (f: ∀g,v.ownBlock=some g->w'.heap[g]? =w.heap[g]?):w'.ownsRow base e size v n xs:=by
 refine ⟨h.1,?_⟩;rcases h.2 with i|⟨g,cap,b,rfl,c,d,rest⟩
 ·exact .inl i
 ·exact .inr ⟨g,cap,b,rfl,c,(f g rfl).trans d,rest⟩
theorem bU.grow{E d:Env}(g:Grow E d){v:Value}{r:Nat}{e:TypeId}{size:Nat}{xs:List T}(h:bU E v r e size xs):bU d v r e size xs:=by
 obtain ⟨cells,f,j,k⟩:=h.ex;refine ⟨⟨cells,?_,j,fun i x t m l=>g.rep (k i x t m l)⟩,h.uni,h.one,fun b c=>?_⟩
 ·rw [g.B];exact fP f fun b c=>(g.ρ r b (h.row b c).1).2.1
 ·obtain ⟨k1,k2⟩:=h.row b c;obtain ⟨n,_,p⟩:=g.ρ r b k1;exact ⟨n,fun o=>(p o).trans (k2 o)⟩
theorem VR.grow{E k:Env}(g:Grow E k){v:Value}{u:V}(h:VR E v u):VR k v u:=by
 induction h with
 |top v=>exact .top v
 |t v x h=>exact .t v x (g.rep h)
 |ptr n off d=>obtain ⟨b,c⟩:=g.κ n d;rw [<- c];exact .ptr n off b
 |view n off len size cap d l=>obtain ⟨b,c⟩:=g.κ n d;rw [<- c];exact .view n off len size cap b l
 |own v r e size xs h=>exact .own v r e size xs (h.grow g)
 |full a len size xs h=>exact .full a len size xs (g.rep h)
 |fn f cs vs i _ j=>exact .fn f cs vs i j
 |tup cs vs i _ j=>exact .tup cs vs i j
 |agv cs vs i b _ j=>exact .agv cs vs i b j
 |raw v b=>exact .raw v b
 |mp n d=>obtain ⟨b,c⟩:=g.κ n d;rw [<- c];exact .mp n b
theorem cM.grow{E f:Env}(g:Grow E f){cs:Array Value}{b:BX}(h:cM E cs b):cM f cs b:=by
 cases h with
 |d n ts l e h=>exact .d n ts l e fun i x t c j=>⟨g.rep (h i x t c j).1,(h i x t c j).2⟩
 |v vs e h=>exact .v vs e fun i x u c k=>⟨(h i x u c k).1.grow g,(h i x u c k).2⟩
theorem bN.grow{E j:Env}(g:Grow E j){c:Array MapEntry}{b:Nat}{k:Bool}{n:List Sh}{l:List (T×T)}{m:Option (List Nat×Nat)}(h:bN E c b k n l m):bN j c b k n l m:=
 ⟨h.size,fun i x e f d=>⟨g.rep (h.at_ i x e f d).1,g.rep (h.at_ i x e f d).2.1,(h.at_ i x e f d).2.2⟩,h.lt,h.apart,h.mb⟩
theorem bS.grow{E n:Env}(g:Grow E n){o:Obj}{b:BX}(h:bS E o b):bS n o b:=by
 cases h with
 |cells cs e b h=>exact .cells cs e b (h.grow g)
 |map d f i l j w h=>exact .map d f i l j w (h.grow g)
 |itd k d c i l j ix t p s=>exact .itd k d c i l j ix ((g.cell _ _ p).map _ _ t) (g.S _ _ p) (s.grow g)
 |it m bs c ix u=>obtain ⟨q,r⟩:=g.κ m u;rw [<- r];exact .it m bs c ix q
theorem bI.grow{E c:Env}(g:Grow E c){k:Nat}{b:BX}(h:bI E k b)(i:c.w.heap[k]? =E.w.heap[k]?)(f: ∀o, ¬c.S k o):bI c k b:=by
 obtain ⟨o,d,e⟩:=h.at_;exact ⟨by rw [g.B];exact h.old,f,o,i.trans d,e.grow g⟩
end
section
variable [Glb]
theorem bH.up{S c:ar}{w w':World}(h:bH S w)(k: ∀b o,S b o->c b o)(e:Below w.heap.size w w'):bH c w':=fun g cs l=>by
 obtain ⟨d,v,j⟩:=h g cs l;refine ⟨Nat.lt_of_lt_of_le d e.size,v,fun i t m=>?_⟩;obtain ⟨k1,k2,n,f,p⟩:=j i t m;exact ⟨(aC.cY e d).cell.trans k1,k _ _ k2,n,f,p.of_flat f⟩
theorem bH.rep{S:ar}{w:World}(h:bH S w){g:Nat}{cs:List T}(d:Glb.gs g=some cs)(off:Nat):Rep S w (.pointer (some ⟨g,off,none⟩)) (.cptr cs off):=by
 obtain ⟨_,v,b⟩:=h g cs d;have get: ∀i,i<cs.length->cs[i]? =some cs[i]! :=fun i hi=>by simp [hi]
 have:=Rep.cptr (S:=S) (w:=w) g 0 off cs v (fun t c=>by
   obtain ⟨i,hi⟩:=List.mem_iff_getElem?.1 c;exact (b i t hi).2.2.1)
  (fun i hi=>by
   obtain ⟨k1,k2,_⟩:=b i _ (ggZ hi);rw [Nat.zero_add];exact ⟨k1,k2⟩)
  (fun i t c=>(b i t c).2.2.2.2.of_flat (b i t c).2.2.2.1)
 rwa [Nat.zero_add] at this
theorem SR.jq{N:Nat}{w0:World}{S0:aa}{E:Env}{st:St}{a:Array Value}(h:SR N w0 S0 E st a):bH E.S E.w:=h.glob.up h.s0 h.below
end
section
theorem hZ{a:Array Value}{d m:Nat}{v:Value}(hd:d<a.size):(a.setIfInBounds d v).getD m undef=if m=d then v else a.getD m undef:=by
 by_cases h:m=d
 ·subst h;simp [hd]
 ·have: ¬d=m:=fun e=>h e.symm
  simp [h,Array.getElem?_setIfInBounds,this]
end
section
variable [Glb]
theorem SR.put{N:Nat}{w0:World}{S0:aa}{E:Env}{st:St}{a:Array Value}(h:SR N w0 S0 E st a){d:Nat}(hd:d<N){v:Value}{u:V}(c:VR E v u):
  SR N w0 S0 E (st.set (some d) u) (a.setIfInBounds d v):=by
 refine {h with size:=by simp [h.size],sl:=fun m=>?_ };rw [hZ (by rw [h.size];exact hd)]
 by_cases b:m=d
 ·subst b;rw [if_pos rfl];show VR E v (upd st.sl m u m)
  rw [ai];exact c
 ·rw [if_neg b];show VR E _ (upd st.sl d u m)
  rw [ae _ _ _ _ b];exact h.sl m
def ay(N:Nat):Option Nat->Prop
 |some d=>d<N
 |none=>True
theorem SR.cL{N:Nat}{w0:World}{S0:aa}{E:Env}{st:St}{a:Act}(h:SR N w0 S0 E st a.tmps){d:Option Nat}(hd:ay N d){v:Value}{u:V}(b:VR E v u):
  SR N w0 S0 E (st.set d u) (a.put d v).tmps:=by
 cases d with
 |none=>exact h
 |some d=>exact h.put hd b
theorem SR.world{N:Nat}{w0:World}{S0:aa}{E:Env}{st:St}{a:Array Value}(h:SR N w0 S0 E st a){w':World}(f:Below E.w.heap.size E.w w')
  (j:ar) (l: ∀b o,j b o↔E.S b o\/(j b o/\E.w.heap.size<=b/\b<w'.heap.size)):SR N w0 S0 {E with w:=w',S:=j } st a:=by
 have e: ∀b o,b<E.w.heap.size->(j b o↔E.S b o):=fun b o i=>by
  rw [l];constructor
  ·rintro (h|⟨_,h,_⟩)
   ·exact h
   ·omega
  ·exact .inl
 have g:Grow E {E with w:=w',S:=j }:=⟨rfl,fun _ x=>⟨x,rfl⟩,fun r g p=>⟨p,f.block g (h.rows r g p).2.1,fun o=>e g o (h.rows r g p).2.1⟩,fun b o c=>(l b o).2 (.inl c),
  fun b o c=>aC.cY f (h.lt b o c)⟩
 refine ⟨h.size,h.base,h.glob,fun m=>(h.sl m).grow g,fun k m=>(h.gh k m).grow g,fun n b y=>?_,h.live,h.inj,fun r k p=>?_,h.rinj,fun b o c=>?_,?_,fun b o c=>(l b o).2 (.inl (h.s0 b o c)),fun b o c=>?_,fun k o s=>⟨(h.obj k o s).1,(f.block k (Array.getElem?_eq_some_iff.1 (h.obj k o s).2).1).trans (h.obj k o s).2⟩,h.cx⟩
 ·have q:=h.bx n b y;have i:E.κ n<E.w.heap.size:=by
   exact q.lt
  exact q.grow g (f.block _ i) (fun o=>fun c=>q.free o ((e _ o i).1 c))
 ·obtain ⟨d,t,u⟩:=h.rows r k p;exact ⟨d,Nat.lt_of_lt_of_le t f.size,u⟩
 ·rcases (l b o).1 c with d|⟨_,_,d⟩
  ·exact Nat.lt_of_lt_of_le (h.lt b o d) f.size
  ·exact d
 ·exact h.below.trans (f.mono h.below.size)
 ·rcases (l b o).1 c with d|⟨_,d,_⟩
  ·exact h.s1 b o d
  ·exact .inr (Nat.le_trans h.below.size d)
theorem SR.drew{N:Nat}{w0:World}{S0:aa}{E:Env}{st:St}{a:Array Value}(h:SR N w0 S0 E st a):SR N w0 S0 {E with w:=E.w.drew } st a:=
 h.world (w':=E.w.drew) ((Below.refl _ _).drew) E.S (fun b o=>⟨.inl,fun c=>c.elim id fun k=>k.1⟩)
theorem SR.alloc{N:Nat}{w0:World}{S0:aa}{E:Env}{st:St}{a:Array Value}(h:SR N w0 S0 E st a){n:Nat}(G:st.bx n=none)(cs:Array Value)(e:TypeId)(b:BX)(F:cM E cs b)
  {d:Nat} (hd:d<N) (off:Nat):
  SR N w0 S0 {E with w:=E.w.alloc (.cells cs e),κ:=upd E.κ n E.w.heap.size,live:=upd E.live n true } {st with sl:=upd st.sl d (.ptr n off),bx:=upd st.bx n (some b)}
   (a.setIfInBounds d (.pointer (some ⟨E.w.heap.size,off,none⟩))):=by
 have H:E.live n=false:=by rw [h.live,G];rfl
 have ne: ∀m,E.live m=true->m≠n:=fun m c e=>by rw [e,H] at c;cases c
 have s: ∀m,E.live m=true->E.κ m<E.w.heap.size:=fun m c=>by
  rw [h.live] at c;obtain ⟨j,p⟩:=Option.isSome_iff_exists.1 c;exact (h.bx m j p).lt
 have x:Below E.w.heap.size E.w (E.w.alloc (.cells cs e)):=(Below.refl _ _).alloc (Nat.le_refl _) _;have g:Grow E {E with w:=E.w.alloc (.cells cs e),κ:=upd E.κ n E.w.heap.size,live:=upd E.live n true }:=
  ⟨rfl,fun m c=>⟨by show upd E.live n true m=true;rw [ae _ _ _ _ (ne m c)];exact c,ae _ _ _ _ (ne m c)⟩,
   fun r k A=>⟨A,x.block k (h.rows r k A).2.1,fun _=>Iff.rfl⟩,fun _ _ t=>t,fun b o t=>aC.cY x (h.lt b o t)⟩
 refine ⟨by simp [h.size],h.base,h.glob,fun m=>?_,fun k m=>(h.gh k m).grow g,fun m j c=>?_,fun m=>?_,fun m z c i q=>?_,fun r k A=>?_,h.rinj,fun b o t=>?_,?_,h.s0,h.s1,fun k o y=>⟨(h.obj k o y).1,(x.block k (Array.getElem?_eq_some_iff.1 (h.obj k o y).2).1).trans (h.obj k o y).2⟩,h.cx⟩
 ·rw [hZ (by rw [h.size];exact hd)]
  by_cases c:m=d
  ·subst c;rw [if_pos rfl];show VR _ _ (upd st.sl m _ m)
   rw [ai]
   have:=VR.ptr (E:={E with w:=E.w.alloc (.cells cs e),κ:=upd E.κ n E.w.heap.size,live:=upd E.live n true }) n off (by show upd E.live n true n=true;exact ai _ _ _)
   have y:upd E.κ n E.w.heap.size n=E.w.heap.size:=ai _ _ _;simp only [y] at this;exact this
  ·rw [if_neg c];show VR _ _ (upd st.sl d _ m)
   rw [ae _ _ _ _ c];exact (h.sl m).grow g
 ·by_cases f:m=n
  ·subst f;have p:b=j:=by
    have:upd st.bx m (some b) m=some j:=c
    rw [ai] at this;exact Option.some.inj this
   subst p;show bI _ (upd E.κ m E.w.heap.size m) b
   rw [ai];refine ⟨by rw [g.B,h.base];exact h.below.size,fun o t=>absurd (h.lt _ o t) (Nat.lt_irrefl _),_,heap_alloc_new _ _,.cells cs e b (F.grow g)⟩
  ·have i:st.bx m=some j:=by
    have:upd st.bx n (some b) m=some j:=c
    rwa [ae _ _ _ _ f] at this
   show bI _ (upd E.κ n E.w.heap.size m) j
   rw [ae _ _ _ _ f];have C:=h.bx m j i;exact C.grow g (x.block _ (s m (by rw [h.live,i];rfl))) C.free
 ·show upd E.live n true m=(upd st.bx n (some b) m).isSome
  by_cases f:m=n
  ·subst f;rw [ai,ai];rfl
  ·rw [ae _ _ _ _ f,ae _ _ _ _ f];exact h.live m
 ·have c:upd E.live n true m=true:=c;have i:upd E.live n true z=true:=i;have q:upd E.κ n E.w.heap.size m=upd E.κ n E.w.heap.size z:=q
  by_cases l:m=n <;> by_cases u:z=n
  ·rw [l,u]
  ·subst l;rw [ae _ _ _ _ u] at i;rw [ai,ae _ _ _ _ u] at q;exact absurd (s z i) (by omega)
  ·subst u;rw [ae _ _ _ _ l] at c;rw [ai,ae _ _ _ _ l] at q;exact absurd (s m c) (by omega)
  ·rw [ae _ _ _ _ l] at c q;rw [ae _ _ _ _ u] at i q;exact h.inj m z c i q
 ·obtain ⟨l,u,D⟩:=h.rows r k A;refine ⟨l,by simp;omega,fun m c=>?_⟩;have c:upd E.live n true m=true:=c;show upd E.κ n E.w.heap.size m≠k
  by_cases f:m=n
  ·subst f;rw [ai];omega
  ·rw [ae _ _ _ _ f] at c ⊢;exact D m c
 ·have:=h.lt b o t
  simp;omega
 ·exact h.below.trans (x.mono h.below.size)
theorem SR.write{N:Nat}{w0:World}{S0:aa}{E:Env}{st:St}{a:Array Value}(h:SR N w0 S0 E st a){n:Nat}{b:BX}(F:st.bx n=some b)(I:b.isM=false)(cs:Array Value)(i:BX)
  (J: ∀C:Env,Grow E C->cM C cs i):
  SR N w0 S0 {E with w:=E.w.setRow (E.κ n) cs } {st with bx:=upd st.bx n (some i)} a:=by
 have q:=h.bx n b F;obtain ⟨G,e0,y,_⟩:=q.cells I;have B:E.live n=true:=by rw [h.live,F];rfl
 have K:E.κ n<E.w.heap.size:=(Array.getElem?_eq_some_iff.1 y).1;have c: ∀k,k≠E.κ n->(E.w.setRow (E.κ n) cs).heap[k]? =E.w.heap[k]? :=fun k j=>setRow_other _ _ _ _ j
 have g:Grow E {E with w:=E.w.setRow (E.κ n) cs }:=⟨rfl,fun _ h=>⟨h,rfl⟩,fun r k x=>⟨x,c k (fun e=>(h.rows r k x).2.2 n B e.symm),fun _=>Iff.rfl⟩,fun _ _ u=>u,
  fun b o u=>aC.dG (c b (fun e=>q.free o (e▸u)))⟩
 have f:(E.w.setRow (E.κ n) cs).heap.size=E.w.heap.size:=by simp
 refine ⟨h.size,h.base,h.glob,fun m=>(h.sl m).grow g,fun k m=>(h.gh k m).grow g,fun m l D=>?_,fun m=>?_,h.inj,fun r k x=>?_,h.rinj,fun b o u=>?_,?_,h.s0,h.s1,fun k o j=>⟨(h.obj k o j).1,(c k fun e=>by have p:=(h.obj k o j);rw [e,y] at p;have z:=p.2;cases z;cases p.1).trans (h.obj k o j).2⟩,h.cx⟩
 ·by_cases d:m=n
  ·subst d;have A:i=l:=by
    have:upd st.bx m (some i) m=some l:=D
    rw [ai] at this;exact Option.some.inj this
   subst A;exact ⟨q.old,q.free,_,setRow_heap _ _ _ _ _ _ y,.cells cs e0 _ (J _ g)⟩
  ·have t:st.bx m=some l:=by
    have:upd st.bx n (some i) m=some l:=D
    rwa [ae _ _ _ _ d] at this
   have s:=h.bx m l t;exact s.grow g (c _ (fun e=>d (h.inj m n (by rw [h.live,t];rfl) B e))) s.free
 ·show E.live m=(upd st.bx n (some i) m).isSome
  by_cases d:m=n
  ·subst d;rw [ai];exact B
  ·rw [ae _ _ _ _ d];exact h.live m
 ·obtain ⟨p,z,H⟩:=h.rows r k x;exact ⟨p,by rw [f];exact z,H⟩
 ·rw [f];exact h.lt b o u
 ·refine h.below.trans (.of rfl rfl rfl (by rw [f];exact Nat.le_refl _) (fun k j=>c k ?_) (Nat.le_refl _))
  have:=q.old
  rw [h.base] at this;omega
end
end Go.DL
end
section
namespace Go.DL
open Go.RowKit
section
variable [Glb]{P:Program}
end
section
variable {P:Program}
theorem fX{S:ar}{w:World}{v:Value}{t:T}(h:dZ v=some t):Rep S w v t/\t.one=true:=by
 unfold dZ at h;split at h <;> first|(cases h;refine ⟨?_,rfl⟩;constructor)|cases h
theorem iv{α β:Type}(f:α->Option β): ∀(l:List α) (r:List β),l.mapM f=some r->l.length=r.length/\ ∀(i:Nat) (x:α) (y:β),l[i]? =some x->r[i]? =some y->f x=some y
 |[],r,h=>by simp at h;subst h;exact ⟨rfl,fun i x y c=>by simp at c⟩
 |a::l,r,h=>by
  rw [List.mapM_cons] at h;simp only [Option.bind_eq_bind,Option.bind_eq_some_iff] at h;obtain ⟨b,k,m,e,h⟩:=h;simp at h;subst h;obtain ⟨g,j⟩:=iv f l m e;refine ⟨by simp [g],fun i x y c d=>?_⟩;cases i with
  |zero=>simp at c d;subst c;subst d;exact k
  |succ i=>simp at c d;exact j i x y c d
theorem gV{S:ar}{w:World}{v:Value}{t:T}(h:eL v=some t):Rep S w v t:=by
 unfold eL at h;split at h
 ·rename_i cs;cases c:cs.toList.mapM dZ with
  |none=>rw [c] at h;cases h
  |some ts=>
   rw [c] at h;simp at h;subst h;obtain ⟨e,f⟩:=iv _ _ _ c;refine .agg cs ts (by simpa using e) (fun t d=>?_) (fun i x t g d=>(fX (f i x t (by simpa using g) d)).1);obtain ⟨i,hi⟩:=List.mem_iff_getElem?.1 d;have b:i<cs.toList.length:=by rw [e];exact (gsZ hi).1
   exact (fX (S:=S) (w:=w) (f i _ t (ggZ b) hi)).2
 ·exact (fX h).1
theorem af{E:Env}{st:St}{a:Act}(b: ∀m,VR E (a.tmps.getD m undef) (st.sl m)){x:Operand}{y:O}(h:ak x=some y):VR E (a.eval x) (ev st.sl y):=by
 cases x with
 |tmp t=>simp [ak] at h;subst h;exact b t
 |const v=>
  simp only [ak,Option.map_eq_some_iff] at h;obtain ⟨t,c,rfl⟩:=h;exact .t _ _ (gV c)
 |global g=>cases h;exact .t _ _ (.glob g 0)
 |func f=>
  simp [ak] at h;subst h;exact .t _ _ (.clos f #[] [] rfl (fun i x t d=>by simp at d))
end
section
variable [Glb]{P:Program}
section inv
variable {E:Env}{v:Value}
end inv
end
section
variable {P:Program}
variable {E:Env}{v:Value}
theorem VR.ax{x:T}(h:VR E v (.t x)):Rep E.S E.w v x:=by cases h;assumption
theorem VR.eN{n:Nat}(h:VR E v (.mp n)):v= .map (some (E.κ n))/\E.live n=true:=by cases h;exact ⟨rfl,by assumption⟩
theorem VR.bh{n off:Nat}(h:VR E v (.ptr n off)):v= .pointer (some ⟨E.κ n,off,none⟩)/\E.live n=true:=by cases h;exact ⟨rfl,by assumption⟩
theorem VR.bO{n off len size:Nat}(h:VR E v (.view n off len size)): ∃cap,v= .slice (some ⟨E.κ n,off,none⟩) len cap/\len<=cap/\E.live n=true:=by
 cases h;exact ⟨_,rfl,by assumption,by assumption⟩
theorem Rep.aA{S:ar}{w:World}{k:IntKind}{n:Int}(h:Rep S w v (.int k n)):v= .int k n:=by cases h;rfl
theorem Rep.aT{S:ar}{w:World}{b:Bool}(h:Rep S w v (.bool b)):v= .bool b:=by cases h;rfl
theorem Rep.bj{S:ar}{w:World}{s:ByteArray}(h:Rep S w v (.str s)):v= .string s:=by cases h;rfl
theorem VR.aA{k:IntKind}{n:Int}(h:VR E v (.t (.int k n))):v= .int k n:=h.ax.aA
theorem VR.aT{b:Bool}(h:VR E v (.t (.bool b))):v= .bool b:=h.ax.aT
theorem VR.bj{s:ByteArray}(h:VR E v (.t (.str s))):v= .string s:=h.ax.bj
theorem bU.rep{r:Nat}{e:TypeId}{size:Nat}{xs:List T}(h:bU E v r e size xs):Rep E.S E.w v (.slice size xs):=by
 obtain ⟨cells,j,l,m⟩:=h.ex;rcases j.2 with ⟨rfl,p⟩|⟨g,cap,k,rfl,u,y,d,z,A,q⟩
 ·have f:xs=[]:=List.eq_nil_of_length_eq_zero p;subst f;exact .slice none 0 0 0 0 size [] (fun _=>undef) rfl (Nat.le_refl _) (fun x f=>by simp at f) (fun t c=>by simp at c) (fun n=>by simp at n) (fun i hi=>by simp at hi) (fun i t c=>by simp at c)
 ·refine .slice _ g 0 xs.length cap size xs (fun i=>cells[i]?.getD undef) rfl d h.uni h.one (fun _=>rfl) (fun i hi=>?_) (fun i t c=>?_)
  ·have b:i<cells.length:=by omega
   have d:=j.cells (g:=g) rfl i cells[i] (ggZ b);have s:(⟨g,0,none⟩:Addr).add i=⟨g,0+i,none⟩:=by unfold Addr.add;split <;> simp_all
   rw [s] at d;refine ⟨by rw [d];simp [ggZ b],?_⟩;rw [Nat.zero_add];exact ((h.row g rfl).2 i).2 hi
  ·have b:i<cells.length:=by rw [l];exact (gsZ c).1
   have:=m i cells[i] t (ggZ b) c
   simpa [ggZ b] using this
theorem aD{u:V}{x:T}(h:VR E v u)(b:asT u=some x):Rep E.S E.w v x:=by
 cases h with
 |t v c h=>simp [asT] at b;subst b;exact h
 |own v r e size xs h=>simp [asT] at b;subst b;exact h.rep
 |full a len size xs h=>simp [asT] at b;subst b;exact h
 |_=>cases b
end
section
variable [Glb]{P:Program}
section inv
variable {E:Env}{v:Value}
end inv
def Did(P:Program)(N:Nat)(w0:World)(S0:aa)(o:Oper)(a:Act)(E:Env)(b:St):Prop:=
 ∃(nx:Next) (v:Value) (c:Env),(execOp a.eval o).run P E.w= .ok nx c.w/\(nx= .value v\/(nx= .skip/\v=undef))/\SR N w0 S0 c b (a.put o.dst v).tmps
theorem aj{N:Nat}{w0:World}{S0:aa}{o:Oper}{a:Act}{E:Env}{st:St}(h:SR N w0 S0 E st a.tmps)(hd:ay N o.dst){v:Value}{u:V}{rd:List Nat}
  (b:(execOp a.eval o).run P E.w= .ok (.value v) E.w) (c:VR E v u):Did P N w0 S0 o a E (st.app o.dst {val:=u,rd:=rd }):=
 ⟨_,v,E,b,.inl rfl,h.cL hd c⟩
def Sound(P:Program)(N:Nat)(w0:World)(S0:aa)(o:Oper)(a:Act)(E:Env)(st:St):cA->Prop
 |.no=>True
 |.yes e=>Did P N w0 S0 o a E (st.app o.dst e)
 |.need c e=>c->Did P N w0 S0 o a E (st.app o.dst e)
 |.alt c b f=>c->Did P N w0 S0 o a E (st.app o.dst (f b))
 |.eq c t f=>c->Did P N w0 S0 o a E (st.app o.dst (f t))
section ops
variable {N:Nat}{w0:World}{S0:aa}{o:Oper}{a:Act}{E:Env}{st:St}
theorem qW(f:BinOp)(k e:IntKind)(x y:Int)(t ty:TypeId)(h:SR N w0 S0 E st a.tmps)(hd:ay N o.dst)(X Y:Operand)(s:o.op= .binOp f t X Y ty)(n:a.eval X= .int k x)(p:a.eval Y= .int e y):
  Sound P N w0 S0 o a E st (oE f k e x y):=by
 have j: ∀r:Value,(binOp f t (.int k x) (.int e y)).run P E.w= .ok r E.w->(execOp a.eval o).run P E.w= .ok (.value r) E.w:=fun r i=>by
  unfold execOp;simp only [s,n,p];have q:eqGuard f t X Y (.int k x) (.int e y)=pure ():=by cases f <;> rfl
  simp [q,i]
 have b: ∀r:T,(∀ S w, ∃v,Rep S w v r/\(binOp f t (.int k x) (.int e y)).run P E.w= .ok v E.w)->Did P N w0 S0 o a E (st.app o.dst {val:=.t r }):=fun r i=>by
  obtain ⟨v,l,m⟩:=i E.S E.w;exact aj h hd (j v m) (.t _ _ l)
 have d: ∀(r:cA),(k=e->Sound P N w0 S0 o a E st r)->Sound P N w0 S0 o a E st (if k≠e then cA.no else r):=fun r i=>by
  by_cases c:k=e
  ·simp only [ne_eq,c,not_true_eq_false,if_false];exact i c
  ·simp only [ne_eq,c,not_false_eq_true,if_true];trivial
 unfold oE;cases f with
 |shl=>
  intro g;exact b _ fun S w=>⟨_,.int _ _,by simp [binOp,Op.shift,if_neg (show ¬y<0 by omega)]⟩
 |shr=>
  intro g;exact b _ fun S w=>⟨_,.int _ _,by simp [binOp,Op.shift,if_neg (show ¬y<0 by omega)]⟩
 |add=>exact d _ fun c=>by subst c;exact b _ fun S w=>⟨_,.int _ _,by simp [binOp,Op.intArith]⟩
 |sub=>exact d _ fun c=>by subst c;exact b _ fun S w=>⟨_,.int _ _,by simp [binOp,Op.intArith]⟩
 |mul=>exact d _ fun c=>by subst c;exact b _ fun S w=>⟨_,.int _ _,by simp [binOp,Op.intArith]⟩
 |quo=>exact d _ fun c=>by subst c;intro g;exact b _ fun S w=>⟨_,.int _ _,by simp [binOp,Op.intDiv,if_neg g]⟩
 |rem=>exact d _ fun c=>by subst c;intro g;exact b _ fun S w=>⟨_,.int _ _,by simp [binOp,Op.intDiv,if_neg g]⟩
 |and=>exact d _ fun c=>by subst c;exact b _ fun S w=>⟨_,.int _ _,by simp [binOp];rfl⟩
 |or=>exact d _ fun c=>by subst c;exact b _ fun S w=>⟨_,.int _ _,by simp [binOp];rfl⟩
 |xor=>exact d _ fun c=>by subst c;exact b _ fun S w=>⟨_,.int _ _,by simp [binOp];rfl⟩
 |andNot=>exact d _ fun c=>by subst c;exact b _ fun S w=>⟨_,.int _ _,by simp [binOp];rfl⟩
 |eql=>exact d _ fun c=>by subst c;intro _;exact b _ fun S w=>⟨_,.bool _,by simp [binOp,Op.intCmp]⟩
 |neq=>exact d _ fun c=>by subst c;intro _;exact b _ fun S w=>⟨_,.bool _,by simp [binOp,Op.intCmp]⟩
 |lss=>exact d _ fun c=>by subst c;intro _;exact b _ fun S w=>⟨_,.bool _,by simp [binOp,Op.intCmp]⟩
 |leq=>exact d _ fun c=>by subst c;intro _;exact b _ fun S w=>⟨_,.bool _,by simp [binOp,Op.intCmp]⟩
 |gtr=>exact d _ fun c=>by subst c;intro _;exact b _ fun S w=>⟨_,.bool _,by simp [binOp,Op.intCmp]⟩
 |geq=>exact d _ fun c=>by subst c;intro _;exact b _ fun S w=>⟨_,.bool _,by simp [binOp,Op.intCmp]⟩
theorem qX(c:BinOp)(x y:ByteArray)(t ty:TypeId)(h:SR N w0 S0 E st a.tmps)(hd:ay N o.dst)(X Y:Operand)(l:o.op= .binOp c t X Y ty)(i:a.eval X= .string x)(j:a.eval Y= .string y):
  Sound P N w0 S0 o a E st (oG c x y):=by
 have e: ∀r:Value,(binOp c t (.string x) (.string y)).run P E.w= .ok r E.w->(execOp a.eval o).run P E.w= .ok (.value r) E.w:=fun r d=>by
  unfold execOp;simp only [l,i,j];have k:eqGuard c t X Y (.string x) (.string y)=pure ():=by cases c <;> rfl
  simp [k,d]
 have b: ∀r:T,(∀ S w, ∃v,Rep S w v r/\(binOp c t (.string x) (.string y)).run P E.w= .ok v E.w)->Did P N w0 S0 o a E (st.app o.dst {val:=.t r }):=fun r d=>by
  obtain ⟨v,f,g⟩:=d E.S E.w;exact aj h hd (e v g) (.t _ _ f)
 unfold oG;cases c with
 |add=>exact fun m=>b _ fun S w=>⟨_,.str _,by simp only [binOp,Op.stringOp,if_neg (show ¬(((x.size+y.size:Nat):Int)>IntKind.i64.max) by omega)];rfl⟩
 |eql=>exact fun _=>b _ fun S w=>⟨_,.bool _,by simp [binOp,Op.stringOp]⟩
 |neq=>exact fun _=>b _ fun S w=>⟨_,.bool _,by simp [binOp,Op.stringOp]⟩
 |lss=>exact fun _=>b _ fun S w=>⟨_,.bool _,by simp [binOp,Op.stringOp]⟩
 |leq=>exact fun _=>b _ fun S w=>⟨_,.bool _,by simp [binOp,Op.stringOp]⟩
 |gtr=>exact fun _=>b _ fun S w=>⟨_,.bool _,by simp only [binOp,Op.stringOp];rfl⟩
 |geq=>exact fun _=>b _ fun S w=>⟨_,.bool _,by simp [binOp,Op.stringOp]⟩
 |_=>trivial
end ops
end
end Go.DL
end
section
namespace Go.DL
open Go.RowKit
section
variable [Glb]{P:Program}{N:Nat}{w0:World}{S0:aa}{o:Oper}{a:Act}{E:Env}{st:St}
end
section
variable {P:Program}{N:Nat}{w0:World}{S0:aa}{o:Oper}{a:Act}{E:Env}{st:St}
theorem fT{t:TypeId}{d:TypeDesc}(h:P.underlying t=some d)(w:World):(isAgg t).run P w= .ok (au P t) w:=by
 unfold isAgg au;rw [Sem.run_bind,run_underlying h w];simp only [Result.andThen_ok,h];cases d <;> rfl
theorem run_sizeOf{t:TypeId}{i:TypeInfo}(h:P.info? t=some i)(w:World):(sizeOf t).run P w= .ok i.size w:=by
 simp [sizeOf,typeInfo,h]
theorem bq(b o n:Nat):(⟨b,o,none⟩:Addr).add n=⟨b,o+n,none⟩:=by unfold Addr.add;split <;> simp_all
theorem cm{t:TypeId}{d:TypeDesc}{i:TypeInfo}(h:P.underlying t=some d)(hi:P.info? t=some i)(e:au P t=true)(w:World)(b off:Nat)(cs:List Value)
  (f:cs.length=i.size) (c: ∀(j:Nat) (v:Value),cs[j]? =some v->w.cell? ⟨b,off+j,none⟩=some v):(loadVar t ⟨b,off,none⟩).run P w= .ok (.agg cs.toArray) w:=by
 have:=run_loadCells_list (P:=P) w ⟨b,off,none⟩ cs (fun j v g=>by rw [bq];exact c j v g)
 rw [f] at this;simp [loadVar,fT h,e,run_sizeOf hi,this]
theorem bc{t:TypeId}{d:TypeDesc}(h:P.underlying t=some d)(c:au P t=false)(w:World)(a:Addr)(v:Value)(b:w.cell? a=some v):(loadVar t a).run P w= .ok v w:=by
 simp [loadVar,fT h,c,b]
theorem cj{t:TypeId}{A:Operand}(d:o.op= .load t A){b:Addr}(c:a.eval A= .pointer (some b)){w:World}{v:Value}(e:(loadVar t b).run P w= .ok v w):
  (execOp a.eval o).run P w= .ok (.value v) w:=by
 unfold execOp;simp [d,c,Instr.loadAt,Instr.sureAddr,e]
theorem eu{S:ar}{w:World}{cs:List Value}{ts:List T}(h: ∀(i:Nat) (x:Value) (t:T),cs[i]? =some x->ts[i]? =some t->Rep S w x t/\t.one=true)(d:cs.length=ts.length):
  Rep S w (.agg cs.toArray) (.agg ts):=by
 refine .agg _ _ (by simpa using d) (fun t c=>?_) (fun i x t e c=>(h i x t (by simpa using e) c).1);obtain ⟨i,hi⟩:=List.mem_iff_getElem?.1 c;have b:i<cs.length:=by rw [d];exact (gsZ hi).1
 exact (h i _ t (ggZ b) hi).2
theorem aH{α:Type}(l:List α)(off n j:Nat):((l.drop off).take n)[j]? =if j<n then l[off+j]? else none:=by
 rw [List.getElem?_take];split
 ·rw [List.getElem?_drop]
 ·rfl
theorem lp: ∀{vs:List V} {ts:List T},eO vs=some ts->vs.length=ts.length/\ ∀(j:Nat) (u:V) (t:T),vs[j]? =some u->ts[j]? =some t->asT u=some t
 |[],ts,h=>by cases h;exact ⟨rfl,fun j u t b=>by simp at b⟩
 |v::vs,ts,h=>by
  unfold eO at h;split at h
  ·rename_i x xs g d;cases h;obtain ⟨e,f⟩:=lp d;refine ⟨by simp [e],fun j u t b c=>?_⟩;cases j with
   |zero=>simp at b c;subst b;subst c;exact g
   |succ j=>exact f j u t (by simpa using b) (by simpa using c)
  ·cases h
theorem Rep.kV{S:ar}{w:World}{v:Value}{t:T}(h:Rep S w v t)(b:v.oneCell'=true):t.one=true:=by
 cases h <;> first|rfl|simp [Value.oneCell'] at b
end
section
variable [Glb]{P:Program}{N:Nat}{w0:World}{S0:aa}{o:Oper}{a:Act}{E:Env}{st:St}
theorem nH(h:SR N w0 S0 E st a.tmps)(hd:ay N o.dst){t:TypeId}{A:Operand}(B:o.op= .load t A){d:TypeDesc}{i:TypeInfo}(C:P.underlying t=some d)(hi:P.info? t=some i)
  (Z:au P t=true\/i.size=1) {b off:Nat} (z:a.eval A= .pointer (some ⟨E.κ b,off,none⟩)) {bx:BX} (R:st.bx b=some bx):
  Sound P N w0 S0 o a E st (eX b bx off i.size (au P t)):=by
 have O:=h.bx b bx R;cases I:bx.isM with
 |true=>cases bx <;> first|trivial|cases I
 |false=>
 obtain ⟨cs,e,T,S⟩:=O.cells I;have c: ∀j,E.w.cell? ⟨E.κ b,j,none⟩=cs[j]? :=fun j=>cell_of_row _ _ _ _ _ _ T
 cases S with
 |d m ts U L s=>
  unfold eX mi;cases l:au P t with
  |true=>
   have y:off+i.size<=m->Did P N w0 S0 o a E (st.app o.dst (aW [b] (.agg ((ts.drop off).take i.size)))):=fun V=>by
    have n:((cs.toList.drop off).take i.size).length=i.size:=by simp;omega
    refine aj h hd (cj B z (cm C hi l _ _ _ ((cs.toList.drop off).take i.size) n fun j v f=>?_)) (.t _ _ (eu (fun j x u r k=>?_) ?_))
    ·rw [aH] at f;split at f
     ·rw [c];simpa using f
     ·cases f
    ·rw [aH] at r k;split at r
     ·rename_i f;rw [if_pos f] at k;exact s (off+j) x u (by simpa using r) k
     ·cases r
    ·rw [n];simp [U];omega
   simp only;cases q:(Nat.beq off 0&&Nat.beq m i.size) with
   |true=>
    simp only [Bool.and_eq_true] at q;have F:off=0:=Nat.eq_of_beq_eq_true q.1;have hm:m=i.size:=Nat.eq_of_beq_eq_true q.2
    have:=y (by omega)
    rw [F,List.drop_zero,List.take_of_length_le (by omega)] at this;exact this
   |false=>exact y
  |false=>
   intro g;have H:off<cs.size:=by omega
   have D:E.w.cell? ⟨E.κ b,off,none⟩=some cs[off]:=by rw [c];simp [H]
   have W:ts[off]? =some (ts[off]?.getD .nil):=by
    have:off<ts.length:=by omega
    simp [this]
   exact aj h hd (cj B z (bc C l _ _ _ D)) (.t _ _ (s off _ _ (by simp [H]) W).1)
 |v vs L s=>
  unfold eX;cases l:au P t with
  |true=>
   simp only;cases Q:eO ((vs.drop off).take i.size) with
   |none=>trivial
   |some ts=>
   simp only;cases q:Nat.beq ts.length i.size with
   |false=>trivial
   |true=>
   have q:=Nat.eq_of_beq_eq_true q;obtain ⟨X,Y⟩:=lp Q;rw [List.length_take,List.length_drop,q] at X;simp only [cond_true];have n:((cs.toList.drop off).take i.size).length=i.size:=by simp;omega
   refine aj h hd (cj B z (cm C hi l _ _ _ ((cs.toList.drop off).take i.size) n fun j v f=>?_)) (.t _ _ (eu (fun j x u r k=>?_) ?_))
   ·rw [aH] at f;split at f
    ·rw [c];simpa using f
    ·cases f
   ·have p:=r;rw [aH] at p;split at p
    ·rename_i f;have g:off+j<vs.length:=by
      have:=(gsZ k).1
      omega
     have G:((vs.drop off).take i.size)[j]? =some vs[off+j]:=by rw [aH,if_pos f];exact ggZ g
     have K:=s (off+j) x _ (by simpa using p) (ggZ g);have J:=aD K.1 (Y j _ u G k);exact ⟨J,J.kV K.2⟩
    ·cases p
   ·rw [n,q]
  |false=>
   simp only;cases M:vs[off]? with
   |none=>trivial
   |some u=>
    have g:off<cs.size:=Nat.lt_of_lt_of_le (gsZ M).1 L;have D:E.w.cell? ⟨E.κ b,off,none⟩=some cs[off]:=by rw [c];simp [g]
    exact aj h hd (cj B z (bc C l _ _ _ D)) (s off _ _ (by simp [g]) M).1
theorem iF(h:SR N w0 S0 E st a.tmps)(hd:ay N o.dst){t:TypeId}{A:Operand}(s:o.op= .load t A){d:TypeDesc}{i:TypeInfo}(y:P.underlying t=some d)(hi:P.info? t=some i)
  (J:au P t=true\/i.size=1) {cs:List T} {off:Nat} (q:Rep E.S E.w (a.eval A) (.cptr cs off)):
  Sound P N w0 S0 o a E st (match au P t with
   |true=>cond (Nat.beq off 0) (.eq (cs.length=i.size) (.agg cs) (aW [])) (.eq (off+i.size<=cs.length) (.agg ((cs.drop off).take i.size)) (aW []))
   |false=>.eq (off<cs.length) (cs[off]?.getD .nil) (aW [])):=by
 generalize z:a.eval A=v at q;cases q with
 |cptr b B _ _ g C r p=>
  cases k:au P t with
  |true=>
   have f:off+i.size<=cs.length->Did P N w0 S0 o a E (st.app o.dst (aW [] (.agg ((cs.drop off).take i.size)))):=fun G=>by
    refine aj h hd (cj s z (cm y hi k _ _ _ ((List.range i.size).map fun j=>g (off+j)) (by simp) fun j v l=>?_)) (.t _ _ (eu (fun j x u n e=>?_) ?_))
    ·have c:j<i.size:=by simpa using (gsZ l).1
     simp [c] at l
     have:=(r (off+j) (by omega)).1
     rw [show B+off+j=B+(off+j) by omega,this,l]
    ·have c:j<i.size:=by simpa using (gsZ n).1
     simp [c] at n;rw [aH,if_pos c] at e;subst n;exact ⟨p _ _ e,C _ (List.mem_of_getElem? e)⟩
    ·simp;omega
   simp only;cases I:Nat.beq off 0 with
   |true=>
    intro F;have m:off=0:=Nat.eq_of_beq_eq_true I
    have:=f (by omega)
    rw [m,List.drop_zero,List.take_of_length_le (by omega)] at this;exact this
   |false=>exact f
  |false=>
   intro c;have D:=(r off c).1;have H:cs[off]? =some (cs[off]?.getD .nil):=by simp [c]
   exact aj h hd (cj s z (bc y k _ _ _ D)) (.t _ _ (p off _ H))
theorem rh(h:SR N w0 S0 E st a.tmps)(hd:ay N o.dst){t:TypeId}{A:Operand}(F:o.op= .load t A){x:DOp}(n:ah P o.op=some x):Sound P N w0 S0 o a E st (eff x (st.nm o.dst) st.sl st.bx):=by
 rw [F] at n;simp only [ah] at n;split at n
 ·rename_i d i y I hi hy;have l:au P t=true\/i.size=1:=by
   cases R:(au P t||Nat.beq i.size 1) with
   |false=>rw [R] at n;cases n
   |true=>
    rw [Bool.or_eq_true] at R;exact R.imp id Nat.eq_of_beq_eq_true
  have R:(au P t||Nat.beq i.size 1)=true:=by
   rcases l with l|l <;> simp [l]
  rw [R] at n;simp only [cond_true,Option.some.injEq] at n;subst n;have B:=af h.sl hy;unfold eff;simp only;cases Y:ev st.sl y with
  |ptr b off=>
   rw [Y] at B;obtain ⟨hp,_⟩:=B.bh;simp only;cases hb:st.bx b with
   |none=>trivial
   |some bx=>exact nH h hd F I hi l hp hb
  |t v=>
   rw [Y] at B;cases v with
   |cptr cs off=>exact iF h hd F I hi l B.ax
   |glob g off=>
    simp only;cases hg:Glb.gs g with
    |none=>trivial
    |some cs=>
     have z:=B.ax;have hA:Rep E.S E.w (a.eval A) (.cptr cs off):=by
      generalize a.eval A=v at z;cases z;exact h.jq.rep hg off
     exact iF h hd F I hi l hA
   |knot f pre Z=>
    simp only;cases m:au P t with
    |true=>trivial
    |false=>
     have z:=B.ax;generalize G:a.eval A=v at z;cases z with
     |knot b o' _ H c2 _ _ j r hg p q=>
      refine aj h hd (cj F G (bc I m _ _ _ hg.1)) (.t _ _ (.clos f _ _ (by simp [j,r];omega) fun i x u k e=>?_))
      by_cases C:i<H.size
      ·rw [Array.getElem?_append_left (by simp;omega),Array.getElem?_append_left C] at k;rw [List.getElem?_append_left (by simp;omega),List.getElem?_append_left (by omega)] at e;exact p i x u k e
      ·by_cases D:i=H.size
       ·subst D;rw [Array.getElem?_append_left (by simp),Array.getElem?_append_right (by simp)] at k;rw [List.getElem?_append_left (by simp [j]),List.getElem?_append_right (by omega)] at e;simp [j] at k e;subst k;subst e;exact .knot b o' f H c2 pre Z j r hg p q
       ·rw [Array.getElem?_append_right (by simp;omega)] at k;rw [List.getElem?_append_right (by simp;omega)] at e;simp at k e;rw [<- j] at e;exact q _ x u k e
   |wrld O J L Q K M off=>
    simp only;cases m:au P t with
    |true=>trivial
    |false=>
     have z:=B.ax;generalize G:a.eval A=v at z;cases z with
     |wrld b o' b' s _ _ _ H d1 c2 d2 _ _ _ _ U W V X hw l h2 r1 r2 r3 r4=>
      have self:Rep E.S E.w (.pointer (some ⟨b',s,none⟩)) (.cptr [.wrld O J L Q K M 0] 0):=by
       have:=Rep.cptr (S:=E.S) (w:=E.w) b' s 0 [.wrld O J L Q K M 0] (fun _=>.pointer (some ⟨b,o',none⟩)) (by simp [T.one])
        (fun i hi=>by
         have:i=0:=by simp at hi;omega
         subst this;exact hw)
        (fun i t ht=>by
         have:i=0:=by have:=(gsZ ht).1;simp at this;omega
         subst this;simp at ht;subst ht;exact .wrld b o' b' s 0 O Q H d1 c2 d2 J L K M U W V X hw l h2 r1 r2 r3 r4)
       exact this
      have split: ∀(f:FuncId) (c d:Array Value) (x y:List T),c.size=x.length->d.size=y.length->(∀ (i:Nat) (v:Value) (t:T),c[i]? =some v->x[i]? =some t->Rep E.S E.w v t)->(∀ (i:Nat) (v:Value) (t:T),d[i]? =some v->y[i]? =some t->Rep E.S E.w v t)->
        Rep E.S E.w (.func (.func f) #[] (c++ #[.pointer (some ⟨b',s,none⟩)]++d)) (.clos f (x++[.cptr [.wrld O J L Q K M 0] 0]++y)):=fun f c d x y j r p q=>by
       refine .clos f _ _ (by simp [j,r];omega) fun i v u k e=>?_
       by_cases C:i<c.size
       ·rw [Array.getElem?_append_left (by simp;omega),Array.getElem?_append_left C] at k;rw [List.getElem?_append_left (by simp;omega),List.getElem?_append_left (by omega)] at e;exact p i v u k e
       ·by_cases D:i=c.size
        ·subst D;rw [Array.getElem?_append_left (by simp),Array.getElem?_append_right (by simp)] at k;rw [List.getElem?_append_left (by simp [j]),List.getElem?_append_right (by omega)] at e;simp [j] at k e;subst k;subst e;exact self
        ·rw [Array.getElem?_append_right (by simp;omega)] at k;rw [List.getElem?_append_right (by simp;omega)] at e;simp at k e;rw [<- j] at e;exact q _ v u k e
      match off,G with
      |0,G=>exact aj h hd (cj F G (bc I m _ _ _ l.1)) (.t _ _ (split O H d1 J L U W r1 r2))
      |1,G=>exact aj h hd (cj F G (bc I m _ _ _ h2.1)) (.t _ _ (split Q c2 d2 K M V X r3 r4))
      |_+2,_=>trivial
   |_=>trivial
  |_=>trivial
 ·cases n
end
end Go.DL
end
section
namespace Go.DL
open Go.RowKit
section
variable [Glb]{P:Program}{N:Nat}{w0:World}{S0:aa}{o:Oper}{a:Act}{E:Env}{st:St}
end
section
variable {P:Program}{N:Nat}{w0:World}{S0:aa}{o:Oper}{a:Act}{E:Env}{st:St}
theorem gC{d:Option Nat}{v:V}{n:Nat}{c:BX}{rd:List Nat}:st.app d {val:=v,wr:=some (n,c),rd:=rd }=({st with bx:=upd st.bx n (some c)}:St).set d v:=by
 cases d <;> rfl
theorem VR.one{v:Value}{u:V}(h:VR E v u)(j: ∀x,u≠ .t x)(i:u≠ .top)(f: ∀vs,u≠ .tup vs)(d: ∀vs,u≠ .agv vs):v.oneCell'=true:=by
 cases h with
 |top=>exact absurd rfl i
 |t v x h=>exact absurd rfl (j x)
 |tup cs vs=>exact absurd rfl (f vs)
 |agv cs vs=>exact absurd rfl (d vs)
 |raw v b=>exact b
 |own v r e size xs h=>
  obtain ⟨cells,b,_,_⟩:=h.ex;rcases b.2 with ⟨rfl,_⟩|⟨g,cap,c,rfl,_⟩ <;> rfl
 |_=>rfl
theorem VR.pj{v:Value}{u:V}(h:VR E v u)(e: ∀x,u≠ .t x)(d:u≠ .top)(c: ∀vs,u≠ .tup vs)(b: ∀vs,u≠ .agv vs):v.cells= #[v]:=by
 have:=h.one e d c b
 cases v <;> first|rfl|simp [Value.oneCell'] at this
theorem oN{t:TypeId}{A X:Operand}(d:o.op= .store t A X){b:Addr}(c:a.eval A= .pointer (some b)){i:TypeInfo}(hi:P.info? t=some i){w w':World}(f:(a.eval X).cells.size=i.size)
  (e:(storeCells b (a.eval X).cells.toList).run P w= .ok () w'):(execOp a.eval o).run P w= .ok .skip w':=by
 unfold execOp;simp [d,c,Instr.storeAt,Instr.sureAddr,storeVar,run_sizeOf hi,f,e]
theorem bG{α:Type}(cs:List α)(off n:Nat)(vs:List α)(d:vs.length=n)(e:off+n<=cs.length)(j:Nat):
  (aP cs off n vs)[j]? =if j<off then cs[j]? else if j<off+n then vs[j - off]? else cs[j]? :=by
 unfold aP;rw [List.getElem?_append,List.length_take,Nat.min_eq_left (by omega)]
 by_cases b:j<off
 ·rw [if_pos b,if_pos b,List.getElem?_take,if_pos b]
 ·rw [if_neg b,if_neg b,List.getElem?_append,d]
  by_cases c:j<off+n
  ·rw [if_pos (by omega),if_pos c]
  ·rw [if_neg (by omega),if_neg c,List.getElem?_drop]
   congr 1;omega
theorem bP{α:Type}(cs:List α)(off n:Nat)(vs:List α)(b:vs.length=n)(c:off+n<=cs.length):(aP cs off n vs).length=cs.length:=by
 unfold aP;simp [b];omega
end
section
variable [Glb]{P:Program}{N:Nat}{w0:World}{S0:aa}{o:Oper}{a:Act}{E:Env}{st:St}
theorem fJ(h:SR N w0 S0 E st a.tmps)(hd:ay N o.dst){t:TypeId}{A X:Operand}(y:o.op= .store t A X){i:TypeInfo}(hi:P.info? t=some i)
  {b off:Nat} (r:a.eval A= .pointer (some ⟨E.κ b,off,none⟩)) {bx:BX} (m:st.bx b=some bx) (l:bx.isM=false) (vs:List Value) (d:(a.eval X).cells.toList=vs) (c:vs.length=i.size) (q: ∀v∈vs,v.oneCell'=true)
  (f:BX) (p: ∀cs:Array Value,cM E cs bx->off+vs.length<=cs.size/\ ∀k,Grow E k->cM k (cs.toList.take off++vs++cs.toList.drop (off+vs.length)).toArray f) {rd:List Nat}:
  Did P N w0 S0 o a E (st.app o.dst {val:=.top,wr:=some (b,f),rd:=rd }):=by
 have s:=h.bx b bx m;obtain ⟨cs,e,x,u⟩:=s.cells l;obtain ⟨z,g⟩:=p cs u;have n:=run_storeCells_at P (E.κ b) off e vs 0 cs E.w x (by omega) q;simp only [Nat.add_zero] at n;have j:(a.eval X).cells.size=i.size:=by rw [<- c, <-d];simp
 refine ⟨.skip,undef,{E with w:=E.w.setRow (E.κ b) (cs.toList.take off++vs++cs.toList.drop (off+vs.length)).toArray },oN y r hi j (by rw [d];exact n),.inr ⟨rfl,rfl⟩,?_⟩;rw [gC];exact (h.write m l _ f g).cL hd (.top _)
end
section
variable {P:Program}{N:Nat}{w0:World}{S0:aa}{o:Oper}{a:Act}{E:Env}{st:St}
theorem bC(cs:List Value)(off:Nat)(vs:List Value)(b:off+vs.length<=cs.length)(j:Nat):
  (cs.take off++vs++cs.drop (off+vs.length))[j]? =if j<off then cs[j]? else if j<off+vs.length then vs[j - off]? else cs[j]? :=by
 have:=bG cs off vs.length vs rfl b j
 unfold aP at this;rw [<- List.append_assoc] at this;exact this
end
section
variable [Glb]{P:Program}{N:Nat}{w0:World}{S0:aa}{o:Oper}{a:Act}{E:Env}{st:St}
theorem qc(h:SR N w0 S0 E st a.tmps)(hd:ay N o.dst){t:TypeId}{A X:Operand}(Z:o.op= .store t A X){x:DOp}(U:ah P o.op=some x):Sound P N w0 S0 o a E st (eff x (st.nm o.dst) st.sl st.bx):=by
 rw [Z] at U;simp only [ah] at U;split at U
 ·rename_i i y z hi hy hz;simp only [Option.some.injEq] at U;subst U;have Y:=af h.sl hy;have q:=af h.sl hz;unfold eff;simp only;cases hev:ev st.sl y with
  |ptr b off=>
   rw [hev] at Y;obtain ⟨hp,_⟩:=Y.bh;simp only;cases W:st.bx b with
   |none=>trivial
   |some bx=>
    simp only;cases C:bx.isM with
    |true=>cases bx <;> first|trivial|cases C
    |false=>
    have oneD: ∀(m:Nat) (ts:List T) (u:T),bx= .d m ts->Rep E.S E.w (a.eval X) u->u.one=true->i.size=1->off<m->Did P N w0 S0 o a E (st.app o.dst {val:=.top,wr:=some (b,.d m (ts.set off u)),rd:=[b]}):=by
     intro m ts u p s Q I k;have M:(a.eval X).cells.toList=[a.eval X]:=by rw [s.cells_one Q]
     refine fJ h hd Z hi hp W C [a.eval X] M (by simp [I]) (by simp;exact s.one Q) _ (fun cs K=>?_);subst p;cases K with
     |d _ _ H O B=>
      refine ⟨by simp;omega,fun E' g=>?_⟩;refine .d m _ (by simp [H]) (by simp;omega) (fun j v w c f=>?_);rw [List.getElem?_toArray,bC _ _ _ (by simp;omega)] at c;rw [List.getElem?_set] at f
      by_cases G:j=off
      ·subst G;simp at c f;have J:u=w:=f.2;subst J;subst c;exact ⟨g.rep s,Q⟩
      ·rw [if_neg (show ¬off=j from fun e=>G e.symm)] at f
       by_cases r:j<off
       ·rw [if_pos r] at c
        have:=B j v w (by simpa using c) f
        exact ⟨g.rep this.1,this.2⟩
       ·rw [if_neg r,if_neg (by simp;omega)] at c
        have:=B j v w (by simpa using c) f
        exact ⟨g.rep this.1,this.2⟩
    have et: ∀(vs:List V) (u:V),(bx= .v vs\/ ∃m ts,bx= .d m ts/\vs=ts.map .t)->VR E (a.eval X) u->(a.eval X).oneCell'=true->i.size=1->off<vs.length->
      Did P N w0 S0 o a E (st.app o.dst {val:=.top,wr:=some (b,.v (vs.set off u)),rd:=[b]}):=by
     intro vs u p s n I k;have M:(a.eval X).cells.toList=[a.eval X]:=by
      have:(a.eval X).cells= #[a.eval X]:=by
       revert n
       cases a.eval X <;> intro n <;> first|rfl|simp [Value.oneCell'] at n
      rw [this]
     refine fJ h hd Z hi hp W C [a.eval X] M (by simp [I]) (by simp;exact n) _ (fun cs K=>?_);have hc':vs.length<=cs.size/\ ∀(i:Nat) (x:Value) (u:V),cs[i]? =some x->vs[i]? =some u->VR E x u/\x.oneCell'=true:=by
      rcases p with rfl|⟨m,ts,rfl,rfl⟩
      ·cases K with
       |v _ r L=>exact ⟨r,L⟩
      ·cases K with
       |d _ _ r L h3=>
        refine ⟨by simp;omega,fun j v w c f=>?_⟩;simp only [List.getElem?_map,Option.map_eq_some_iff] at f;obtain ⟨t',ht',rfl⟩:=f
        have:=h3 j v t' c ht'
        exact ⟨.t _ _ this.1,this.1.one this.2⟩
     obtain ⟨O,B⟩:=hc';refine ⟨by simp;omega,fun E' g=>?_⟩;refine .v _ (by simp;omega) (fun j v w c f=>?_);rw [List.getElem?_toArray,bC _ _ _ (by simp;omega)] at c;rw [List.getElem?_set] at f
     by_cases G:j=off
     ·subst G;simp at c f;have J:u=w:=f.2;subst J;subst c;exact ⟨s.grow g,n⟩
     ·rw [if_neg (show ¬off=j from fun e=>G e.symm)] at f
      by_cases r:j<off
      ·rw [if_pos r] at c
       have:=B j v w (by simpa using c) f
       exact ⟨this.1.grow g,this.2⟩
      ·rw [if_neg r,if_neg (by simp;omega)] at c
       have:=B j v w (by simpa using c) f
       exact ⟨this.1.grow g,this.2⟩
    have many: ∀(m:Nat) (ts cs:List T),bx= .d m ts->Rep E.S E.w (a.eval X) (.agg cs)->cs.length=i.size/\off+i.size<=m->Did P N w0 S0 o a E (st.app o.dst {val:=.top,wr:=some (b,.d m (aP ts off i.size cs)),rd:=[b]}):=by
     rintro m ts us p s ⟨l,hle⟩;obtain ⟨D,F⟩:=s.cells (fun ts e=>by cases e);have D:(a.eval X).cells.size=us.length:=D;refine fJ h hd Z hi hp W C (a.eval X).cells.toList rfl (by simp;omega) (fun v c=>?_) _ (fun cs K=>?_)
     ·obtain ⟨j,G⟩:=List.mem_iff_getElem?.1 c;have k:j<us.length:=by
       have:=(gsZ G).1
       simp at this;omega
      have:=F j v us[j] (by simpa using G) (ggZ k)
      exact this.1.one this.2
     ·subst p;cases K with
      |d _ _ H O B=>
       refine ⟨by simp;omega,fun E' g=>?_⟩;have hL:(a.eval X).cells.toList.length=i.size:=by simp;omega
       refine .d m _ (by rw [bP _ _ _ _ l (by omega)];exact H) (by simp;omega) (fun j v w c f=>?_);rw [List.getElem?_toArray,bC _ _ _ (by simp;omega)] at c;rw [bG _ _ _ _ l (by omega)] at f
       by_cases r:j<off
       ·rw [if_pos r] at c f
        have:=B j v w (by simpa using c) f
        exact ⟨g.rep this.1,this.2⟩
       ·rw [if_neg r] at c f
        by_cases L:j<off+i.size
        ·rw [if_pos (by omega)] at c;rw [if_pos L] at f
         have:=F (j - off) v w (by simpa using c) f
         exact ⟨g.rep this.1,this.2⟩
        ·rw [if_neg (by omega)] at c;rw [if_neg L] at f
         have:=B j v w (by simpa using c) f
         exact ⟨g.rep this.1,this.2⟩
    have R: ∀(vs:List V) (cs:List T),bx= .v vs->Rep E.S E.w (a.eval X) (.agg cs)->cs.length=i.size/\off+i.size<=vs.length->Did P N w0 S0 o a E (st.app o.dst {val:=.top,wr:=some (b,.v (aP vs off i.size (cs.map .t))),rd:=[b]}):=by
     rintro vs us p s ⟨l,hle⟩;obtain ⟨D,F⟩:=s.cells (fun ts e=>by cases e);have D:(a.eval X).cells.size=us.length:=D;refine fJ h hd Z hi hp W C (a.eval X).cells.toList rfl (by simp;omega) (fun v c=>?_) _ (fun cs K=>?_)
     ·obtain ⟨j,G⟩:=List.mem_iff_getElem?.1 c;have k:j<us.length:=by
       have:=(gsZ G).1
       simp at this;omega
      have:=F j v us[j] (by simpa using G) (ggZ k)
      exact this.1.one this.2
     ·subst p;cases K with
      |v _ O B=>
       refine ⟨by simp;omega,fun E' g=>?_⟩;have hL:(a.eval X).cells.toList.length=i.size:=by simp;omega
       refine .v _ (by rw [bP _ _ _ _ (by simpa using l) (by omega)];simp;omega) (fun j v w c f=>?_);rw [List.getElem?_toArray,bC _ _ _ (by simp;omega)] at c;rw [bG _ _ _ _ (by simpa using l) (by omega)] at f
       by_cases r:j<off
       ·rw [if_pos r] at c f
        have:=B j v w (by simpa using c) f
        exact ⟨this.1.grow g,this.2⟩
       ·rw [if_neg r] at c f
        by_cases L:j<off+i.size
        ·rw [if_pos (by omega)] at c;rw [if_pos L] at f;simp only [List.getElem?_map,Option.map_eq_some_iff] at f;obtain ⟨w',J,rfl⟩:=f
         have:=F (j - off) v w' (by simpa using c) J
         exact ⟨.t _ _ (g.rep this.1),this.1.one this.2⟩
        ·rw [if_neg (by omega)] at c;rw [if_neg L] at f
         have:=B j v w (by simpa using c) f
         exact ⟨this.1.grow g,this.2⟩
    cases hx:ev st.sl z with
    |t u=>
     rw [hx] at q;have s:=q.ax;cases bx with
     |m _ _ _ _=>cases C
     |it _ _ _ _=>cases C
     |itd _ _=>cases C
     |d m ts=>
      cases u with
      |tup _=>trivial
      |agg cs=>exact many m ts cs rfl s
      |_=>
       unfold gP;simp only;cases I:Nat.beq i.size 1 with
       |false=>trivial
       |true=>exact fun k=>oneD m ts _ rfl s rfl (Nat.eq_of_beq_eq_true I) k
     |v vs=>
      cases u with
      |tup _=>trivial
      |agg cs=>exact R vs cs rfl s
      |_=>
       unfold gP;simp only;cases I:Nat.beq i.size 1 with
       |false=>trivial
       |true=>exact fun k=>et vs _ (.inl rfl) q (s.one rfl) (Nat.eq_of_beq_eq_true I) k
    |top=>cases bx <;> trivial
    |tup vs=>cases bx <;> trivial
    |agv vs=>cases bx <;> trivial
    |_=>
     rw [hx] at q;have n:=q.one (fun _ e=>by cases e) (fun e=>by cases e) (fun _ e=>by cases e) (fun _ e=>by cases e);cases bx with
     |m _ _ _ _=>cases C
     |it _ _ _ _=>cases C
     |itd _ _=>cases C
     |d m ts=>
      unfold gP;simp only;cases I:Nat.beq i.size 1 with
      |false=>trivial
      |true=>
       intro k;have hm:ts.length=m:=by
        obtain ⟨cs,e,hg,K⟩:=(h.bx b _ W).cells rfl;cases K with
        |d _ _ H _ _=>exact H
       exact et (ts.map .t) _ (.inr ⟨m,ts,rfl,rfl⟩) q n (Nat.eq_of_beq_eq_true I) (by simp;omega)
     |v vs=>
      unfold gP;simp only;cases I:Nat.beq i.size 1 with
      |false=>trivial
      |true=>exact fun k=>et vs _ (.inl rfl) q n (Nat.eq_of_beq_eq_true I) k
  |t v=>trivial
  |_=>trivial
 ·cases U
end
end Go.DL
end
section
namespace Go.DL
open Go.RowKit
section
variable [Glb]{P:Program}{N:Nat}{w0:World}{S0:aa}{o:Oper}{a:Act}{E:Env}{st:St}
theorem gF(h:SR N w0 S0 E st a.tmps){d q:Nat}(hd:d<N)(c:o.dst=some d)(g:st.bx q=none)(cs:Array Value)(e:TypeId)(b:BX)(f:cM E cs b){rd:List Nat}
  (i:(execOp a.eval o).run P E.w= .ok (.value (.pointer (some ⟨E.w.heap.size,0,none⟩))) (E.w.alloc (.cells cs e))):
  Did P N w0 S0 o a E (st.app (some d) {val:=.ptr q 0,wr:=some (q,b),rd:=rd }):=by
 refine ⟨_,_,{E with w:=E.w.alloc (.cells cs e),κ:=upd E.κ q E.w.heap.size,live:=upd E.live q true },i,.inl rfl,?_⟩;rw [c];exact h.alloc g cs e b f hd 0
end
section
variable {P:Program}{N:Nat}{w0:World}{S0:aa}{o:Oper}{a:Act}{E:Env}{st:St}
theorem iN{S:ar}{w:World}{v:Value}{t:T}(h:eL v=some t):v.cells.size=t.cells.length/\ ∀(i:Nat) (x:Value) (u:T),v.cells[i]? =some x->t.cells[i]? =some u->Rep S w x u/\u.one=true:=by
 refine (gV h).cells (fun ts e=>?_);subst e;unfold eL at h;split at h
 ·cases b:List.mapM dZ _ with
  |none=>rw [b] at h;cases h
  |some ts=>rw [b] at h;cases h
 ·unfold dZ at h;split at h <;> cases h
theorem dw{t:TypeId}{b:List T}(h:cz P t=some b): ∃i z,P.info? t=some i/\i.zero=some z/\i.size=b.length/\z.cells.size=b.length/\(∀ (S:ar) (w:World) (j:Nat) (x:Value) (u:T),z.cells[j]? =some x->b[j]? =some u->Rep S w x u/\u.one=true)/\
  ∃e,eL z=some e/\e.cells=b:=by
 unfold cz at h;split at h
 ·rename_i i hi;split at h
  ·rename_i z f;split at h
   ·rename_i x d;cases c:Nat.beq x.cells.length i.size with
    |false=>rw [c] at h;cases h
    |true=>
     rw [c] at h;simp only [cond_true,Option.some.injEq] at h;subst h
     have:=Nat.eq_of_beq_eq_true c
     exact ⟨i,z,hi,f,this.symm,(iN (S:=fun _ _=>False) (w:=default) d).1,fun S w=>(iN (S:=S) (w:=w) d).2,x,d,rfl⟩
   ·cases h
  ·cases h
 ·cases h
end
section
variable [Glb]{P:Program}{N:Nat}{w0:World}{S0:aa}{o:Oper}{a:Act}{E:Env}{st:St}
theorem pR(h:SR N w0 S0 E st a.tmps)(hd:ay N o.dst){t:TypeId}(j:o.op= .alloc t){x:DOp}(f:ah P o.op=some x):Sound P N w0 S0 o a E st (eff x (st.nm o.dst) st.sl st.bx):=by
 rw [j] at f;simp only [ah,Option.map_eq_some_iff] at f;obtain ⟨n,m,rfl⟩:=f;obtain ⟨i,z,hi,e,_,g,k,_⟩:=dw m;unfold eff;cases c:o.dst with
 |none=>trivial
 |some d=>
  rw [c] at hd;simp only [St.nm];cases l:st.bx (d+st.off) with
  |some b=>trivial
  |none=>
   show Did P N w0 S0 o a E (st.app o.dst _)
   rw [c];refine gF h hd c l z.cells t _ (.d _ n rfl (Nat.le_of_eq g.symm) (k _ _)) ?_;unfold execOp;simp [j,Instr.alloc,zeroValue,typeInfo,hi,e,newVar,newRow]
theorem r7(h:SR N w0 S0 E st a.tmps)(hd:ay N o.dst){t:TypeId}{X:Operand}(H:o.op= .box t X){x:DOp}(r:ah P o.op=some x):Sound P N w0 S0 o a E st (eff x (st.nm o.dst) st.sl st.bx):=by
 rw [H] at r;simp only [ah] at r;split at r
 ·rename_i i y hi L;simp only [Option.some.injEq] at r;subst r;have k:=af h.sl L;unfold eff;cases m:o.dst with
  |none=>trivial
  |some d=>
   rw [m] at hd;simp only [St.nm];have g:(execOp a.eval o).run P E.w= .ok (.value (.pointer (some ⟨E.w.heap.size,0,none⟩))) (E.w.alloc (.cells (a.eval X).cells t)):=by
    unfold execOp;simp [H,Instr.box,newVar,newRow]
   cases B:st.bx (d+st.off) with
   |some b=>trivial
   |none=>
    have z: ∀u:V,ev st.sl y=u->(∀ x,u≠ .t x)->u≠ .top->(∀ vs,u≠ .tup vs)->(∀ vs,u≠ .agv vs)->Sound P N w0 S0 o a E st (match (none:Option BX),cond (Nat.beq i.size 1) (some (True,BX.v [u])) none with
      |none,some (c,b)=>cA.need c {val:=.ptr (d+st.off) 0,wr:=some (d+st.off,b),rd:=[d+st.off]}
      |_,_=>.no):=by
     intro u K p s D F;rw [K] at k;cases Nat.beq i.size 1 with
     |false=>trivial
     |true=>
      intro _;rw [m];refine gF h hd m B _ t _ (.v _ (by rw [k.pj p s D F];exact Nat.le_refl _) (fun j v w l n=>?_)) g;rw [k.pj p s D F] at l;cases j with
      |zero=>simp at l n;subst l;subst n;exact ⟨k,k.one p s D F⟩
      |succ j=>simp at n
    cases G:ev st.sl y with
    |t u=>
     rw [G] at k;have C:=k.ax;have A:u.one=true->Sound P N w0 S0 o a E st (match (none:Option BX),cond (Nat.beq i.size 1) (some (True,BX.d 1 [u])) none with
      |none,some (c,b)=>cA.need c {val:=.ptr (d+st.off) 0,wr:=some (d+st.off,b),rd:=[d+st.off]}
      |_,_=>.no):=by
      intro q;cases Nat.beq i.size 1 with
      |false=>trivial
      |true=>
       intro _;rw [m];refine gF h hd m B _ t _ (.d 1 [u] rfl (by rw [C.cells_one q];exact Nat.le_refl _) (fun j v w l n=>?_)) g;rw [C.cells_one q] at l;cases j with
       |zero=>simp at l n;subst l;subst n;exact ⟨C,q⟩
       |succ j=>simp at n
     cases u with
     |tup _=>trivial
     |agg cs=>
      intro f;rw [m];obtain ⟨p,s⟩:=C.cells (fun ts e=>by cases e);exact gF h hd m B _ t _ (.d _ cs f (Nat.le_of_eq (p.trans f).symm) s) g
     |_=>exact A rfl
    |top=>trivial
    |tup vs=>trivial
    |agv vs=>
     rw [G] at k;intro f;rw [m];generalize a.eval X=v at k g;cases k with
     |agv cs _ J p I=>exact gF h hd m B _ t _ (.v vs (Nat.le_of_eq J.symm) (fun j v w l n=>⟨I j v w l n,p j v l⟩)) g
    |_=>exact z _ G (fun _ e=>by cases e) (fun e=>by cases e) (fun _ e=>by cases e) (fun _ e=>by cases e)
 ·cases r
theorem ox(h:SR N w0 S0 E st a.tmps)(hd:ay N o.dst){X:Operand}{y:O}(b:o.op= .move X\/o.op= .assign X)(c:ak X=some y):Sound P N w0 S0 o a E st (eff (.mov y) (st.nm o.dst) st.sl st.bx):=by
 refine aj h hd (v:=a.eval X) ?_ (af h.sl c);unfold execOp;rcases b with b|b <;> simp [b]
theorem ru(h:SR N w0 S0 E st a.tmps)(hd:ay N o.dst){C A B:Operand}{c x y:O}(f:o.op= .pick C A B)(g:ak C=some c)(j:ak A=some x)(k:ak B=some y):
  Sound P N w0 S0 o a E st (eff (.pick c x y) (st.nm o.dst) st.sl st.bx):=by
 have e:=af h.sl g;unfold eff;simp only;cases i:ev st.sl c with
 |t u=>
  rw [i] at e;cases u with
  |bool b=>
   have d:=e.aT;cases b with
   |true=>exact aj h hd (v:=a.eval A) (by unfold execOp;simp [f,d,asBool]) (af h.sl j)
   |false=>exact aj h hd (v:=a.eval B) (by unfold execOp;simp [f,d,asBool]) (af h.sl k)
  |_=>trivial
 |_=>trivial
theorem rq(h:SR N w0 S0 E st a.tmps)(hd:ay N o.dst){s:TypeId}{X:Operand}{f:Nat}(F:o.op= .fieldAddr s X f){x:DOp}(c:ah P o.op=some x):Sound P N w0 S0 o a E st (eff x (st.nm o.dst) st.sl st.bx):=by
 rw [F] at c;simp only [ah] at c;split at c
 ·rename_i fs y hu hy;split at c
  ·rename_i fd W;split at c
   ·rename_i i hi;cases m:Nat.beq i.size 0 with
    |true=>rw [m] at c;cases c
    |false=>
     rw [m] at c;simp only [cond_false,Option.some.injEq] at c;subst c;have B:i.size≠0:=fun e=>by rw [e] at m;cases m
     have d: ∀b off,a.eval X= .pointer (some ⟨b,off,none⟩)->(execOp a.eval o).run P E.w= .ok (.value (.pointer (some ⟨b,off+fd.offset,none⟩))) E.w:=fun b off k=>by
      unfold execOp;simp [F,k,Instr.fieldAt,run_underlying hu,W,Instr.sureAddr,fieldPlace,run_sizeOf hi,B,bq]
     have l:=af h.sl hy;unfold eff;simp only;cases G:ev st.sl y with
     |ptr b off=>
      rw [G] at l;obtain ⟨Z,A⟩:=l.bh;exact aj h hd (d _ _ Z) (.ptr b _ A)
     |t u=>
      rw [G] at l;cases u with
      |cptr cs off=>
       have j:=l.ax;generalize k:a.eval X=v at j;cases j with
       |cptr b C _ _ g n Y J=>
        refine aj h hd (d _ _ k) (.t _ _ ?_);rw [Nat.add_assoc];exact .cptr b C _ cs g n Y J
      |glob g off=>
       have j:=l.ax;generalize k:a.eval X=v at j;cases j;exact aj h hd (d _ _ k) (.t _ _ (.glob g _))
      |wrld T H L U I M off=>
       have j:=l.ax;generalize k:a.eval X=v at j;cases j with
       |wrld b C K D _ _ _ O R Q S _ _ _ _ p r q z hw n V r1 r2 r3 r4=>
        refine aj h hd (d _ _ k) (.t _ _ ?_);rw [Nat.add_assoc];exact .wrld b C K D _ T U O R Q S H L I M p r q z hw n V r1 r2 r3 r4
      |_=>trivial
     |_=>trivial
   ·cases c
  ·cases c
 ·cases c
end
section
variable {P:Program}{N:Nat}{w0:World}{S0:aa}{o:Oper}{a:Act}{E:Env}{st:St}
theorem dX{t e:TypeId}{len:Nat}{j:TypeInfo}(g:P.underlying t=some (.array len e))(f:P.info? e=some j)(b off:Nat)(k:IntKind)(n:Int)(c:0<=n)(d:n<len)(w:World):
  (Instr.indexAt t (.pointer (some ⟨b,off,none⟩)) (.int k n)).run P w= .ok (.pointer (some ⟨b,off+n.toNat * j.size,none⟩)) w:=by
 simp [Instr.indexAt,asIntOf,run_underlying g,Instr.sureAddr,c,d,run_sizeOf f,bq]
theorem gO{t e:TypeId}{j:TypeInfo}(g:P.underlying t=some (.slice e))(f:P.info? e=some j)(b off len cap:Nat)(k:IntKind)(n:Int)(c:0<=n)(d:n<len)(w:World):
  (Instr.indexAt t (.slice (some ⟨b,off,none⟩) len cap) (.int k n)).run P w= .ok (.pointer (some ⟨b,off+n.toNat * j.size,none⟩)) w:=by
 simp [Instr.indexAt,asIntOf,run_underlying g,c,d,run_sizeOf f,bq]
theorem jR{n:Nat}: ∀{xs:List T} (_: ∀x∈xs,x.cells.length=n) (k:Nat) (x:T),xs[k]? =some x-> ∀j,j<n->(xs.flatMap T.cells)[k * n+j]? =x.cells[j]?
 |[],_,k,x,b,_,_=>by simp at b
 |y::ys,hu,k,x,b,j,hj=>by
  rw [List.flatMap_cons];have c:=hu y (by simp);cases k with
  |zero=>
   simp at b;subst b;rw [Nat.zero_mul,Nat.zero_add,List.getElem?_append_left (by omega)]
  |succ k=>
   rw [List.getElem?_append_right (by rw [c,Nat.add_mul];omega)]
   have:=jR (fun x b=>hu x (List.mem_cons_of_mem _ b)) k x (by simpa using b) j hj
   rw [<- this]
   congr 1
   rw [c,Nat.add_mul];omega
theorem aJ{n:Nat}: ∀{xs:List T} (_: ∀x∈xs,x.cells.length=n),(xs.flatMap T.cells).length=xs.length * n
 |[],_=>by simp
 |y::ys,hu=>by
  rw [List.flatMap_cons,List.length_append,hu y (by simp),aJ (fun x b=>hu x (List.mem_cons_of_mem _ b)),List.length_cons,Nat.add_mul];omega
theorem qT{S:ar}{w:World}{v:Value}{n:Nat}{xs:List T}(h:Rep S w v (.slice n xs))(k:Nat)(e:k<xs.length)(y:0<n):
  ∃b off cap,v= .slice (some ⟨b,off,none⟩) xs.length cap/\Rep S w (.pointer (some ⟨b,off+k * n,none⟩)) (.cptr (xs[k]?.getD .nil).cells 0):=by
 cases h with
 |slice a b off len cap _ _ g x A m r s u q=>
  subst x;have c:=aJ m;have p:0<(xs.flatMap T.cells).length:=by rw [c];exact Nat.mul_pos (by omega) y
  have d:xs[k]? =some xs[k]:=ggZ e;have z:(xs[k]).cells.length=n:=m _ (List.getElem_mem e);have l: ∀j,j<n->k * n+j<(xs.flatMap T.cells).length:=fun j B=>by
   rw [c]
   have:(k+1) * n<=xs.length * n:=Nat.mul_le_mul_right _ e
   rw [Nat.add_mul] at this;omega
  refine ⟨b,off,cap,by rw [s p],?_⟩;rw [d]
  have:=Rep.cptr (S:=S) (w:=w) b (off+k * n) 0 (xs[k]).cells (fun j=>g (k * n+j))
   (fun t f=>r t (List.mem_flatMap.2 ⟨_,List.getElem_mem e,f⟩))
   (fun i hi=>by
    have:=u (k * n+i) (l i (by omega))
    rwa [<- Nat.add_assoc] at this)
   (fun i t f=>q (k * n+i) t (by rw [jR m k _ d i (by have:=(gsZ f).1;omega)];exact f))
  simpa using this
end
section
variable [Glb]{P:Program}{N:Nat}{w0:World}{S0:aa}{o:Oper}{a:Act}{E:Env}{st:St}
theorem ma(h:SR N w0 S0 E st a.tmps)(hd:ay N o.dst){t:TypeId}{X I:Operand}(M:o.op= .indexAddr t X I){x:DOp}(l:ah P o.op=some x):Sound P N w0 S0 o a E st (eff x (st.nm o.dst) st.sl st.bx):=by
 have f: ∀r,(Instr.indexAt t (a.eval X) (a.eval I)).run P E.w= .ok r E.w->(execOp a.eval o).run P E.w= .ok (.value r) E.w:=fun r m=>by
  unfold execOp;simp [M,m]
 rw [M] at l;simp only [ah] at l;split at l
 ·rename_i len e y z A J K;split at l
  ·rename_i j u;simp only [Option.some.injEq] at l;subst l;have d:=af h.sl J;have c:=af h.sl K;unfold eff;simp only;split
   ·rename_i b off k n i p;rw [i] at d;rw [p] at c;obtain ⟨G,s⟩:=d.bh;rintro ⟨q,i⟩;exact aj h hd (f _ (by rw [G,c.aA];exact dX A u _ _ _ _ q i _)) (.ptr b _ s)
   ·rename_i cs off k n i p;rw [i] at d;rw [p] at c;rintro ⟨q,i⟩;have m:=d.ax;generalize F:a.eval X=v at m;cases m with
    |cptr b Z _ _ g V U O=>
     refine aj h hd (f _ (by rw [F,c.aA];exact dX A u _ _ _ _ q i _)) (.t _ _ ?_);rw [Nat.add_assoc];exact .cptr b Z _ cs g V U O
   ·rename_i g off k n i p;rw [i] at d;rw [p] at c;rintro ⟨q,i⟩;have m:=d.ax;generalize F:a.eval X=v at m;cases m;exact aj h hd (f _ (by rw [F,c.aA];exact dX A u _ _ _ _ q i _)) (.t _ _ (.glob g _))
   ·trivial
  ·cases l
 ·rename_i e y z A J K;split at l
  ·rename_i j u;cases B:Nat.blt 0 j.size with
   |false=>rw [B] at l;cases l
   |true=>
   rw [B] at l;have B:0<j.size:=Nat.lt_of_lt_of_le (Nat.lt_succ_self 0) (nlZ B);simp only [cond_true,Option.some.injEq] at l;subst l;have d:=af h.sl J;have c:=af h.sl K;have C: ∀(xs:List T) (k:IntKind) (n:Int),Rep E.S E.w (a.eval X) (.slice j.size xs)->a.eval I= .int k n->0<=n/\n<xs.length->
     Did P N w0 S0 o a E (st.app o.dst {val:=.t (.cptr (xs[n.toNat]?.getD .nil).cells 0)}):=fun xs k n m Q D=>by
    obtain ⟨b,off,cap,Y,H⟩:=qT m n.toNat (by omega) B;exact aj h hd (f _ (by rw [Y,Q];exact gO A u _ _ _ _ _ _ D.1 D.2 _)) (.t _ _ H)
   unfold eff;simp only;split
   ·rename_i b off len sz k n i p;rw [i] at d;rw [p] at c;obtain ⟨cap,G,_,s⟩:=d.bO;cases L:Nat.beq j.size sz with
    |false=>trivial
    |true=>
     rintro ⟨q,i⟩;exact aj h hd (f _ (by rw [G,c.aA];exact gO A u _ _ _ _ _ _ q i _)) (.ptr b _ s)
   ·rename_i v k n p _;rw [p] at c;split
    ·rename_i sz xs R;cases L:Nat.beq j.size sz with
     |false=>trivial
     |true=>
      have W:j.size=sz:=Nat.eq_of_beq_eq_true L;intro D;have m:=aD d R;rw [<- W] at m;exact C xs k n m c.aA D
    ·trivial
   ·trivial
  ·cases l
 all_goals cases l
end
end Go.DL
end
section
namespace Go.DL
open Go.RowKit
section
variable [Glb]{P:Program}{N:Nat}{w0:World}{S0:aa}{o:Oper}{a:Act}{E:Env}{st:St}
end
section
variable {P:Program}{N:Nat}{w0:World}{S0:aa}{o:Oper}{a:Act}{E:Env}{st:St}
theorem fD{t:TypeId}{d:TypeDesc}{i:TypeInfo}(c:P.underlying t=some d)(hi:P.info? t=some i)(b:au P t=true)(cs:Array Value)(off:Nat)(w:World):
  (part t cs off).run P w= .ok (.agg (cs.extract off (off+i.size))) w:=by
 simp [part,fT c,b,run_sizeOf hi]
theorem fF{t:TypeId}{d:TypeDesc}(c:P.underlying t=some d)(b:au P t=false)(cs:Array Value)(off:Nat)(v:Value)(e:cs[off]? =some v)(w:World):
  (part t cs off).run P w= .ok v w:=by
 simp [part,fT c,b,e]
theorem ou{S:ar}{w:World}{cs:Array Value}{ts:List T}(h:Rep S w (.agg cs) (.agg ts))(off n:Nat)(f:off+n<=ts.length):Rep S w (.agg (cs.extract off (off+n))) (.agg ((ts.drop off).take n)):=by
 cases h with
 |agg _ _ g e d=>
  refine .agg _ _ (by simp [g];omega) (fun t b=>e t ?_) (fun i x t c b=>?_)
  ·exact List.mem_of_mem_drop (List.mem_of_mem_take b)
  ·rw [aH] at b;split at b
   ·rw [Array.getElem?_extract] at c;split at c
    ·exact d (off+i) x t c b
    ·cases c
   ·cases b
theorem om{S:ar}{w:World}{cs:Array Value}{ts:List T}(h:Rep S w (.agg cs) (.agg ts))(off:Nat)(b:off<ts.length): ∃v,cs[off]? =some v/\Rep S w v (ts[off]?.getD .nil):=by
 cases h with
 |agg _ _ e d c=>
  have:off<cs.size:=by omega
  refine ⟨cs[off],by simp [this],c off _ _ (by simp [this]) (by simp [b])⟩
theorem gM{S:ar}{w:World}{v:Value}{ts:List T}(h:Rep S w v (.agg ts)): ∃cs,v= .agg cs:=by cases h;exact ⟨_,rfl⟩
end
section
variable [Glb]{P:Program}{N:Nat}{w0:World}{S0:aa}{o:Oper}{a:Act}{E:Env}{st:St}
theorem pU(h:SR N w0 S0 E st a.tmps)(hd:ay N o.dst){s:TypeId}{X:Operand}{f:Nat}(z:o.op= .field s X f){x:DOp}(b:ah P o.op=some x):Sound P N w0 S0 o a E st (eff x (st.nm o.dst) st.sl st.bx):=by
 have c: ∀r,(Instr.field s (a.eval X) f).run P E.w= .ok r E.w->(execOp a.eval o).run P E.w= .ok (.value r) E.w:=fun r j=>by
  unfold execOp;simp [z,j]
 rw [z] at b;simp only [ah] at b;split at b
 ·rename_i fs y A B;split at b
  ·rename_i fd u;split at b
   ·rename_i i d hi k;simp only [Option.some.injEq] at b;subst b;have q:=af h.sl B;unfold eff;simp only;split
    ·rename_i cs p;rw [p] at q;have j:=q.ax;obtain ⟨vs,g⟩:=gM j;rw [g] at j;split
     ·rename_i e;intro l;exact aj h hd (c _ (by simp [Instr.field,run_underlying A,u,g,asAgg,fD k hi e])) (.t _ _ (ou j _ _ l))
     ·rename_i e;intro m;obtain ⟨v,p,n⟩:=om j _ m;exact aj h hd (c _ (by simp [Instr.field,run_underlying A,u,g,asAgg,fF k e _ _ _ p])) (.t _ _ n)
    ·trivial
   ·cases b
  ·cases b
 ·cases b
end
section
variable {P:Program}{N:Nat}{w0:World}{S0:aa}{o:Oper}{a:Act}{E:Env}{st:St}
theorem qn(s:ByteArray)(n:Nat)(h:n<s.size):s[n]? =some (s.toList[n]?.getD 0):=by
 have b:s[n]? =some s[n]:=getElem?_pos s n h;rw [b];rw [ByteArray.toList_eq]
 have:n<s.data.toList.length:=by simpa using h
 simp [ggZ this];rfl
end
section
variable [Glb]{P:Program}{N:Nat}{w0:World}{S0:aa}{o:Oper}{a:Act}{E:Env}{st:St}
theorem pV(h:SR N w0 S0 E st a.tmps)(hd:ay N o.dst){t:TypeId}{X I:Operand}(K:o.op= .index t X I){x:DOp}(g:ah P o.op=some x):Sound P N w0 S0 o a E st (eff x (st.nm o.dst) st.sl st.bx):=by
 have c: ∀r,(Instr.index t (a.eval X) (a.eval I)).run P E.w= .ok r E.w->(execOp a.eval o).run P E.w= .ok (.value r) E.w:=fun r p=>by
  unfold execOp;simp [K,p]
 rw [K] at g;simp only [ah] at g;split at g
 ·rename_i len e y z A H J;split at g
  ·rename_i j d C u;simp only [Option.some.injEq] at g;subst g;have f:=af h.sl H;have b:=af h.sl J;unfold eff;simp only;split
   ·rename_i cs k n i B;rw [i] at f;rw [B] at b;have p:=f.ax;obtain ⟨vs,m⟩:=gM p;rw [m] at p;split
    ·rename_i l;rintro ⟨q,i,D⟩;exact aj h hd (c _ (by simp [Instr.index,asIntOf,b.aA,run_underlying A,m,q,i,run_sizeOf C,fD u C l])) (.t _ _ (ou p _ _ D))
    ·rename_i l;rintro ⟨q,i,F⟩;obtain ⟨v,M,G⟩:=om p _ F;exact aj h hd (c _ (by simp [Instr.index,asIntOf,b.aA,run_underlying A,m,q,i,run_sizeOf C,fF u l _ _ _ M])) (.t _ _ G)
   ·trivial
  ·cases g
 ·rename_i y z A H J;simp only [Option.some.injEq] at g;subst g;have f:=af h.sl H;have b:=af h.sl J;unfold eff;simp only;split
  ·rename_i s k n i B;rw [i] at f;rw [B] at b;rintro ⟨q,i⟩;refine aj h hd (c _ ?_) (.t _ _ (.int _ _));have L:=qn s n.toNat (by omega);simp [Instr.index,asIntOf,b.aA,run_underlying A,f.bj,q,L]
  ·trivial
 all_goals cases g
theorem su(h:SR N w0 S0 E st a.tmps)(hd:ay N o.dst){t:TypeId}{X:Operand}{y:O}(d:o.op= .unOp .not t X)(f:ak X=some y):Sound P N w0 S0 o a E st (eff (.not y) (st.nm o.dst) st.sl st.bx):=by
 have c:=af h.sl f;unfold eff;simp only;split
 ·rename_i b e;rw [e] at c;exact aj h hd (by unfold execOp;simp [d,c.aT,Op.unary]) (.t _ _ (.bool _))
 ·trivial
theorem sq(h:SR N w0 S0 E st a.tmps)(hd:ay N o.dst){t:TypeId}{X:Operand}{y:O}(c:o.op= .unOp .neg t X)(e:ak X=some y):Sound P N w0 S0 o a E st (eff (.neg y) (st.nm o.dst) st.sl st.bx):=by
 have b:=af h.sl e;unfold eff;simp only;split
 ·rename_i k n d;rw [d] at b;exact aj h hd (v:=.int k (k.wrap (0 - n))) (by unfold execOp;simp [c,b.aA,Op.unary,Op.intArith]) (.t _ _ (.int _ _))
 ·trivial
theorem nI(h:SR N w0 S0 E st a.tmps)(hd:ay N o.dst){f:FuncId}{caps:Array Operand}(j:o.op= .makeFunc (.func f) #[] caps){ys:List O}(c:dW caps.toList=some ys):
  Sound P N w0 S0 o a E st (eff (.mkfn f ys) (st.nm o.dst) st.sl st.bx):=by
 obtain ⟨b,k⟩:=iv _ _ _ c;refine aj h hd (v:=.func (.func f) #[] (caps.map a.eval)) (by unfold execOp;simp [j,Instr.makeFunc]) (.fn f _ _ (by simpa using b) fun i x u e d=>?_);simp only [Array.getElem?_map,Option.map_eq_some_iff] at e;simp only [List.getElem?_map,Option.map_eq_some_iff] at d;obtain ⟨X,g,rfl⟩:=e;obtain ⟨y,c,rfl⟩:=d;exact af h.sl (k i X y (by simpa using g) c)
theorem nZ(h:SR N w0 S0 E st a.tmps)(hd:ay N o.dst){X:Operand}{i:Nat}{y:O}(k:o.op= .extract X i)(m:ak X=some y):Sound P N w0 S0 o a E st (eff (.ext y i) (st.nm o.dst) st.sl st.bx):=by
 have c:=af h.sl m;unfold eff;simp only;split
 ·rename_i ts j;rw [j] at c;split
  ·rename_i t d;have l:=c.ax;generalize f:a.eval X=v at l;cases l with
   |tup cs _ g e=>
    have b:i<cs.size:=by rw [g];exact (gsZ d).1
    exact aj h hd (v:=cs[i]) (by unfold execOp;simp [k,f,Instr.extract,b]) (.t _ _ (e i _ t (by simp [b]) d))
  ·trivial
 ·rename_i vs j;rw [j] at c;split
  ·rename_i t d;generalize f:a.eval X=v at c;cases c with
   |tup cs _ g e=>
    have b:i<cs.size:=by rw [g];exact (gsZ d).1
    exact aj h hd (v:=cs[i]) (by unfold execOp;simp [k,f,Instr.extract,b]) (e i _ t (by simp [b]) d)
  ·trivial
 ·trivial
theorem pZ(h:SR N w0 S0 E st a.tmps)(hd:ay N o.dst){X:Operand}{y:O}(k:o.op= .nilCheck X)(l:ak X=some y):Sound P N w0 S0 o a E st (eff (.nilck y) (st.nm o.dst) st.sl st.bx):=by
 have d:=af h.sl l;have c: ∀e,a.eval X= .pointer (some e)->(execOp a.eval o).run P E.w= .ok (.value (a.eval X)) E.w:=fun e i=>by
  unfold execOp;simp [k,i]
 unfold eff;simp only;split
 ·rename_i b off j;rw [j] at d;exact aj h hd (c _ d.bh.1) d
 ·rename_i cs off j;rw [j] at d;have g:=d.ax
  have: ∃e,a.eval X= .pointer (some e):=by
   generalize a.eval X=v at g;cases g;exact ⟨_,rfl⟩
  obtain ⟨e,i⟩:=this;exact aj h hd (c _ i) d
 ·rename_i j;rw [j] at d;have g:=d.ax
  have: ∃e,a.eval X= .pointer (some e):=by
   generalize a.eval X=v at g;cases g;exact ⟨_,rfl⟩
  obtain ⟨e,i⟩:=this;exact aj h hd (c _ i) d
 ·rename_i f p q j;rw [j] at d;have g:=d.ax
  have: ∃e,a.eval X= .pointer (some e):=by
   generalize a.eval X=v at g;cases g;exact ⟨_,rfl⟩
  obtain ⟨e,i⟩:=this;exact aj h hd (c _ i) d
 ·rename_i j;rw [j] at d;have g:=d.ax
  have: ∃e,a.eval X= .pointer (some e):=by
   generalize a.eval X=v at g;cases g;exact ⟨_,rfl⟩
  obtain ⟨e,i⟩:=this;exact aj h hd (c _ i) d
 ·trivial
end
section
variable {P:Program}{N:Nat}{w0:World}{S0:aa}{o:Oper}{a:Act}{E:Env}{st:St}
theorem aG{b:Builtin}{args:Array Operand}{ts:Array TypeId}(c:o.op= .call {callee:=.builtin b,args:=args,argTypes:=ts }){w:World}{nx:Next}{w':World}
  (d:(builtin b ts o.type (args.map fun|.const _=>true|_=>false) (args.map a.eval)).run P w= .ok nx w'):(execOp a.eval o).run P w= .ok nx w':=by
 unfold execOp;simp only [c,resolve,Sem.run_bind,Sem.run_pure,Result.andThen_ok,invoke];exact d
theorem bU.len{v:Value}{r:Nat}{e:TypeId}{size:Nat}{xs:List T}(h:bU E v r e size xs): ∃A cap,v= .slice A xs.length cap:=by
 obtain ⟨cells,c,_,_⟩:=h.ex;rcases c.2 with ⟨rfl,d⟩|⟨g,cap,b,rfl,_⟩
 ·exact ⟨none,0,by rw [d]⟩
 ·exact ⟨_,cap,rfl⟩
theorem VR.fl{v:Value}{r:Nat}{e:TypeId}{size:Nat}{xs:List T}(h:VR E v (.own r e size xs)):bU E v r e size xs:=by cases h;assumption
end
section
variable [Glb]{P:Program}{N:Nat}{w0:World}{S0:aa}{o:Oper}{a:Act}{E:Env}{st:St}
theorem se(h:SR N w0 S0 E st a.tmps)(hd:ay N o.dst){X:Operand}{t e:TypeId}{y:O}(p:o.op= .call {callee:=.builtin .len,args:= #[X],argTypes:= #[t]})(s:ak X=some y)
  (q:P.underlying t=some (.slice e)):Sound P N w0 S0 o a E st (eff (.len y) (st.nm o.dst) st.sl st.bx):=by
 have f:=af h.sl s;have k: ∀A n c,a.eval X= .slice A n c->Did P N w0 S0 o a E (st.app o.dst {val:=.t (.int .i64 n)}):=fun A n c d=>
  aj h hd (v:=.int .i64 n) (aG p (by simp [builtin,Builtin.len_,d,run_underlying q,goInt])) (.t _ _ (.int _ _))
 unfold eff;simp only;split
 ·rename_i n xs i;rw [i] at f;have j:=f.ax;generalize d:a.eval X=v at j;cases j with
  |slice A b off len cap _ _ g l m=>
   subst l;exact k _ _ _ d
 ·rename_i r e size xs i;rw [i] at f;obtain ⟨A,cap,d⟩:=f.fl.len;exact k _ _ _ d
 ·rename_i n xs i;rw [i] at f;have j:=aD f (rfl:asT (.full n xs)=some (.slice n xs));generalize d:a.eval X=v at j;cases j with
  |slice A b off len cap _ _ g l m=>
   subst l;exact k _ _ _ d
 ·rename_i i;rw [i] at f;have j:=f.ax;generalize d:a.eval X=v at j;cases j;exact k _ _ _ d
 ·rename_i b off n sz i;rw [i] at f;obtain ⟨cap,d,_,_⟩:=f.bO;exact k _ _ _ d
 ·trivial
theorem rf(h:SR N w0 S0 E st a.tmps)(hd:ay N o.dst){X:Operand}{t:TypeId}{y:O}(d:o.op= .call {callee:=.builtin .len,args:= #[X],argTypes:= #[t]})(g:ak X=some y)
  (e:P.underlying t=some .string):Sound P N w0 S0 o a E st (eff (.lenS y) (st.nm o.dst) st.sl st.bx):=by
 have b:=af h.sl g;unfold eff;simp only;split
 ·rename_i s f;rw [f] at b;have c:=b.bj;exact aj h hd (v:=.int .i64 s.size) (aG d (by simp [builtin,Builtin.len_,c,run_underlying e,goInt])) (.t _ _ (.int _ _))
 ·trivial
theorem si(h:SR N w0 S0 E st a.tmps)(hd:ay N o.dst){X Y:Operand}{ts:Array TypeId}{x y:O}(f:o.op= .call {callee:=.builtin .max,args:= #[X,Y],argTypes:=ts })(g:ak X=some x)(i:ak Y=some y):
  Sound P N w0 S0 o a E st (eff (.maxI x y) (st.nm o.dst) st.sl st.bx):=by
 have b:=af h.sl g;have c:=af h.sl i;unfold eff;simp only;split
 ·rename_i k m j n d e;rw [d] at b;rw [e] at c;exact aj h hd (v:=.int k (if n>m then n else m)) (aG f (by simp [builtin,Builtin.max_,Builtin.max2,b.aA,c.aA])) (.t _ _ (.int _ _))
 ·trivial
theorem sj(h:SR N w0 S0 E st a.tmps)(hd:ay N o.dst){X Y:Operand}{ts:Array TypeId}{x y:O}(f:o.op= .call {callee:=.builtin .min,args:= #[X,Y],argTypes:=ts })(g:ak X=some x)(i:ak Y=some y):
  Sound P N w0 S0 o a E st (eff (.minI x y) (st.nm o.dst) st.sl st.bx):=by
 have b:=af h.sl g;have c:=af h.sl i;unfold eff;simp only;split
 ·rename_i k m j n d e;rw [d] at b;rw [e] at c;exact aj h hd (v:=.int k (if n<m then n else m)) (aG f (by simp [builtin,Builtin.min_,Builtin.min2,b.aA,c.aA])) (.t _ _ (.int _ _))
 ·trivial
end
end Go.DL
end
section
namespace Go.DL
open Go.RowKit
section
variable [Glb]{P:Program}{N:Nat}{w0:World}{S0:aa}{o:Oper}{a:Act}{E:Env}{st:St}
def Bnd(x:Option Value)(n:Int)(b:Nat):Prop:=(x=none/\n=b)\/ ∃k,x=some (.int k n)
theorem dY(h:SR N w0 S0 E st a.tmps){X:Option Operand}{y:Option O}(d:cQ X=some y){n:Int}(c:eG (y.map (ev st.sl))=some n):Bnd (X.map a.eval) n 0:=by
 cases X with
 |none=>
  simp [cQ] at d;subst d;simp [eG] at c;subst c;exact .inl ⟨rfl,rfl⟩
 |some X=>
  simp only [cQ,Option.map_eq_some_iff] at d;obtain ⟨z,f,rfl⟩:=d;have e:=af h.sl f;simp only [Option.map_some,eG] at c;split at c
  ·rename_i b;cases b
  ·rename_i k m b;simp only [Option.some.injEq] at b c;subst c;rw [b] at e;exact .inr ⟨k,by simp [e.aA]⟩
  ·cases c
theorem dE(h:SR N w0 S0 E st a.tmps){X:Option Operand}{y:Option O}(d:cQ X=some y){n:Int}{len:Nat}(c:dC (y.map (ev st.sl)) len=some n):Bnd (X.map a.eval) n len:=by
 cases X with
 |none=>
  simp [cQ] at d;subst d;simp [dC] at c;subst c;exact .inl ⟨rfl,rfl⟩
 |some X=>
  simp only [cQ,Option.map_eq_some_iff] at d;obtain ⟨z,f,rfl⟩:=d;have e:=af h.sl f;simp only [Option.map_some,dC] at c;split at c
  ·rename_i b;cases b
  ·rename_i k m b;simp only [Option.some.injEq] at b c;subst c;rw [b] at e;exact .inr ⟨k,by simp [e.aA]⟩
  ·cases c
end
section
variable {P:Program}{N:Nat}{w0:World}{S0:aa}{o:Oper}{a:Act}{E:Env}{st:St}
theorem bD(d:Bool){len cap:Nat}{lo hi:Option Value}{l h:Int}(i:Bnd lo l 0)(g:Bnd hi h len)(e:0<=l)(j:l<=h)(f:h<=cap)(w:World):
  (Instr.sliceBounds d len cap lo hi none).run P w= .ok (l.toNat,h.toNat,cap) w:=by
 have b:(0:Int)<=h:=by omega
 have c:l<=((h.toNat:Nat):Int):=by omega
 rcases g with ⟨rfl,rfl⟩|⟨k,rfl⟩ <;> rcases i with ⟨rfl,rfl⟩|⟨n,rfl⟩
 ·simp [Instr.sliceBounds]
 ·simp only [Int.toNat_natCast] at c;simp [Instr.sliceBounds,Instr.sliceBound,asIntOf,e,c]
 ·simp [Instr.sliceBounds,Instr.sliceBound,asIntOf,b,f]
 ·simp [Instr.sliceBounds,Instr.sliceBound,asIntOf,e,b,f];intro m;omega
theorem qA{n:Nat}{xs:List T}(c: ∀x∈xs,x.cells.length=n)(l h:Nat)(k:l<=h)(j:h<=xs.length)(i:Nat)(hi:i<(h - l) * n):
  (((xs.take h).drop l).flatMap T.cells)[i]? =(xs.flatMap T.cells)[l * n+i]? :=by
 have e:xs=xs.take l++((xs.take h).drop l++xs.drop h):=by
  have d:(xs.take h).drop l++xs.drop h=xs.drop l:=by
   rw [List.drop_take]
   have:xs.drop h=(xs.drop l).drop (h - l):=by rw [List.drop_drop];congr 1;omega
   rw [this,List.take_append_drop]
  rw [d,List.take_append_drop]
 have f:((xs.take l).flatMap T.cells).length=l * n:=by
  rw [aJ (n:=n) (fun x b=>c x (List.mem_of_mem_take b)),List.length_take,Nat.min_eq_left (by omega)]
 have g:(((xs.take h).drop l).flatMap T.cells).length=(h - l) * n:=by
  rw [aJ (n:=n) (fun x b=>c x (List.mem_of_mem_take (List.mem_of_mem_drop b))),List.length_drop,List.length_take,Nat.min_eq_left j]
 conv=>rhs;rw [e]
 rw [List.flatMap_append,List.flatMap_append,List.getElem?_append_right (by omega),f,List.getElem?_append_left (by rw [g];omega)]
 congr 1;omega
theorem iE{S:ar}{w:World}{A:Option Addr}{len cap n:Nat}{xs:List T}(h:Rep S w (.slice A len cap) (.slice n xs))(l c:Nat)(F:l<=c)(d:c<=xs.length):
  Rep S w (.slice (if cap=l then A else A.map (·.add (l * n))) (c - l) (cap - l)) (.slice n ((xs.take c).drop l)):=by
 cases h with
 |slice _ b off _ _ _ _ g e H q z C D y=>
  subst e;have j: ∀x∈(xs.take c).drop l,x.cells.length=n:=fun x r=>q x (List.mem_of_mem_take (List.mem_of_mem_drop r))
  have m:(((xs.take c).drop l).flatMap T.cells).length=(c - l) * n:=by
   rw [aJ j,List.length_drop,List.length_take,Nat.min_eq_left d]
  have s:=aJ q;have u: ∀i,i<(c - l) * n->l * n+i<xs.length * n:=fun i hi=>by
   have:l * n+(c - l) * n<=xs.length * n:=by rw [<- Nat.add_mul];exact Nat.mul_le_mul_right _ (by omega)
   omega
  refine .slice _ b (off+l * n) _ _ n _ (fun i=>g (l * n+i)) (by simp;omega) (by omega) j (fun t f=>?_) (fun k=>?_) (fun i hi=>?_) (fun i t f=>?_)
  ·obtain ⟨x,r,p⟩:=List.mem_flatMap.1 f;exact z t (List.mem_flatMap.2 ⟨x,List.mem_of_mem_take (List.mem_of_mem_drop r),p⟩)
  ·rw [m] at k;have G:l<c:=by
    rcases Nat.lt_or_ge l c with h|h
    ·exact h
    ·have:c - l=0:=by omega
     rw [this,Nat.zero_mul] at k;omega
   have:=u 0 k
   have B:=C (by rw [s];omega);rw [if_neg (by omega),B];simp [bq]
  ·rw [m] at hi
   have:=D (l * n+i) (by rw [s];exact u i hi)
   rw [Nat.add_assoc];exact this
  ·have hi:i<(c - l) * n:=by rw [<- m];exact (gsZ f).1
   rw [qA q l c F d i hi] at f;exact y _ t f
theorem ey{S:ar}{w:World}{v:Value}{n:Nat}{xs:List T}(h:Rep S w v (.slice n xs)): ∃A cap,v= .slice A xs.length cap/\xs.length<=cap:=by
 cases h with
 |slice A b off len cap _ _ g d c=>subst d;exact ⟨_,_,rfl,c⟩
theorem di{size:Nat}(d:0<size): ∀(n:Nat) (cs:List T),n * size<=cs.length->(∀ t∈cs,t.one=true)->(chunk size n cs).flatMap T.cells=cs.take (n * size)/\(chunk size n cs).length=n/\ ∀x∈chunk size n cs,x.cells.length=size
 |0,cs,_,_=>by simp [chunk]
 |n+1,cs,h,h1=>by
  rw [Nat.add_mul,Nat.one_mul] at h;have b:(elemOf size (cs.take size)).cells=cs.take size:=by
   unfold elemOf;cases e:Nat.beq size 1 with
   |false=>rfl
   |true=>
    have:size=1:=Nat.eq_of_beq_eq_true e
    subst this
    match cs,h,h1 with
    |[],h,_=>simp at h
    |t::cs,_,h1=>exact T.cells_one (h1 t (by simp))
  obtain ⟨k1,k2,g⟩:=di d n (cs.drop size) (by simp;omega) (fun t f=>h1 t (List.mem_of_mem_drop f));unfold chunk;refine ⟨?_,by simp [k2],fun x c=>?_⟩
  ·rw [List.flatMap_cons,b,k1,Nat.add_mul,Nat.one_mul,Nat.add_comm (n * size) size,List.take_add]
  ·rcases List.mem_cons.1 c with rfl|c
   ·rw [b];simp;omega
   ·exact g x c
end
section
variable [Glb]{P:Program}{N:Nat}{w0:World}{S0:aa}{o:Oper}{a:Act}{E:Env}{st:St}
theorem qa(h:SR N w0 S0 E st a.tmps)(hd:ay N o.dst){t:TypeId}{X:Operand}{lo hi:Option Operand}(ho:o.op= .slice t X lo hi none){x:DOp}(z:ah P o.op=some x):Sound P N w0 S0 o a E st (eff x (st.nm o.dst) st.sl st.bx):=by
 have m: ∀r,(Instr.sliceAt t (a.eval X) (lo.map a.eval) (hi.map a.eval) none).run P E.w= .ok r E.w->(execOp a.eval o).run P E.w= .ok (.value r) E.w:=fun r H=>by
  unfold execOp;simp [ho,H]
 rw [ho] at z;simp only [ah] at z;split at z
 ·rename_i e y Z U O Y q p;split at z
  ·rename_i j R;cases F:Nat.blt 0 j.size with
   |false=>rw [F] at z;cases z
   |true=>
   rw [F] at z;have F:0<j.size:=Nat.lt_of_lt_of_le (Nat.lt_succ_self 0) (nlZ F);simp only [cond_true,Option.some.injEq] at z;subst z;have B:=af h.sl Y;have Q: ∀A len cap (l f:Int),a.eval X= .slice A len cap->Bnd (lo.map a.eval) l 0->Bnd (hi.map a.eval) f len->0<=l->l<=f->f<=cap->
     (execOp a.eval o).run P E.w= .ok (.value (.slice (if cap=l.toNat then A else A.map (·.add (l.toNat * j.size))) (f.toNat - l.toNat) (cap - l.toNat))) E.w:=fun A len cap l f u L h2 C D I=>by
    refine m _ ?_;simp only [Instr.sliceAt,Instr.slice,Sem.run_bind,run_underlying O,Result.andThen_ok,u,bD true L h2 C D I,run_sizeOf R,Sem.run_pure]
   unfold eff;simp only;split
   ·rename_i b off len sz K;rw [K] at B;obtain ⟨cap,u,cB,M⟩:=B.bO;split
    ·rename_i l f d c;cases G:Nat.beq j.size sz with
     |false=>trivial
     |true=>
      rintro ⟨C,D,I,h6⟩;refine aj h hd (Q _ _ _ l f u (dY h q d) (dE h p c) C D (by omega)) ?_;rw [if_neg (by omega)];simp only [Option.map_some,bq];exact .view b _ _ sz _ M (by omega)
    ·trivial
   ·rename_i v K;split
    ·rename_i sz xs ha;have H:=aD B ha;obtain ⟨A,cap,u,cB⟩:=ey H;split
     ·rename_i l f d c;cases G:Nat.beq j.size sz with
      |false=>trivial
      |true=>
       have hs:j.size=sz:=Nat.eq_of_beq_eq_true G;subst hs;rintro ⟨C,D,I⟩;rw [u] at H;exact aj h hd (Q _ _ _ l f u (dY h q d) (dE h p c) C D (by omega)) (.t _ _ (iE H _ _ (by omega) (by omega)))
     ·trivial
    ·rename_i ha;have H:=aD B ha;have u:a.eval X= .slice none 0 0:=by
      generalize a.eval X=v at H;cases H;rfl
     split
     ·rename_i l f d c;rintro ⟨rfl,rfl⟩;exact aj h hd (Q _ _ _ 0 0 u (dY h q d) (dE h p c) (by omega) (by omega) (by omega)) (.t _ _ .nil)
     ·trivial
    ·trivial
  ·cases z
 ·rename_i y Z U O Y q p;simp only [Option.some.injEq] at z;subst z;have B:=af h.sl Y;unfold eff;simp only;split
  ·rename_i s K;rw [K] at B;have u:=B.bj;split
   ·rename_i l f d c;rintro ⟨C,D,I⟩;refine aj h hd (m _ ?_) (.t _ _ (.str _));have G:=bD (P:=P) false (dY h q d) (dE h p c) C D I E.w;simp [Instr.sliceAt,Instr.slice,run_underlying O,u,G]
   ·trivial
  ·trivial
 ·rename_i n e y Z U O Y q p;split at z
  ·rename_i j R;simp only [Option.some.injEq] at z;subst z;have B:=af h.sl Y;unfold eff;simp only;split
   ·rename_i b off K;rw [K] at B;obtain ⟨u,M⟩:=B.bh;split
    ·have L:lo=none:=by cases lo <;> simp_all [cQ]
     have h2:hi=none:=by cases hi <;> simp_all [cQ]
     subst L;subst h2;refine aj h hd (v:=.slice (some ⟨E.κ b,off,none⟩) n n) (m _ ?_) (.view b off n _ n M (Nat.le_refl _));have G:=bD (P:=P) false (len:=n) (cap:=n) (lo:=none) (hi:=none) (l:=0) (h:=n) (.inl ⟨rfl,rfl⟩) (.inl ⟨rfl,rfl⟩) (by omega) (by omega) (by omega) E.w;simp only [Instr.sliceAt,Sem.run_bind,run_underlying O,Result.andThen_ok,u,Instr.sureAddr,Sem.run_pure,Option.map_none,G,run_sizeOf R];simp [bq]
    ·split
     ·rename_i l f d c;rintro ⟨C,D,I,h6⟩;refine aj h hd (v:=.slice (some ⟨E.κ b,off+l.toNat * j.size,none⟩) (f.toNat - l.toNat) (n - l.toNat)) (m _ ?_) (.view b _ _ _ _ M (by omega));have G:=bD (P:=P) false (len:=n) (cap:=n) (dY h q d) (dE h p c) C D I E.w;simp only [Instr.sliceAt,Sem.run_bind,run_underlying O,Result.andThen_ok,u,Instr.sureAddr,Sem.run_pure,Option.map_none,G,run_sizeOf R];rw [if_neg (by omega),bq]
     ·trivial
   ·rename_i cs off K;rw [K] at B;have T:=B.ax;split
    ·rename_i l f d c;cases F:Nat.blt 0 j.size with
     |false=>trivial
     |true=>
     have F:0<j.size:=Nat.lt_of_lt_of_le (Nat.lt_succ_self 0) (nlZ F);rintro ⟨C,D,I,h6⟩;generalize u:a.eval X=v at T;cases T with
     |cptr b J _ _ g L hg H=>
     have G:=bD (P:=P) false (len:=n) (cap:=n) (dY h q d) (dE h p c) C D I E.w;have V:l.toNat * j.size+(f.toNat - l.toNat) * j.size<=n * j.size:=by rw [<- Nat.add_mul];exact Nat.mul_le_mul_right _ (by omega)
     obtain ⟨k1,k2,k3⟩:=di F (f.toNat - l.toNat) (cs.drop (off+l.toNat * j.size)) (by rw [List.length_drop];omega) (fun t k=>L t (List.mem_of_mem_drop k));refine aj h hd (v:=.slice (some (if n=l.toNat then ⟨b,J+off,none⟩ else ⟨b,J+off+l.toNat * j.size,none⟩)) (f.toNat - l.toNat) (n - l.toNat)) (m _ ?_) (.t _ _ (.slice _ b (J+off+l.toNat * j.size) _ _ _ _ (fun i=>g (off+l.toNat * j.size+i)) k2 (by omega) k3 (fun t k=>?_) (fun W=>?_) (fun i hi=>?_) (fun i t k=>?_)))
     ·simp only [Instr.sliceAt,Sem.run_bind,run_underlying O,Result.andThen_ok,u,Instr.sureAddr,Sem.run_pure,Option.map_none,G,run_sizeOf R,bq]
     ·rw [k1] at k;exact L t (List.mem_of_mem_drop (List.mem_of_mem_take k))
     ·rw [k1,List.length_take] at W
      have:0<f.toNat - l.toNat:=by
       rcases Nat.eq_zero_or_pos (f.toNat - l.toNat) with e|e
       ·rw [e,Nat.zero_mul] at W;omega
       ·exact e
      rw [if_neg (by omega)]
     ·rw [k1,List.length_take,List.length_drop] at hi
      have:=hg (off+l.toNat * j.size+i) (by omega)
      rw [show J+off+l.toNat * j.size+i=J+(off+l.toNat * j.size+i) by omega];exact this
     ·rw [k1,List.getElem?_take] at k;split at k
      ·rw [List.getElem?_drop] at k;exact H _ t k
      ·cases k
    ·trivial
   ·rename_i g0 off K;rw [K] at B;have rK:=B.ax;split
    ·rename_i cs hg0;have T:Rep E.S E.w (a.eval X) (.cptr cs off):=by
      generalize a.eval X=v at rK;cases rK;exact h.jq.rep hg0 off
     split
     ·rename_i l f d c;cases F:Nat.blt 0 j.size with
      |false=>trivial
      |true=>
      have F:0<j.size:=Nat.lt_of_lt_of_le (Nat.lt_succ_self 0) (nlZ F);rintro ⟨C,D,I,h6⟩;generalize u:a.eval X=v at T;cases T with
      |cptr b J _ _ g L hg H=>
      have G:=bD (P:=P) false (len:=n) (cap:=n) (dY h q d) (dE h p c) C D I E.w;have V:l.toNat * j.size+(f.toNat - l.toNat) * j.size<=n * j.size:=by rw [<- Nat.add_mul];exact Nat.mul_le_mul_right _ (by omega)
      obtain ⟨k1,k2,k3⟩:=di F (f.toNat - l.toNat) (cs.drop (off+l.toNat * j.size)) (by rw [List.length_drop];omega) (fun t k=>L t (List.mem_of_mem_drop k));refine aj h hd (v:=.slice (some (if n=l.toNat then ⟨b,J+off,none⟩ else ⟨b,J+off+l.toNat * j.size,none⟩)) (f.toNat - l.toNat) (n - l.toNat)) (m _ ?_) (.t _ _ (.slice _ b (J+off+l.toNat * j.size) _ _ _ _ (fun i=>g (off+l.toNat * j.size+i)) k2 (by omega) k3 (fun t k=>?_) (fun W=>?_) (fun i hi=>?_) (fun i t k=>?_)))
      ·simp only [Instr.sliceAt,Sem.run_bind,run_underlying O,Result.andThen_ok,u,Instr.sureAddr,Sem.run_pure,Option.map_none,G,run_sizeOf R,bq]
      ·rw [k1] at k;exact L t (List.mem_of_mem_drop (List.mem_of_mem_take k))
      ·rw [k1,List.length_take] at W
       have:0<f.toNat - l.toNat:=by
        rcases Nat.eq_zero_or_pos (f.toNat - l.toNat) with e|e
        ·rw [e,Nat.zero_mul] at W;omega
        ·exact e
       rw [if_neg (by omega)]
      ·rw [k1,List.length_take,List.length_drop] at hi
       have:=hg (off+l.toNat * j.size+i) (by omega)
       rw [show J+off+l.toNat * j.size+i=J+(off+l.toNat * j.size+i) by omega];exact this
      ·rw [k1,List.getElem?_take] at k;split at k
       ·rw [List.getElem?_drop] at k;exact H _ t k
       ·cases k
     ·trivial
    ·trivial
   ·trivial
  ·cases z
 ·cases z
end
end Go.DL
end
section
namespace Go.DL
open Go.RowKit
section
variable [Glb]{P:Program}{N:Nat}{w0:World}{S0:aa}{o:Oper}{a:Act}{E:Env}{st:St}
def bu(S:ar)(w:World)(cs:List Value)(ts:List T):Prop:=
 cs.length=ts.length/\ ∀(i:Nat) (x:Value) (t:T),cs[i]? =some x->ts[i]? =some t->Rep S w x t/\t.one=true
end
section
variable {P:Program}{N:Nat}{w0:World}{S0:aa}{o:Oper}{a:Act}{E:Env}{st:St}
theorem bu.put{S:ar}{w:World}{cs vs:List Value}{ts us:List T}(h:bu S w cs ts)(g:bu S w vs us){off n:Nat}(e:vs.length=n)(b:off+n<=cs.length):bu S w (aP cs off n vs) (aP ts off n us):=by
 have k:us.length=n:=by rw [<- g.1];exact e
 refine ⟨by rw [bP _ _ _ _ e b,bP _ _ _ _ k (by rw [<- h.1];exact b)];exact h.1,fun i x t d c=>?_⟩;rw [bG _ _ _ _ e b] at d;rw [bG _ _ _ _ k (by rw [<- h.1];exact b)] at c
 by_cases f:i<off
 ·rw [if_pos f] at d c;exact h.2 i x t d c
 ·rw [if_neg f] at d c
  by_cases j:i<off+n
  ·rw [if_pos j] at d c;exact g.2 _ x t d c
  ·rw [if_neg j] at d c;exact h.2 i x t d c
theorem lN(off:Nat): ∀(vs:List Value) (k:Nat) (cs:Array Value),off+k+vs.length<=cs.size->
  ((vs.zipIdx k).foldl (fun (cs:Array Value) (p:Value×Nat)=>cs.setIfInBounds (off+p.2) p.1) cs).toList=aP cs.toList (off+k) vs.length vs
 |[],k,cs,_=>by
  simp [aP]
 |v::vs,k,cs,h=>by
  simp only [List.zipIdx_cons,List.foldl_cons,List.length_cons] at h ⊢;rw [lN off vs (k+1) _ (by simp;omega)]
  apply List.ext_getElem?
  intro j;rw [bG _ _ _ _ rfl (by simp;omega),bG _ _ _ _ (by simp) (by simp;omega)];simp only [Array.toList_setIfInBounds,List.getElem?_set,Array.length_toList]
  by_cases b:j<off+k
  ·rw [if_pos (by omega),if_pos b,if_neg (by omega)]
  ·rw [if_neg b]
   by_cases d:j=off+k
   ·subst d;rw [if_pos (by omega),if_pos rfl,if_pos (by omega),if_pos (by omega)];simp
   ·rw [if_neg (by omega)]
    by_cases c:j<off+k+(vs.length+1)
    ·rw [if_pos (by omega),if_pos c]
     have:j - (off+k)=(j - (off+(k+1)))+1:=by omega
     rw [this,List.getElem?_cons_succ]
    ·rw [if_neg (by omega),if_neg c,if_neg (by omega)]
theorem jM(off:Nat)(vs cs:Array Value)(h:off+vs.size<=cs.size):
  (vs.zipIdx.foldl (fun (cs:Array Value) (p:Value×Nat)=>cs.setIfInBounds (off+p.2) p.1) cs).toList=aP cs.toList off vs.size vs.toList:=by
 have:=lN off vs.toList 0 cs (by simpa using h)
 rw [<- Array.foldl_toList,Array.toList_zipIdx];simpa using this
theorem iS{g:Nat->V}: ∀{f:List (Nat×Nat×O)} {d ts:List T} {c b:Prop},dm g d c f=some (ts,b)->b->c
 |[],d,ts,c,b,h,hc=>by simp [dm] at h;rw [h.2];exact hc
 |(off,size,x)::rest,d,ts,c,b,h,hc=>by
  unfold dm at h;split at h
  ·cases h
  ·exact (iS h hc).1
  ·cases e:Nat.beq size 1 with
   |false=>rw [e] at h;cases h
   |true=>rw [e] at h;exact iS h hc
  ·cases h
theorem fB{c:Nat->Option (Nat×Nat)}: ∀{b:List (Nat×Operand)} {i:Nat} {X:Operand} {rest:List (Nat×Operand)} {d:List (Nat×Nat×O)},b=(i,X)::rest->ba c b=some d->
  ∃off size y r,c i=some (off,size)/\ak X=some y/\ba c rest=some r/\d=(off,size,y)::r:=by
 rintro b i X rest d rfl h;unfold ba at h;split at h
 ·rename_i off size y r e f g;simp only [Option.some.injEq] at h;exact ⟨off,size,y,r,e,f,g,h.symm⟩
 ·cases h
theorem hU(W: ∀m,VR E (a.tmps.getD m undef) (st.sl m)){g mplace:Nat->Option (Nat×Nat)}(q: ∀i p,g i=some p->mplace i=some p):
  ∀(f:List (Nat×Operand)) (C:List (Nat×Nat×O)) (cells:Array Value) (d ts:List T) (c n:Prop),ba g f=some C->bu E.S E.w cells.toList d->(∀ p∈C,p.1+p.2.1<=d.length)->
   dm st.sl d c C=some (ts,n)->n-> ∃b,Instr.fill mplace cells (f.map fun (i,x)=>(i,a.eval x))=some b/\bu E.S E.w b.toList ts
 |[],C,cells,d,ts,c,n,hl,hc,_,hf,_=>by
  simp [ba] at hl;subst hl;simp [dm] at hf;exact ⟨cells,rfl,hf.1▸hc⟩
 |(i,X)::rest,C,cells,d,ts,c,n,hl,hc,hb,hf,hc'=>by
  obtain ⟨off,size,y,r,s,h2,h3,rfl⟩:=fB rfl hl;have V:=af W h2;have Q:off+size<=d.length:=hb (off,size,y) (by simp);have I: ∀p∈r,p.1+p.2.1<=d.length:=fun p q=>hb p (List.mem_cons_of_mem _ q)
  have step: ∀(us:List T),bu E.S E.w (a.eval X).cells.toList us->us.length=size-> ∀D,dm st.sl (aP d off size us) D r=some (ts,n)->
    ∃b,Instr.fill mplace cells (((i,X)::rest).map fun (i,x)=>(i,a.eval x))=some b/\bu E.S E.w b.toList ts:=fun us h A D L=>by
   have l:(a.eval X).cells.size=size:=by have:=h.1;simp at this;omega
   have hcl:cells.size=d.length:=by have:=hc.1;simpa using this
   have Y:bu E.S E.w ((a.eval X).cells.zipIdx.foldl (fun (cs:Array Value) (p:Value×Nat)=>cs.setIfInBounds (off+p.2) p.1) cells).toList (aP d off size us):=by
    rw [jM _ _ _ (by omega),l];exact hc.put h (by simpa using l) (by simp;omega)
   have M:(aP d off size us).length=d.length:=bP _ _ _ _ A Q;obtain ⟨b,Z,g2⟩:=hU W q rest r _ _ ts D n h3 Y (fun p q=>by rw [M];exact I p q) L hc';refine ⟨b,?_,g2⟩;simp only [List.map_cons,Instr.fill,q i _ s];rw [if_neg (by simp [l];omega)];exact Z
  unfold dm at hf;split at hf
  ·cases hf
  ·rename_i cs H;have h:=aD V H;obtain ⟨J,K⟩:=h.cells (fun ts e=>by cases e);have z:=iS hf hc';exact step cs ⟨by simpa [T.cells] using J,fun j x t B ht=>K j x t (by simpa using B) ht⟩ z.2 _ hf
  ·rename_i t F G H;cases k:Nat.beq size 1 with
   |false=>rw [k] at hf;cases hf
   |true=>
    rw [k] at hf;have R:size=1:=Nat.eq_of_beq_eq_true k;subst R;have h:=aD V H;have s:t.one=true:=by
     cases t with
     |agg cs=>exact absurd rfl (G cs)
     |tup ts=>exact absurd rfl (F ts)
     |_=>rfl
    refine step [t] ⟨by rw [h.cells_one s];rfl,fun j x u B U=>?_⟩ rfl _ hf;rw [h.cells_one s] at B;cases j with
    |zero=>simp at B U;subst B;subst U;exact ⟨h,s⟩
    |succ j=>simp at U
  ·cases hf
end
section
variable [Glb]{P:Program}{N:Nat}{w0:World}{S0:aa}{o:Oper}{a:Act}{E:Env}{st:St}
def dM(E:Env)(cs:List Value)(us:List V):Prop:=cs.length=us.length/\ ∀(i:Nat) (x:Value) (u:V),cs[i]? =some x->us[i]? =some u->VR E x u/\x.oneCell'=true
end
section
variable {P:Program}{N:Nat}{w0:World}{S0:aa}{o:Oper}{a:Act}{E:Env}{st:St}
theorem dM.put{cs vs:List Value}{us k:List V}{off n:Nat}(h:dM E cs us)(g:dM E vs k)(j:vs.length=n)(f:off+n<=cs.length):dM E (aP cs off n vs) (aP us off n k):=by
 have e:k.length=n:=by rw [<- g.1];exact j
 have d:off+n<=us.length:=by rw [<- h.1];exact f
 refine ⟨by rw [bP _ _ _ _ j f,bP _ _ _ _ e d];exact h.1,fun i x u c b=>?_⟩;rw [bG _ _ _ _ j f] at c;rw [bG _ _ _ _ e d] at b
 by_cases l:i<off
 ·rw [if_pos l] at c b;exact h.2 i x u c b
 ·rw [if_neg l] at c b
  by_cases m:i<off+n
  ·rw [if_pos m] at c b;exact g.2 _ x u c b
  ·rw [if_neg m] at c b;exact h.2 i x u c b
theorem iT{g:Nat->V}: ∀{f:List (Nat×Nat×O)} {d ts:List V} {c b:Prop},dn g d c f=some (ts,b)->b->c
 |[],d,ts,c,b,h,hc=>by simp [dn] at h;rw [h.2];exact hc
 |(off,size,x)::rest,d,ts,c,b,h,hc=>by
  unfold dn at h;split at h
  ·cases h
  ·exact (iT h hc).1
  ·cases h
  ·cases h
  ·cases h
  ·cases e:Nat.beq size 1 with
   |false=>rw [e] at h;cases h
   |true=>rw [e] at h;exact iT h hc
theorem gd(S: ∀m,VR E (a.tmps.getD m undef) (st.sl m)){g mplace:Nat->Option (Nat×Nat)}(q: ∀i p,g i=some p->mplace i=some p):
  ∀(f:List (Nat×Operand)) (D:List (Nat×Nat×O)) (cells:Array Value) (d ts:List V) (c l:Prop),ba g f=some D->dM E cells.toList d->(∀ p∈D,p.1+p.2.1<=d.length)->
   dn st.sl d c D=some (ts,l)->l-> ∃b,Instr.fill mplace cells (f.map fun (i,x)=>(i,a.eval x))=some b/\dM E b.toList ts
 |[],D,cells,d,ts,c,l,hl,hc,_,hf,_=>by
  simp [ba] at hl;subst hl;simp [dn] at hf;exact ⟨cells,rfl,hf.1▸hc⟩
 |(i,X)::rest,D,cells,d,ts,c,l,hl,hc,hb,hf,hc'=>by
  obtain ⟨off,size,y,r,w,h2,h3,rfl⟩:=fB rfl hl;have n:=af S h2;have M:off+size<=d.length:=hb (off,size,y) (by simp);have H: ∀p∈r,p.1+p.2.1<=d.length:=fun p q=>hb p (List.mem_cons_of_mem _ q)
  have step: ∀(us:List V),dM E (a.eval X).cells.toList us->us.length=size-> ∀G,dn st.sl (aP d off size us) G r=some (ts,l)->
    ∃b,Instr.fill mplace cells (((i,X)::rest).map fun (i,x)=>(i,a.eval x))=some b/\dM E b.toList ts:=fun us s A G K=>by
   have k:(a.eval X).cells.size=size:=by have:=s.1;simp at this;omega
   have hcl:cells.size=d.length:=by have:=hc.1;simpa using this
   have Y:dM E ((a.eval X).cells.zipIdx.foldl (fun (cs:Array Value) (p:Value×Nat)=>cs.setIfInBounds (off+p.2) p.1) cells).toList (aP d off size us):=by
    rw [jM _ _ _ (by omega),k];exact hc.put s (by simpa using k) (by simp;omega)
   have L:(aP d off size us).length=d.length:=bP _ _ _ _ A M;obtain ⟨b,Z,g2⟩:=gd S q rest r _ _ ts G l h3 Y (fun p q=>by rw [L];exact H p q) K hc';refine ⟨b,?_,g2⟩;simp only [List.map_cons,Instr.fill,q i _ w];rw [if_neg (by simp [k];omega)];exact Z
  unfold dn at hf;split at hf
  ·cases hf
  ·rename_i cs ha;rw [ha] at n;have s:=n.ax;obtain ⟨I,J⟩:=s.cells (fun ts e=>by cases e);have z:=iT hf hc';refine step (cs.map .t) ⟨by simpa [T.cells] using I,fun j x t C F=>?_⟩ (by simpa using z.2) _ hf;rw [List.getElem?_map,Option.map_eq_some_iff] at F;obtain ⟨t,F,rfl⟩:=F
   have:=J j x t (by simpa using C) F
   exact ⟨.t _ _ this.1,this.1.one this.2⟩
  ·cases hf
  ·cases hf
  ·cases hf
  ·rename_i k1 k2 U k4 k5;cases h:Nat.beq size 1 with
   |false=>rw [h] at hf;cases hf
   |true=>
    rw [h] at hf;have Q:size=1:=Nat.eq_of_beq_eq_true h;subst Q;have w:(a.eval X).oneCell'=true:=by
     cases B:ev st.sl y with
     |t u=>
      rw [B] at n;have s:=n.ax;refine s.one ?_;cases u with
      |agg cs=>exact absurd B (k2 cs)
      |tup ts=>exact absurd B (k1 ts)
      |_=>rfl
     |_=>
      refine n.one ?_ ?_ ?_ ?_
      all_goals (first|(intro vs e;rw [B] at e;cases e;done)|(intro e;rw [B] at e;cases e;done)|(intro vs e;first|exact k1 vs e|exact k2 vs e|exact U e|exact k4 vs e|exact k5 vs e)|(intro e;exact U e))
    have W:(a.eval X).cells= #[a.eval X]:=by
     generalize a.eval X=v at w;cases v <;> first|rfl|simp [Value.oneCell'] at w
    refine step [ev st.sl y] ⟨by rw [W];rfl,fun j x u C R=>?_⟩ rfl _ hf;rw [W] at C;cases j with
    |zero=>simp at C R;subst C;subst R;exact ⟨n,w⟩
    |succ j=>simp at R
theorem bu.toV{cs:List Value}{ts:List T}(h:bu E.S E.w cs ts):dM E cs (ts.map .t):=by
 refine ⟨by simpa using h.1,fun i x u d b=>?_⟩;rw [List.getElem?_map,Option.map_eq_some_iff] at b;obtain ⟨t,c,rfl⟩:=b
 have:=h.2 i x t d c
 exact ⟨.t _ _ this.1,this.1.one this.2⟩
theorem fU{fs:Array Field}(h: ∀f∈fs.toList, ∃i,P.info? f.type=some i)(w:World):
  (fs.mapM fun f=>do pure (f.offset, <-sizeOf f.type):Sem (Array (Nat×Nat))).run P w= .ok (fs.map fun f=>(f.offset,((P.info? f.type).map (·.size)).getD 0)) w:=by
 rw [Array.mapM_eq_mapM_toList];have key: ∀l:List Field,(∀ f∈l, ∃i,P.info? f.type=some i)->(l.mapM (fun f=>do pure (f.offset, <-sizeOf f.type)):Sem (List (Nat×Nat))).run P w= .ok (l.map fun f=>(f.offset,((P.info? f.type).map (·.size)).getD 0)) w:=by
  intro l
  induction l with
  |nil=>intro _;rfl
  |cons f l d=>
   intro b;obtain ⟨i,hi⟩:=b f (by simp)
   have:=d (fun g c=>b g (List.mem_cons_of_mem _ c))
   rw [List.mapM_cons];simp only [Sem.run_bind,run_sizeOf hi,Result.andThen_ok,Sem.run_pure,this,List.map_cons,hi,Option.map_some,Option.getD_some]
 have:=key fs.toList h
 simp only [Sem.run_map,this,Result.andThen_ok]
 congr 1
 apply Array.ext'
 simp
end
section
variable [Glb]{P:Program}{N:Nat}{w0:World}{S0:aa}{o:Oper}{a:Act}{E:Env}{st:St}
theorem pS(h:SR N w0 S0 E st a.tmps)(hd:ay N o.dst){t:TypeId}{d:Array (Nat×Operand)}(ho:o.op= .build t d){x:DOp}(k:ah P o.op=some x):Sound P N w0 S0 o a E st (eff x (st.nm o.dst) st.sl st.bx):=by
 have q: ∀r,(Instr.build t (d.map fun (i,x)=>(i,a.eval x))).run P E.w= .ok r E.w->(execOp a.eval o).run P E.w= .ok (.value r) E.w:=fun r hr=>by
  unfold execOp;simp only [ho,Sem.run_bind,hr,Result.andThen_ok,Sem.run_pure]
 have H: ∀{C},cz P t=some C-> ∃z,(zeroValue t).run P E.w= .ok z E.w/\bu E.S E.w z.cells.toList C:=fun W=>by
  obtain ⟨i,z,hi,X,_,hsz,aq,_⟩:=dw W;exact ⟨z,by simp [zeroValue,typeInfo,hi,X],by simpa using hsz,fun j x u O D=>aq E.S E.w j x u (by simpa using O) D⟩
 have Q: ∀(cells:Array Value) (ts:List T),bu E.S E.w cells.toList ts->Rep E.S E.w (.agg cells) (.agg ts):=fun cells ts l=>by
  have:=eu l.2 l.1
  simpa using this
 have G: ∀(cells:Array Value) (us:List V),dM E cells.toList us->VR E (.agg cells) (.agv us):=fun cells us l=>
  .agv cells us (by simpa using l.1) (fun i x O=>by
   have Y:i<us.length:=by have:=(Array.getElem?_eq_some_iff.1 O).1;have:=l.1;simp at this;omega
   exact (l.2 i x us[i] (by simpa using O) (ggZ Y)).2) (fun i x u O D=>(l.2 i x u (by simpa using O) D).1)
 have F:(d.map fun (i,x)=>(i,a.eval x)).toList=d.toList.map fun (i,x)=>(i,a.eval x):=by simp
 rw [ho] at k;simp only [ah] at k;split at k
 ·rename_i fs C D W;split at k
  ·rename_i L s;cases B:((fs.toList.all fun f=>(P.info? f.type).isSome)&&L.all fun p=>Nat.ble (p.1+p.2.1) C.length) with
   |false=>rw [B] at k;cases k
   |true=>
   rw [B] at k;simp only [cond_true,Option.some.injEq] at k;subst k;rw [Bool.and_eq_true,List.all_eq_true,List.all_eq_true] at B;obtain ⟨R,U⟩:=B;obtain ⟨z,A,y⟩:=H W;unfold eff;simp only;split
   ·rename_i ts c K;intro l;obtain ⟨b,I,J⟩:=hU (mplace:=fun i=>(fs.map fun f=>(f.offset,((P.info? f.type).map (·.size)).getD 0))[i]?) h.sl (fun i p g=>by
     split at g
     ·rename_i f m;simp only [Option.map_eq_some_iff] at g;obtain ⟨j,M,rfl⟩:=g;simp [m,M]
     ·cases g) d.toList L z.cells C ts True c s y (fun p g=>nlZ (U p g)) K l
    refine aj h hd (q (.agg b) ?_) (.t _ _ (Q _ _ J));have Z:=fU (P:=P) (fs:=fs) (fun f m=>Option.isSome_iff_exists.1 (R f m)) E.w;unfold Instr.build;simp only [Sem.run_bind,A,Result.andThen_ok,run_underlying D,Z,F,I,Sem.run_pure]
   ·split
    ·rename_i us c K;intro l;obtain ⟨b,I,J⟩:=gd (mplace:=fun i=>(fs.map fun f=>(f.offset,((P.info? f.type).map (·.size)).getD 0))[i]?) h.sl (fun i p g=>by
      split at g
      ·rename_i f m;simp only [Option.map_eq_some_iff] at g;obtain ⟨j,M,rfl⟩:=g;simp [m,M]
      ·cases g) d.toList L z.cells (C.map .t) us True c s y.toV (fun p g=>by rw [List.length_map];exact nlZ (U p g)) K l
     refine aj h hd (q (.agg b) ?_) (G _ _ J);have Z:=fU (P:=P) (fs:=fs) (fun f m=>Option.isSome_iff_exists.1 (R f m)) E.w;unfold Instr.build;simp only [Sem.run_bind,A,Result.andThen_ok,run_underlying D,Z,F,I,Sem.run_pure]
    ·trivial
  ·cases k
 ·rename_i n e C D W;split at k
  ·rename_i j M;split at k
   ·rename_i L s;cases B:(L.all fun p=>Nat.ble (p.1+p.2.1) C.length) with
    |false=>rw [B] at k;cases k
    |true=>
    rw [B] at k;simp only [cond_true,Option.some.injEq] at k;subst k;rw [List.all_eq_true] at B;obtain ⟨z,A,y⟩:=H W;unfold eff;simp only;split
    ·rename_i ts c K;intro l;obtain ⟨b,I,J⟩:=hU (mplace:=fun i=>some (i * j.size,j.size)) h.sl (fun i p g=>g) d.toList L z.cells C ts True c s y (fun p g=>nlZ (B p g)) K l;refine aj h hd (q (.agg b) ?_) (.t _ _ (Q _ _ J));unfold Instr.build;simp only [Sem.run_bind,A,Result.andThen_ok,run_underlying D,run_sizeOf M,F,I,Sem.run_pure]
    ·split
     ·rename_i us c K;intro l;obtain ⟨b,I,J⟩:=gd (mplace:=fun i=>some (i * j.size,j.size)) h.sl (fun i p g=>g) d.toList L z.cells (C.map .t) us True c s y.toV (fun p g=>by rw [List.length_map];exact nlZ (B p g)) K l;refine aj h hd (q (.agg b) ?_) (G _ _ J);unfold Instr.build;simp only [Sem.run_bind,A,Result.andThen_ok,run_underlying D,run_sizeOf M,F,I,Sem.run_pure]
     ·trivial
   ·cases k
  ·cases k
 ·cases k
end
end Go.DL
end
section
namespace Go.DL
open Go.RowKit
section
variable [Glb]{P:Program}{N:Nat}{w0:World}{S0:aa}{o:Oper}{a:Act}{E:Env}{st:St}
end
section
variable {P:Program}{N:Nat}{w0:World}{S0:aa}{o:Oper}{a:Act}{E:Env}{st:St}
theorem bE: ∀{b:List Sh} {xs:List T},fits b xs->xs.length=b.length
 |[],[],_=>rfl
 |[],_::_,h=>by simp [fits] at h
 |_::_,[],h=>by simp [fits] at h
 |s::b,x::xs,h=>by
  have:fits b xs:=by
   cases s <;> cases x <;> simp only [fits] at h <;> first|exact h.2|exact h|exact h.elim
  simp [bE this]
theorem bd: ∀{s1 s2:List Sh} {xs:List T},fits (s1++s2) xs->fits s1 (xs.take s1.length)/\fits s2 (xs.drop s1.length)
 |[],s2,xs,h=>by simpa [fits] using h
 |s::s1,s2,[],h=>by simp [fits] at h
 |s::s1,s2,x::xs,h=>by
  simp only [List.cons_append,List.length_cons,List.take_succ_cons,List.drop_succ_cons] at h ⊢;cases s <;> cases x <;> simp only [fits] at h ⊢ <;> first
   |exact h.elim
   |(obtain ⟨b,c⟩:=bd h.2;exact ⟨⟨h.1,b⟩,c⟩)
   |exact bd h
theorem eV: ∀(a c:List T) (b d:List T),a.length=c.length->eqL (a++b) (c++d)=(eqL a c&&eqL b d)
 |[],[],b,d,_=>by simp [eqL]
 |[],_::_,_,_,h=>by simp at h
 |_::_,[],_,_,h=>by simp at h
 |x::a,y::c,b,d,h=>by
  have e:=eV a c b d (by simpa using h);cases x <;> cases y <;> simp [eqL,e,Bool.and_assoc]
end
section
variable [Glb]{P:Program}{N:Nat}{w0:World}{S0:aa}{o:Oper}{a:Act}{E:Env}{st:St}
structure Of (P:Program) (S:ar) (w:World) (t:TypeId) (x:Value) (xs:List T):Prop where
 agg:au P t=true-> ∃c,x= .agg c
 one:au P t=false->x.oneCell'=true
 rep:bu S w x.cells.toList xs
end
section
variable {P:Program}{N:Nat}{w0:World}{S0:aa}{o:Oper}{a:Act}{E:Env}{st:St}
theorem eR{x:Value}(h:x.oneCell'=true):x.cells= #[x]:=by cases x <;> first|rfl|simp [Value.oneCell'] at h
theorem qq{S:ar}{w:World}{cs:List Value}{ts:List T}(h:bu S w cs ts)(off n:Nat):bu S w ((cs.drop off).take n) ((ts.drop off).take n):=by
 refine ⟨by simp [h.1],fun i x t b c=>?_⟩;rw [aH] at b c;split at b
 ·rename_i hi;rw [if_pos hi] at c;exact h.2 _ x t b c
 ·cases b
theorem ez{S:ar}{w:World}{t:TypeId}{d:TypeDesc}{i:TypeInfo}(c:P.underlying t=some d)(hi:P.info? t=some i)(k:au P t=false->i.size=1){cs:Array Value}{ts:List T}(h:bu S w cs.toList ts)
  {off:Nat} (m:off+i.size<=ts.length): ∃v,(part t cs off).run P w= .ok v w/\Of P S w t v ((ts.drop off).take i.size):=by
 have n:cs.size=ts.length:=by simpa using h.1
 cases b:au P t with
 |true=>
  refine ⟨_,fD c hi b cs off w,fun _=>⟨_,rfl⟩,(fun e=>by rw [b] at e;cases e),?_⟩
  have:=qq h off i.size
  show bu S w (cs.extract off (off+i.size)).toList _
  rw [Array.toList_extract,List.extract_eq_take_drop];rw [show off+i.size - off=i.size by omega];exact this
 |false=>
  have k:=k b;have f:off<cs.size:=by omega
  have p:ts[off]? =some (ts[off]'(by omega)):=ggZ _;have g:=h.2 off cs[off] _ (by simp [f]) p;refine ⟨cs[off],fF c b cs off _ (by simp [f]) w,(fun e=>by rw [b] at e;cases e),fun _=>g.1.one g.2,?_⟩;rw [eR (g.1.one g.2),k]
  have:(ts.drop off).take 1=[ts[off]'(by omega)]:=by
   rw [List.drop_eq_getElem_cons (by omega)];rfl
  rw [this];refine ⟨rfl,fun j x u l c=>?_⟩;cases j with
  |zero=>simp at l c;subst l;subst c;exact g
  |succ j=>simp at c
end
section
variable [Glb]{P:Program}{N:Nat}{w0:World}{S0:aa}{o:Oper}{a:Act}{E:Env}{st:St}
def qi(P:Program)(d:Nat)(t:TypeId)(b:List Sh):Prop:=
 ∀(S:ar) (w:World) (D:Nat) (x y:Value) (xs ys:List T),d<=D->Of P S w t x xs->Of P S w t y ys->fits b xs->fits b ys->(Op.equalIn D t x y).run P w= .ok (eqL xs ys) w
end
section
variable {P:Program}{N:Nat}{w0:World}{S0:aa}{o:Oper}{a:Act}{E:Env}{st:St}
theorem kH{d:Nat}{e:TypeId}{J:TypeDesc}{i:TypeInfo}{s:List Sh}(H:qi P d e s)(p:P.underlying e=some J)(hi:P.info? e=some i)(G:s.length=i.size)(I:0<i.size)(j:au P e=false->i.size=1)
  {S:ar} {w:World} {D:Nat} (z:d<=D) {X Y:Array Value} {A B:List T} (C:bu S w X.toList A) (F:bu S w Y.toList B): ∀(m k:Nat),fits (List.replicate m s).flatten (A.drop (k * i.size))->fits (List.replicate m s).flatten (B.drop (k * i.size))->
   (Op.eqItems D e i.size X Y (List.range' k m)).run P w= .ok (eqL (A.drop (k * i.size)) (B.drop (k * i.size))) w
 |0,k,fa,fb=>by
  have K:A.drop (k * i.size)=[]:=by cases h:A.drop (k * i.size) with|nil=>rfl|cons x xs=>rw [h] at fa;simp [fits] at fa
  have L:B.drop (k * i.size)=[]:=by cases h:B.drop (k * i.size) with|nil=>rfl|cons x xs=>rw [h] at fb;simp [fits] at fb
  rw [K,L];simp [Op.eqItems,eqL]
 |m+1,k,fa,fb=>by
  have M:=bE fa;have O:=bE fb;rw [List.replicate_succ,List.flatten_cons] at fa fb;rw [List.replicate_succ,List.flatten_cons,List.length_append,List.length_drop] at M O;obtain ⟨f,b⟩:=bd fa;obtain ⟨g,c⟩:=bd fb;rw [G] at f b g c;rw [List.drop_drop] at b c;have n:k * i.size+i.size=(k+1) * i.size:=by rw [Nat.add_mul];omega
  rw [n] at b c;obtain ⟨u,q,r⟩:=ez p hi j C (off:=k * i.size) (by omega);obtain ⟨v,t,y⟩:=ez p hi j F (off:=k * i.size) (by omega);have l:=H S w D u v _ _ z r y f g;have rest:=kH H p hi G I j z C F m (k+1) b c;have Q:eqL (A.drop (k * i.size)) (B.drop (k * i.size))=(eqL ((A.drop (k * i.size)).take i.size) ((B.drop (k * i.size)).take i.size)&&eqL (A.drop ((k+1) * i.size)) (B.drop ((k+1) * i.size))):=by
   rw [<- eV _ _ _ _ (by simp;omega)]
   congr 1
   ·rw [<- n, <-List.drop_drop,List.take_append_drop]
   ·rw [<- n, <-List.drop_drop,List.take_append_drop]
  rw [List.range'_succ];simp only [Op.eqItems,Sem.run_bind,q,t,l,Result.andThen_ok,Q];cases eqL ((A.drop (k * i.size)).take i.size) ((B.drop (k * i.size)).take i.size) with
  |true=>simpa using rest
  |false=>simp
theorem jA{d:Nat}(V: ∀t k,shapeOf P d t=some k->qi P d t k)(M: ∀t k,shapeOf P d t=some k->(∃ L,P.underlying t=some L)/\(au P t=false->k.length=1))
  {S:ar} {w:World} {D:Nat} (O:d<=D) {X Y:Array Value} {A B:List T} (Q:bu S w X.toList A) (R:bu S w Y.toList B): ∀(fs:List Field) (off:Nat) (ss:List Sh),shapeOf.shapesOf (shapeOf P d) P fs off=some ss->
   fits ss (A.drop off)->fits ss (B.drop off)->(Op.eqFields D X Y fs).run P w= .ok (eqL (A.drop off) (B.drop off)) w
 |[],off,ss,h,fa,fb=>by
  simp [shapeOf.shapesOf] at h;subst h;have W:A.drop off=[]:=by cases h:A.drop off with|nil=>rfl|cons x xs=>rw [h] at fa;simp [fits] at fa
  have Z:B.drop off=[]:=by cases h:B.drop off with|nil=>rfl|cons x xs=>rw [h] at fb;simp [fits] at fb
  rw [W,Z];simp [Op.eqFields,eqL]
 |f::fs,off,ss,h,fa,fb=>by
  unfold shapeOf.shapesOf at h;split at h
  ·rename_i s r U hr;cases m:(Nat.beq s.length (P.cellsOf f.type)&&Nat.beq f.offset off&&f.name != "_" &&Nat.blt 0 s.length) with
   |false=>rw [m] at h;cases h
   |true=>
   rw [m] at h;simp only [cond_true,Option.some.injEq] at h;subst h;simp only [Bool.and_eq_true] at m;obtain ⟨⟨⟨n,p⟩,q⟩,y⟩:=m;have aI:0<s.length:=Nat.lt_of_lt_of_le (Nat.lt_succ_self 0) (nlZ y);have b:s.length=P.cellsOf f.type:=Nat.eq_of_beq_eq_true n;have qI:f.offset=off:=Nat.eq_of_beq_eq_true p;have oR:f.name≠ "_" :=by simpa using q
   obtain ⟨⟨L,F⟩,K⟩:=M _ _ U;have la:=bE fa;have lb:=bE fb;rw [List.length_append,List.length_drop] at la lb;have uK:s.length=0\/ ∃i,P.info? f.type=some i/\i.size=s.length:=by
    cases hi:P.info? f.type with
    |none=>left;rw [b];simp [Program.cellsOf,hi]
    |some i=>right;exact ⟨i,rfl,by rw [b];simp [Program.cellsOf,hi]⟩
   have mP: ∃i,P.info? f.type=some i/\i.size=s.length:=by
    cases hi:P.info? f.type with
    |none=>simp [Program.underlying,hi] at F
    |some i=>exact ⟨i,rfl,by rw [b];simp [Program.cellsOf,hi]⟩
   obtain ⟨i,hi,l⟩:=mP;obtain ⟨g,c⟩:=bd fa;obtain ⟨j,e⟩:=bd fb;rw [List.drop_drop] at c e;rw [<- l] at g c j e;obtain ⟨u,G,H⟩:=ez F hi (fun C=>by rw [l];exact K C) Q (off:=off) (by omega);obtain ⟨v,I,J⟩:=ez F hi (fun C=>by rw [l];exact K C) R (off:=off) (by omega);have z:=V _ _ U S w D u v _ _ O H J g j;have rest:=jA V M O Q R fs (off+i.size) r (by rw [l,b];exact hr) c e;have mY:eqL (A.drop off) (B.drop off)=(eqL ((A.drop off).take i.size) ((B.drop off).take i.size)&&eqL (A.drop (off+i.size)) (B.drop (off+i.size))):=by
    rw [<- eV _ _ _ _ (by simp;omega)]
    congr 1
    ·rw [<- List.drop_drop,List.take_append_drop]
    ·rw [<- List.drop_drop,List.take_append_drop]
   unfold Op.eqFields;rw [if_pos oR,qI];simp only [Sem.run_bind,G,I,z,Result.andThen_ok,mY];cases eqL ((A.drop off).take i.size) ((B.drop off).take i.size) with
   |true=>simpa using rest
   |false=>simp
  ·cases h
theorem dJ: ∀(d:Nat) (t:TypeId) (f:List Sh),shapeOf P d t=some f->(∃ g,P.underlying t=some g)/\(au P t=false->f.length=1)
 |0,_,_,h=>by simp [shapeOf] at h
 |d+1,t,f,h=>by
  unfold shapeOf at h;split at h
  ·rename_i b;cases h;exact ⟨⟨_,b⟩,fun _=>rfl⟩
  ·rename_i k b;cases h;exact ⟨⟨_,b⟩,fun _=>rfl⟩
  ·rename_i b;cases h;exact ⟨⟨_,b⟩,fun _=>rfl⟩
  ·rename_i len e b;exact ⟨⟨_,b⟩,fun c=>by simp [au,b] at c⟩
  ·rename_i fs b;exact ⟨⟨_,b⟩,fun c=>by simp [au,b] at c⟩
  ·cases h
theorem single{S:ar}{w:World}{t:TypeId}{x:Value}{xs:List T}(h:Of P S w t x xs)(e:au P t=false){s:Sh}(c:fits [s] xs): ∃u,xs=[u]/\Rep S w x u/\fits [s] [u]:=by
 have d:=h.one e;have b:=h.rep;rw [eR d] at b;cases xs with
 |nil=>simp [fits] at c
 |cons u us=>
  have f:=b.1
  have:us=[]:=by cases us with|nil=>rfl|cons _ _=>simp at f
  subst this;exact ⟨u,rfl,(b.2 0 x u rfl rfl).1,c⟩
theorem iB: ∀(d:Nat) (t:TypeId) (F:List Sh),shapeOf P d t=some F->qi P d t F
 |0,_,_,h=>by simp [shapeOf] at h
 |d+1,t,F,h=>by
  intro S w D x y xs ys R l m q r;obtain ⟨D,rfl⟩: ∃J,D=J+1:=⟨D - 1,by omega⟩
  unfold shapeOf at h;split at h
  ·rename_i b;cases h;have c:au P t=false:=by simp [au,b]
   obtain ⟨u,rfl,f,n⟩:=single l c q;obtain ⟨v,rfl,g,p⟩:=single m c r;cases u <;> simp only [fits] at n
   cases v <;> simp only [fits] at p
   rw [f.aT,g.aT,run_equalIn_bool' w D t _ _ b];simp [eqL]
  ·rename_i k b;cases h;have c:au P t=false:=by simp [au,b]
   obtain ⟨u,rfl,f,n⟩:=single l c q;obtain ⟨v,rfl,g,p⟩:=single m c r;cases u <;> simp only [fits] at n
   cases v <;> simp only [fits] at p
   obtain ⟨rfl,_⟩:=n;obtain ⟨rfl,_⟩:=p;rw [f.aA,g.aA,run_equalIn_int w D t _ _ _ _ b];simp [eqL]
  ·rename_i b;cases h;have c:au P t=false:=by simp [au,b]
   obtain ⟨u,rfl,f,n⟩:=single l c q;obtain ⟨v,rfl,g,p⟩:=single m c r;cases u <;> simp only [fits] at n
   cases v <;> simp only [fits] at p
   rw [f.bj,g.bj,run_equalIn_string w D t _ _ b];simp [eqL,beq_toListBytes]
  ·rename_i len e b;split at h
   ·rename_i s I;cases z:(Nat.beq s.length (P.cellsOf e)&&Nat.blt 0 s.length) with
    |false=>rw [z] at h;cases h
    |true=>
    rw [z] at h;simp only [cond_true,Option.some.injEq] at h;subst h;rw [Bool.and_eq_true] at z;have B:s.length=P.cellsOf e:=Nat.eq_of_beq_eq_true z.1;have O:0<s.length:=Nat.lt_of_lt_of_le (Nat.lt_succ_self 0) (nlZ z.2);have c:au P t=true:=by simp [au,b]
    obtain ⟨X,rfl⟩:=l.agg c;obtain ⟨Y,rfl⟩:=m.agg c;obtain ⟨⟨Q,C⟩,K⟩:=dJ d e s I;have M: ∃i,P.info? e=some i/\i.size=s.length:=by
     cases hi:P.info? e with
     |none=>simp [Program.underlying,hi] at C
     |some i=>exact ⟨i,rfl,by rw [B];simp [Program.cellsOf,hi]⟩
    obtain ⟨i,hi,G⟩:=M
    have:=kH (iB d e s I) C hi G.symm (by omega) (fun L=>by rw [G];exact K L) (show d<=D by omega) l.rep m.rep len 0 (by simpa using q) (by simpa using r)
    have H:P.cellsOf e=i.size:=by rw [G,B]
    rw [run_equalIn_array w D X Y b hi,List.range_eq_range',H];rw [Nat.zero_mul,List.drop_zero,List.drop_zero] at this;exact this
   ·cases h
  ·rename_i fs b;cases j:P.stoodInHeld t with
   |true=>rw [j] at h;simp at h
   |false=>
   rw [j] at h;simp only [Bool.false_eq_true,if_false] at h;have c:au P t=true:=by simp [au,b]
   obtain ⟨X,rfl⟩:=l.agg c;obtain ⟨Y,rfl⟩:=m.agg c;have A:P.fieldsOf t=fs:=by simp [Program.fieldsOf,b]
   rw [run_equalIn_struct w D t X Y (by rw [A];exact b) j,A]
   have:=jA (iB d) (dJ d) (show d<=D by omega) l.rep m.rep fs.toList 0 F h (by simpa using q) (by simpa using r)
   rw [List.drop_zero,List.drop_zero] at this;exact this
  ·cases h
theorem nz{S:ar}{w:World}{t:TypeId}(f:au P t=true){c:Array Value}{u:List T}(h:Rep S w (.agg c) (.agg u)):Of P S w t (.agg c) u:=by
 have b:=h.cells (fun ts e=>by cases e);exact ⟨fun _=>⟨c,rfl⟩,(fun d=>by rw [f] at d;cases d),⟨by simpa [T.cells] using b.1,fun i y v j g=>b.2 i y v (by simpa using j) g⟩⟩
end
section
variable [Glb]{P:Program}{N:Nat}{w0:World}{S0:aa}{o:Oper}{a:Act}{E:Env}{st:St}
theorem sd(h:SR N w0 S0 E st a.tmps)(hd:ay N o.dst){k:BinOp}{t ty:TypeId}{X Y:Operand}{x y:O}(n:k= .eql\/k= .neq)(r:o.op= .binOp k t X Y ty)(F:ak X=some x)(G:ak Y=some y)
  {q:List Sh} (p:shapeOf P 100 t=some q) (B:P.eqGuardType P.depth t=false) (e:au P t=true):
  Sound P N w0 S0 o a E st (eff (.eqv (aM k) q x y) (st.nm o.dst) st.sl st.bx):=by
 have g:=af h.sl F;have i:=af h.sl G;unfold eff;simp only;split
 ·rename_i u v C D;rw [C] at g;rw [D] at i;have b:=g.ax;have d:=i.ax;rintro ⟨z,A⟩;obtain ⟨c,l⟩:=gM b;obtain ⟨s,m⟩:=gM d;rw [l] at b;rw [m] at d;have f:=iB 100 t q p E.S E.w 10000 _ _ u v (by omega) (nz e b) (nz e d) z A;have j:=run_eqGuard_agg (P:=P) E.w k t X Y c s B;rcases n with rfl|rfl
  ·refine aj h hd (v:=.bool (eqL u v)) ?_ (.t _ _ (.bool _));unfold execOp;simp only [r,l,m,Sem.run_bind,j,Result.andThen_ok,run_eql_struct,f,Sem.run_pure]
  ·refine aj h hd (v:=.bool (!eqL u v)) ?_ (.t _ _ (.bool _));unfold execOp;simp only [r,l,m,Sem.run_bind,j,Result.andThen_ok,run_neq_struct,f,Sem.run_pure]
 ·trivial
theorem r9(h:SR N w0 S0 E st a.tmps)(hd:ay N o.dst){e:BinOp}{t ty:TypeId}{X Y:Operand}{x y:O}(f:e= .eql\/e= .neq)(l:o.op= .binOp e t X Y ty)(n:ak X=some x)(p:ak Y=some y)
  (m:P.underlying t=some .bool):Sound P N w0 S0 o a E st (eff (.eqB (aM e) x y) (st.nm o.dst) st.sl st.bx):=by
 have c:=af h.sl n;have d:=af h.sl p;unfold eff;simp only;split
 ·rename_i u v g i;rw [g] at c;rw [i] at d;have j:=c.aT;have k:=d.aT;have b:=run_equal_bool (P:=P) E.w t u v m;intro _;rcases f with rfl|rfl
  ·refine aj h hd (v:=.bool (u==v)) ?_ (.t _ _ (.bool _));unfold execOp;simp [l,j,k,binOp,b,eqGuard]
  ·refine aj h hd (v:=.bool (!(u==v))) ?_ (.t _ _ (.bool _));unfold execOp;simp [l,j,k,binOp,b,eqGuard]
 ·trivial
end
section
variable {P:Program}{N:Nat}{w0:World}{S0:aa}{o:Oper}{a:Act}{E:Env}{st:St}
theorem eE{α:Type}{b:List α}(d:0<b.length): ∀n j,j<n * b.length->(List.replicate n b).flatten[j]? =b[j % b.length]?
 |0,j,h=>by simp at h
 |n+1,j,h=>by
  rw [List.replicate_succ,List.flatten_cons]
  by_cases c:j<b.length
  ·rw [List.getElem?_append_left c,Nat.mod_eq_of_lt c]
  ·rw [List.getElem?_append_right (by omega),eE d n (j - b.length) (by rw [Nat.add_mul] at h;omega)];rw [<- Nat.mod_eq_sub_mod (by omega)]
end
section
variable [Glb]{P:Program}{N:Nat}{w0:World}{S0:aa}{o:Oper}{a:Act}{E:Env}{st:St}
theorem pT(h:SR N w0 S0 E st a.tmps)(hd:ay N o.dst){X:Operand}{t e:TypeId}{j:TypeInfo}{p:List T}{y:O}(ho:o.op= .call {callee:=.builtin .clear,args:= #[X],argTypes:= #[t]})(hy:ak X=some y)
  (B:P.underlying t=some (.slice e)) (U:P.info? e=some j) (hz:cz P e=some p) (aI:0<j.size):Sound P N w0 S0 o a E st (eff (.clr j.size p y) (st.nm o.dst) st.sl st.bx):=by
 have Q:=af h.sl hy;obtain ⟨i,z,hi,C,A,I,Z,_⟩:=dw hz;rw [U] at hi;cases hi;unfold eff;simp only;cases G:ev st.sl y with
 |view b off len sz=>
  rw [G] at Q;obtain ⟨cap,hX,_,hlv⟩:=Q.bO;simp only;cases M:st.bx b with
  |none=>trivial
  |some bx=>
   cases bx with
   |m _ _ _ _=>trivial
   |it _ _ _ _=>trivial
   |itd _ _=>trivial
   |v vs=>trivial
   |d m ts=>
    simp only;cases hs:Nat.beq j.size sz with
    |false=>trivial
    |true=>
     rintro ⟨V,hle⟩;obtain ⟨cs,e',hg,hc⟩:=(h.bx b _ M).cells rfl;cases hc with
     |d _ _ hl hsz R=>
      let vs:List Value:=(Builtin.zeroCells z.cells len).toList
      have r:vs.length=len * j.size:=by simp [vs,Builtin.zeroCells,I,A]
      have tP:0<p.length:=by omega
      have Y: ∀(k:Nat) (x:Value) (u:T),vs[k]? =some x->(List.replicate len p).flatten[k]? =some u->Rep E.S E.w x u/\u.one=true:=fun k x u H B=>by
       have q:k<len * j.size:=by rw [<- r];exact (gsZ H).1
       rw [eE tP len k (by rw [<- A];exact q)] at B;have mS:k % z.cells.size<z.cells.size:=Nat.mod_lt _ (by omega);have s:z.cells[k % z.cells.size]? =some x:=by
        have:vs[k]? =some (z.cells[k % z.cells.size]!):=by simp [vs,Builtin.zeroCells,I, <-A,q]
        rw [this] at H;rw [<- H];simp [mS]
       rw [I] at s;exact Z E.S E.w _ x u s B
      have l:(List.replicate len p).flatten.length=len * j.size:=by simp [A]
      have h1: ∀v∈vs,v.oneCell'=true:=fun v G=>by
       obtain ⟨k,q⟩:=List.mem_iff_getElem?.1 G;have D:k<(List.replicate len p).flatten.length:=by rw [l, <-r];exact (gsZ q).1
       have:=Y k v _ q (ggZ D)
       exact this.1.one this.2
      have W:=run_storeCells_at P (E.κ b) off e' vs 0 cs E.w hg (by omega) h1;simp only [Nat.add_zero] at W;have J:(execOp a.eval o).run P E.w= .ok (.value (.tuple #[])) (E.w.setRow (E.κ b) (cs.toList.take off++vs++cs.toList.drop (off+vs.length)).toArray):=by
       obtain ⟨n,rfl⟩: ∃n,len=n+1:=⟨len - 1,by omega⟩
       refine aG ho ?_;have F:(storeCells ⟨E.κ b,off,none⟩ (Builtin.zeroCells z.cells (n+1)).toList).run P E.w= .ok () (E.w.setRow (E.κ b) (cs.toList.take off++vs++cs.toList.drop (off+vs.length)).toArray):=W;simp [builtin,Builtin.clear_,hX,run_underlying B,zeroValue,typeInfo,U,C,F]
      refine ⟨_,_,{E with w:=E.w.setRow (E.κ b) (cs.toList.take off++vs++cs.toList.drop (off+vs.length)).toArray },J,.inl rfl,?_⟩;rw [gC];refine (h.write M rfl _ _ fun E' g=>?_).cL hd (.top _);refine .d m _ (by rw [bP _ _ _ _ l (by omega)];exact hl) (by simp;omega) (fun k v w c f=>?_);rw [List.getElem?_toArray,bC _ _ _ (by simp;omega)] at c;rw [bG _ _ _ _ l (by omega)] at f
      by_cases K:k<off
      ·rw [if_pos K] at c f
       have:=R k v w (by simpa using c) f
       exact ⟨g.rep this.1,this.2⟩
      ·rw [if_neg K] at c f
       by_cases L:k<off+len * j.size
       ·rw [if_pos (by omega)] at c;rw [if_pos L] at f
        have:=Y (k - off) v w c f
        exact ⟨g.rep this.1,this.2⟩
       ·rw [if_neg (by omega)] at c;rw [if_neg L] at f
        have:=R k v w (by simpa using c) f
        exact ⟨g.rep this.1,this.2⟩
 |_=>trivial
end
end Go.DL
end
section
namespace Go.DL
open Go.RowKit
section
variable [Glb]{P:Program}{N:Nat}{w0:World}{S0:aa}{o:Oper}{a:Act}{E:Env}{st:St}
theorem SR.ki{b:Array Value}(h:SR N w0 S0 E st b){n:Nat}(J:st.bx n=none)(F:Obj)(B:BX)(I: ∀x:Env,Grow E x->bS x F B)(v:Value)(u:V)
  (K: ∀x:Env,x.κ n=E.w.heap.size->x.live n=true->VR x v u) {d:Nat} (hd:d<N):
  SR N w0 S0 {E with w:=E.w.alloc F,κ:=upd E.κ n E.w.heap.size,live:=upd E.live n true } {st with sl:=upd st.sl d u,bx:=upd st.bx n (some B)}
   (b.setIfInBounds d v):=by
 have L:E.live n=false:=by rw [h.live,J];rfl
 have ne: ∀m,E.live m=true->m≠n:=fun m c e=>by rw [e,L] at c;cases c
 have s: ∀m,E.live m=true->E.κ m<E.w.heap.size:=fun m c=>by
  rw [h.live] at c;obtain ⟨j,p⟩:=Option.isSome_iff_exists.1 c;exact (h.bx m j p).lt
 have A:Below E.w.heap.size E.w (E.w.alloc F):=(Below.refl _ _).alloc (Nat.le_refl _) _;have g:Grow E {E with w:=E.w.alloc F,κ:=upd E.κ n E.w.heap.size,live:=upd E.live n true }:=
  ⟨rfl,fun m c=>⟨by show upd E.live n true m=true;rw [ae _ _ _ _ (ne m c)];exact c,ae _ _ _ _ (ne m c)⟩,
   fun r k D=>⟨D,A.block k (h.rows r k D).2.1,fun _=>Iff.rfl⟩,fun _ _ t=>t,fun b o t=>aC.cY A (h.lt b o t)⟩
 refine ⟨by simp [h.size],h.base,h.glob,fun m=>?_,fun k m=>(h.gh k m).grow g,fun m j c=>?_,fun m=>?_,fun m C c i q=>?_,fun r k D=>?_,h.rinj,fun b o t=>?_,?_,h.s0,h.s1,fun k o G=>⟨(h.obj k o G).1,(A.block k (Array.getElem?_eq_some_iff.1 (h.obj k o G).2).1).trans (h.obj k o G).2⟩,h.cx⟩
 ·rw [hZ (by rw [h.size];exact hd)]
  by_cases c:m=d
  ·subst c;rw [if_pos rfl];show VR _ _ (upd st.sl m _ m)
   rw [ai];exact K _ (ai _ _ _) (ai _ _ _)
  ·rw [if_neg c];show VR _ _ (upd st.sl d _ m)
   rw [ae _ _ _ _ c];exact (h.sl m).grow g
 ·by_cases f:m=n
  ·subst f;have p:B=j:=by
    have:upd st.bx m (some B) m=some j:=c
    rw [ai] at this;exact Option.some.inj this
   subst p;show bI _ (upd E.κ m E.w.heap.size m) _
   rw [ai];exact ⟨by rw [g.B,h.base];exact h.below.size,fun o t=>absurd (h.lt _ o t) (Nat.lt_irrefl _),_,heap_alloc_new _ _,I _ g⟩
  ·have i:st.bx m=some j:=by
    have:upd st.bx n (some B) m=some j:=c
    rwa [ae _ _ _ _ f] at this
   show bI _ (upd E.κ n E.w.heap.size m) j
   rw [ae _ _ _ _ f];have z:=h.bx m j i;exact z.grow g (A.block _ (s m (by rw [h.live,i];rfl))) z.free
 ·show upd E.live n true m=(upd st.bx n (some _) m).isSome
  by_cases f:m=n
  ·subst f;rw [ai,ai];rfl
  ·rw [ae _ _ _ _ f,ae _ _ _ _ f];exact h.live m
 ·have c:upd E.live n true m=true:=c;have i:upd E.live n true C=true:=i;have q:upd E.κ n E.w.heap.size m=upd E.κ n E.w.heap.size C:=q
  by_cases l:m=n <;> by_cases y:C=n
  ·rw [l,y]
  ·subst l;rw [ae _ _ _ _ y] at i;rw [ai,ae _ _ _ _ y] at q;exact absurd (s C i) (by omega)
  ·subst y;rw [ae _ _ _ _ l] at c;rw [ai,ae _ _ _ _ l] at q;exact absurd (s m c) (by omega)
  ·rw [ae _ _ _ _ l] at c q;rw [ae _ _ _ _ y] at i q;exact h.inj m C c i q
 ·obtain ⟨l,y,H⟩:=h.rows r k D;refine ⟨l,by simp;omega,fun m c=>?_⟩;have c:upd E.live n true m=true:=c;show upd E.κ n E.w.heap.size m≠k
  by_cases f:m=n
  ·subst f;rw [ai];omega
  ·rw [ae _ _ _ _ f] at c ⊢;exact H m c
 ·have:=h.lt b o t
  simp;omega
 ·exact h.below.trans (A.mono h.below.size)
theorem SR.sG{b:Array Value}(h:SR N w0 S0 E st b){n:Nat}(l:st.bx n=none)(f:Bool)(g:List Sh)
  {d:Nat} (hd:d<N):
  SR N w0 S0 {E with w:=E.w.alloc (.map #[] 0),κ:=upd E.κ n E.w.heap.size,live:=upd E.live n true } {st with sl:=upd st.sl d (.mp n),bx:=upd st.bx n (some (.m f g [] none))}
   (b.setIfInBounds d (.map (some E.w.heap.size))):=
 h.ki l _ _ (fun _ _=>.map #[] 0 f g [] none ⟨rfl,fun i x e c=>by simp at c,fun x c=>by simp at c,by simp,fun p q=>by cases q⟩) _ _ (fun r j k=>by rw [<- j];exact .mp n k) hd
theorem SR.qf{b:Array Value}(h:SR N w0 S0 E st b){n:Nat}{B:BX}(I:st.bx n=some B)(x:Obj)(p:BX)
  (K: ∀G:Env,Grow E G->bS G x p):
  SR N w0 S0 {E with w:={E.w with heap:=E.w.heap.setIfInBounds (E.κ n) x }} {st with bx:=upd st.bx n (some p)} b:=by
 have j:=h.bx n _ I;obtain ⟨o0,z,M⟩:=j.at_;have F:bY o0=false:=by cases M <;> rfl
 have D:E.live n=true:=by rw [h.live,I];rfl
 have L:E.κ n<E.w.heap.size:=j.lt;have c: ∀k,k≠E.κ n->(E.w.heap.setIfInBounds (E.κ n) x)[k]? =E.w.heap[k]? :=fun k l=>(Go.MapKept.heap_set z).2 k l
 have g:Grow E {E with w:={E.w with heap:=E.w.heap.setIfInBounds (E.κ n) x }}:=⟨rfl,fun _ h=>⟨h,rfl⟩,fun r k y=>⟨y,c k (fun e=>(h.rows r k y).2.2 n D e.symm),fun _=>Iff.rfl⟩,fun _ _ u=>u,
  fun b o u=>aC.dG (c b (fun e=>j.free o (e▸u)))⟩
 have f:(E.w.heap.setIfInBounds (E.κ n) x).size=E.w.heap.size:=by simp
 refine ⟨h.size,h.base,h.glob,fun m=>(h.sl m).grow g,fun k m=>(h.gh k m).grow g,fun m q H=>?_,fun m=>?_,h.inj,fun r k y=>?_,h.rinj,fun b o u=>?_,?_,h.s0,h.s1,
  fun k o l=>⟨(h.obj k o l).1,(c k fun e=>by have i:=(h.obj k o l);rw [e,z] at i;have A:=i.2;cases A;rw [F] at i;cases i.1).trans (h.obj k o l).2⟩,h.cx⟩
 ·by_cases d:m=n
  ·subst d;have C:p=q:=by
    have:upd st.bx m (some p) m=some q:=H
    rw [ai] at this;exact Option.some.inj this
   subst C;exact ⟨j.old,j.free,_,(Go.MapKept.heap_set z).1,K _ g⟩
  ·have t:st.bx m=some q:=by
    have:upd st.bx n (some p) m=some q:=H
    rwa [ae _ _ _ _ d] at this
   have s:=h.bx m q t;exact s.grow g (c _ (fun e=>d (h.inj m n (by rw [h.live,t];rfl) D e))) s.free
 ·show E.live m=(upd st.bx n (some _) m).isSome
  by_cases d:m=n
  ·subst d;rw [ai];exact D
  ·rw [ae _ _ _ _ d];exact h.live m
 ·obtain ⟨i,A,J⟩:=h.rows r k y;exact ⟨i,by rw [f];exact A,J⟩
 ·rw [f];exact h.lt b o u
 ·refine h.below.trans (.of rfl rfl rfl (by rw [f];exact Nat.le_refl _) (fun k l=>c k ?_) (Nat.le_refl _))
  have:=j.old
  rw [h.base] at this;omega
theorem SR.nP{b:Array Value}(h:SR N w0 S0 E st b){n:Nat}{f:Bool}{i:List Sh}{j:List (T×T)}{p:Option (List Nat×Nat)}(l:st.bx n=some (.m f i j p))(d:Array MapEntry)(c:Nat)(e:List (T×T))
  (k:bN E d c f i e none):
  SR N w0 S0 {E with w:={E.w with heap:=E.w.heap.setIfInBounds (E.κ n) (.map d c)}} {st with bx:=upd st.bx n (some (.m f i e none))} b:=
 h.qf l _ _ fun _ g=>.map d c f i e none (k.grow g)
end
section
variable {P:Program}{N:Nat}{w0:World}{S0:aa}{o:Oper}{a:Act}{E:Env}{st:St}
theorem lV: ∀{a b:List Sh},kY a b=true->a=b
 |[],[],_=>rfl
 |[],_::_,h=>by cases h
 |_::_,[],h=>by cases h
 |x::a,y::b,h=>by
  simp only [kY,Bool.and_eq_true] at h;have c:x=y:=by
   have:=h.1
   cases x <;> cases y <;> simp_all [Sh.same]
  rw [c,lV h.2]
theorem eZ{d b:Bool}{e c:List Sh}(h:cC d e b c=true):d=b/\e=c:=by
 simp only [cC,Bool.and_eq_true,beq_iff_eq] at h;exact ⟨h.1,lV h.2⟩
theorem nc{S:ar}{w:World}{f:TypeId}{v:Value}{k:T}{d:List Sh}(h:Rep S w v k)(b:aV (au P f) d k):Of P S w f v k.cells/\fits d k.cells:=by
 cases e:au P f with
 |true=>
  rw [e] at b;cases k with
  |agg ts=>obtain ⟨c,rfl⟩:=gM h;exact ⟨nz e h,b.2⟩
  |_=>cases b.1
 |false=>
  rw [e] at b;have one:k.one=true->k.cells=[k]->fits d [k]->Of P S w f v k.cells/\fits d k.cells:=fun j p q=>by
   have m:=h.one j;rw [p];refine ⟨⟨(fun l=>by rw [e] at l;cases l),fun _=>m,?_⟩,q⟩;rw [eR m];exact ⟨rfl,fun i x t g n=>by
    cases i with
    |zero=>simp at g n;subst g;subst n;exact ⟨h,j⟩
    |succ i=>simp at g⟩
  cases k with
  |agg ts=>cases b.1
  |tup ts=>exfalso;have:=b.2;cases d with
   |nil=>simp [fits] at this
   |cons s ss=>cases s <;> simp [fits] at this
  |_=>exact one rfl rfl b.2
theorem lZ{S:ar}{w:World}{c:TypeId}{d:List Sh}(k:shapeOf P 100 c=some d){x y:Value}{a b:T}(l:Rep S w x a)(m:Rep S w y b)(i:aV (au P c) d a)(j:aV (au P c) d b):
  (Op.equal c x y).run P w= .ok (eqL a.cells b.cells) w:=by
 obtain ⟨g,e⟩:=nc l i;obtain ⟨h,f⟩:=nc m j;exact iB 100 c d k S w 10000 x y _ _ (by omega) g h e f
end
section
variable [Glb]{P:Program}{N:Nat}{w0:World}{S0:aa}{o:Oper}{a:Act}{E:Env}{st:St}
def At(k:List T)(b:List (T×T))(l:List MapEntry)(i:Nat):Option (Nat×Value)->Prop
 |none=> ∀e∈b,eqL k e.1.cells=false
 |some (m,v)=> ∃j x e,m=i+j/\l[j]? =some x/\v=x.val/\b[j]? =some e/\eqL k e.1.cells=true/\ ∀c∈b.take j,eqL k c.1.cells=false
end
section
variable {P:Program}{N:Nat}{w0:World}{S0:aa}{o:Oper}{a:Act}{E:Env}{st:St}
theorem At.cons{k:List T}{e:T×T}{g:List (T×T)}{x:MapEntry}{l:List MapEntry}{i:Nat}{r:Option (Nat×Value)}(h:At k g l (i+1) r)(n:eqL k e.1.cells=false):At k (e::g) (x::l) i r:=by
 cases r with
 |none=>intro c f;rcases List.mem_cons.1 f with rfl|d;exact n;exact h c d
 |some p=>
  obtain ⟨m,v⟩:=p;obtain ⟨j,y,c,A,s,t,u,w,z⟩:=h;refine ⟨j+1,y,c,by omega,by simpa using s,t,by simpa using u,w,fun q b=>?_⟩;rw [List.take_succ_cons] at b;rcases List.mem_cons.1 b with rfl|d
  ·exact n
  ·exact z q d
theorem At.here{k:List T}{e:T×T}{b:List (T×T)}{x:MapEntry}{l:List MapEntry}{i:Nat}(c:eqL k e.1.cells=true):At k (e::b) (x::l) i (some (i,x.val)):=
 ⟨0,x,e,rfl,rfl,rfl,rfl,c,fun _ h=>by simp at h⟩
theorem gN{S:ar}{w:World}{d:TypeId}{m:List Sh}(p:shapeOf P 100 d=some m){v:Value}{k:T}(q:Rep S w v k)(n:aV (au P d) m k): ∀(l:List MapEntry) (c:List (T×T)) (i:Nat),l.length=c.length->
  (∀ (j:Nat) (x:MapEntry) (e:T×T),l[j]? =some x->c[j]? =some e->Rep S w x.key e.1/\aV (au P d) m e.1)-> ∃r,(Instr.findAsking d v l i).run P w= .ok r w/\At k.cells c l i r
 |[],[],i,_,_=>⟨none,rfl,fun e b=>by simp at b⟩
 |[],_::_,_,h,_=>by simp at h
 |_::_,[],_,h,_=>by simp at h
 |x::l,e::c,i,hl,h=>by
  obtain ⟨s,t⟩:=h 0 x e rfl rfl;have g:=lZ p q s n t;unfold Instr.findAsking;rw [Sem.run_bind,g];simp only [Result.andThen_ok];cases b:eqL k.cells e.1.cells with
  |true=>exact ⟨_,by simp,At.here b⟩
  |false=>
   obtain ⟨r,u,f⟩:=gN p q n l c (i+1) (by simpa using hl) (fun j x e y b=>h (j+1) x e (by simpa using y) (by simpa using b));exact ⟨r,by simpa using u,f.cons b⟩
theorem rZ{S:ar}{w:World}{j:TypeId}{e:List Sh}(c:shapeOf P 100 j=some e)(l:au P j=false){d:TypeDesc}(hd:P.underlying j=some d){x y:Value}{a b:T}(g:Rep S w x a)(i:Rep S w y b)
  (m:aV false e a) (n:aV false e b):Instr.sameNow d x y=some (eqL a.cells b.cells):=by
 unfold shapeOf at c;rw [hd] at c;have p: ∀{ts:List T}, ¬aV false e (.agg ts):=fun h=>by cases h.1
 have one: ∀{t:T},aV false e t->fits e [t]:=fun {t} h=>by cases t <;> first|exact h.2|exact absurd h p
 have fa:=one m;have f:=one n;split at c
 ·rename_i h;cases h;cases c;cases a <;> simp only [fits] at fa
  cases b <;> simp only [fits] at f
  rw [g.aT,i.aT];simp [Instr.sameNow,eqL,T.cells]
 ·rename_i k h;cases h;cases c;cases a <;> simp only [fits] at fa
  cases b <;> simp only [fits] at f
  obtain ⟨rfl,_⟩:=fa;obtain ⟨rfl,_⟩:=f;rw [g.aA,i.aA];simp [Instr.sameNow,eqL,T.cells]
 ·rename_i h;cases h;cases c;cases a <;> simp only [fits] at fa
  cases b <;> simp only [fits] at f
  rw [g.bj,i.bj];simp [Instr.sameNow,eqL,T.cells]
 ·rename_i h;cases h;simp [au,hd] at l
 ·rename_i h;cases h;simp [au,hd] at l
 ·cases c
theorem jC{S:ar}{w:World}{m:TypeId}{n:List Sh}(s:shapeOf P 100 m=some n)(p:au P m=false){d:TypeDesc}(hd:P.underlying m=some d){v:Value}{k:T}(t:Rep S w v k)(q:aV false n k): ∀(l:List MapEntry) (c:List (T×T)) (i:Nat),l.length=c.length->
  (∀ (j:Nat) (x:MapEntry) (e:T×T),l[j]? =some x->c[j]? =some e->Rep S w x.key e.1/\aV false n e.1)-> ∃r,Instr.findNow d v l i=some r/\At k.cells c l i r
 |[],[],i,_,_=>⟨none,rfl,fun e b=>by simp at b⟩
 |[],_::_,_,h,_=>by simp at h
 |_::_,[],_,h,_=>by simp at h
 |x::l,e::c,i,hl,h=>by
  obtain ⟨u,y⟩:=h 0 x e rfl rfl;have g:=rZ s p hd t u q y;unfold Instr.findNow;rw [g];cases b:eqL k.cells e.1.cells with
  |true=>exact ⟨_,rfl,At.here b⟩
  |false=>
   obtain ⟨r,z,f⟩:=jC s p hd t q l c (i+1) (by simpa using hl) (fun j x e A b=>h (j+1) x e (by simpa using A) (by simpa using b));exact ⟨r,z,f.cons b⟩
theorem cV{S:ar}{w:World}{c:TypeId}{i:List Sh}(q:shapeOf P 100 c=some i){v:Value}{k:T}(s:Rep S w v k)(n:aV (au P c) i k)(l:List MapEntry)(b:List (T×T))(p:l.length=b.length)
  (h: ∀(j:Nat) (x:MapEntry) (e:T×T),l[j]? =some x->b[j]? =some e->Rep S w x.key e.1/\aV (au P c) i e.1): ∃r,(Instr.findKey c v l).run P w= .ok r w/\At k.cells b l 0 r:=by
 obtain ⟨⟨d,hd⟩,_⟩:=dJ 100 c i q;unfold Instr.findKey;rw [Sem.run_bind,run_underlying hd];simp only [Result.andThen_ok];cases f:au P c with
 |false=>
  rw [f] at n h;obtain ⟨r,u,m⟩:=jC q f hd s n l b 0 p h;exact ⟨r,by rw [u];rfl,m⟩
 |true=>
  cases g:Instr.findNow d v l 0 with
  |none=>exact gN q s n l b 0 p h
  |some r=>
   cases l with
   |nil=>
    have:b=[]:=List.length_eq_zero_iff.1 p.symm
    subst this;simp only [Instr.findNow,Option.some.injEq] at g;subst g;exact ⟨none,rfl,fun e t=>by simp at t⟩
   |cons x l=>
    exfalso;unfold Instr.findNow at g
    have:Instr.sameNow d v x.key=none:=by
     unfold au at f;rw [hd] at f;cases d <;> first|rfl|cases f
    rw [this] at g;cases g
theorem At.find{k:List T}: ∀{b:List (T×T)} {l:List MapEntry} {i:Nat} {r:Option (Nat×Value)},At k b l i r->match r with
  |none=>eH k b=none/\cS k b=b
  |some (m,_)=> ∃e,b[m - i]? =some e/\eH k b=some e.2/\cS k b=b.eraseIdx (m - i)
 |b,l,i,none,h=>by
  induction b with
  |nil=>exact ⟨rfl,rfl⟩
  |cons e b n=>
   have:=n fun d q=>h d (List.mem_cons_of_mem _ q)
   have w:=h e (by simp);simp only [eH,cS,w,cond_false];exact ⟨this.1,by rw [this.2]⟩
 |b,l,i,some (m,v),h=>by
  obtain ⟨j,x,e,rfl,s,t,c,u,p⟩:=h;simp only [Nat.add_sub_cancel_left];refine ⟨e,c,?_⟩;clear s t x v
  induction b generalizing j with
  |nil=>simp at c
  |cons e0 b n=>
   cases j with
   |zero=>
    simp at c;subst c;simp [eH,cS,u]
   |succ j=>
    have g:=p e0 (by simp)
    have:=n j (by simpa using c) (fun d f=>p d (by rw [List.take_succ_cons];exact List.mem_cons_of_mem _ f))
    simp only [eH,cS,g,cond_false,List.eraseIdx_cons_succ];exact ⟨this.1,by rw [this.2]⟩
theorem At.put{k v:T}: ∀{b:List (T×T)} {l:List MapEntry} {i:Nat} {r:Option (Nat×Value)},At k.cells b l i r->match r with
  |none=>bF k v b=b++[(k,v)]
  |some (m,_)=>bF k v b=b.set (m - i) (k,v)
 |b,l,i,none,h=>by
  induction b with
  |nil=>rfl
  |cons e b n=>
   have:=n fun d q=>h d (List.mem_cons_of_mem _ q)
   have w:=h e (by simp);simp only [bF,w,cond_false];rw [this];rfl
 |b,l,i,some (m,v'),h=>by
  obtain ⟨j,x,e,rfl,s,t,c,u,p⟩:=h;simp only [Nat.add_sub_cancel_left];clear s t x v'
  induction b generalizing j with
  |nil=>simp at c
  |cons e0 b n=>
   cases j with
   |zero=>simp at c;subst c;simp [bF,u]
   |succ j=>
    have g:=p e0 (by simp)
    have:=n j (by simpa using c) (fun d f=>p d (by rw [List.take_succ_cons];exact List.mem_cons_of_mem _ f))
    simp only [bF,g,cond_false,List.set_cons_succ];rw [this]
end
section
variable [Glb]{P:Program}{N:Nat}{w0:World}{S0:aa}{o:Oper}{a:Act}{E:Env}{st:St}
def tq(P:Program)(b:Bool)(d:Nat)(t:TypeId)(c:List Sh):Prop:=
 ∀(S:ar) (w:World) (D:Nat) (x:Value) (xs:List T),d<=D->Of P S w t x xs->fits c xs->(Instr.checkKey b D t x).run P w= .ok () w
end
section
variable {P:Program}{N:Nat}{w0:World}{S0:aa}{o:Oper}{a:Act}{E:Env}{st:St}
theorem nS{f:Field}{s:List Sh}{d:Nat}(c:shapeOf P d f.type=some s)(b:s.length=P.cellsOf f.type): ∃i,P.info? f.type=some i/\i.size=s.length:=by
 obtain ⟨⟨g,e⟩,_⟩:=dJ d f.type s c;cases hi:P.info? f.type with
 |none=>simp [Program.underlying,hi] at e
 |some i=>exact ⟨i,rfl,by rw [b];simp [Program.cellsOf,hi]⟩
theorem gn(C:Bool): ∀(d:Nat) (t:TypeId) (O:List Sh),shapeOf P d t=some O->tq P C d t O
 |0,_,_,h=>by simp [shapeOf] at h
 |d+1,t,O,h=>by
  intro S w D x xs hD I J;obtain ⟨D,rfl⟩: ∃D',D=D'+1:=⟨D - 1,by omega⟩
  unfold shapeOf at h;split at h
  ·rename_i b;cases h;obtain ⟨u,rfl,hu1,fu⟩:=single I (by simp [au,b]) J;simp [Instr.checkKey,run_underlying b]
  ·rename_i k b;cases h;simp [Instr.checkKey,run_underlying b]
  ·rename_i b;cases h;simp [Instr.checkKey,run_underlying b]
  ·rename_i len e b;split at h
   ·rename_i s B;cases g:(Nat.beq s.length (P.cellsOf e)&&Nat.blt 0 s.length) with
    |false=>rw [g] at h;cases h
    |true=>
    rw [g] at h;simp only [cond_true,Option.some.injEq] at h;subst h;rw [Bool.and_eq_true] at g;have n:s.length=P.cellsOf e:=Nat.eq_of_beq_eq_true g.1;have hg:au P t=true:=by simp [au,b]
    obtain ⟨X,rfl⟩:=I.agg hg;obtain ⟨⟨de,p⟩,Q⟩:=dJ d e s B;have mP: ∃i,P.info? e=some i/\i.size=s.length:=by
     cases hi:P.info? e with
     |none=>simp [Program.underlying,hi] at p
     |some i=>exact ⟨i,rfl,by rw [n];simp [Program.cellsOf,hi]⟩
    obtain ⟨i,hi,z⟩:=mP;have IH:=gn C d e s B;rw [Instr.checkKey];simp only [Sem.run_bind,run_underlying b,Result.andThen_ok];simp only [Std.Legacy.Range.forIn_eq_forIn_range',Std.Legacy.Range.size,Nat.sub_zero,Nat.add_one_sub_one,Nat.div_one];have c: ∀j∈List.range' 0 len, ∃a,(part e X (j * i.size)).run P w= .ok a w/\(Instr.checkKey C D e a).run P w= .ok () w:=fun j M=>by
     have M:j<len:=by simpa using M
     have hl:=bE J;have G:(List.replicate len s).flatten.length=len * s.length:=by simp
     rw [G] at hl;have hle:j * i.size+i.size<=xs.length:=by
      rw [hl,z, <-Nat.succ_mul];exact Nat.mul_le_mul_right _ M
     obtain ⟨v,V,K⟩:=ez p hi (fun hh=>by rw [z];exact Q hh) I.rep (off:=j * i.size) hle;refine ⟨v,V,IH S w D v _ (by omega) K ?_⟩;have R: ∀(j m:Nat) (ys:List T),j<m->fits (List.replicate m s).flatten ys->fits s ((ys.drop (j * s.length)).take s.length):=by
      intro j
      induction j with
      |zero=>
       intro m ys hm l;obtain ⟨m,rfl⟩: ∃k,m=k+1:=⟨m - 1,by omega⟩
       rw [List.replicate_succ,List.flatten_cons] at l;simpa using (bd l).1
      |succ j q=>
       intro m ys hm l;obtain ⟨m,rfl⟩: ∃k,m=k+1:=⟨m - 1,by omega⟩
       rw [List.replicate_succ,List.flatten_cons] at l
       have:=q m _ (by omega) (bd l).2
       rw [List.drop_drop] at this;rwa [Nat.succ_mul,Nat.add_comm (j * s.length)]
     rw [z];exact R j len xs M J
    generalize List.range' 0 len=is at c
    induction is with
    |nil=>simp
    |cons j is q=>
     obtain ⟨a,p1,p2⟩:=c j (by simp);simp only [List.forIn_cons,Sem.run_bind,run_sizeOf hi,Result.andThen_ok,p1,p2,Sem.run_pure];exact q (fun y hy=>c y (by simp [hy]))
   ·cases h
  ·rename_i fs b;cases H:P.stoodInHeld t with
   |true=>rw [H] at h;simp at h
   |false=>
   rw [H] at h;simp only [Bool.false_eq_true,if_false] at h;have hg:au P t=true:=by simp [au,b]
   obtain ⟨X,rfl⟩:=I.agg hg;rw [Instr.checkKey];simp only [Sem.run_bind,run_underlying b,Result.andThen_ok];rw [<- Array.forIn_toList];have all: ∀(L:List Field) (off:Nat) (ss:List Sh),shapeOf.shapesOf (shapeOf P d) P L off=some ss->fits ss (xs.drop off)-> ∀f∈L,f.name≠ "_" /\ ∃a,(part f.type X f.offset).run P w= .ok a w/\(Instr.checkKey C D f.type a).run P w= .ok () w:=by
    intro L
    induction L with
    |nil=>intro off ss _ _ f l;cases l
    |cons A L q=>
     intro off ss h fa f l;unfold shapeOf.shapesOf at h;split at h
     ·rename_i s r B hr;cases g:(Nat.beq s.length (P.cellsOf A.type)&&Nat.beq A.offset off&&A.name != "_" &&Nat.blt 0 s.length) with
      |false=>rw [g] at h;cases h
      |true=>
      rw [g] at h;simp only [cond_true,Option.some.injEq] at h;subst h;simp only [Bool.and_eq_true] at g;obtain ⟨⟨⟨W,Y⟩,Z⟩,hc4⟩:=g;have n:s.length=P.cellsOf A.type:=Nat.eq_of_beq_eq_true W;have qI:A.offset=off:=Nat.eq_of_beq_eq_true Y;have oR:A.name≠ "_" :=by simpa using Z
      obtain ⟨⟨de,p⟩,Q⟩:=dJ d _ _ B;obtain ⟨i,hi,z⟩:=nS B n;obtain ⟨U,F⟩:=bd fa;rw [List.drop_drop] at F;have la:=bE fa;rw [List.length_append,List.length_drop] at la;have aI:0<s.length:=Nat.lt_of_lt_of_le (Nat.lt_succ_self 0) (nlZ hc4);rcases List.mem_cons.1 l with rfl|hf'
      ·obtain ⟨v,V,K⟩:=ez p hi (fun hh=>by rw [z];exact Q hh) I.rep (off:=off) (by omega);rw [z] at K;refine ⟨oR,v,by rw [qI];exact V,gn C d f.type s B S w D v _ (by omega) K U⟩
      ·exact q (off+s.length) r (by rw [n];exact hr) F f hf'
     ·cases h
   have deep:=all fs.toList 0 O h (by simpa using J);generalize fs.toList=L at deep
   induction L with
   |nil=>simp
   |cons f L q=>
    obtain ⟨hn,a,p1,p2⟩:=deep f (by simp);simp only [List.forIn_cons,Sem.run_bind,hn,ne_eq,not_false_eq_true,if_true,Result.andThen_ok,p1,p2,Sem.run_pure];exact q (fun y hy=>deep y (by simp [hy]))
  ·cases h
theorem dD{S:ar}{w:World}{b:TypeId}{c:List Sh}(h:shapeOf P 100 b=some c){v:Value}{k:T}(i:Rep S w v k)(g:aV (au P b) c k)(d:Bool):(Instr.checkKey d 10000 b v).run P w= .ok () w:=by
 obtain ⟨f,e⟩:=nc i g;exact gn d 100 b c h S w 10000 v _ (by omega) f e
theorem lU{S:ar}{w:World}{s:Sh}{x y:Value}{u v:T}(e:Rep S w x u)(f:Rep S w y v)(b:fits [s] [u])(c:fits [s] [v])(d:eqL [u] [v]=true)(n:Nat):Instr.sameBits n x y=true:=by
 cases s with
 |int k=>
  cases u <;> simp only [fits] at b
  cases v <;> simp only [fits] at c
  obtain ⟨rfl,_⟩:=b;obtain ⟨rfl,_⟩:=c;rw [e.aA,f.aA];cases n <;> simpa [Instr.sameBits,eqL] using d
 |bool=>
  cases u <;> simp only [fits] at b
  cases v <;> simp only [fits] at c
  rw [e.aT,f.aT];cases n <;> simpa [Instr.sameBits,eqL] using d
 |str=>
  cases u <;> simp only [fits] at b
  cases v <;> simp only [fits] at c
  rw [e.bj,f.bj];cases n <;> simpa [Instr.sameBits,eqL] using d
theorem kX{S:ar}{w:World}(n:Nat): ∀(c:List Sh) (us vs:List T) (xs ys:List Value),fits c us->fits c vs->eqL us vs=true->xs.length=us.length->ys.length=vs.length->
  (∀ (i:Nat) (x:Value) (u:T),xs[i]? =some x->us[i]? =some u->Rep S w x u)->(∀ (i:Nat) (x:Value) (u:T),ys[i]? =some x->vs[i]? =some u->Rep S w x u)->(xs.zip ys).all (fun (x,y)=>Instr.sameBits n x y)=true
 |[],us,vs,xs,ys,fu,fv,_,lx,ly,_,_=>by
  cases us with
  |cons u us=>simp [fits] at fu
  |nil=>cases xs with
   |nil=>rfl
   |cons _ _=>simp at lx
 |s::c,us,vs,xs,ys,fu,fv,he,lx,ly,hx,hy=>by
  have h:=bE fu;have j:=bE fv;cases us with
  |nil=>simp at h
  |cons u us=>
  cases vs with
  |nil=>simp at j
  |cons v vs=>
  cases xs with
  |nil=>simp at lx
  |cons x xs=>
  cases ys with
  |nil=>simp at ly
  |cons y ys=>
  have d:=bd (s1:=[s]) (s2:=c) fu;have f:=bd (s1:=[s]) (s2:=c) fv;have e:=eV [u] [v] us vs rfl;simp only [List.length_singleton,List.take_succ_cons,List.take_zero,List.drop_succ_cons,List.drop_zero,List.singleton_append] at d f e;rw [e,Bool.and_eq_true] at he;rw [List.zip_cons_cons,List.all_cons,Bool.and_eq_true];exact ⟨lU (hx 0 x u rfl rfl) (hy 0 y v rfl rfl) d.1 f.1 he.1 n,
   kX n c us vs xs ys d.2 f.2 he.2 (by simpa using lx) (by simpa using ly) (fun i x u b g=>hx (i+1) x u (by simpa using b) (by simpa using g)) (fun i x u b g=>hy (i+1) x u (by simpa using b) (by simpa using g))⟩
theorem qY{S:ar}{w:World}{k:TypeId}{c:List Sh}{x y:Value}{u v:T}(e:Rep S w x u)(p:Rep S w y v)(b:aV (au P k) c u)(d:aV (au P k) c v)(f:eqL u.cells v.cells=true):Instr.sameBits 10000 x y=true:=by
 cases n:au P k with
 |true=>
  rw [n] at b d;cases u with
  |agg us=>
   cases v with
   |agg vs=>
    cases e with
    |agg z _ g _ C=>
    cases p with
    |agg A _ j _ D=>
    have l:=bE b.2;have F:=bE d.2
    have:=kX 9999 c us vs z.toList A.toList b.2 d.2 f (by simpa using g) (by simpa using j) (fun i x u e b=>C i x u (by simpa using e) b) (fun i x u e b=>D i x u (by simpa using e) b)
    simp only [Instr.sameBits,Bool.and_eq_true,beq_iff_eq];exact ⟨by omega,this⟩
   |_=>cases d.1
  |_=>cases b.1
 |false=>
  rw [n] at b d;have one: ∀{t:T},aV false c t->fits c [t]/\t.cells=[t]:=fun {t} h=>by cases t <;> first|exact ⟨h.2,rfl⟩|(cases h.1;done)
  obtain ⟨m,q⟩:=one b;obtain ⟨B,r⟩:=one d;rw [q,r] at f;have l:=bE m;cases c with
  |nil=>simp at l
  |cons s c=>
   cases c with
   |nil=>exact lU e p m B f 10000
   |cons _ _=>simp at l
theorem mL: ∀(a b:List T),eqL a b=eqL b a
 |[],[]=>rfl
 |[],_::_=>by simp [eqL]
 |_::_,[]=>by simp [eqL]
 |x::a,y::b=>by
  have c:=mL a b;cases x <;> cases y <;> simp only [eqL,c] <;> first|rfl|(congr 1;exact Bool.beq_comm)|(congr 1;rw [Bool.eq_iff_iff,Go.MapKept.bytes_beq,Go.MapKept.bytes_beq];exact eq_comm)
end
section
variable [Glb]{P:Program}{N:Nat}{w0:World}{S0:aa}{o:Oper}{a:Act}{E:Env}{st:St}
theorem pX(h:SR N w0 S0 E st a.tmps)(hd:ay N o.dst){t:TypeId}(i:o.op= .makeMap t none)(e:Bool)(f:List Sh):Sound P N w0 S0 o a E st (eff (.mkmap e f) (st.nm o.dst) st.sl st.bx):=by
 unfold eff;cases c:o.dst with
 |none=>trivial
 |some d=>
  rw [c] at hd;simp only [St.nm];cases g:st.bx (d+st.off) with
  |some b=>trivial
  |none=>
   show Did P N w0 S0 o a E (st.app o.dst _)
   rw [c];refine ⟨.value (.map (some E.w.heap.size)),.map (some E.w.heap.size),{E with w:=E.w.alloc (.map #[] 0),κ:=upd E.κ (d+st.off) E.w.heap.size,live:=upd E.live (d+st.off) true },?_,.inl rfl,?_⟩
   ·unfold execOp;simp [i,Instr.makeMap]
   ·rw [c];exact h.sG g e f hd
end
section
variable {P:Program}{N:Nat}{w0:World}{S0:aa}{o:Oper}{a:Act}{E:Env}{st:St}
theorem lh{t:TypeId}{z:T}(h:zeroV P t=some z): ∃v,(∀ w,(zeroValue t).run P w= .ok v w)/\ ∀(S:ar) (w:World),Rep S w v z:=by
 unfold zeroV at h;split at h
 ·rename_i i hi;split at h
  ·rename_i v b;exact ⟨v,fun w=>by simp [zeroValue,typeInfo,hi,b],fun S w=>gV h⟩
  ·cases h
 ·cases h
theorem bN.keys{E:Env}{b:Array MapEntry}{c:Nat}{f:Bool}{k:List Sh}{d:List (T×T)}{l:Option (List Nat×Nat)}(h:bN E b c f k d l):b.toList.length=d.length/\
  ∀(j:Nat) (x:MapEntry) (e:T×T),b.toList[j]? =some x->d[j]? =some e->Rep E.S E.w x.key e.1/\aV f k e.1:=
 ⟨by simpa using h.size,fun j x e i g=>⟨(h.at_ j x e (by simpa using i) g).1,(h.at_ j x e (by simpa using i) g).2.2⟩⟩
theorem nn{f:Bool}{k:List Sh}{ks vs:List T}{v:Value}(h:Rep E.S E.w v (.mapd f k ks vs)): ∃g c b,v= .map (some g)/\E.w.heap[g]? =some (.map c b)/\bN E c b f k (ks.zip vs) none:=by
 cases h with
 |mapd g c b _ _ _ _ m q l r s ok lt apart=>
  refine ⟨g,c,b,rfl,l.1,by rw [List.length_zip,m,q];simp,fun i x e j d=>?_,lt,apart,fun p n=>by cases n⟩;rw [List.getElem?_zip_eq_some] at d;exact ⟨r i x e.1 j d.1,s i x e.2 j d.2,ok _ (List.mem_of_getElem? d.1)⟩
end
section
variable [Glb]{P:Program}{N:Nat}{w0:World}{S0:aa}{o:Oper}{a:Act}{E:Env}{st:St}
theorem lP(h:SR N w0 S0 E st a.tmps)(hd:ay N o.dst){t A e:TypeId}{M K:Operand}{ok:Bool}(R:o.op= .lookup t M K ok)(c:P.underlying t=some (.map A e))
  {H:List Sh} (V:shapeOf P 100 A=some H) {z:T} (Y:zeroV P e=some z) {g:Nat} (O:a.eval M= .map (some g)) {f:Array MapEntry} {d:Nat} (Q:E.w.heap[g]? =some (.map f d)) {y:List (T×T)} {Z:Option (List Nat×Nat)} (B:bN E f d (au P A) H y Z)
  {key:T} (L:Rep E.S E.w (a.eval K) key) (q:aV (au P A) H key) {rd:List Nat}:Did P N w0 S0 o a E (st.app o.dst {val:=.t (oW z ok (eH key.cells y)),rd:=rd }):=by
 obtain ⟨X,G,s⟩:=lh Y;obtain ⟨r,U,k⟩:=cV V L q f.toList y B.keys.1 B.keys.2;have l:=dD V L q f.isEmpty;have W:=k.find;cases r with
 |none=>
  have C:eH key.cells y=none:=W.1;rw [C]
  have:(execOp a.eval o).run P E.w= .ok (.value (if ok then .tuple #[X,.bool false] else X)) E.w:=by
   unfold execOp;simp [R,Instr.lookup,O,run_underlying c,Go.MapKept.run_getObj_map Q,l,U,G]
  cases ok with
  |true=>exact aj h hd this (.t _ _ (.tup _ _ rfl (fun i x u b c=>by
    cases i with
    |zero=>simp at b c;subst b;subst c;exact s _ _
    |succ i=>cases i with
     |zero=>simp at b c;subst b;subst c;exact .bool _
     |succ i=>simp at b)))
  |false=>exact aj h hd this (.t _ _ (s _ _))
 |some p=>
  obtain ⟨i,v⟩:=p;obtain ⟨j,x,J,hj,b,F,m,_,_⟩:=k;obtain ⟨e2,n,C,_⟩:=W;have D:i - 0=j:=by omega
  rw [D,m] at n;cases n;rw [C];have I:Rep E.S E.w v J.2:=by rw [F];exact (B.at_ j x J (by simpa using b) m).2.1
  have:(execOp a.eval o).run P E.w= .ok (.value (if ok then .tuple #[v,.bool true] else v)) E.w:=by
   unfold execOp;simp [R,Instr.lookup,O,run_underlying c,Go.MapKept.run_getObj_map Q,l,U]
  cases ok with
  |true=>exact aj h hd this (.t _ _ (.tup _ _ rfl (fun i x u b c=>by
    cases i with
    |zero=>simp at b c;subst b;subst c;exact I
    |succ i=>cases i with
     |zero=>simp at b c;subst b;subst c;exact .bool _
     |succ i=>simp at b)))
  |false=>exact aj h hd this (.t _ _ I)
theorem pY(h:SR N w0 S0 E st a.tmps)(hd:ay N o.dst){t F e:TypeId}{M K:Operand}{ok:Bool}(U:o.op= .lookup t M K ok){m k:O}(hm:ak M=some m)(hk:ak K=some k)(n:P.underlying t=some (.map F e))
  {H:List Sh} (G:shapeOf P 100 F=some H) {z:T} (W:zeroV P e=some z):Sound P N w0 S0 o a E st (eff (.mlook (au P F) H z ok m k) (st.nm o.dst) st.sl st.bx):=by
 have d:=af h.sl hm;have c:=af h.sl hk;unfold eff;simp only;split
 ·rename_i b B;rw [B] at d;obtain ⟨A,hl⟩:=d.eN;split
  ·rename_i q y es mb Z;split
   ·rename_i key D;rw [D] at c;cases J:cC (au P F) H q y with
    |false=>trivial
    |true=>
    obtain ⟨rfl,rfl⟩:=eZ J;intro f;obtain ⟨I,s,S,L⟩:=(h.bx b _ Z).map;exact lP h hd U n G W A S L c.ax f
   ·trivial
  ·trivial
 ·rename_i q y ks vs B;rw [B] at d;split
  ·rename_i key D;rw [D] at c;cases J:cC (au P F) H q y with
   |false=>trivial
   |true=>
   obtain ⟨rfl,rfl⟩:=eZ J;intro f;obtain ⟨g,I,s,A,S,L⟩:=nn d.ax;exact lP h hd U n G W A S L c.ax f
  ·trivial
 ·rename_i B;rw [B] at d;have A:a.eval M= .map none:=by
   have:=d.ax
   generalize a.eval M=v at this;cases this;rfl
  split
  ·rename_i key D;rw [D] at c;intro f;obtain ⟨Y,X,C⟩:=lh W;obtain ⟨r,hr,Q⟩:=cV G c.ax f [] [] rfl (fun j x e l=>by simp at l);have R:=dD G c.ax f true;have V:r=none:=by
    cases r with
    |none=>rfl
    |some p=>obtain ⟨i,v⟩:=p;obtain ⟨j,x,e1,_,l,_⟩:=Q;simp at l
   subst V
   have:(execOp a.eval o).run P E.w= .ok (.value (if ok then .tuple #[Y,.bool false] else Y)) E.w:=by
    unfold execOp;simp [U,Instr.lookup,A,run_underlying n,R,hr,X]
   cases ok with
   |true=>exact aj h hd this (.t _ _ (.tup _ _ rfl (fun i x u l n=>by
     cases i with
     |zero=>simp at l n;subst l;subst n;exact C _ _
     |succ i=>cases i with
      |zero=>simp at l n;subst l;subst n;exact .bool _
      |succ i=>simp at l)))
   |false=>exact aj h hd this (.t _ _ (C _ _))
  ·trivial
 ·trivial
end
section
variable {P:Program}{N:Nat}{w0:World}{S0:aa}{o:Oper}{a:Act}{E:Env}{st:St}
theorem mA(b:Array MapEntry)(i:Nat)(f:MapEntry->MapEntry)(c: ∀e,(f e).born=e.born):(b.modify i f).toList.map (·.born)=b.toList.map (·.born):=by
 apply List.ext_getElem?
 intro j;simp only [List.getElem?_map,Array.getElem?_toList,Array.getElem?_modify];split
 ·cases b[j]? with
  |none=>rfl
  |some x=>simp [c]
 ·rfl
theorem bN.set{E:Env}{b:Array MapEntry}{c:Nat}{q:Bool}{s:List Sh}{t:List (T×T)}{C:Option (List Nat×Nat)}(h:bN E b c q s t C){j:Nat}{f:MapEntry->MapEntry}{k v:T}(z: ∀e,(f e).born=e.born)
  (u: ∀x,b[j]? =some x->Rep E.S E.w (f x).key k/\Rep E.S E.w (f x).val v) (r:aV q s k):bN E (b.modify j f) c q s (t.set j (k,v)) none:=by
 have m:=mA b j f z;refine ⟨by simp [h.size],fun i x e d g=>?_,fun x d=>?_,by rw [m];exact h.apart,fun p A=>by cases A⟩
 ·rw [Array.getElem?_modify] at d;rw [List.getElem?_set] at g
  by_cases n:j=i
  ·subst n;rw [if_pos rfl] at d g;split at g
   ·cases g;cases l:b[j]? with
    |none=>rw [l] at d;cases d
    |some x0=>
     rw [l] at d;cases d;exact ⟨(u x0 l).1,(u x0 l).2,r⟩
   ·cases g
  ·rw [if_neg n] at d g;exact h.at_ i x e d g
 ·have:x.born∈(b.modify j f).toList.map (·.born):=List.mem_map_of_mem d
  rw [m] at this;obtain ⟨y,B,g⟩:=List.mem_map.1 this;rw [<- g];exact h.lt y B
theorem bN.push{E:Env}{f:Array MapEntry}{c:Nat}{j:Bool}{m:List Sh}{n:List (T×T)}{C:Option (List Nat×Nat)}(h:bN E f c j m n C){r s:Value}{k v:T}(u:Rep E.S E.w r k)(A:Rep E.S E.w s v)(l:aV j m k):
  bN E (f.push {key:=r,val:=s,born:=c }) (c+1) j m (n++[(k,v)]) none:=by
 refine ⟨by simp [h.size],fun i x e d g=>?_,fun x d=>?_,?_,fun p z=>by cases z⟩
 ·rw [Array.getElem?_push] at d;rw [List.getElem?_append] at g
  by_cases hi:i=f.size
  ·rw [if_pos hi] at d;cases d;rw [if_neg (by rw [<- h.size];omega),hi,h.size,Nat.sub_self] at g;cases g;exact ⟨u,A,l⟩
  ·rw [if_neg hi] at d;rw [if_pos (by rw [<- h.size];have:=(Array.getElem?_eq_some_iff.1 d).1;omega)] at g;exact h.at_ i x e d g
 ·simp only [Array.toList_push,List.mem_append,List.mem_singleton] at d;rcases d with d|rfl
  ·exact Nat.lt_succ_of_lt (h.lt x d)
  ·exact Nat.lt_succ_self _
 ·simp only [Array.toList_push,List.map_append,List.map_cons,List.map_nil];refine List.nodup_append.2 ⟨h.apart,by simp,fun a t b q=>?_⟩;simp at q;subst q;obtain ⟨y,B,rfl⟩:=List.mem_map.1 t
  have:=h.lt y B
  omega
end
section
variable [Glb]{P:Program}{N:Nat}{w0:World}{S0:aa}{o:Oper}{a:Act}{E:Env}{st:St}
theorem nJ(h:SR N w0 S0 E st a.tmps)(hd:ay N o.dst){t s e:TypeId}{M K V:Operand}(n:o.op= .mapUpdate t M K V\/o.op= .insert t M K V){m k v:O}(hm:ak M=some m)(hk:ak K=some k)(hv:ak V=some v)(hu:P.underlying t=some (.map s e))
  {F:List Sh} (hs:shapeOf P 100 s=some F):Sound P N w0 S0 o a E st (eff (.bF (au P s) F m k v) (st.nm o.dst) st.sl st.bx):=by
 have D:=af h.sl hm;have C:=af h.sl hk;have Q:=af h.sl hv;unfold eff;simp only;split
 ·rename_i b W;rw [W] at D;obtain ⟨hM,hl⟩:=D.eN;split
  ·rename_i H Y q mb hb;split
   ·rename_i key x ie hx;rw [ie] at C;have y:=C.ax;have hX:=aD Q hx;cases dq:cC (au P s) F H Y with
    |false=>trivial
    |true=>
    obtain ⟨rfl,rfl⟩:=eZ dq;intro g;obtain ⟨l,f,G,z⟩:=(h.bx b _ hb).map;obtain ⟨r,hr,A⟩:=cV hs y g l.toList q z.keys.1 z.keys.2;have B:=dD hs y g false;have Z:=A.put (v:=x);have u: ∀d c,(execOp a.eval o).run P E.w= .ok .skip {E.w with heap:=E.w.heap.setIfInBounds (E.κ b) (.map d c)}->bN E d c (au P s) F (bF key x q) none->
      Did P N w0 S0 o a E (st.app o.dst {val:=.top,wr:=some (b,.m (au P s) F (bF key x q) none),rd:=[b]}):=fun d c aK I=>by
     refine ⟨.skip,undef,{E with w:={E.w with heap:=E.w.heap.setIfInBounds (E.κ b) (.map d c)}},aK,.inr ⟨rfl,rfl⟩,?_⟩;rw [gC];exact (h.nP hb d c _ I).cL hd (.top _)
    cases r with
    |none=>
     have T:bF key x q=q++[(key,x)]:=Z;refine u (l.push {key:=a.eval K,val:=a.eval V,born:=f }) (f+1) ?_ (by rw [T];exact z.push y hX g);unfold execOp;rcases n with n|n <;> simp [n,Instr.mapUpdate,hM,run_underlying hu,Go.MapKept.run_getObj_map G,B,hr,Go.MapKept.run_setObj_map _ G]
    |some p=>
     obtain ⟨i,v'⟩:=p;obtain ⟨j,x0,e1,hj,X,_,J,L,_⟩:=A;have T:bF key x q=q.set (i - 0) (key,x):=Z;have R:i=j:=by omega
     subst R;have sY:l[i]? =some x0:=by simpa using X
     have U:Instr.sameBits 10000 x0.key (a.eval K)=true:=by
      have:=(z.at_ i x0 e1 sY J)
      refine qY this.1 y this.2.2 g ?_;rw [mL];exact L
     refine u (l.modify i fun e=>{e with key:=a.eval K,val:=a.eval V }) f ?_ (by rw [T];exact z.set (fun _=>rfl) (fun _ _=>⟨y,hX⟩) g);have S:(Instr.keyThatStays x0.key (a.eval K)).run P E.w= .ok (a.eval K) E.w:=by simp [Instr.keyThatStays,U]
     unfold execOp;rcases n with n|n <;> simp [n,Instr.mapUpdate,hM,run_underlying hu,Go.MapKept.run_getObj_map G,B,hr,sY,S,Go.MapKept.run_setObj_map _ G]
   ·trivial
  ·trivial
 ·trivial
end
section
variable {P:Program}{N:Nat}{w0:World}{S0:aa}{o:Oper}{a:Act}{E:Env}{st:St}
theorem fS{w:World}{r:Nat}{m:Option Nat}{c t:Nat}{s:Array Nat}(b:w.heap[r]? =some (.mapIter m c s t)):(getObj r).run P w= .ok (.mapIter m c s t) w:=by
 simp [getObj,Sem.run,b]
theorem kG{X:Operand}(z:o.op= .entry X){g k:Nat}(u:a.eval X= .pointer (some ⟨k,0,none⟩)){b:Array MapEntry}{c:Nat}{ix:List Nat}(p:(b.toList.map (·.born)).Nodup)(q:ix≠[])(i:ix.getLast?.getD 0<b.size)
  (y:E.w.heap[g]? =some (.map b c)) (f:E.w.heap[k]? =some (.mapIter (some g) c (ix.map fun j=>(b.toList.map (·.born)).getD j 0).toArray c)):
  (execOp a.eval o).run P E.w= .ok (.value (.tuple #[b[ix.getLast?.getD 0].key,b[ix.getLast?.getD 0].val])) E.w:=by
 obtain ⟨l,n⟩: ∃l,ix.getLast? =some l:=by
  cases h:ix.getLast? with
  |none=>exact absurd (List.getLast?_eq_none_iff.1 h) q
  |some l=>exact ⟨l,rfl⟩
 have s:((ix.map fun j=>(b.toList.map (·.born)).getD j 0).toArray).back? =some ((b.toList.map (·.born)).getD l 0):=by
  simp [List.back?_toArray,n]
 have d:l<b.size:=by rw [n] at i;exact i
 have r:(b.toList.map (·.born)).getD l 0=b[l].born:=by
  rw [List.getD_eq_getElem?_getD];simp [d]
 have A:b.find? (fun e=>e.born==b[l].born)=some b[l]:=by
  rw [Array.find?_eq_some_iff_getElem];refine ⟨by simp,l,d,rfl,fun j C=>?_⟩;have m:j<b.size:=by omega
  simp only [Bool.not_eq_true',beq_eq_false_iff_ne,ne_eq];intro x;have t:(b.toList.map (·.born))[j]'(by simpa using m)=(b.toList.map (·.born))[l]'(by simpa using d):=by simpa using x
  have:=(List.getElem_inj p).1 t
  omega
 unfold execOp;simp only [n,Option.getD_some];generalize B:(ix.map fun j=>(b.toList.map (·.born)).getD j 0).toArray=seen at s f
 simp only [z,u,Instr.entry,Sem.run_bind,fS f,Result.andThen_ok,s,r,Go.MapKept.run_getObj_map y,bne_self_eq_false,Bool.false_eq_true,if_false,A,Sem.run_pure]
end
section
variable [Glb]{P:Program}{N:Nat}{w0:World}{S0:aa}{o:Oper}{a:Act}{E:Env}{st:St}
theorem rm(h:SR N w0 S0 E st a.tmps)(hd:ay N o.dst){X:Operand}{y:O}(K:o.op= .entry X)(hy:ak X=some y):Sound P N w0 S0 o a E st (eff (.ment y) (st.nm o.dst) st.sl st.bx):=by
 have J:=af h.sl hy;have C: ∀{S:ar} {w:World} {Q R:Value} {L M:T},Rep S w Q L->Rep S w R M->Rep S w (.tuple #[Q,R]) (.tup [L,M]):=fun r1 r2=>.tup _ _ rfl fun i x u f l=>by
  match i,f,l with
  |0,f,l=>simp at f l;subst f;subst l;exact r1
  |1,f,l=>simp at f l;subst f;subst l;exact r2
  |i+2,f,l=>simp at f
 unfold eff;simp only;split
 ·rename_i k Z;rw [Z] at J;obtain ⟨I,hl⟩:=J.bh;split
  ·rename_i b bs c ix p;split
   ·rename_i U sh n q V;rintro ⟨Y,z,d⟩;obtain ⟨m,D,G,j⟩:=(h.bx b _ V).map;have s:=j.mb q rfl;rw [Y] at s;simp only [Prod.mk.injEq] at s;obtain ⟨rfl,rfl⟩:=s;obtain ⟨ob,r,A⟩:=(h.bx k _ p).at_;cases A with
    |cells _ _ _ F=>cases F
    |it _ _ _ _ W=>
    have B:ix.getLast?.getD 0<m.size:=by rw [j.size];exact d
    have e:=j.at_ _ _ _ (Array.getElem?_eq_getElem B) (ggZ d);have H:lr n ix= .tup [n[ix.getLast?.getD 0].1,n[ix.getLast?.getD 0].2]:=by
     unfold lr;rw [ggZ d]
    rw [H];exact aj h hd (kG K I j.apart z B G r) (.t _ _ (C e.1 e.2.1))
   ·trivial
  ·rename_i n ix p;rintro ⟨z,d⟩;obtain ⟨ob,r,A⟩:=(h.bx k _ p).at_;cases A with
   |cells _ _ _ F=>cases F
   |itd g m c U sh _ _ G hS j=>
   have B:ix.getLast?.getD 0<m.size:=by rw [j.size];exact d
   have e:=j.at_ _ _ _ (Array.getElem?_eq_getElem B) (ggZ d);have H:lr n ix= .tup [n[ix.getLast?.getD 0].1,n[ix.getLast?.getD 0].2]:=by
    unfold lr;rw [ggZ d]
   rw [H];exact aj h hd (kG K I j.apart z B G r) (.t _ _ (C e.1 e.2.1))
  ·trivial
 ·trivial
theorem rp(h:SR N w0 S0 E st a.tmps)(hd:ay N o.dst){X:Operand}{t x e:TypeId}{y:O}(l:o.op= .call {callee:=.builtin .len,args:= #[X],argTypes:= #[t]})(w:ak X=some y)
  (m:P.underlying t=some (.map x e)):Sound P N w0 S0 o a E st (eff (.mlen y) (st.nm o.dst) st.sl st.bx):=by
 have d:=af h.sl w;unfold eff;simp only;split
 ·rename_i b i;rw [i] at d;obtain ⟨f,A⟩:=d.eN;split
  ·rename_i z C p B r;obtain ⟨j,c,k,q⟩:=(h.bx b _ r).map;exact aj h hd (v:=.int .i64 p.length) (aG l (by simp [builtin,Builtin.len_,f,run_underlying m,goInt,Go.MapKept.run_getObj_map k,q.size])) (.t _ _ (.int _ _))
  ·trivial
 ·rename_i ks vs i;rw [i] at d;have n:=d.ax;generalize f:a.eval X=v at n;cases n with
  |mapd g j c _ _ _ _ s u k=>
   exact aj h hd (v:=.int .i64 ks.length) (aG l (by simp [builtin,Builtin.len_,f,run_underlying m,goInt,Go.MapKept.run_getObj_map k.1,s])) (.t _ _ (.int _ _))
 ·rename_i i;rw [i] at d;have f:a.eval X= .map none:=by
   have:=d.ax
   generalize a.eval X=v at this;cases this;rfl
  exact aj h hd (v:=.int .i64 0) (aG l (by simp [builtin,Builtin.len_,f,run_underlying m,goInt])) (.t _ _ (.int _ _))
 ·trivial
theorem rj(h:SR N w0 S0 E st a.tmps)(hd:ay N o.dst){X:Operand}{t u e:TypeId}{y:O}(m:o.op= .call {callee:=.builtin .clear,args:= #[X],argTypes:= #[t]})(s:ak X=some y)
  (q:P.underlying t=some (.map u e)):Sound P N w0 S0 o a E st (eff (.mclr y) (st.nm o.dst) st.sl st.bx):=by
 have g:=af h.sl s;unfold eff;simp only;split
 ·rename_i b r;rw [r] at g;obtain ⟨l,C⟩:=g.eN;split
  ·rename_i z F A D f;obtain ⟨k,c,j,B⟩:=(h.bx b _ f).map;refine ⟨.value (.tuple #[]),.tuple #[],{E with w:={E.w with heap:=E.w.heap.setIfInBounds (E.κ b) (.map #[] c)}},aG m (by simp [builtin,Builtin.clear_,l,run_underlying q,Go.MapKept.run_getObj_map j,Go.MapKept.run_setObj_map _ j]),.inl rfl,?_⟩;rw [gC];exact (h.nP f #[] c _ ⟨rfl,fun i x e d=>by simp at d,fun x d=>by simp at d,by simp,fun p n=>by cases n⟩).cL hd (.top _)
  ·trivial
 ·trivial
end
section
variable {P:Program}{N:Nat}{w0:World}{S0:aa}{o:Oper}{a:Act}{E:Env}{st:St}
theorem bN.erase{E:Env}{b:Array MapEntry}{c:Nat}{m:Bool}{q:List Sh}{l:List (T×T)}{u:Option (List Nat×Nat)}(h:bN E b c m q l u)(j:Nat):bN E (b.eraseIdxIfInBounds j) c m q (l.eraseIdx j) none:=by
 have k:(b.eraseIdxIfInBounds j).toList=b.toList.eraseIdx j:=by
  unfold Array.eraseIdxIfInBounds;split
  ·simp
  ·rename_i r;rw [List.eraseIdx_of_length_le (by simpa using r)]
 have n:(b.toList.eraseIdx j).Sublist b.toList:=List.eraseIdx_sublist _ _;have s:b.toList.length=l.length:=by simpa using h.size
 refine ⟨?_,fun i x e f g=>?_,fun x f=>h.lt x (n.subset (k▸f)),?_,fun p t=>by cases t⟩
 ·rw [<- Array.length_toList,k,List.length_eraseIdx,List.length_eraseIdx,s]
 ·rw [<- Array.getElem?_toList,k,List.getElem?_eraseIdx] at f;rw [List.getElem?_eraseIdx] at g;split at f
  ·rename_i d;rw [if_pos d] at g;exact h.at_ i x e (by simpa using f) g
  ·rename_i d;rw [if_neg d] at g;exact h.at_ (i+1) x e (by simpa using f) g
 ·rw [k];exact (n.map _).nodup h.apart
end
section
variable [Glb]{P:Program}{N:Nat}{w0:World}{S0:aa}{o:Oper}{a:Act}{E:Env}{st:St}
theorem rl(h:SR N w0 S0 E st a.tmps)(hd:ay N o.dst){M K:Operand}{t Z l e:TypeId}{m k:O}(J:o.op= .call {callee:=.builtin .delete,args:= #[M,K],argTypes:= #[t,Z]})(W:ak M=some m)(V:ak K=some k)
  (R:P.underlying t=some (.map l e)) {z:List Sh} (Q:shapeOf P 100 l=some z):Sound P N w0 S0 o a E st (eff (.cS (au P l) z m k) (st.nm o.dst) st.sl st.bx):=by
 have x:=af h.sl W;have u:=af h.sl V;unfold eff;simp only;split
 ·rename_i b X;rw [X] at x;obtain ⟨H,hl⟩:=x.eN;split
  ·rename_i B F n mb I;split
   ·rename_i key Y;rw [Y] at u;have G:=u.ax;cases U:cC (au P l) z B F with
    |false=>trivial
    |true=>
    obtain ⟨rfl,rfl⟩:=eZ U;intro y;obtain ⟨f,c,A,g⟩:=(h.bx b _ I).map;obtain ⟨r,L,D⟩:=cV Q G y f.toList n g.keys.1 g.keys.2;have s:=dD Q G y f.isEmpty;have S:=D.find;have q: ∀d,(execOp a.eval o).run P E.w= .ok (.value (.tuple #[])) {E.w with heap:=E.w.heap.setIfInBounds (E.κ b) (.map d c)}->bN E d c (au P l) z (cS key.cells n) none->
      Did P N w0 S0 o a E (st.app o.dst {val:=.top,wr:=some (b,.m (au P l) z (cS key.cells n) none),rd:=[b]}):=fun d T C=>by
     refine ⟨.value (.tuple #[]),.tuple #[],{E with w:={E.w with heap:=E.w.heap.setIfInBounds (E.κ b) (.map d c)}},T,.inl rfl,?_⟩;rw [gC];exact (h.nP I d c _ C).cL hd (.top _)
    cases r with
    |none=>
     have j:cS key.cells n=n:=S.2;refine q f (aG J ?_) (by rw [j];exact ⟨g.size,g.at_,g.lt,g.apart,fun p j=>by cases j⟩);simp [builtin,Builtin.delete_,H,run_underlying R,Go.MapKept.run_getObj_map A,s,L,Go.MapKept.run_setObj_map _ A]
    |some p=>
     obtain ⟨i,v'⟩:=p;obtain ⟨e2,_,_,j⟩:=S;rw [Nat.sub_zero] at j;refine q (f.eraseIdxIfInBounds i) (aG J ?_) (by rw [j];exact g.erase i);simp [builtin,Builtin.delete_,H,run_underlying R,Go.MapKept.run_getObj_map A,s,L,Go.MapKept.run_setObj_map _ A]
   ·trivial
  ·trivial
 ·trivial
end
end Go.DL
end
