/- Joined by program: parts of a data level over the model, of the program's functions over it, and of the statement's proof. -/
import Derived.WalkKit
import Derived.Below
import Derived.Deep.LoopGhost
import Derived.ChangeKeysEq
import Derived.DeepKeys3
section
namespace Go
theorem nlZ{n m:Nat}(h:Nat.ble n m=true):n<=m:=Nat.le_of_ble_eq_true h
theorem gsZ{α:Type _}{l:List α}{i:Nat}{a:α}(h:l[i]? =some a): ∃h:i<l.length,l[i]=a:=List.getElem?_eq_some_iff.1 h
theorem ggZ{α:Type _}{l:List α}{i:Nat}(h:i<l.length):l[i]? =some l[i]:=List.getElem?_eq_getElem h
end Go
namespace Go.DL
open Go.RowKit
inductive Sh where
 |int (k:IntKind)|bool|str
 deriving DecidableEq,Inhabited
inductive T where
 |int (k:IntKind) (n:Int)
 |bool (b:Bool)
 |str (s:ByteArray)
 |agg (cs:List T)
 |slice (n:Nat) (xs:List T)
 |nil
 |nilptr
 |nilfn
 |nilif
 |nilmap
 |cptr (cs:List T) (off:Nat)
 |clos (f:FuncId) (caps:List T)
 |knot (f:FuncId) (pre post:List T)
 |tup (ts:List T)
 |mapd (ag:Bool) (sh:List Sh) (ks vs:List T)
 |glob (g off:Nat)
 |wrld (f1:FuncId) (a1 b1:List T) (f2:FuncId) (a2 b2:List T) (off:Nat)
 deriving Inhabited
def T.cells:T->List T
 |.agg cs=>cs
 |t=>[t]
def T.one:T->Bool
 |.agg _=>false
 |.tup _=>false
 |_=>true
def T.flat:T->Bool
 |.int _ _|.bool _|.str _|.nil|.nilptr|.nilfn|.nilif|.nilmap|.glob _ _=>true
 |.agg cs=>go cs
 |.tup ts=>go ts
 |.clos _ caps=>go caps
 |.slice _ xs=>xs.isEmpty
 |_=>false
where go:List T->Bool
 |[]=>true
 |t::ts=>t.flat&&go ts
def fits:List Sh->List T->Prop
 |[],[]=>True
 |.int k::s,.int k' _::ts=>k'=k/\fits s ts
 |.bool::s,.bool _::ts=>fits s ts
 |.str::s,.str _::ts=>fits s ts
 |_,_=>False
def aR(c:Bool)(b:List Sh):T->Prop
 |.agg ts=>c=true/\fits b ts
 |t=>c=false/\fits b [t]
abbrev ar:=Nat->Nat->Prop
structure Below (B:Nat) (w w':World):Prop extends Go.RowKit.Below B w w' where
 dr:w.drawn<=w'.drawn
theorem Below.of{B:Nat}{w w':World}(b:w'.os=w.os)(d:w'.tape=w.tape)(g:w'.output=w.output)(f:w.heap.size<=w'.heap.size)(e: ∀k,k<B->w'.heap[k]? =w.heap[k]?)(c:w.drawn<=w'.drawn):Below B w w':=⟨⟨b,d,g,f,e⟩,c⟩
theorem Below.refl(B:Nat)(w:World):Below B w w:=⟨Go.RowKit.Below.refl B w,Nat.le_refl _⟩
theorem Below.trans{B:Nat}{a b c:World}(h:Below B a b)(k:Below B b c):Below B a c:=⟨h.toBelow.trans k.toBelow,Nat.le_trans h.dr k.dr⟩
theorem Below.mono{B b:Nat}{w w':World}(h:Below B w w')(c:b<=B):Below b w w':=⟨h.toBelow.mono c,h.dr⟩
theorem Below.drew{B:Nat}{a w:World}(h:Below B a w):Below B a w.drew:=⟨h.toBelow.drew,Nat.le_trans h.dr (Nat.le_succ _)⟩
theorem Below.alloc{B:Nat}{a w:World}(h:Below B a w)(b:B<=w.heap.size)(o:Obj):Below B a (w.alloc o):=⟨h.toBelow.alloc b o,h.dr⟩
theorem Below.heap_alloc(w:World)(o:Obj)(k:Nat)(h:k<w.heap.size):(w.alloc o).heap[k]? =w.heap[k]? :=Go.RowKit.Below.heap_alloc w o k h
structure aC (w w':World) (b o:Nat):Prop where
 cell:w'.cell? ⟨b,o,none⟩=w.cell? ⟨b,o,none⟩
 map: ∀(arr:Array MapEntry) (c:Nat),w.heap[b]? =some (.map arr c)->w'.heap[b]? =some (.map arr c)
theorem aC.rfl{w:World}{b o:Nat}:aC w w b o:=⟨Eq.refl _,fun _ _ h=>h⟩
theorem aC.dD{w w':World}{b o:Nat}(h:w'.heap[b]? =w.heap[b]?):aC w w' b o:=
 ⟨World.cell?_of_block (w:=w) (a:=⟨b,o,none⟩) h,fun _ _ c=>h.trans c⟩
theorem aC.dC{w w':World}{n b o:Nat}(h:Below n w w')(c:b<n):aC w w' b o:=.dD (h.block b c)
inductive Rep (S:ar) (w:World):Value->T->Prop
 |int (k:IntKind) (n:Int):Rep S w (.int k n) (.int k n)
 |bool (b:Bool):Rep S w (.bool b) (.bool b)
 |str (s:ByteArray):Rep S w (.string s) (.str s)
 |nilptr:Rep S w (.pointer none) .nilptr
 |nilfn:Rep S w .nilFunc .nilfn
 |nilif:Rep S w .nilIface .nilif
 |nilmap:Rep S w (.map none) .nilmap
 |glob (g off:Nat):Rep S w (.pointer (some ⟨g,off,none⟩)) (.glob g off)
 |nil:Rep S w (.slice none 0 0) .nil
 |agg (cs:Array Value) (ts:List T) (hs:cs.size=ts.length) (h1: ∀t∈ts,t.one=true)
   (h: ∀(i:Nat) (x:Value) (t:T),cs[i]? =some x->ts[i]? =some t->Rep S w x t):Rep S w (.agg cs) (.agg ts)
 |tup (cs:Array Value) (ts:List T) (hs:cs.size=ts.length)
   (h: ∀(i:Nat) (x:Value) (t:T),cs[i]? =some x->ts[i]? =some t->Rep S w x t):Rep S w (.tuple cs) (.tup ts)
 |slice (a:Option Addr) (b o len cap n:Nat) (xs:List T) (g:Nat->Value) (hl:xs.length=len) (hc:len<=cap) (hu: ∀x∈xs,x.cells.length=n)
   (h1: ∀t∈xs.flatMap T.cells,t.one=true)
   (ha:0<(xs.flatMap T.cells).length->a=some ⟨b,o,none⟩)
   (hg: ∀(i:Nat),i<(xs.flatMap T.cells).length->w.cell? ⟨b,o+i,none⟩=some (g i)/\S b (o+i))
   (h: ∀(i:Nat) (t:T),(xs.flatMap T.cells)[i]? =some t->Rep S w (g i) t):Rep S w (.slice a len cap) (.slice n xs)
 |cptr (b o off:Nat) (cs:List T) (g:Nat->Value) (h1: ∀t∈cs,t.one=true)
   (hg: ∀(i:Nat),i<cs.length->w.cell? ⟨b,o+i,none⟩=some (g i)/\S b (o+i))
   (h: ∀(i:Nat) (t:T),cs[i]? =some t->Rep S w (g i) t):Rep S w (.pointer (some ⟨b,o+off,none⟩)) (.cptr cs off)
 |clos (f:FuncId) (cs:Array Value) (ts:List T) (hs:cs.size=ts.length)
   (h: ∀(i:Nat) (x:Value) (t:T),cs[i]? =some x->ts[i]? =some t->Rep S w x t):Rep S w (.func (.func f) #[] cs) (.clos f ts)
 |knot (b o:Nat) (f:FuncId) (c1 c2:Array Value) (t1 t2:List T) (hs1:c1.size=t1.length) (hs2:c2.size=t2.length)
   (hg:w.cell? ⟨b,o,none⟩=some (.func (.func f) #[] (c1++ #[.pointer (some ⟨b,o,none⟩)]++c2))/\S b o)
   (h1: ∀(i:Nat) (x:Value) (t:T),c1[i]? =some x->t1[i]? =some t->Rep S w x t)
   (h2: ∀(i:Nat) (x:Value) (t:T),c2[i]? =some x->t2[i]? =some t->Rep S w x t):Rep S w (.pointer (some ⟨b,o,none⟩)) (.knot f t1 t2)
 |mapd (g:Nat) (arr:Array MapEntry) (clock:Nat) (ag:Bool) (sh:List Sh) (ks vs:List T) (hk:arr.size=ks.length) (hv:vs.length=ks.length) (hg:w.heap[g]? =some (.map arr clock)/\S g 0)
   (r1: ∀(i:Nat) (x:MapEntry) (t:T),arr[i]? =some x->ks[i]? =some t->Rep S w x.key t)
   (r2: ∀(i:Nat) (x:MapEntry) (t:T),arr[i]? =some x->vs[i]? =some t->Rep S w x.val t)
   (ok: ∀k∈ks,aR ag sh k) (lt: ∀x∈arr.toList,x.born<clock) (apart:(arr.toList.map (·.born)).Nodup):Rep S w (.map (some g)) (.mapd ag sh ks vs)
 |wrld (b o b' o' off:Nat) (f1 f2:FuncId) (c1 d1 c2 d2:Array Value) (a1 b1 a2 b2:List T) (hc1:c1.size=a1.length) (hd1:d1.size=b1.length) (hc2:c2.size=a2.length) (hd2:d2.size=b2.length)
   (hw:w.cell? ⟨b',o',none⟩=some (.pointer (some ⟨b,o,none⟩))/\S b' o')
   (h1:w.cell? ⟨b,o,none⟩=some (.func (.func f1) #[] (c1++ #[.pointer (some ⟨b',o',none⟩)]++d1))/\S b o)
   (h2:w.cell? ⟨b,o+1,none⟩=some (.func (.func f2) #[] (c2++ #[.pointer (some ⟨b',o',none⟩)]++d2))/\S b (o+1))
   (r1: ∀(i:Nat) (x:Value) (t:T),c1[i]? =some x->a1[i]? =some t->Rep S w x t)
   (r2: ∀(i:Nat) (x:Value) (t:T),d1[i]? =some x->b1[i]? =some t->Rep S w x t)
   (r3: ∀(i:Nat) (x:Value) (t:T),c2[i]? =some x->a2[i]? =some t->Rep S w x t)
   (r4: ∀(i:Nat) (x:Value) (t:T),d2[i]? =some x->b2[i]? =some t->Rep S w x t):Rep S w (.pointer (some ⟨b,o+off,none⟩)) (.wrld f1 a1 b1 f2 a2 b2 off)
theorem Rep.mono{S K:ar}{w w':World}(p: ∀b o,S b o->K b o)(l: ∀b o,S b o->aC w w' b o)
  {v:Value} {t:T} (h:Rep S w v t):Rep K w' v t:=by
 induction h with
 |int k n=>exact .int k n
 |bool b=>exact .bool b
 |str s=>exact .str s
 |nilptr=>exact .nilptr
 |nilfn=>exact .nilfn
 |nilif=>exact .nilif
 |nilmap=>exact .nilmap
 |glob g off=>exact .glob g off
 |nil=>exact .nil
 |agg cs ts q d _ e=>exact .agg cs ts q d e
 |tup cs ts q _ e=>exact .tup cs ts q e
 |slice a b o len cap n xs g hl hc R d ha c _ e=>
  exact .slice a b o len cap n xs g hl hc R d ha (fun i hi=>⟨(l _ _ (c i hi).2).cell.trans (c i hi).1,p _ _ (c i hi).2⟩) e
 |cptr b o off cs g d c _ e=>exact .cptr b o off cs g d (fun i hi=>⟨(l _ _ (c i hi).2).cell.trans (c i hi).1,p _ _ (c i hi).2⟩) e
 |clos f cs ts q _ e=>exact .clos f cs ts q e
 |knot b o f B u L t2 C J c _ _ A x=>exact .knot b o f B u L t2 C J ⟨(l _ _ c.2).cell.trans c.1,p _ _ c.2⟩ A x
 |mapd g H j V W ks vs Z M c _ _ ok lt apart D y=>exact .mapd g H j V W ks vs Z M ⟨(l _ _ c.2).map _ _ c.1,p _ _ c.2⟩ D y ok lt apart
 |wrld b o b' o' off f1 X B O u Y a1 Q a2 U G F I r m d z _ _ _ _ D y i3 i4=>
  exact .wrld b o b' o' off f1 X B O u Y a1 Q a2 U G F I r ⟨(l _ _ m.2).cell.trans m.1,p _ _ m.2⟩ ⟨(l _ _ d.2).cell.trans d.1,p _ _ d.2⟩ ⟨(l _ _ z.2).cell.trans z.1,p _ _ z.2⟩ D y i3 i4
theorem Rep.one{S:ar}{w:World}{v:Value}{t:T}(h:Rep S w v t)(b:t.one=true):v.oneCell'=true:=by
 cases h <;> first|rfl|simp [T.one] at b
theorem Rep.cells_one{S:ar}{w:World}{v:Value}{t:T}(h:Rep S w v t)(b:t.one=true):v.cells= #[v]:=by
 cases h <;> first|rfl|simp [T.one] at b
theorem T.cells_one{t:T}(h:t.one=true):t.cells=[t]:=by cases t <;> first|rfl|simp [T.one] at h
theorem Rep.cells{S:ar}{w:World}{v:Value}{t:T}(h:Rep S w v t)(g: ∀ts,t≠ .tup ts):
  v.cells.size=t.cells.length/\ ∀(i:Nat) (x:Value) (u:T),v.cells[i]? =some x->t.cells[i]? =some u->Rep S w x u/\u.one=true:=by
 by_cases d:t.one=true
 ·rw [h.cells_one d,T.cells_one d];refine ⟨rfl,fun i x u b c=>?_⟩;cases i with
  |zero=>simp at b c;subst b;subst c;exact ⟨h,d⟩
  |succ i=>simp at b
 ·cases h with
  |agg cs ts e f h=>exact ⟨e,fun i x u b c=>⟨h i x u b c,f u (List.mem_of_getElem? c)⟩⟩
  |tup cs ts e h=>exact absurd rfl (g ts)
  |_=>simp [T.one] at d
mutual
theorem Rep.of_flat{S l:ar}{w w':World}: ∀{t:T} {v:Value},Rep S w v t->t.flat=true->Rep l w' v t
 |.int _ _,_,h,_=>by cases h;exact .int _ _
 |.bool _,_,h,_=>by cases h;exact .bool _
 |.str _,_,h,_=>by cases h;exact .str _
 |.nil,_,h,_=>by cases h;exact .nil
 |.nilptr,_,h,_=>by cases h;exact .nilptr
 |.nilfn,_,h,_=>by cases h;exact .nilfn
 |.nilif,_,h,_=>by cases h;exact .nilif
 |.nilmap,_,h,_=>by cases h;exact .nilmap
 |.glob _ _,_,h,_=>by cases h;exact .glob _ _
 |.agg ts,_,h,hf=>by
  cases h with
  |agg cs _ e j h=>exact .agg cs ts e j (fun i x t c d=>Rep.ic hf h i x t c d)
 |.tup ts,_,h,hf=>by
  cases h with
  |tup cs _ e h=>exact .tup cs ts e (fun i x t c d=>Rep.ic hf h i x t c d)
 |.clos f ts,_,h,hf=>by
  cases h with
  |clos _ cs _ e h=>exact .clos f cs ts e (fun i x t c d=>Rep.ic hf h i x t c d)
 |.slice n xs,_,h,hf=>by
  cases h with
  |slice a b o len cap _ _ g m p k j q r h=>
   have c:xs=[]:=by simpa [T.flat] using hf
   subst c;exact .slice a b o len cap n [] g m p k j q (fun i hi=>absurd hi (by simp)) (fun i t d=>by simp at d)
 |.cptr _ _,_,_,hf=>by simp [T.flat] at hf
 |.knot _ _ _,_,_,hf=>by simp [T.flat] at hf
 |.wrld _ _ _ _ _ _ _,_,_,hf=>by simp [T.flat] at hf
 |.mapd _ _ _ _,_,_,hf=>by simp [T.flat] at hf
theorem Rep.ic{S e:ar}{w w':World}{cs:Array Value}: ∀{ts:List T},T.flat.go ts=true->
  (∀ (i:Nat) (x:Value) (t:T),cs[i]? =some x->ts[i]? =some t->Rep S w x t)-> ∀(i:Nat) (x:Value) (t:T),cs[i]? =some x->ts[i]? =some t->Rep e w' x t
 |[],_,_,i,x,t,_,ht=>by simp at ht
 |t0::ts,hf,h,i,x,t,hx,ht=>by
  simp only [T.flat.go,Bool.and_eq_true] at hf;cases i with
  |zero=>simp at ht;subst ht;exact Rep.of_flat (h 0 x t0 hx rfl) hf.1
  |succ i=>
   refine Rep.ic (cs:=cs.extract 1 cs.size) (ts:=ts) hf.2 (fun j y u b d=>h (j+1) y u ?_ (by simpa using d)) i x t ?_ (by simpa using ht)
   ·rw [Array.getElem?_extract] at b;split at b
    ·rwa [Nat.add_comm] at b
    ·cases b
   ·have c:i+1<cs.size:=(Array.getElem?_eq_some_iff.1 hx).1;rw [Array.getElem?_extract,if_pos (by omega),Nat.add_comm];exact hx
end
inductive V where
 |top
 |t (x:T)
 |ptr (n off:Nat)
 |view (n off len size:Nat)
 |own (r:Nat) (e:TypeId) (size:Nat) (xs:List T)
 |full (size:Nat) (xs:List T)
 |fn (f:FuncId) (caps:List V)
 |tup (vs:List V)
 |agv (vs:List V)
 |raw (v:Value)
 |mp (n:Nat)
 deriving Inhabited
structure Env where
 S:ar
 w:World
 B:Nat
 κ:Nat->Nat
 ρ:Nat->Option Nat
 live:Nat->Bool
structure bQ (E:Env) (v:Value) (r:Nat) (e:TypeId) (size:Nat) (xs:List T):Prop where
 ex: ∃cells:List Value,E.w.ownsRow E.B e size v xs.length cells/\cells.length=(xs.flatMap T.cells).length/\
  (∀ (i:Nat) (x:Value) (t:T),cells[i]? =some x->(xs.flatMap T.cells)[i]? =some t->Rep E.S E.w x t)
 uni: ∀x∈xs,x.cells.length=size
 one: ∀t∈xs.flatMap T.cells,t.one=true
 row: ∀g,v.ownBlock=some g->E.ρ r=some g/\ ∀o,E.S g o↔o<(xs.flatMap T.cells).length
inductive VR (E:Env):Value->V->Prop
 |top (v:Value):VR E v .top
 |t (v:Value) (x:T) (h:Rep E.S E.w v x):VR E v (.t x)
 |ptr (n off:Nat) (hl:E.live n=true):VR E (.pointer (some ⟨E.κ n,off,none⟩)) (.ptr n off)
 |view (n off len size cap:Nat) (hl:E.live n=true) (hc:len<=cap):VR E (.slice (some ⟨E.κ n,off,none⟩) len cap) (.view n off len size)
 |own (v:Value) (r:Nat) (e:TypeId) (size:Nat) (xs:List T) (h:bQ E v r e size xs):VR E v (.own r e size xs)
 |full (a:Option Addr) (len size:Nat) (xs:List T) (h:Rep E.S E.w (.slice a len len) (.slice size xs)):VR E (.slice a len len) (.full size xs)
 |fn (f:FuncId) (cs:Array Value) (vs:List V) (hs:cs.size=vs.length)
   (h: ∀(i:Nat) (x:Value) (u:V),cs[i]? =some x->vs[i]? =some u->VR E x u):VR E (.func (.func f) #[] cs) (.fn f vs)
 |tup (cs:Array Value) (vs:List V) (hs:cs.size=vs.length)
   (h: ∀(i:Nat) (x:Value) (u:V),cs[i]? =some x->vs[i]? =some u->VR E x u):VR E (.tuple cs) (.tup vs)
 |agv (cs:Array Value) (vs:List V) (hs:cs.size=vs.length) (h1: ∀(i:Nat) (x:Value),cs[i]? =some x->x.oneCell'=true)
   (h: ∀(i:Nat) (x:Value) (u:V),cs[i]? =some x->vs[i]? =some u->VR E x u):VR E (.agg cs) (.agv vs)
 |raw (v:Value) (h1:v.oneCell'=true):VR E v (.raw v)
 |mp (n:Nat) (hl:E.live n=true):VR E (.map (some (E.κ n))) (.mp n)
end Go.DL
end
section
namespace Go.DL
open Go.RowKit
inductive O where
 |tmp (n:Nat)
 |const (t:T)
 deriving Inhabited
inductive Prim where
 |strB|bytS|strS
 deriving DecidableEq,Inhabited
inductive DOp where
 |mov (x:O)
 |prim (p:Prim) (x:O)
 |arrP (n:Nat) (x:O)
 |copy (x y:O)
 |slice3 (size:Nat) (x hi mx:O)
 |buildF (size n:Nat) (zs:List T) (parts:List (Nat×O))
 |appT (size bytes:Nat) (s x:O)
 |appV (size bytes:Nat) (s x:O)
 |isnil (k:Nat) (neg:Bool) (x:O)
 |cpl (x:O)
 |mkslice (size bytes:Nat) (zs:List T) (l c:O)
 |pick (c a b:O)
 |alloc (zs:List T)
 |box (n:Nat) (x:O)
 |load (n:Nat) (agg:Bool) (a:O)
 |store (n:Nat) (a x:O)
 |offA (k:Nat) (a:O)
 |nar (n:Nat) (a:O)
 |idxA (len:Nat) (size:Nat) (a i:O)
 |idxL (size:Nat) (a i:O)
 |fld (off size:Nat) (agg:Bool) (x:O)
 |idxV (len size:Nat) (agg:Bool) (x i:O)
 |idxS (x i:O)
 |bin (op:BinOp) (x y:O)
 |eqv (neg:Bool) (sh:List Sh) (x y:O)
 |eqB (neg:Bool) (x y:O)
 |not (x:O)
 |neg (x:O)
 |conv (k:IntKind) (x:O)
 |len (x:O)
 |lenS (x:O)
 |maxI (x y:O)
 |minI (x y:O)
 |append (t e:TypeId) (size bytes:Nat) (s x:O)
 |slice (size:Nat) (x:O) (lo hi:Option O)
 |sliceS (x:O) (lo hi:Option O)
 |sliceA (len size:Nat) (x:O) (lo hi:Option O)
 |build (zs:List T) (parts:List (Nat×Nat×O))
 |buildS (e:TypeId) (size n:Nat) (zs:List T) (parts:List (Nat×O))
 |buildT (size n:Nat) (zs:List T) (parts:List (Nat×O))
 |mkfn (f:FuncId) (caps:List O)
 |call (f:FuncId) (args:List O)
 |inl (f:FuncId) (args:List O)
 |fcall (f:FuncId) (args:List O)
 |mcall (ms:List Nat) (f:FuncId) (args:List O)
 |bY (x:O) (args:List O)
 |ext (x:O) (i:Nat)
 |clr (size:Nat) (zs:List T) (x:O)
 |nilck (x:O)
 |mkmap (ag:Bool) (sh:List Sh)
 |mlook (ag:Bool) (sh:List Sh) (z:T) (ok:Bool) (m k:O)
 |bC (ag:Bool) (sh:List Sh) (m k v:O)
 |mlen (m:O)
 |cM (ag:Bool) (sh:List Sh) (m k:O)
 |mclr (m:O)
 |mrng (m:O)
 |mnext (x:O)
 |ment (x:O)
 |bad
 deriving Inhabited
structure DI where
 dst:Option Nat
 op:DOp
 guard:Option (Nat×Bool)
 after:List Nat
 deriving Inhabited
inductive BX where
 |d (n:Nat) (ts:List T)
 |v (vs:List V)
 |m (ag:Bool) (sh:List Sh) (es:List (T×T)) (mb:Option (List Nat×Nat))
 |it (m:Nat) (bs:List Nat) (c:Nat) (ix:List Nat)
 |itd (es:List (T×T)) (ix:List Nat)
 deriving Inhabited
def cz:Obj->Bool
 |.cells .. =>false
 |.map .. =>false
 |.mapIter .. =>false
 |_=>true
structure aa where
 S:ar
 vals:Nat->Nat->Value:=fun _ _=>undef
 objs:Nat->Option Obj:=fun _=>none
structure St where
 sl:Nat->V
 bx:Nat->Option BX
 gh:Nat->Nat->V:=fun _ _=>.top
 off:Nat:=0
 cx:aa->World->Prop:=fun _ _=>True
def St.nm(st:St)(d:Option Nat):Option Nat:=
 match d with
 |some n=>some (n+st.off)
 |none=>none
def upd{α:Type}(f:Nat->α)(n:Nat)(v:α):Nat->α:=fun m=>cond (Nat.beq m n) v (f m)
theorem cD(n:Nat):Nat.beq n n=true:=Nat.beq_refl n
theorem iu{n m:Nat}(h:m≠n):Nat.beq m n=false:=by
 cases b:Nat.beq m n with
 |false=>rfl
 |true=>exact absurd (Nat.eq_of_beq_eq_true b) h
theorem aj{α:Type}(f:Nat->α)(n:Nat)(v:α):upd f n v n=v:=by simp [upd]
theorem ae{α:Type}(f:Nat->α)(n m:Nat)(v:α)(h:m≠n):upd f n v m=f m:=by simp [upd,iu h]
def St.set(st:St)(d:Option Nat)(v:V):St:=
 match d with
 |some n=>{st with sl:=upd st.sl n v }
 |none=>st
def ev(b:Nat->V):O->V
 |.tmp n=>b n
 |.const t=>.t t
class Glb where
 gs:Nat->Option (List T)
def bE[Glb](S:ar)(w:World):Prop:= ∀g cs,Glb.gs g=some cs->g<w.heap.size/\ ∃v:Nat->Value, ∀i t,cs[i]? =some t->
 w.cell? ⟨g,i,none⟩=some (v i)/\S g i/\t.one=true/\t.flat=true/\Rep (fun _ _=>False) w (v i) t
structure Eff where
 val:V
 wr:Option (Nat×BX):=none
 rd:List Nat:=[]
inductive cr where
 |no
 |yes (e:Eff)
 |need (c:Prop) (e:Eff)
 |alt (c:Prop) (b:Bool) (f:Bool->Eff)
 |eq (c:Prop) (t:T) (f:T->Eff)
def val(v:V):cr:=.yes {val:=v }
def aK(t:T):cr:=.yes {val:=.t t }
def aU(rd:List Nat)(t:T):Eff:={val:=.t t,rd:=rd }
def asT:V->Option T
 |.t x=>some x
 |.own _ _ n xs=>some (.slice n xs)
 |.full n xs=>some (.slice n xs)
 |_=>none
def eI:List V->Option (List T)
 |[]=>some []
 |v::vs=>match asT v,eI vs with
  |some x,some xs=>some (x::xs)
  |_,_=>none
def od(n:Nat):V->Option (Prop×BX)
 |.t (.tup _)=>none
 |.t (.agg cs)=>some (cs.length=n,.d n cs)
 |.t x=>cond (Nat.beq n 1) (some (True,.d 1 [x])) none
 |.top=>none
 |.tup _=>none
 |.agv vs=>some (vs.length=n,.v vs)
 |v=>cond (Nat.beq n 1) (some (True,.v [v])) none
def lW(b:List Nat)(m:Nat)(cs:List T)(off n:Nat)(agg:Bool):cr:=
 match agg with
 |true=>cond (Nat.beq off 0&&Nat.beq m n) (.yes (aU b (.agg cs))) (.eq (off+n<=m) (.agg ((cs.drop off).take n)) (aU b))
 |false=>.eq (off<m) (cs[off]?.getD .nil) (aU b)
def eQ(b:Nat)(bx:BX)(off n:Nat)(agg:Bool):cr:=
 match bx with
 |.d m ts=>lW [b] m ts off n agg
 |.v vs=>match agg with
  |false=>match vs[off]? with
   |some v=>.yes {val:=v,rd:=[b]}
   |none=>.no
  |true=>match eI ((vs.drop off).take n) with
   |some ts=>cond (Nat.beq ts.length n) (.yes (aU [b] (.agg ts))) .no
   |none=>.no
 |.m _ _ _ _=>.no
 |.it _ _ _ _=>.no
 |.itd _ _=>.no
def aN{α:Type}(cs:List α)(off n:Nat)(vs:List α):List α:=cs.take off++(vs++cs.drop (off+n))
def gG(b:Nat)(bx:BX)(off n:Nat)(x:V):cr:=
 match bx,x with
 |.m _ _ _ _,_=>.no
 |.it _ _ _ _,_=>.no
 |.itd _ _,_=>.no
 |.d _ _,.t (.tup _)=>.no
 |.d m ts,.t (.agg cs)=>.need (cs.length=n/\off+n<=m) {val:=.top,wr:=some (b,.d m (aN ts off n cs)),rd:=[b]}
 |.d m ts,.t t=>cond (Nat.beq n 1) (.need (off<m) {val:=.top,wr:=some (b,.d m (ts.set off t)),rd:=[b]}) .no
 |.v vs,.t (.agg cs)=>.need (cs.length=n/\off+n<=vs.length) {val:=.top,wr:=some (b,.v (aN vs off n (cs.map .t))),rd:=[b]}
 |.v _,.t (.tup _)=>.no
 |.v _,.tup _=>.no
 |.d _ _,.top=>.no
 |.d _ _,.tup _=>.no
 |.v _,.top=>.no
 |.d _ _,.agv _=>.no
 |.v _,.agv _=>.no
 |.d m ts,v=>cond (Nat.beq n 1) (.need (off<m) {val:=.top,wr:=some (b,.v ((ts.map .t).set off v)),rd:=[b]}) .no
 |.v vs,v=>cond (Nat.beq n 1) (.need (off<vs.length) {val:=.top,wr:=some (b,.v (vs.set off v)),rd:=[b]}) .no
def iV(c:BinOp)(k:IntKind)(x y:Int):Int:=
 let a:=BitVec.ofInt k.bits x
 let b:=BitVec.ofInt k.bits y
 match c with
 |.and=>k.wrap (a &&& b).toNat
 |.or=>k.wrap (a ||| b).toNat
 |.xor=>k.wrap (a ^^^ b).toNat
 |_=>k.wrap (a &&& ~~~b).toNat
def dI(b:Bool):Eff:={val:=.t (.bool b)}
def n5(c:BinOp)(k d:IntKind)(a b:Int):cr:=
 match c with
 |.shl=>.need (0<=b) {val:=.t (.int k (k.wrap (a * 2^(min b.toNat k.bits))))}
 |.shr=>.need (0<=b) {val:=.t (.int k (a.fdiv (2^(min b.toNat k.bits))))}
 |c=>if k≠d then .no else match c with
  |.add=>aK (.int k (k.wrap (a+b)))
  |.sub=>aK (.int k (k.wrap (a - b)))
  |.mul=>aK (.int k (k.wrap (a * b)))
  |.quo=>.need (b≠0) {val:=.t (.int k (k.wrap (a.tdiv b)))}
  |.rem=>.need (b≠0) {val:=.t (.int k (a.tmod b))}
  |.and=>aK (.int k (iV .and k a b))
  |.or=>aK (.int k (iV .or k a b))
  |.xor=>aK (.int k (iV .xor k a b))
  |.andNot=>aK (.int k (iV .andNot k a b))
  |.eql=>.alt True (a==b) dI
  |.neq=>.alt True (a !=b) dI
  |.lss=>.alt True (decide (a<b)) dI
  |.leq=>.alt True (decide (a<=b)) dI
  |.gtr=>.alt True (decide (a>b)) dI
  |.geq=>.alt True (decide (a>=b)) dI
  |_=>.no
def n9(b:BinOp)(x y:ByteArray):cr:=
 match b with
 |.add=>.need (((x.size+y.size:Nat):Int)<=IntKind.i64.max) {val:=.t (.str (x++y))}
 |.eql=>.alt True (x.toList==y.toList) dI
 |.neq=>.alt True (!(x.toList==y.toList)) dI
 |.lss=>.alt True (Op.bytesLess x.toList y.toList) dI
 |.leq=>.alt True (Op.bytesLess x.toList y.toList||x.toList==y.toList) dI
 |.gtr=>.alt True (!(Op.bytesLess x.toList y.toList||x.toList==y.toList)) dI
 |.geq=>.alt True (!(Op.bytesLess x.toList y.toList)) dI
 |_=>.no
def eqL:List T->List T->Bool
 |[],[]=>true
 |.int _ a::xs,.int _ b::ys=>a==b&&eqL xs ys
 |.bool a::xs,.bool b::ys=>a==b&&eqL xs ys
 |.str a::xs,.str b::ys=>a==b&&eqL xs ys
 |_,_=>false
def Sh.same:Sh->Sh->Bool
 |.int k,.int k'=>k==k'
 |.bool,.bool=>true
 |.str,.str=>true
 |_,_=>false
def kL:List Sh->List Sh->Bool
 |[],[]=>true
 |a::az,b::bs=>a.same b&&kL az bs
 |_,_=>false
def ct(e:Bool)(d:List Sh)(c:Bool)(b:List Sh):Bool:=(e==c)&&kL d b
def eA(k:List T):List (T×T)->Option T
 |[]=>none
 |e::es=>cond (eqL k e.1.cells) (some e.2) (eA k es)
def bC(k v:T):List (T×T)->List (T×T)
 |[]=>[(k,v)]
 |e::es=>cond (eqL k.cells e.1.cells) ((k,v)::es) (e::bC k v es)
def cM(k:List T):List (T×T)->List (T×T)
 |[]=>[]
 |e::es=>cond (eqL k e.1.cells) es (e::cM k es)
def oB(z:T)(ok:Bool):Option T->T
 |some v=>cond ok (.tup [v,.bool true]) v
 |none=>cond ok (.tup [z,.bool false]) z
def kV(b:List (T×T))(ix:List Nat):T:=
 match b[ix.getLast?.getD 0]? with
 |some e=>.tup [e.1,e.2]
 |none=>.nil
def elemOf(size:Nat)(cs:List T):T:=cond (Nat.beq size 1) (cs.headD .nil) (.agg cs)
def chunk(size:Nat):Nat->List T->List T
 |0,_=>[]
 |n+1,cs=>elemOf size (cs.take size)::chunk size n (cs.drop size)
def aX(bx:Nat->Option BX):V->Option (T×List Nat)
 |.t x=>some (x,[])
 |.own _ _ n xs=>some (.slice n xs,[])
 |.full n xs=>some (.slice n xs,[])
 |.ptr n off=>match bx n with
  |some (.d _ ts)=>some (.cptr ts off,[n])
  |some (.v vs)=>match eI vs with
   |some ts=>some (.cptr ts off,[n])
   |none=>none
  |some (.m _ _ _ _)=>none
  |some (.it _ _ _ _)=>none
  |some (.itd _ _)=>none
  |none=>none
 |.view n off len size=>match bx n with
  |some (.d m ts)=>cond (Nat.blt 0 size&&Nat.ble (off+len * size) m) (some (.slice size (chunk size len (ts.drop off)),[n])) none
  |_=>none
 |.mp n=>match bx n with
  |some (.m ag sh es _)=>some (.mapd ag sh (es.map (·.1)) (es.map (·.2)),[n])
  |_=>none
 |_=>none
def cO(bx:Nat->Option BX):List V->Option (List T×List Nat)
 |[]=>some ([],[])
 |v::vs=>match aX bx v,cO bx vs with
  |some (x,r),some (xs,rs)=>some (x::xs,r++rs)
  |_,_=>none
def conv(bx:Nat->Option BX):V->Option (T×List Nat)
 |.fn f caps=>match cO bx caps with
  |some (ts,r)=>some (.clos f ts,r)
  |none=>none
 |v=>aX bx v
def bq(bx:Nat->Option BX):List V->Option (List T×List Nat)
 |[]=>some ([],[])
 |v::vs=>match conv bx v,bq bx vs with
  |some (x,r),some (xs,rs)=>some (x::xs,r++rs)
  |_,_=>none
def bX(s:ByteArray):List T:=s.data.toList.map fun b=>.int .u8 (b.toNat:Int)
def tS:T->UInt8
 |.int _ n=>UInt8.ofNat n.toNat
 |_=>0
def oG(xs:List T):ByteArray:=⟨(xs.map tS).toArray⟩
def jY:List T->Prop
 |[]=>True
 |.int .u8 _::xs=>jY xs
 |_=>False
def cU(bx:Nat->Option BX):V->Option T
 |.t (.str s)=>some (.slice 1 (bX s))
 |.view n off len size=>match aX bx (.view n off len size) with
  |some (t,_)=>some t
  |none=>none
 |v=>asT v
def lX:Prim->T->Option (Prop×T)
 |.strB,.slice _ xs=>some (jY xs,.str (oG xs))
 |.strB,.nil=>some (True,.str ByteArray.empty)
 |.bytS,.str s=>some (True,.slice 1 (bX s))
 |.strS,.str s=>some (True,.str s)
 |_,_=>none
def ez(lo:Option V):Option Int:=
 match lo with
 |none=>some 0
 |some (.t (.int _ n))=>some n
 |_=>none
def dt(hi:Option V)(len:Nat):Option Int:=
 match hi with
 |none=>some len
 |some (.t (.int _ n))=>some n
 |_=>none
def cZ(b:Nat->V)(d:List T)(c:Prop):List (Nat×Nat×O)->Option (List T×Prop)
 |[]=>some (d,c)
 |(off,size,x)::rest=>match asT (ev b x) with
  |some (.tup _)=>none
  |some (.agg cs)=>cZ b (aN d off size cs) (c/\cs.length=size) rest
  |some t=>cond (Nat.beq size 1) (cZ b (aN d off 1 [t]) c rest) none
  |none=>none
def da(b:Nat->V)(d:List V)(c:Prop):List (Nat×Nat×O)->Option (List V×Prop)
 |[]=>some (d,c)
 |(off,size,x)::rest=>match ev b x with
  |.t (.tup _)=>none
  |.t (.agg cs)=>da b (aN d off size (cs.map .t)) (c/\cs.length=size) rest
  |.top=>none
  |.tup _=>none
  |.agv _=>none
  |v=>cond (Nat.beq size 1) (da b (aN d off 1 [v]) c rest) none
def aY(d:Nat->V)(size:Nat)(b:List T)(c:Prop):List (Nat×O)->Option (List T×Prop)
 |[]=>some (b,c)
 |(i,x)::rest=>match asT (ev d x) with
  |some (.tup _)=>none
  |some (.agg cs)=>aY d size (b.set i (.agg cs)) (c/\cs.length=size) rest
  |some t=>cond (Nat.beq size 1) (aY d size (b.set i t) c rest) none
  |none=>none
def eff[Glb](o:DOp)(d:Option Nat)(e:Nat->V)(bx:Nat->Option BX):cr:=
 match o with
 |.mov x=>val (ev e x)
 |.pick c a b=>match ev e c with
  |.t (.bool true)=>val (ev e a)
  |.t (.bool false)=>val (ev e b)
  |_=>.no
 |.alloc zs=>match d with
  |some n=>match bx n with
   |none=>.yes {val:=.ptr n 0,wr:=some (n,.d zs.length zs),rd:=[n]}
   |some _=>.no
  |none=>.no
 |.box m x=>match d with
  |some n=>match bx n,od m (ev e x) with
   |none,some (c,b)=>.need c {val:=.ptr n 0,wr:=some (n,b),rd:=[n]}
   |_,_=>.no
  |none=>.no
 |.load n agg a=>match ev e a with
  |.ptr b off=>match bx b with
   |some cs=>eQ b cs off n agg
   |none=>.no
  |.t (.cptr cs off)=>match agg with
   |true=>cond (Nat.beq off 0) (.eq (cs.length=n) (.agg cs) (aU [])) (.eq (off+n<=cs.length) (.agg ((cs.drop off).take n)) (aU []))
   |false=>.eq (off<cs.length) (cs[off]?.getD .nil) (aU [])
  |.t (.glob g off)=>match Glb.gs g with
   |some cs=>(match agg with
    |true=>cond (Nat.beq off 0) (.eq (cs.length=n) (.agg cs) (aU [])) (.eq (off+n<=cs.length) (.agg ((cs.drop off).take n)) (aU []))
    |false=>.eq (off<cs.length) (cs[off]?.getD .nil) (aU []))
   |none=>.no
  |.t (.knot f pre post)=>match agg with
   |false=>aK (.clos f (pre++[.knot f pre post]++post))
   |true=>.no
  |.t (.wrld f1 a1 b1 f2 a2 b2 off)=>match agg,off with
   |false,0=>aK (.clos f1 (a1++[.cptr [.wrld f1 a1 b1 f2 a2 b2 0] 0]++b1))
   |false,1=>aK (.clos f2 (a2++[.cptr [.wrld f1 a1 b1 f2 a2 b2 0] 0]++b2))
   |_,_=>.no
  |_=>.no
 |.store n a x=>match ev e a with
  |.ptr b off=>match bx b with
   |some cs=>gG b cs off n (ev e x)
   |none=>.no
  |_=>.no
 |.nar n a=>match ev e a with
  |.t (.cptr cs 0)=>.need (n<=cs.length) {val:=.t (.cptr (cs.take n) 0)}
  |_=>.no
 |.offA k a=>match ev e a with
  |.ptr b off=>val (.ptr b (off+k))
  |.t (.cptr cs off)=>aK (.cptr cs (off+k))
  |.t (.glob g off)=>aK (.glob g (off+k))
  |.t (.wrld f1 a1 b1 f2 a2 b2 off)=>aK (.wrld f1 a1 b1 f2 a2 b2 (off+k))
  |_=>.no
 |.idxA len size a i=>match ev e a,ev e i with
  |.ptr b off,.t (.int _ n)=>.need (0<=n/\n<len) {val:=.ptr b (off+n.toNat * size)}
  |.t (.cptr cs off),.t (.int _ n)=>.need (0<=n/\n<len) {val:=.t (.cptr cs (off+n.toNat * size))}
  |.t (.glob g off),.t (.int _ n)=>.need (0<=n/\n<len) {val:=.t (.glob g (off+n.toNat * size))}
  |_,_=>.no
 |.idxL size a i=>match ev e a,ev e i with
  |.view b off len sz,.t (.int _ n)=>cond (Nat.beq size sz) (.need (0<=n/\n<len) {val:=.ptr b (off+n.toNat * size)}) .no
  |v,.t (.int _ n)=>match asT v with
   |some (.slice sz xs)=>cond (Nat.beq size sz) (.eq (0<=n/\n<xs.length) (xs[n.toNat]?.getD .nil) fun t=>{val:=.t (.cptr t.cells 0)}) .no
   |_=>.no
  |_,_=>.no
 |.fld off size agg x=>match ev e x with
  |.t (.agg cs)=>match agg with
   |true=>.eq (off+size<=cs.length) (.agg ((cs.drop off).take size)) (aU [])
   |false=>.eq (off<cs.length) (cs[off]?.getD .nil) (aU [])
  |_=>.no
 |.idxV len size agg x i=>match ev e x,ev e i with
  |.t (.agg cs),.t (.int _ n)=>match agg with
   |true=>.eq (0<=n/\n<len/\n.toNat * size+size<=cs.length) (.agg ((cs.drop (n.toNat * size)).take size)) (aU [])
   |false=>.eq (0<=n/\n<len/\n.toNat * size<cs.length) (cs[n.toNat * size]?.getD .nil) (aU [])
  |_,_=>.no
 |.idxS x i=>match ev e x,ev e i with
  |.t (.str s),.t (.int _ n)=>.eq (0<=n/\n<s.size) (.int .u8 ((s.toList[n.toNat]?.getD 0).toNat:Int)) (aU [])
  |_,_=>.no
 |.bin op x y=>match ev e x,ev e y with
  |.t (.int k a),.t (.int k' b)=>n5 op k k' a b
  |.t (.str a),.t (.str b)=>n9 op a b
  |_,_=>.no
 |.eqv ng sh x y=>match ev e x,ev e y with
  |.t (.agg a),.t (.agg b)=>.alt (fits sh a/\fits sh b) (cond ng (!eqL a b) (eqL a b)) dI
  |_,_=>.no
 |.eqB ng x y=>match ev e x,ev e y with
  |.t (.bool a),.t (.bool b)=>.alt True (cond ng (!(a==b)) (a==b)) dI
  |_,_=>.no
 |.not x=>match ev e x with
  |.t (.bool b)=>aK (.bool (!b))
  |_=>.no
 |.neg x=>match ev e x with
  |.t (.int k n)=>aK (.int k (k.wrap (0 - n)))
  |_=>.no
 |.conv k x=>match ev e x with
  |.t (.int _ n)=>aK (.int k (k.wrap n))
  |_=>.no
 |.len x=>match ev e x with
  |.t (.slice _ xs)=>aK (.int .i64 xs.length)
  |.own _ _ _ xs=>aK (.int .i64 xs.length)
  |.full _ xs=>aK (.int .i64 xs.length)
  |.t .nil=>aK (.int .i64 0)
  |.view _ _ n _=>aK (.int .i64 n)
  |_=>.no
 |.lenS x=>match ev e x with
  |.t (.str s)=>aK (.int .i64 s.size)
  |_=>.no
 |.maxI x y=>match ev e x,ev e y with
  |.t (.int k a),.t (.int _ b)=>aK (.int k (if b>a then b else a))
  |_,_=>.no
 |.minI x y=>match ev e x,ev e y with
  |.t (.int k a),.t (.int _ b)=>aK (.int k (if b<a then b else a))
  |_,_=>.no
 |.slice size x lo hi=>match ev e x with
  |.view b off len sz=>match ez (lo.map (ev e)),dt (hi.map (ev e)) len with
   |some l,some h=>cond (Nat.beq size sz) (.need (0<=l/\l<=h/\h<=len/\l.toNat<len) {val:=.view b (off+l.toNat * size) (h.toNat - l.toNat) sz }) .no
   |_,_=>.no
  |v=>match asT v with
   |some (.slice sz xs)=>match ez (lo.map (ev e)),dt (hi.map (ev e)) xs.length with
    |some l,some h=>cond (Nat.beq size sz) (.eq (0<=l/\l<=h/\h<=xs.length) (.slice sz ((xs.take h.toNat).drop l.toNat)) (aU [])) .no
    |_,_=>.no
   |some .nil=>match ez (lo.map (ev e)),dt (hi.map (ev e)) 0 with
    |some l,some h=>.need (l=0/\h=0) {val:=.t .nil }
    |_,_=>.no
   |_=>.no
 |.sliceS x lo hi=>match ev e x with
  |.t (.str s)=>match ez (lo.map (ev e)),dt (hi.map (ev e)) s.size with
   |some l,some h=>.eq (0<=l/\l<=h/\h<=s.size) (.str (s.extract l.toNat h.toNat)) (aU [])
   |_,_=>.no
  |_=>.no
 |.sliceA len size x lo hi=>match ev e x with
  |.ptr b off=>match lo,hi with
   |none,none=>val (.view b off len size)
   |_,_=>match ez (lo.map (ev e)),dt (hi.map (ev e)) len with
    |some l,some h=>.need (0<=l/\l<=h/\h<=len/\l.toNat<len) {val:=.view b (off+l.toNat * size) (h.toNat - l.toNat) size }
    |_,_=>.no
  |.t (.cptr cs off)=>match ez (lo.map (ev e)),dt (hi.map (ev e)) len with
   |some l,some h=>cond (Nat.blt 0 size) (.eq (0<=l/\l<=h/\h<=len/\off+len * size<=cs.length) (.slice size (chunk size (h.toNat - l.toNat) (cs.drop (off+l.toNat * size)))) (aU [])) .no
   |_,_=>.no
  |.t (.glob g off)=>match Glb.gs g with
   |some cs=>(match ez (lo.map (ev e)),dt (hi.map (ev e)) len with
    |some l,some h=>cond (Nat.blt 0 size) (.eq (0<=l/\l<=h/\h<=len/\off+len * size<=cs.length) (.slice size (chunk size (h.toNat - l.toNat) (cs.drop (off+l.toNat * size)))) (aU [])) .no
    |_,_=>.no)
   |none=>.no
  |_=>.no
 |.mkslice size bytes zs l c=>match d with
  |some q=>match bx q,ev e l,ev e c with
   |none,.t (.int _ n),.t (.int _ k)=>.need (0<=n/\n=k/\(bytes:Int) * k<=281474976710656/\k<=9223372036854775807) {val:=.view q 0 n.toNat size,wr:=some (q,.d (n.toNat * size) (List.replicate n.toNat zs).flatten),rd:=[q]}
   |_,_,_=>.no
  |none=>.no
 |.slice3 size x hi mx=>match ev e hi,ev e mx with
  |.t (.int _ h),.t (.int _ m)=>match asT (ev e x) with
   |some (.slice sz xs)=>cond (Nat.beq size sz) (.need (0<=h/\h=m/\h<=xs.length) {val:=.full sz (xs.take h.toNat)}) .no
   |some .nil=>.need (h=0/\m=0) {val:=.full size []}
   |_=>.no
  |_,_=>.no
 |.buildF size n zs parts=>match d,aY e size (List.replicate n (cond (Nat.beq size 1) (zs.headD .nil) (.agg zs))) True parts with
  |some _,some (es,c)=>.need c {val:=.full size es }
  |_,_=>.no
 |.appT size bytes s x=>match cU bx (ev e x) with
  |some (.slice n ys)=>(match ev e s with
   |.full sz xs=>cond (Nat.beq size sz) (.need ((n=size\/ys=[])/\(xs.length+ys.length) * bytes<=140737488355328) {val:=.t (.slice size (xs++ys))}) .no
   |.t .nil=>.need ((n=size\/ys=[])/\ys.length * bytes<=140737488355328) {val:=.t (.slice size ys)}
   |_=>.no)
  |some .nil=>(match ev e s with
   |.full sz xs=>cond (Nat.beq size sz) (.need (xs.length * bytes<=140737488355328) {val:=.t (.slice size xs)}) .no
   |.t .nil=>.need True {val:=.t (.slice size [])}
   |_=>.no)
  |_=>.no
 |.isnil k ng x=>match k,ev e x with
  |0,.ptr _ _=>aK (.bool ng)
  |0,.t (.cptr _ _)=>aK (.bool ng)
  |0,.t (.glob _ _)=>aK (.bool ng)
  |0,.t .nilptr=>aK (.bool (!ng))
  |1,.view _ _ _ _=>aK (.bool ng)
  |1,.t .nil=>aK (.bool (!ng))
  |1,v=>match asT v with
   |some (.slice _ xs)=>.need (0<(xs.flatMap T.cells).length) {val:=.t (.bool ng)}
   |_=>.no
  |2,.mp _=>aK (.bool ng)
  |2,.t (.mapd _ _ _ _)=>aK (.bool ng)
  |2,.t .nilmap=>aK (.bool (!ng))
  |3,.fn _ _=>aK (.bool ng)
  |3,.t (.clos _ _)=>aK (.bool ng)
  |3,.t .nilfn=>aK (.bool (!ng))
  |_,_=>.no
 |.cpl x=>match ev e x with
  |.t (.int k n)=>aK (.int k (iV .xor k (if k.signed then -1 else k.max) n))
  |_=>.no
 |.prim p x=>match aX bx (ev e x) with
  |some (t,rd)=>match lX p t with
   |some (c,r)=>.eq c r (aU rd)
   |none=>.no
  |none=>.no
 |.arrP n x=>match ev e x with
  |.view b off len _=>.need (n<=len) {val:=.ptr b off }
  |v=>match asT v with
   |some (.slice _ xs)=>.need (n=xs.length/\0<(xs.flatMap T.cells).length) {val:=.t (.cptr (xs.flatMap T.cells) 0)}
   |_=>.no
 |.copy x y=>match ev e x with
  |.view b off len sz=>match bx b,cU bx (ev e y) with
   |some (.d m ts),some (.slice n ys)=>cond (Nat.beq sz 1&&Nat.beq n 1) (.need (off+len<=m/\ys.all T.one=true) {val:=.t (.int .i64 (Nat.min ys.length len:Nat)),wr:=some (b,.d m (aN ts off (Nat.min ys.length len) (ys.take (Nat.min ys.length len)))),rd:=[b]}) .no
   |some (.d m _),some .nil=>.need (off+len<=m) (aU [b] (.int .i64 0))
   |_,_=>.no
  |_=>.no
 |.build zs parts=>match cZ e zs True parts with
  |some (ts,c)=>.need c {val:=.t (.agg ts)}
  |none=>match da e (zs.map .t) True parts with
   |some (vs,c)=>.need c {val:=.agv vs }
   |none=>.no
 |.buildT size n zs parts=>match d,aY e size (List.replicate n (cond (Nat.beq size 1) (zs.headD .nil) (.agg zs))) True parts with
  |some _,some (es,c)=>.need c {val:=.t (.slice size es)}
  |_,_=>.no
 |.mkfn f caps=>val (.fn f (caps.map (ev e)))
 |.ext x i=>match ev e x with
  |.t (.tup ts)=>match ts[i]? with
   |some t=>aK t
   |none=>.no
  |.tup vs=>match vs[i]? with
   |some v=>val v
   |none=>.no
  |_=>.no
 |.clr size zs x=>match ev e x with
  |.view b off len sz=>match bx b with
   |some (.d m ts)=>cond (Nat.beq size sz) (.need (0<len/\off+len * size<=m) {val:=.top,wr:=some (b,.d m (aN ts off (len * size) (List.replicate len zs).flatten)),rd:=[b]}) .no
   |_=>.no
  |_=>.no
 |.nilck x=>match ev e x with
  |.ptr b off=>val (.ptr b off)
  |.t (.cptr cs off)=>aK (.cptr cs off)
  |.t (.glob g off)=>aK (.glob g off)
  |.t (.knot f a b)=>aK (.knot f a b)
  |.t (.wrld f1 a1 b1 f2 a2 b2 off)=>aK (.wrld f1 a1 b1 f2 a2 b2 off)
  |_=>.no
 |.mkmap ag sh=>match d with
  |some n=>match bx n with
   |none=>.yes {val:=.mp n,wr:=some (n,.m ag sh [] none),rd:=[n]}
   |some _=>.no
  |none=>.no
 |.mlook ag sh z ok m k=>match ev e m with
  |.mp b=>match bx b with
   |some (.m ag' sh' es _)=>match ev e k with
    |.t key=>cond (ct ag sh ag' sh') (.eq (aR ag sh key) (oB z ok (eA key.cells es)) (aU [b])) .no
    |_=>.no
   |_=>.no
  |.t (.mapd ag' sh' ks vs)=>match ev e k with
   |.t key=>cond (ct ag sh ag' sh') (.eq (aR ag sh key) (oB z ok (eA key.cells (ks.zip vs))) (aU [])) .no
   |_=>.no
  |.t .nilmap=>match ev e k with
   |.t key=>.need (aR ag sh key) (aU [] (oB z ok none))
   |_=>.no
  |_=>.no
 |.bC ag sh m k v=>match ev e m with
  |.mp b=>match bx b with
   |some (.m ag' sh' es _)=>match ev e k,asT (ev e v) with
    |.t key,some x=>cond (ct ag sh ag' sh') (.need (aR ag sh key) {val:=.top,wr:=some (b,.m ag sh (bC key x es) none),rd:=[b]}) .no
    |_,_=>.no
   |_=>.no
  |_=>.no
 |.mlen m=>match ev e m with
  |.mp b=>match bx b with
   |some (.m _ _ es _)=>.yes (aU [b] (.int .i64 es.length))
   |_=>.no
  |.t (.mapd _ _ ks _)=>.yes (aU [] (.int .i64 ks.length))
  |.t .nilmap=>.yes (aU [] (.int .i64 0))
  |_=>.no
 |.cM ag sh m k=>match ev e m with
  |.mp b=>match bx b with
   |some (.m ag' sh' es _)=>match ev e k with
    |.t key=>cond (ct ag sh ag' sh') (.need (aR ag sh key) {val:=.top,wr:=some (b,.m ag sh (cM key.cells es) none),rd:=[b]}) .no
    |_=>.no
   |_=>.no
  |_=>.no
 |.mclr m=>match ev e m with
  |.mp b=>match bx b with
   |some (.m ag sh _ _)=>.yes {val:=.top,wr:=some (b,.m ag sh [] none),rd:=[b]}
   |_=>.no
  |_=>.no
 |.ment x=>match ev e x with
  |.ptr k 0=>match bx k with
   |some (.it b bs c ix)=>match bx b with
    |some (.m _ _ es (some q))=>.eq (q=(bs,c)/\ix≠[]/\ix.getLast?.getD 0<es.length) (kV es ix) (aU [k,b])
    |_=>.no
   |some (.itd es ix)=>.eq (ix≠[]/\ix.getLast?.getD 0<es.length) (kV es ix) (aU [k])
   |_=>.no
  |_=>.no
 |_=>.no
def St.app(st:St)(d:Option Nat)(e:Eff):St:=
 let b:=st.set d e.val
 match e.wr with
 |some (n,c)=>{b with bx:=upd b.bx n (some c)}
 |none=>b
def bK(P:Program)(f:FuncId):Prop:= ∀(b:Array Value) (w:World),(callFunc f b).run P w= .ok (.enter f b) w
def DCalls[Glb](P:Program)(f:FuncId)(c:List T)(r:T):Prop:=
 bK P f/\ ∀(S:ar) (w:World) (vs:List Value),(∀ b o,S b o->b<w.heap.size)->bE S w->vs.length=c.length->
  (∀ (i:Nat) (v:Value) (t:T),vs[i]? =some v->c[i]? =some t->Rep S w v t)->
  Calls P f vs.toArray w fun e w'=> ∃v,e= .returned v/\Below w.heap.size w w'/\Rep (fun b o=>S b o\/(w.heap.size<=b/\b<w'.heap.size)) w' v r
mutual
def dg(r d:Nat):V->V
 |.own q e n xs=>cond (Nat.beq q r||Nat.beq q d) (.t (.slice n xs)) (.own q e n xs)
 |.fn f caps=>.fn f (dgs r d caps)
 |.tup vs=>.tup (dgs r d vs)
 |.agv vs=>.agv (dgs r d vs)
 |v=>v
def dgs(r d:Nat):List V->List V
 |[]=>[]
 |v::vs=>dg r d v::dgs r d vs
end
def dgB(r d:Nat):BX->BX
 |.d n ts=>.d n ts
 |.m ag sh es mb=>.m ag sh es mb
 |.it m bs c ix=>.it m bs c ix
 |.itd es ix=>.itd es ix
 |.v vs=>.v (dgs r d vs)
def St.dg(st:St)(r d:Nat):St:=
 {st with sl:=fun m=>DL.dg r d (st.sl m),bx:=fun n=>(st.bx n).map (dgB r d),gh:=fun k m=>DL.dg r d (st.gh k m)}
def St.put(st:St)(d:Nat)(v:V):St:={st with sl:=upd st.sl d v }
def ft(e:TypeId)(size b:Nat)(d q:Nat)(s x:V)(st:St)(K:St->Prop):Prop:=
 match cU st.bx x with
 |some (.slice n ys)=>(n=size\/ys=[])/\(match s with
  |.t .nil=>(ys.length * b<=140737488355328)/\K ((st.dg q q).put d (.own q e size ys))
  |.own r e' size' xs=>cond (Nat.beq e' e&&Nat.beq size' size) (((xs.length+ys.length) * b<=140737488355328)/\K ((st.dg r q).put d (.own q e size (xs++ys)))) False
  |_=>False)
 |some .nil=>(match s with
  |.t .nil=>K ((st.dg q q).put d (.own q e size []))
  |.own r e' size' xs=>cond (Nat.beq e' e&&Nat.beq size' size) ((xs.length * b<=140737488355328)/\K ((st.dg r q).put d (.own q e size xs))) False
  |_=>False)
 |_=>False
def du[Glb](P:Program)(f:FuncId)(b:List V)(d:Option Nat)(st:St)(K:St->Prop):Prop:=
 match bq st.bx b with
 |some (ts,[])=> ∃r,DCalls P f ts r/\K (st.set d (.t r))
 |some (ts,_::_)=> ∃r,DCalls P f ts r/\r.flat=true/\K (st.set d (.t r))
 |none=>False
inductive cH (E:Env) (cs:Array Value):BX->Prop
 |d (n:Nat) (ts:List T) (hl:ts.length=n) (hs:n<=cs.size)
   (h: ∀(i:Nat) (x:Value) (t:T),cs[i]? =some x->ts[i]? =some t->Rep E.S E.w x t/\t.one=true):cH E cs (.d n ts)
 |v (vs:List V) (hs:vs.length<=cs.size)
   (h: ∀(i:Nat) (x:Value) (u:V),cs[i]? =some x->vs[i]? =some u->VR E x u/\x.oneCell'=true):cH E cs (.v vs)
structure bL (E:Env) (arr:Array MapEntry) (clock:Nat) (ag:Bool) (sh:List Sh) (es:List (T×T)) (mb:Option (List Nat×Nat)):Prop where
 size:arr.size=es.length
 at_: ∀(i:Nat) (x:MapEntry) (e:T×T),arr[i]? =some x->es[i]? =some e->Rep E.S E.w x.key e.1/\Rep E.S E.w x.val e.2/\aR ag sh e.1
 lt: ∀x∈arr.toList,x.born<clock
 apart:(arr.toList.map (·.born)).Nodup
 mb: ∀p,mb=some p->p=(arr.toList.map (·.born),clock)
inductive bP (E:Env):Obj->BX->Prop
 |cells (cs:Array Value) (e:TypeId) (b:BX) (h:cH E cs b):bP E (.cells cs e (0,0)) b
 |map (arr:Array MapEntry) (clock:Nat) (ag:Bool) (sh:List Sh) (es:List (T×T)) (mb:Option (List Nat×Nat)) (h:bL E arr clock ag sh es mb):bP E (.map arr clock) (.m ag sh es mb)
 |it (m:Nat) (bs:List Nat) (c:Nat) (ix:List Nat) (hl:E.live m=true):bP E (.mapIter (some (E.κ m)) c (ix.map fun j=>bs.getD j 0).toArray c) (.it m bs c ix)
 |itd (g:Nat) (arr:Array MapEntry) (c:Nat) (ag:Bool) (sh:List Sh) (es:List (T×T)) (ix:List Nat) (hg:E.w.heap[g]? =some (.map arr c)) (hS:E.S g 0) (hR:bL E arr c ag sh es none):
   bP E (.mapIter (some g) c (ix.map fun j=>(arr.toList.map (·.born)).getD j 0).toArray c) (.itd es ix)
structure bG (E:Env) (g:Nat) (b:BX):Prop where
 old:E.B<=g
 free: ∀o, ¬E.S g o
 at_: ∃o,E.w.heap[g]? =some o/\bP E o b
theorem bG.lt{E:Env}{g:Nat}{b:BX}(h:bG E g b):g<E.w.heap.size:=by
 obtain ⟨o,c,_⟩:=h.at_;exact (Array.getElem?_eq_some_iff.1 c).1
def BX.isM:BX->Bool
 |.m _ _ _ _=>true
 |.it _ _ _ _=>true
 |.itd _ _=>true
 |_=>false
theorem bG.cells{E:Env}{g:Nat}{b:BX}(h:bG E g b)(c:b.isM=false): ∃cs e,E.w.heap[g]? =some (.cells cs e (0,0))/\cH E cs b:=by
 obtain ⟨o,d,f⟩:=h.at_;cases f with
 |cells cs e _ h=>exact ⟨cs,e,d,h⟩
 |map _ _ _ _ _ _ _=>cases c
 |it _ _ _ _ _=>cases c
 |itd=>cases c
theorem bG.map{E:Env}{g:Nat}{d:Bool}{i:List Sh}{f:List (T×T)}{j:Option (List Nat×Nat)}(h:bG E g (.m d i f j)): ∃c b,E.w.heap[g]? =some (.map c b)/\bL E c b d i f j:=by
 obtain ⟨o,k,l⟩:=h.at_;cases l with
 |cells cs e _ h=>cases h
 |map c b _ _ _ _ h=>exact ⟨c,b,k,h⟩
structure SR [Glb] (N:Nat) (w0:World) (S0:aa) (E:Env) (st:St) (a:Array Value):Prop where
 size:a.size=N
 base:E.B=w0.heap.size
 glob:bE S0.S w0
 sl: ∀m,VR E (a.getD m undef) (st.sl m)
 gh: ∀k m,VR E (S0.vals k m) (st.gh k m)
 bx: ∀n b,st.bx n=some b->bG E (E.κ n) b
 live: ∀n,E.live n=(st.bx n).isSome
 inj: ∀n m,E.live n=true->E.live m=true->E.κ n=E.κ m->n=m
 rows: ∀r g,E.ρ r=some g->E.B<=g/\g<E.w.heap.size/\ ∀n,E.live n=true->E.κ n≠g
 rinj: ∀r r' g,E.ρ r=some g->E.ρ r'=some g->r=r'
 lt: ∀b o,E.S b o->b<E.w.heap.size
 below:Below w0.heap.size w0 E.w
 s0: ∀b o,S0.S b o->E.S b o
 s1: ∀b o,E.S b o->S0.S b o\/w0.heap.size<=b
 obj: ∀(g:Nat) (o:Obj),S0.objs g=some o->cz o=true/\E.w.heap[g]? =some o
 cx:st.cx S0 w0
def lf(a:Array Value):Option Nat->Value->Array Value
 |some n,v=>a.setIfInBounds n v
 |none,_=>a
def WC[Glb](P:Program)(f:FuncId)(us:List V)(d:Option Nat)(st:St)(K:St->Prop):Prop:=
 bK P f/\ ∀(N:Nat) (w0:World) (S0:aa) (E:Env) (a vs:Array Value),SR N w0 S0 E st a->vs.size=us.length->
  (∀ (i:Nat) (v:Value) (u:V),vs[i]? =some v->us[i]? =some u->VR E v u)->(∀ n,d=some n->n<N)->
  Calls P f vs E.w fun e w'=> ∃v,e= .returned v/\ ∃(c:Env) (b:St),c.w=w'/\K b/\SR N w0 S0 c b (lf a d v)
def MC[Glb](P:Program)(f:FuncId)(us:List V)(c:List (Nat×BX))(e:List Nat)(m:Nat)(b:BX)(r:T):Prop:=
 ∀(d:Option Nat) (st:St) (K:St->Prop),(∀ p∈c,st.bx p.1=some p.2)->(∀ n∈e,st.bx n=none)->K (({st with bx:=upd st.bx m (some b)}:St).set d (.t r))->WC P f us d st K
def wpR(r:cr)(d:Option Nat)(st:St)(K:St->Prop):Prop:=
 match r with
 |.no=>False
 |.yes e=>K (st.app d e)
 |.need c e=>c/\K (st.app d e)
 |.alt c b f=>c/\ ∀g,b=g->K (st.app d (f g))
 |.eq c t f=>c/\ ∀h,t=h->K (st.app d (f h))
structure gK (w w':World) (v:Value) (e:TypeId) (size:Nat) (xs:List T):Prop where
 ex: ∃cells:List Value,w'.ownsRow w.heap.size e size v xs.length cells/\cells.length=(xs.flatMap T.cells).length/\ ∀(i:Nat) (x:Value) (t:T),cells[i]? =some x->(xs.flatMap T.cells)[i]? =some t->Rep (fun _ _=>False) w' x t
 uni: ∀x∈xs,x.cells.length=size
 one: ∀t∈xs.flatMap T.cells,t.one=true
 flat: ∀t∈xs.flatMap T.cells,t.flat=true
def jd(v:Value):List Value->Value
 |[]=>v
 |us=>.tuple (v::us).toArray
def eC[Glb](P:Program)(f:FuncId)(ts:List T)(e:TypeId)(size:Nat)(xs rest:List T):Prop:=
 bK P f/\ ∀(S:ar) (w:World) (vs:List Value),(∀ b o,S b o->b<w.heap.size)->bE S w->vs.length=ts.length->(∀ (i:Nat) (v:Value) (t:T),vs[i]? =some v->ts[i]? =some t->Rep S w v t)->
  Calls P f vs.toArray w fun c w'=> ∃(v:Value) (us:List Value),c= .returned (jd v us)/\Below w.heap.size w w'/\gK w w' v e size xs/\
   us.length=rest.length/\ ∀(i:Nat) (u:Value) (t:T),us[i]? =some u->rest[i]? =some t->t.flat=true/\Rep (fun _ _=>False) w' u t
def dG[Glb](P:Program)(f:FuncId)(b:List V)(d:Option Nat)(st:St)(K:St->Prop):Prop:=
 match d with
 |some n=>(match bq st.bx b with
  |some (ts,_)=> ∃(e:TypeId) (size:Nat) (xs:List T),eC P f ts e size xs []/\ ∀q,K (st.set (some n) (.own q e size xs))
  |none=>False)
 |none=>False
def noRoom(size:Nat):V->Bool
 |.t .nil=>true
 |.full sz []=>Nat.beq size sz
 |_=>false
def kN(size b:Nat)(d q:Nat)(s x:V)(st:St)(K:St->Prop):Prop:=
 match cU st.bx x,st.bx q with
 |some (.slice n ys),none=>cond (noRoom size s) ((n=size/\0<ys.length/\ys.length * b<=140737488355328)/\K (({st with bx:=upd st.bx q (some (.d (ys.length * size) (ys.flatMap T.cells)))}:St).put d (.view q 0 ys.length size))) False
 |_,_=>False
def wpO[Glb](P:Program)(o:DOp)(d:Option Nat)(st:St)(K:St->Prop):Prop:=
 match o with
 |.append _ e size bytes s x=>match d with
  |some n=>ft e size bytes n (n+st.off) (ev st.sl s) (ev st.sl x) st K
  |none=>False
 |.appV size bytes s x=>match d with
  |some n=>kN size bytes n (n+st.off) (ev st.sl s) (ev st.sl x) st K
  |none=>False
 |.buildS e size n zs parts=>match d with
  |some m=>(match aY st.sl size (List.replicate n (cond (Nat.beq size 1) (zs.headD .nil) (.agg zs))) True parts with
   |some (es,c)=>c/\K ((st.dg (m+st.off) (m+st.off)).put m (.own (m+st.off) e size es))
   |none=>False)
  |none=>False
 |.mrng m=>match d with
  |some n=>(match ev st.sl m with
   |.mp b=>(match st.bx b,st.bx (n+st.off) with
    |some (.m ag sh es _),none=> ∀(bs:List Nat) (c:Nat),bs.length=es.length->bs.Nodup->(∀ x∈bs,x<c)->
      K {st with sl:=upd st.sl n (.ptr (n+st.off) 0),bx:=upd (upd st.bx b (some (.m ag sh es (some (bs,c))))) (n+st.off) (some (.it b bs c []))}
    |_,_=>False)
   |.t (.mapd _ _ ks vs)=>(match st.bx (n+st.off) with
    |none=>K {st with sl:=upd st.sl n (.ptr (n+st.off) 0),bx:=upd st.bx (n+st.off) (some (.itd (ks.zip vs) []))}
    |some _=>False)
   |_=>False)
  |none=>False
 |.mnext x=>match d with
  |some n=>(match ev st.sl x with
   |.ptr k 0=>(match st.bx k with
    |some (.it b bs c ix)=>(match st.bx b with
     |some (.m _ _ es (some q))=>q=(bs,c)/\bs.Nodup/\(∀ x∈bs,x<c)/\bs.length=es.length/\(∀ j∈ix,j<es.length)/\
       (∀ (j:Nat) (e:T×T),es[j]? =some e-> ¬j∈ix->K {st with sl:=upd st.sl n (.t (.tup [.bool true,e.1,e.2])),bx:=upd st.bx k (some (.it b bs c (ix++[j])))})/\
       ((∀ j,j<es.length->j∈ix)->K (st.put n (.t (.tup [.bool false]))))
     |_=>False)
    |some (.itd es ix)=>(∀ j∈ix,j<es.length)/\
       (∀ (j:Nat) (e:T×T),es[j]? =some e-> ¬j∈ix->K {st with sl:=upd st.sl n (.t (.tup [.bool true,e.1,e.2])),bx:=upd st.bx k (some (.itd es (ix++[j])))})/\
       ((∀ j,j<es.length->j∈ix)->K (st.put n (.t (.tup [.bool false]))))
    |_=>False)
   |_=>False)
  |none=>False
 |.call f args=>du P f (args.map (ev st.sl)) d st K
 |.inl f args=>WC P f (args.map (ev st.sl)) d st K
 |.fcall f args=>dG P f (args.map (ev st.sl)) d st K
 |.mcall ms f args=> ∃(g:List (Nat×BX)) (h:List Nat) (m:Nat) (b:BX) (r:T),MC P f (args.map (ev st.sl)) g h m b r/\(∀ p∈g,st.bx p.1=some p.2)/\(∀ n∈h,st.bx n=none)/\m∈ms/\(st.bx m).isSome=true/\K (({st with bx:=upd st.bx m (some b)}:St).set d (.t r))
 |.bY x args=>match ev st.sl x with
  |.t (.clos f caps)=>du P f (args.map (ev st.sl)++caps.map .t) d st K
  |.fn f caps=>du P f (args.map (ev st.sl)++caps) d st K
  |_=>False
 |o=>wpR (eff o (st.nm d) st.sl st.bx) d st K
abbrev bH:V:=.t (.tup [])
def wpI[Glb](P:Program)(i:DI)(st:St)(K:St->Prop):Prop:=
 match i.guard with
 |none=>wpO P i.op i.dst st K
 |some (g,want)=>match st.sl g with
  |.t (.bool b)=>match b,want with
   |true,true=>wpO P i.op i.dst st K
   |false,false=>wpO P i.op i.dst st K
   |true,false=>K (st.set i.dst bH)
   |false,true=>K (st.set i.dst bH)
  |.t (.tup [])=>K (st.set i.dst bH)
  |_=>False
noncomputable def cW[Glb](P:Program)(is:List DI):St->(St->Prop)->Prop:=
 List.rec (motive:=fun _=>St->(St->Prop)->Prop) (fun st K=>K st) (fun i _ c st K=>wpI P i st fun b=>c b K) is
end Go.DL
end
noncomputable section
namespace Go.DL
open Go.RowKit
def dS:Value->Option T
 |.int k n=>some (.int k n)
 |.bool b=>some (.bool b)
 |.string s=>some (.str s)
 |.pointer none=>some .nilptr
 |.slice none 0 0=>some .nil
 |.nilFunc=>some .nilfn
 |.nilIface=>some .nilif
 |.map none=>some .nilmap
 |_=>none
def eF:Value->Option T
 |.agg cs=>(cs.toList.mapM dS).map .agg
 |v=>dS v
def ak:Operand->Option O
 |.tmp t=>some (.tmp t)
 |.const v=>(eF v).map .const
 |.func f=>some (.const (.clos f []))
 |.global g=>some (.const (.glob g 0))
def au(P:Program)(t:TypeId):Bool:=
 match P.underlying t with
 |some (.struct _)=>true
 |some (.array _ _)=>true
 |_=>false
def cq(P:Program)(t:TypeId):Option (List T):=
 match P.info? t with
 |some i=>match i.zero with
  |some z=>match eF z with
   |some x=>cond (Nat.beq x.cells.length i.size) (some x.cells) none
   |none=>none
  |none=>none
 |none=>none
def zeroV(P:Program)(t:TypeId):Option T:=
 match P.info? t with
 |some i=>match i.zero with
  |some z=>eF z
  |none=>none
 |none=>none
def shapeOf(P:Program):Nat->TypeId->Option (List Sh)
 |0,_=>none
 |d+1,t=>match P.underlying t with
  |some .bool=>some [.bool]
  |some (.int k)=>some [.int k]
  |some .string=>some [.str]
  |some (.array len e)=>match shapeOf P d e with
   |some s=>cond (Nat.beq s.length (P.cellsOf e)&&Nat.blt 0 s.length) (some (List.replicate len s).flatten) none
   |none=>none
  |some (.struct fs)=>if P.stoodInHeld t then none else shapesOf (shapeOf P d) P fs.toList 0
  |_=>none
where shapesOf (rec:TypeId->Option (List Sh)) (P:Program):List Field->Nat->Option (List Sh)
 |[],_=>some []
 |f::fs,off=>match rec f.type,shapesOf rec P fs (off+P.cellsOf f.type) with
  |some s,some ss=>cond (Nat.beq s.length (P.cellsOf f.type)&&Nat.beq f.offset off&&f.name != "_" &&Nat.blt 0 s.length) (some (s++ss)) none
  |_,_=>none
def dP(xs:List Operand):Option (List O):=xs.mapM ak
def aZ(b:Nat->Option (Nat×Nat)):List (Nat×Operand)->Option (List (Nat×Nat×O))
 |[]=>some []
 |(i,x)::rest=>match b i,ak x,aZ b rest with
  |some (off,size),some y,some r=>some ((off,size,y)::r)
  |_,_,_=>none
def cK:Option Operand->Option (Option O)
 |none=>some none
 |some x=>(ak x).map some
def aL:BinOp->Bool
 |.neq=>true
 |_=>false
def oS(P:Program)(t:TypeId):Bool:=
 match P.underlying t with
 |some .string=>true
 |_=>false
def kY(P:Program)(t:TypeId):Bool:=
 match P.underlying t with
 |some (.int .u8)=>true
 |_=>false
def bJ(P:Program)(c:Call):Option DOp:=
 match c.callee with
 |.value (.func f)=>match P.funcs[f]?,dP c.args.toList with
  |some fn,some az=>cond (fn.body.isSome&&fn.name != "runtime.NumGoroutine") (some (.call f az)) none
  |_,_=>none
 |.value x=>match ak x,dP c.args.toList with
  |some x,some az=>some (.bY x az)
  |_,_=>none
 |.builtin .len=>match c.args.toList,c.argTypes.toList with
  |[x],[t]=>match P.underlying t,ak x with
   |some (.slice _),some x=>some (.len x)
   |some .string,some x=>some (.lenS x)
   |some (.map _ _),some x=>some (.mlen x)
   |_,_=>none
  |_,_=>none
 |.builtin .max=>match c.args.toList with
  |[x,y]=>match ak x,ak y with
   |some x,some y=>some (.maxI x y)
   |_,_=>none
  |_=>none
 |.builtin .min=>match c.args.toList with
  |[x,y]=>match ak x,ak y with
   |some x,some y=>some (.minI x y)
   |_,_=>none
  |_=>none
 |.builtin .append=>match c.args.toList,c.argTypes.toList with
  |[s,x],[t,u]=>match P.underlying t,ak s,ak x with
   |some (.slice e),some s,some x=>match P.info? e,cq P e with
     |some j,some _=>cond ((Nat.beq t u||oS P u)&&Nat.blt 0 j.size&&Nat.blt 0 j.bytes) (some (.append t e j.size j.bytes s x)) none
     |_,_=>none
   |_,_,_=>none
  |_,_=>none
 |.builtin .clear=>match c.args.toList,c.argTypes.toList with
  |[x],[t]=>match P.underlying t,ak x with
   |some (.slice e),some x=>match P.info? e,cq P e with
    |some j,some zs=>cond (Nat.blt 0 j.size) (some (.clr j.size zs x)) none
    |_,_=>none
   |some (.map _ _),some x=>some (.mclr x)
   |_,_=>none
  |_,_=>none
 |.builtin .copy=>match c.args.toList,c.argTypes.toList with
  |[x,y],[t,_]=>match P.underlying t,ak x,ak y with
   |some (.slice e),some x,some y=>match P.info? e with
    |some j=>cond (Nat.beq j.size 1) (some (.copy x y)) none
    |none=>none
   |_,_,_=>none
  |_,_=>none
 |.builtin .delete=>match c.args.toList,c.argTypes.toList with
  |[x,k],[t,_]=>match P.underlying t,ak x,ak k with
   |some (.map kt _),some x,some k=>match shapeOf P 100 kt with
    |some b=>some (.cM (au P kt) b x k)
    |none=>none
   |_,_,_=>none
  |_,_=>none
 |_=>none
def ku(P:Program)(t:TypeId)(b:O):Option Nat:=
 match P.underlying t,b with
 |some (.pointer _),.const .nilptr=>some 0
 |some (.slice _),.const .nil=>some 1
 |some (.map _ _),.const .nilmap=>some 2
 |some (.func _ _ _),.const .nilfn=>some 3
 |_,_=>none
def ah(P:Program):Op->Option DOp
 |.move x=>(ak x).map .mov
 |.assign x=>(ak x).map .mov
 |.pick c a b=>match ak c,ak a,ak b with
  |some c,some a,some b=>some (.pick c a b)
  |_,_,_=>none
 |.alloc e=>(cq P e).map .alloc
 |.box t x=>match P.info? t,ak x with
  |some i,some x=>some (.box i.size x)
  |_,_=>none
 |.load t a=>match P.underlying t,P.info? t,ak a with
  |some _,some i,some a=>cond (au P t||Nat.beq i.size 1) (some (.load i.size (au P t) a)) none
  |_,_,_=>none
 |.store t a x=>match P.info? t,ak a,ak x with
  |some i,some a,some x=>some (.store i.size a x)
  |_,_,_=>none
 |.fieldAddr s x f=>match P.underlying s,ak x with
  |some (.struct fs),some x=>match fs[f]? with
   |some fd=>match P.info? fd.type with
    |some i=>cond (Nat.beq i.size 0) none (some (.offA fd.offset x))
    |none=>none
   |none=>none
  |_,_=>none
 |.field s x f=>match P.underlying s,ak x with
  |some (.struct fs),some x=>match fs[f]? with
   |some fd=>match P.info? fd.type,P.underlying fd.type with
    |some i,some _=>some (.fld fd.offset i.size (au P fd.type) x)
    |_,_=>none
   |none=>none
  |_,_=>none
 |.indexAddr t x i=>match P.underlying t,ak x,ak i with
  |some (.array len e),some x,some i=>match P.info? e with
   |some j=>some (.idxA len j.size x i)
   |none=>none
  |some (.slice e),some x,some i=>match P.info? e with
   |some j=>cond (Nat.blt 0 j.size) (some (.idxL j.size x i)) none
   |none=>none
  |_,_,_=>none
 |.index t x i=>match P.underlying t,ak x,ak i with
  |some (.array len e),some x,some i=>match P.info? e,P.underlying e with
   |some j,some _=>some (.idxV len j.size (au P e) x i)
   |_,_=>none
  |some .string,some x,some i=>some (.idxS x i)
  |_,_,_=>none
 |.binOp op t x y _=>match ak x,ak y with
  |some a,some b=>match op with
   |.eql|.neq=>match ku P t b with
    |some k=>some (.isnil k (aL op) a)
    |none=>match P.underlying t with
    |some (.int _)=>some (.bin op a b)
    |some .string=>some (.bin op a b)
    |some .bool=>some (.eqB (aL op) a b)
    |_=>match shapeOf P 100 t with
     |some g=>cond (P.eqGuardType P.depth t|| !au P t) none (some (.eqv (aL op) g a b))
     |none=>none
   |_=>some (.bin op a b)
  |_,_=>none
 |.unOp .not _ x=>(ak x).map .not
 |.unOp .neg _ x=>(ak x).map .neg
 |.unOp .xor _ x=>(ak x).map .cpl
 |.convert s d x=>match P.underlying s,P.underlying d,ak x with
  |some (.int _),some (.int k),some x=>some (.conv k x)
  |some .string,some .string,some x=>some (.prim .strS x)
  |some (.slice e),some .string,some x=>cond (kY P e) (some (.prim .strB x)) none
  |some .string,some (.slice e),some x=>cond (kY P e) (some (.prim .bytS x)) none
  |_,_,_=>none
 |.makeSlice t l c=>match P.underlying t,ak l,ak c with
  |some (.slice e),some l,some c=>match P.info? e,cq P e with
   |some j,some zs=>cond (Nat.blt 0 j.size) (some (.mkslice j.size j.bytes zs l c)) none
   |_,_=>none
  |_,_,_=>none
 |.sliceToArrayPointer t x=>match P.underlying t,ak x with
  |some (.array n _),some x=>some (.arrP n x)
  |_,_=>none
 |.makeFunc fn first caps=>match fn,dP caps.toList with
  |.func f,some cs=>cond (Nat.beq first.size 0) (some (.mkfn f cs)) none
  |_,_=>none
 |.slice t x lo hi none=>match P.underlying t,ak x,cK lo,cK hi with
  |some (.slice e),some x,some lo,some hi=>match P.info? e with
   |some j=>cond (Nat.blt 0 j.size) (some (.slice j.size x lo hi)) none
   |none=>none
  |some .string,some x,some lo,some hi=>some (.sliceS x lo hi)
  |some (.array n e),some x,some lo,some hi=>match P.info? e with
   |some j=>some (.sliceA n j.size x lo hi)
   |none=>none
  |_,_,_,_=>none
 |.slice t x none (some h) (some m)=>match P.underlying t,ak x,ak h,ak m with
  |some (.slice e),some x,some h,some m=>match P.info? e with
   |some j=>cond (Nat.blt 0 j.size) (some (.slice3 j.size x h m)) none
   |none=>none
  |_,_,_,_=>none
 |.build t parts=>match P.underlying t,cq P t with
  |some (.struct fs),some zs=>match aZ (fun i=>match fs[i]? with|some f=>(P.info? f.type).map fun j=>(f.offset,j.size)|none=>none) parts.toList with
   |some q=>cond ((fs.toList.all fun f=>(P.info? f.type).isSome)&&q.all fun p=>Nat.ble (p.1+p.2.1) zs.length) (some (.build zs q)) none
   |none=>none
  |some (.array _ e),some zs=>match P.info? e with
   |some j=>match aZ (fun i=>some (i * j.size,j.size)) parts.toList with
    |some q=>cond (q.all fun p=>Nat.ble (p.1+p.2.1) zs.length) (some (.build zs q)) none
    |none=>none
   |none=>none
  |_,_=>none
 |.buildSlice t n parts=>match P.underlying t with
  |some (.slice e)=>match P.info? e,cq P e,P.underlying e with
   |some j,some zs,some _=>match aZ (fun i=>some (i,0)) parts.toList with
    |some q=>cond (Nat.ble (n * j.size) 16777216&&Nat.blt 0 j.size&&(au P e||Nat.beq j.size 1)&&q.all fun p=>Nat.blt p.1 n) (some (.buildS e j.size n zs (q.map fun p=>(p.1,p.2.2)))) none
    |none=>none
   |_,_,_=>none
  |_=>none
 |.makeMap t r=>match P.underlying t,r with
  |some (.map kt _),none=>match shapeOf P 100 kt with
   |some g=>some (.mkmap (au P kt) g)
   |none=>none
  |_,_=>none
 |.lookup t m k ok=>match P.underlying t,ak m,ak k with
  |some (.map kt e),some m,some k=>match shapeOf P 100 kt,zeroV P e with
   |some g,some z=>some (.mlook (au P kt) g z ok m k)
   |_,_=>none
  |_,_,_=>none
 |.mapUpdate t m k v=>match P.underlying t,ak m,ak k,ak v with
  |some (.map kt _),some m,some k,some v=>match shapeOf P 100 kt with
   |some g=>some (.bC (au P kt) g m k v)
   |none=>none
  |_,_,_,_=>none
 |.insert t m k v=>match P.underlying t,ak m,ak k,ak v with
  |some (.map kt _),some m,some k,some v=>match shapeOf P 100 kt with
   |some g=>some (.bC (au P kt) g m k v)
   |none=>none
  |_,_,_,_=>none
 |.range t m=>match P.underlying t,ak m with
  |some (.map _ _),some m=>some (.mrng m)
  |_,_=>none
 |.next x b=>cond b none ((ak x).map .mnext)
 |.entry x=>(ak x).map .ment
 |.extract x i=>(ak x).map fun x=>.ext x i
 |.nilCheck x=>(ak x).map .nilck
 |.panic _=>some .bad
 |.makeInterface _ _=>some .bad
 |.call c=>bJ P c
 |_=>none
def fD(X:List FuncId):DOp->DOp
 |.append t e size bytes (.tmp k) x=>cond (X.contains (8000000+k)) (cond (X.contains (9000000+k)) (.appV size bytes (.tmp k) x) (.appT size bytes (.tmp k) x)) (.append t e size bytes (.tmp k) x)
 |.call f args=>cond (X.contains f) (.inl f args) (.call f args)
 |.buildS e size n zs parts=>cond (X.contains 2000000) (.buildT size n zs parts) (.buildS e size n zs parts)
 |o=>o
def qv(X:List FuncId)(k:Nat):List Nat:=X.filterMap fun n=>cond (Nat.beq (n / 1000000) (1000000+k)) (some (n % 1000000)) none
def qw(X:List FuncId)(k:Nat):List Nat:=X.filterMap fun n=>cond (Nat.beq (n / 1000000) (2000000+k)) (some (n % 1000000)) none
def di(X:List FuncId)(b:Option Nat)(x:DOp):DOp:=
 match x,b with
 |.buildS e size n zs parts,some k=>cond (X.contains (8000000+k)) (.buildF size n zs parts) (fD X (.buildS e size n zs parts))
 |.call f args,some k=>cond (X.contains (3000000+k)) (.fcall f args) (match qv X k with
  |[]=>fD X (.call f args)
  |n::ns=>.mcall (n::ns) f args)
 |.offA 0 x,some k=>match qw X k with
  |[]=>.offA 0 x
  |n::_=>.nar n x
 |x,_=>fD X x
def okB(N:Nat):Option Nat->Bool
 |some n=>Nat.blt n N
 |none=>true
def jM(P:Program)(N:Nat)(X:List FuncId)(c:Array Oper)(o:Oper):Option DI:=
 match ah P o.op with
 |some d=>
  let after:=(o.after.toList.filter fun e=>Region.binds .any e).map (·.on)
  let b:=okB N o.dst
  match o.guard with
  |none=>cond b (some {dst:=o.dst,op:=di X o.dst d,guard:=none,after:=after }) none
  |some (j,want)=>match (c[j]?).bind (·.dst) with
   |some g=>cond (b&&Nat.blt g N) (some {dst:=o.dst,op:=di X o.dst d,guard:=some (g,want),after:=after }) none
   |none=>none
 |none=>none
def dw(P:Program)(N:Nat)(X:List FuncId)(b:Array Oper):List Oper->Option (List DI)
 |[]=>some []
 |o::os=>match jM P N X b o,dw P N X b os with
  |some d,some ds=>some (d::ds)
  |_,_=>none
inductive aV where
 |skip
 |region (is:List DI) (ck:List (List Nat))
 |seq (a b:aV)
 |cond (c:O) (a b:aV)
 |block (id:Nat) (b:aV)
 |loop (b:aV)
 |exit (id:Nat)
 |ret
 |sem (N:Nat) (c:Code)
 |cut (b:aV)
 deriving Inhabited
def O.reads:O->List Nat
 |.tmp n=>[n]
 |.const _=>[]
def qy:Option O->List Nat
 |none=>[]
 |some x=>x.reads
def aM:List O->List Nat
 |[]=>[]
 |x::xs=>x.reads++aM xs
def DOp.reads:DOp->List Nat
 |.mov x|.box _ x|.load _ _ x|.offA _ x|.nar _ x|.fld _ _ _ x|.not x|.neg x|.conv _ x|.len x|.lenS x|.ext x _|.nilck x|.clr _ _ x|.mlen x|.mclr x|.mrng x|.mnext x|.ment x|.prim _ x|.arrP _ x|.isnil _ _ x|.cpl x=>x.reads
 |.pick c a b=>c.reads++a.reads++b.reads
 |.alloc _|.mkmap _ _|.bad=>[]
 |.store _ a x|.idxA _ _ a x|.idxL _ a x|.idxV _ _ _ a x|.idxS a x|.bin _ a x|.eqv _ _ a x|.eqB _ a x|.maxI a x|.minI a x|.append _ _ _ _ a x|.mlook _ _ _ _ a x|.cM _ _ a x|.copy a x|.mkslice _ _ _ a x|.appT _ _ a x|.appV _ _ a x=>a.reads++x.reads
 |.bC _ _ a x y|.slice3 _ a x y=>a.reads++x.reads++y.reads
 |.slice _ x lo hi|.sliceS x lo hi|.sliceA _ _ x lo hi=>x.reads++qy lo++qy hi
 |.build _ ps=>aM (ps.map (·.2.2))
 |.buildS _ _ _ _ ps|.buildT _ _ _ ps|.buildF _ _ _ ps=>aM (ps.map (·.2))
 |.mkfn _ xs|.call _ xs|.inl _ xs|.fcall _ xs|.mcall _ _ xs=>aM xs
 |.bY x xs=>x.reads++aM xs
def DI.reads(i:DI):List Nat:=i.op.reads++(match i.guard with|some (g,_)=>[g]|none=>[])
def kZ(n:Nat):List Nat->Bool
 |[]=>false
 |m::l=>cond (Nat.beq n m) true (kZ n l)
def isD(n:Nat):Option Nat->Bool
 |some m=>Nat.beq n m
 |none=>false
def DI.apart(i j:DI):Bool:=
 (match i.dst with|some d=>cond (kZ d j.reads) false (cond (isD d j.dst) false true)|none=>true)&&
 (match j.dst with|some d=>cond (kZ d i.reads) false true|none=>true)
inductive Cls where
 |pure|load|look|make|store|fresh|mut|wild
 deriving DecidableEq
def DOp.cls:DOp->Cls
 |.mov _|.pick _ _ _|.offA _ _|.nar _ _|.idxA _ _ _ _|.idxL _ _ _|.fld _ _ _ _|.idxV _ _ _ _ _|.idxS _ _|.bin _ _ _|.eqv _ _ _ _|.eqB _ _ _|.not _|.neg _|.conv _ _|.len _|.lenS _|.maxI _ _|.minI _ _
 |.slice _ _ _ _|.sliceS _ _ _|.sliceA _ _ _ _ _|.build _ _|.buildT _ _ _ _|.mkfn _ _|.ext _ _|.nilck _|.arrP _ _|.slice3 _ _ _ _|.buildF _ _ _ _|.isnil _ _ _|.cpl _=>.pure
 |.load _ _ _|.mlook _ _ _ _ _ _|.mlen _|.prim _ _|.appT _ _ _ _=>.load
 |.call _ _|.bY _ _=>.look
 |.fcall _ _=>.fresh
 |.mcall _ _ _=>.mut
 |.alloc _|.box _ _|.mkmap _ _|.mkslice _ _ _ _ _=>.make
 |.store _ _ _|.bC _ _ _ _ _=>.store
 |_=>.wild
def Cls.std:Cls->Bool
 |.fresh=>false
 |.wild=>false
 |_=>true
def Cls.wr:Cls->Bool
 |.store=>true
 |.mut=>true
 |_=>false
def Cls.rdo:Cls->Bool
 |.pure=>true
 |.load=>true
 |_=>false
def aW:Cls->Cls->Option Bool
 |.wild,_|_,.wild=>none
 |.fresh,.pure|.fresh,.load|.fresh,.make|.pure,.fresh|.load,.fresh|.make,.fresh=>some false
 |.fresh,_|_,.fresh=>none
 |.mut,.pure|.pure,.mut=>some false
 |.mut,.load|.load,.mut=>some true
 |.mut,_|_,.mut=>none
 |.store,.store|.store,.load|.load,.store|.store,.look|.look,.store=>some true
 |_,_=>some false
def DI.indep(i j:DI):Bool:=i.apart j&&(aW i.op.cls j.op.cls).isSome
def has(m k:Nat):Bool:=Nat.beq (Nat.land (Nat.shiftRight m k) 1) 1
def gB(acc:List Nat):List Nat->Nat
 |[]=>0
 |k::ks=>Nat.lor (Nat.lor (Nat.shiftLeft 1 k) (acc[k]?.getD 0)) (gB acc ks)
def cS(acc:List Nat):List DI->List Nat
 |[]=>acc
 |i::rest=>cS (acc++[gB acc i.after]) rest
def fF(m:Nat)(j:DI):Nat->Nat->List DI->Bool
 |_,0,_=>true
 |_,_+1,[]=>true
 |k,c+1,i::is=>cond (cond (has m k) true (i.indep j)) (fF m j (k+1) c is) false
def jc(is:List DI):Nat->List DI->List Nat->Bool
 |n,j::rest,m::ms=>cond (j.after.all fun i=>Nat.blt i n) (cond (fF m j 0 n is) (jc is (n+1) rest ms) false) false
 |_,[],_=>true
 |_,_::_,[]=>false
def iD(is:List DI):Bool:=jc is 0 is (cS [] is)
def isTrue:Option Bool->Bool
 |some true=>true
 |_=>false
def iW(m:Nat)(j:DI):Nat->Nat->List DI->List Nat
 |_,0,_=>[]
 |_,_+1,[]=>[]
 |k,c+1,i::is=>cond (cond (has m k) false (isTrue (aW i.op.cls j.op.cls))) (k::iW m j (k+1) c is) (iW m j (k+1) c is)
def lR(is:List DI):Nat->List DI->List Nat->List (List Nat)
 |n,j::rest,m::ms=>iW m j 0 n is::lR is (n+1) rest ms
 |_,_,_=>[]
def eV(is:List DI):List (List Nat):=lR is 0 is (cS [] is)
def eJ(is:List DI):List (List Nat):=cond ((eV is).all (·.isEmpty)) [] (eV is)
def bx1:V->List Nat
 |.ptr n _=>[n]
 |.view n _ _ _=>[n]
 |.mp n=>[n]
 |_=>[]
def bx2:V->List Nat
 |.fn _ caps=>caps.flatMap bx1
 |v=>bx1 v
def bxs:V->List Nat
 |.fn _ caps=>caps.flatMap bx2
 |v=>bx1 v
def DOp.tch(x:DOp)(b:Nat->V):List Nat:=
 match x with
 |.load _ _ a=>bx1 (ev b a)
 |.store _ a _=>bx1 (ev b a)
 |.mlook _ _ _ _ a _=>bx1 (ev b a)
 |.mlen a=>bx1 (ev b a)
 |.prim _ a=>bx1 (ev b a)
 |.appT _ _ _ a=>bx1 (ev b a)
 |.bC _ _ a _ _=>bx1 (ev b a)
 |.call _ args=>(args.map (ev b)).flatMap bx2
 |.fcall _ args=>(args.map (ev b)).flatMap bx2
 |.mcall ms _ _=>ms
 |.bY x args=>bxs (ev b x)++(args.map (ev b)).flatMap bx2
 |_=>[]
def mw(a b:List Nat):Bool:=a.all fun n=> !b.contains n
def chk(l:List Nat)(acc:Nat->List Nat)(t:List Nat):Bool:=l.all fun i=>mw (acc i) t
def eK{α:Type}(k:Nat):List α->List (Nat×α)
 |[]=>[]
 |i::is=>(k,i)::eK (k+1) is
def bO[Glb](P:Program)(d:List (List Nat))(acc:Nat->List Nat)(l:List (Nat×DI)):St->(St->Prop)->Prop:=
 List.rec (motive:=fun _=>(Nat->List Nat)->St->(St->Prop)->Prop) (fun _ st K=>K st)
  (fun p _ c acc st K=>chk (d[p.1]?.getD []) acc (p.2.op.tch st.sl)=true/\wpI P p.2 st fun b=>c (upd acc p.1 (p.2.op.tch st.sl)) b K) l acc
def DI.bare(i:DI):DI:={i with after:=[]}
def cutAt(X:List FuncId)(a:Code)(d:aV):aV:=
 match a with
 |.region id _ _=>cond (X.contains (5000000+id)) (.cut d) d
 |_=>d
def bt(P:Program)(N:Nat)(X:List FuncId):Code->Option aV
 |.skip=>some .skip
 |.region id ops draw=>cond (X.contains (1000000+id)) (some (.sem N (.region id ops draw))) (match dw P N (cond (draw&& !X.contains (7000000+id)) (2000000::X) X) ops ops.toList with
  |some is=>cond (!draw||iD is) (some (cond (X.contains (6000000+id)) (.cut (.region (is.map DI.bare) (cond draw (eJ is) []))) (.region (is.map DI.bare) (cond draw (eJ is) [])))) none
  |none=>none)
 |.seq a b=>match bt P N X a,bt P N X b with
  |some x,some y=>some (cutAt X a (.seq x y))
  |_,_=>none
 |.cond c a b=>match ak c,bt P N X a,bt P N X b with
  |some z,some x,some y=>some (.cond z x y)
  |_,_,_=>none
 |.block id b=>match bt P N X b with
  |some x=>some (cond (X.contains (4000000+id)) (.cut (.block id x)) (.block id x))
  |none=>none
 |.scope b=>bt P N X b
 |.label _=>some .skip
 |.loop b=>match bt P N X b with
  |some x=>some (.loop x)
  |none=>none
 |.exit id=>some (.exit id)
 |.ret=>some .ret
 |_=>none
def lk{α:Type}(d:α):List (Nat×α)->Nat->α
 |[],_=>d
 |(k,v)::r,n=>cond (Nat.beq n k) v (lk d r n)
structure Wk where
 sl:List (Nat×V)
 bx:List (Nat×BX)
 gh:List (Nat×List (Nat×V)):=[]
 off:Nat:=0
 cx:aa->World->Prop:=fun _ _=>True
def Wk.mk'(s:Wk):St:={sl:=lk .top s.sl,bx:=lk none (s.bx.map fun p=>(p.1,some p.2)),gh:=fun k m=>lk .top (lk [] s.gh k) m,off:=s.off,cx:=s.cx }
inductive LeV (ks:List Nat) (bx:Nat->Option BX):V->V->Prop
 |same (v:V):LeV ks bx v v
 |nil (r:Nat) (e:TypeId) (n:Nat):LeV ks bx (.own r e n []) (.t .nil)
 |data (r:Nat) (e:TypeId) (n:Nat) (xs:List T):LeV ks bx (.t (.slice n xs)) (.own r e n xs)
 |empty (n:Nat):LeV ks bx (.t (.slice n [])) (.t .nil)
 |conv (v:V) (x:T) (rd:List Nat) (h:conv bx v=some (x,rd)) (hk: ∀n∈rd, ¬n∈ks):LeV ks bx (.t x) v
 |top (v:V):LeV ks bx .top v
 |knot (n:Nat) (f:FuncId) (A B:List V) (xa:List T) (ra:List Nat) (xb:List T) (rb:List Nat) (hb:bx n=some (.v [.fn f (A++ .ptr n 0::B)])) (ha:cO bx A=some (xa,ra)) (hbb:cO bx B=some (xb,rb)) (hk: ∀m∈n::(ra++rb), ¬m∈ks):LeV ks bx (.t (.knot f xa xb)) (.ptr n 0)
def jb(ks:List Nat)(bx:Nat->Option BX):List V->List V->Prop
 |[],[]=>True
 |u::us,v::vs=>LeV ks bx u v/\jb ks bx us vs
 |_,_=>False
def mP(ks:List Nat)(bx:Nat->Option BX):List (Nat×V)->(Nat->V)->Prop
 |[],_=>True
 |(n,v)::r,sl=>LeV ks bx v (sl n)/\mP ks bx r sl
def qo(ks:List Nat)(bx:Nat->Option BX):List (Nat×List (Nat×V))->(Nat->Nat->V)->Prop
 |[],_=>True
 |(k,l)::r,gh=>mP ks bx l (gh k)/\qo ks bx r gh
inductive LeB (ks:List Nat) (bx:Nat->Option BX):BX->Option BX->Prop
 |same (b:BX):LeB ks bx b (some b)
 |m (ag:Bool) (sh:List Sh) (es:List (T×T)) (mb:Option (List Nat×Nat)):LeB ks bx (.m ag sh es none) (some (.m ag sh es mb))
 |v (us vs:List V) (h:jb ks bx us vs):LeB ks bx (.v us) (some (.v vs))
 |dv (n:Nat) (us:List V) (ts:List T) (h:jb ks bx us (ts.map .t)):LeB ks bx (.v us) (some (.d n ts))
def qn(ks:List Nat)(bx:Nat->Option BX):List (Nat×BX)->Prop
 |[]=>True
 |(n,b)::r=>LeB ks bx b (bx n)/\qn ks bx r
def gZ(ks:List Nat):V->Bool
 |.ptr n _=>ks.contains n
 |.view n _ _ _=>ks.contains n
 |.mp n=>ks.contains n
 |.fn _ caps=>go caps
 |.tup vs=>go vs
 |.agv vs=>go vs
 |_=>true
where go:List V->Bool
 |[]=>true
 |v::vs=>gZ ks v&&go vs
def mL(ks:List Nat):BX->Bool
 |.d _ _=>true
 |.v vs=>vs.all (gZ ks)
 |.m _ _ _ _=>true
 |.it m _ _ _=>ks.contains m
 |.itd _ _=>true
def Wk.keys(s:Wk):List Nat:=s.bx.map (·.1)
def Wk.closed(s:Wk):Bool:=
 (s.sl.all fun p=>gZ s.keys p.2)&&(s.bx.all fun p=>mL s.keys p.2)&&(s.gh.all fun p=>p.2.all fun q=>gZ s.keys q.2)
def bU(s:Wk)(st:St):Prop:=mP s.keys st.bx s.sl st.sl/\qn s.keys st.bx s.bx/\qo s.keys st.bx s.gh st.gh/\s.off=st.off/\(∀ S0 w0,st.cx S0 w0->s.cx S0 w0)/\s.closed=true
inductive aG where
 |normal
 |exit (id:Nat)
 |ret
def bW[Glb](N:Nat)(w0:World)(S0:aa)(ds:List Deferred)(K:St->Prop)(c:Act)(w':World):Prop:= ∃(d:Env) (b:St),d.w=w'/\SR N w0 S0 d b c.tmps/\c.defers=ds/\K b
def bo[Glb](N:Nat)(w0:World)(S0:aa)(ds:List Deferred)(K:aG->St->Prop):Exit->Act->World->Prop
 |.normal,a,w=>bW N w0 S0 ds (K .normal) a w
 |.exit id,a,w=>bW N w0 S0 ds (K (.exit id)) a w
 |.ret,a,w=>bW N w0 S0 ds (K .ret) a w
 |_,_,_=>False
def tC[Glb](P:Program)(N:Nat)(c:Code)(st:St)(Q:aG->St->Prop):Prop:=
 ∀(w0:World) (S0:aa) (E:Env) (a:Act),SR N w0 S0 E st a.tmps->c.wp P (bo N w0 S0 a.defers Q) a E.w
abbrev PT:=St->(aG->St->Prop)->Prop
def jW(Q:aG->St->Prop)(e:aG)(st:St):Prop:=Q e st\/ ∃s,bU s st/\Q e s.mk'
def rm(I:Nat->Wk->Prop)(n:Nat)(Q:aG->St->Prop):aG->St->Prop
 |.normal,st'=> ∃m s',m<n/\bU s' st'/\I m s'
 |.exit id,st'=>jW Q (.exit id) st'
 |.ret,st'=>Q .ret st'
def eE(F:PT)(st:St)(Q:aG->St->Prop):Prop:=
 ∃(I:Nat->Wk->Prop) (n:Nat) (s:Wk),bU s st/\I n s/\ ∀n s,I n s-> ∃R,F s.mk' R/\ ∀e b,R e b->rm I n Q e b
def gJ(F:PT)(st:St)(Q:aG->St->Prop):Prop:= ∃R,F st R/\ ∀e b,R e b->jW Q e b
def tQ[Glb](P:Program)(is:List DI)(b:List (List Nat)):PT:=
 match b with
 |[]=>fun st Q=>cW P is st (Q .normal)
 |p::b=>fun st Q=>bO P (p::b) (fun _=>[]) (eK 0 is) st (Q .normal)
def tR(A B:PT):PT:=fun st Q=>A st fun e b=>match e with
 |.normal=>B b Q
 |.exit id=>Q (.exit id) b
 |.ret=>Q .ret b
def kd(c:O)(A B:PT):PT:=fun st Q=>match ev st.sl c with
 |.t (.bool true)=>A st Q
 |.t (.bool false)=>B st Q
 |_=>False
def rW(c:Nat)(A:PT):PT:=fun st Q=>A st fun e b=>match e with
 |.normal=>Q .normal b
 |.exit k=>cond (Nat.beq k c) (Q .normal b) (Q (.exit k) b)
 |.ret=>Q .ret b
def wpC[Glb](P:Program)(d:aV):PT:=
 aV.rec (motive:=fun _=>PT) (fun st Q=>Q .normal st) (fun is e=>tQ P is e) (fun _ _ A B=>tR A B) (fun c _ _ A B=>kd c A B) (fun b _ A=>rW b A)
  (fun _ A=>eE A) (fun b st Q=>Q (.exit b) st) (fun st Q=>Q .ret st) (fun N c st Q=>tC P N c st Q) (fun _ A=>gJ A) d
def gA(b:List T):St:={sl:=fun m=>match b[m]? with|some t=>.t t|none=>.top,bx:=fun _=>none }
def ml(bx:Nat->Option BX)(n:Nat):List V->Option (List V×Nat×List V)
 |[]=>none
 |v::vs=>match (match v with
   |.ptr k 0=>match bx k with
    |some (.v [.ptr m 0])=>cond (Nat.beq m n) (some k) none
    |_=>none
   |_=>none) with
  |some k=>some ([],k,vs)
  |none=>match ml bx n vs with
   |some (a,k,b)=>some (v::a,k,b)
   |none=>none
def qW(bx:Nat->Option BX)(n off:Nat):Option (T×List Nat):=
 match bx n with
 |some (.v [.fn f1 c1,.fn f2 c2])=>match ml bx n c1,ml bx n c2 with
  |some (a1,k1,b1),some (a2,k2,b2)=>match cO bx a1,cO bx b1,cO bx a2,cO bx b2 with
   |some (x1,r1),some (y1,s1),some (x2,r2),some (y2,s2)=>cond (Nat.beq k1 k2) (some (.wrld f1 x1 y1 f2 x2 y2 off,n::k1::(r1++s1++r2++s2))) none
   |_,_,_,_=>none
  |_,_=>none
 |_=>none
def og(bx:Nat->Option BX)(v:V):Option (T×List Nat):=
 match v with
 |.ptr n off=>match qW bx n off with
  |some r=>some r
  |none=>conv bx (.ptr n off)
 |v=>conv bx v
def iP(d:TypeId->Option (Nat×Bool))(st:St):List ResultVar->List T->Prop
 |[],[]=>True
 |.tmp t::rs,x::xs=>(og st.bx (st.sl t)).map (·.1)=some x/\iP d st rs xs
 |.cell a ty::rs,x::xs=>(match st.sl a,d ty with
  |.ptr b off,some (n,agg)=>match st.bx b with
   |some cs=>match eQ b cs off n agg with
    |.yes e=>asT e.val=some x
    |.eq c t _=>c/\t=x
    |_=>False
   |none=>False
  |_,_=>False)/\iP d st rs xs
 |_,_=>False
def nX(b:TypeId->Option (Nat×Bool))(rs:List ResultVar)(r:List T):aG->St->Prop
 |.normal,st=>iP b st rs r
 |.ret,st=>iP b st rs r
 |.exit _,_=>False
theorem tT{F:PT}{st:St}{Q:aG->St->Prop}{α:Type}(S:α->Wk)(b:α->Prop)(f:α->Nat)(g:α)(l:b g)(m:bU (S g) st)
  (h: ∀a,b a->F (S a).mk' fun e c=>match e with
   |.normal=> ∃d,b d/\f d<f a/\bU (S d) c
   |.exit j=>Q (.exit j) c
   |.ret=>Q .ret c):eE F st Q:=by
 refine ⟨fun n s=> ∃a,b a/\f a=n/\s=S a,f g,S g,m,⟨g,l,rfl,rfl⟩,?_⟩;rintro n s ⟨a,r,rfl,rfl⟩;refine ⟨_,h a r,fun e c i=>?_⟩;cases e with
 |normal=>
  obtain ⟨d,k,p,q⟩:=i;exact ⟨f d,S d,p,q,d,k,rfl,rfl⟩
 |exit j=>exact .inl i
 |ret=>exact i
theorem tx{F:PT}{st:St}{Q:aG->St->Prop}{α β:Type}(j:Nat)(S:α->Wk)(d:α->Prop)(g:α->Nat)(p:β->Wk)(c:β->Prop)(i:α)(t:d i)(u:bU (S i) st)
  (h: ∀a,d a->F (S a).mk' fun e b=>match e with
   |.normal=> ∃f,d f/\g f<g a/\bU (S f) b
   |.exit k=>cond (Nat.beq k j) (∃ x,c x/\bU (p x) b) (Q (.exit k) b)
   |.ret=>Q .ret b) (r: ∀x,c x->Q (.exit j) (p x).mk'):eE F st Q:=by
 refine ⟨fun n s=> ∃a,d a/\g a=n/\s=S a,g i,S i,u,⟨i,t,rfl,rfl⟩,?_⟩;rintro n s ⟨a,z,rfl,rfl⟩;refine ⟨_,h a z,fun e b l=>?_⟩;cases e with
 |normal=>
  obtain ⟨f,m,q,y⟩:=l;exact ⟨g f,S f,q,y,f,m,rfl,rfl⟩
 |exit k=>
  revert l
  show (bif Nat.beq k j then (∃ x,c x/\bU (p x) b) else Q (.exit k) b)->_
  cases w:Nat.beq k j with
  |true=>
   rintro ⟨x,m,q⟩;obtain rfl:=Nat.eq_of_beq_eq_true w;exact .inr ⟨_,q,r x m⟩
  |false=>exact .inl
 |ret=>exact l
theorem tV{F:PT}{st:St}{Q:aG->St->Prop}{β:Type}(f:β->Wk)(b:β->Prop)
  (h:F st fun e c=>match e with
   |.normal=> ∃x,b x/\bU (f x) c
   |.exit k=>Q (.exit k) c
   |.ret=>Q .ret c) (j: ∀x,b x->Q .normal (f x).mk'):gJ F st Q:=by
 refine ⟨_,h,fun e s d=>?_⟩;cases e with
 |normal=>
  obtain ⟨x,g,i⟩:=d;exact .inr ⟨_,i,j x g⟩
 |exit k=>exact .inl d
 |ret=>exact .inl d
attribute [irreducible] eE gJ
end Go.DL
end
section
namespace Go.DL
open Go.RowKit
section
variable [Glb]
structure Grow (E E':Env):Prop where
 B:E'.B=E.B
 κ: ∀n,E.live n=true->E'.live n=true/\E'.κ n=E.κ n
 ρ: ∀r g,E.ρ r=some g->E'.ρ r=some g/\E'.w.heap[g]? =E.w.heap[g]? /\ ∀o,E'.S g o↔E.S g o
 S: ∀b o,E.S b o->E'.S b o
 cell: ∀b o,E.S b o->aC E.w E'.w b o
end
section
theorem Grow.rep{E b:Env}(h:Grow E b){v:Value}{t:T}(r:Rep E.S E.w v t):Rep b.S b.w v t:=r.mono h.S h.cell
theorem fG{w w':World}{base:Nat}{e:TypeId}{size:Nat}{v:Value}{n:Nat}{xs:List Value}(h:w.ownsRow base e size v n xs)
  (d: ∀g,v.ownBlock=some g->w'.heap[g]? =w.heap[g]?):w'.ownsRow base e size v n xs:=by
 refine ⟨h.1,?_⟩;rcases h.2 with f|⟨g,cap,b,rfl,i,c,rest⟩
 ·exact .inl f
 ·exact .inr ⟨g,cap,b,rfl,i,(d g rfl).trans c,rest⟩
theorem bQ.grow{E d:Env}(g:Grow E d){v:Value}{r:Nat}{e:TypeId}{size:Nat}{xs:List T}(h:bQ E v r e size xs):bQ d v r e size xs:=by
 obtain ⟨cells,f,m,n⟩:=h.ex;refine ⟨⟨cells,?_,m,fun i x t k l=>g.rep (n i x t k l)⟩,h.uni,h.one,fun b c=>?_⟩
 ·rw [g.B];exact fG f fun b c=>(g.ρ r b (h.row b c).1).2.1
 ·obtain ⟨k1,k2⟩:=h.row b c;obtain ⟨p,_,j⟩:=g.ρ r b k1;exact ⟨p,fun o=>(j o).trans (k2 o)⟩
theorem VR.grow{E k:Env}(g:Grow E k){v:Value}{u:V}(h:VR E v u):VR k v u:=by
 induction h with
 |top v=>exact .top v
 |t v x h=>exact .t v x (g.rep h)
 |ptr n off d=>obtain ⟨b,c⟩:=g.κ n d;rw [<- c];exact .ptr n off b
 |view n off len size cap d l=>obtain ⟨b,c⟩:=g.κ n d;rw [<- c];exact .view n off len size cap b l
 |own v r e size xs h=>exact .own v r e size xs (h.grow g)
 |full a len size xs h=>exact .full a len size xs (g.rep h)
 |fn f cs vs j _ i=>exact .fn f cs vs j i
 |tup cs vs j _ i=>exact .tup cs vs j i
 |agv cs vs j b _ i=>exact .agv cs vs j b i
 |raw v b=>exact .raw v b
 |mp n d=>obtain ⟨b,c⟩:=g.κ n d;rw [<- c];exact .mp n b
theorem cH.grow{E k:Env}(g:Grow E k){cs:Array Value}{b:BX}(h:cH E cs b):cH k cs b:=by
 cases h with
 |d n ts l e h=>exact .d n ts l e fun i x t c f=>⟨g.rep (h i x t c f).1,(h i x t c f).2⟩
 |v vs e h=>exact .v vs e fun i x u c j=>⟨(h i x u c j).1.grow g,(h i x u c j).2⟩
theorem bL.grow{E m:Env}(g:Grow E m){c:Array MapEntry}{b:Nat}{j:Bool}{l:List Sh}{k:List (T×T)}{n:Option (List Nat×Nat)}(h:bL E c b j l k n):bL m c b j l k n:=
 ⟨h.size,fun i x e d f=>⟨g.rep (h.at_ i x e d f).1,g.rep (h.at_ i x e d f).2.1,(h.at_ i x e d f).2.2⟩,h.lt,h.apart,h.mb⟩
theorem bP.grow{E n:Env}(g:Grow E n){o:Obj}{b:BX}(h:bP E o b):bP n o b:=by
 cases h with
 |cells cs e b h=>exact .cells cs e b (h.grow g)
 |map f d i j l t h=>exact .map f d i j l t (h.grow g)
 |itd k f c i j l ix w p q=>exact .itd k f c i j l ix ((g.cell _ _ p).map _ _ w) (g.S _ _ p) (q.grow g)
 |it m bs c ix u=>obtain ⟨r,s⟩:=g.κ m u;rw [<- s];exact .it m bs c ix r
theorem bG.grow{E c:Env}(g:Grow E c){k:Nat}{b:BX}(h:bG E k b)(i:c.w.heap[k]? =E.w.heap[k]?)(e: ∀o, ¬c.S k o):bG c k b:=by
 obtain ⟨o,d,f⟩:=h.at_;exact ⟨by rw [g.B];exact h.old,e,o,i.trans d,f.grow g⟩
end
section
variable [Glb]
theorem bE.up{S d:ar}{w w':World}(h:bE S w)(n: ∀b o,S b o->d b o)(e:Below w.heap.size w w'):bE d w':=fun g cs p=>by
 obtain ⟨c,v,k⟩:=h g cs p;refine ⟨Nat.lt_of_lt_of_le c e.size,v,fun i t j=>?_⟩;obtain ⟨k1,k2,l,f,m⟩:=k i t j;exact ⟨(aC.dC e c).cell.trans k1,n _ _ k2,l,f,m.of_flat f⟩
theorem bE.rep{S:ar}{w:World}(h:bE S w){g:Nat}{cs:List T}(d:Glb.gs g=some cs)(off:Nat):Rep S w (.pointer (some ⟨g,off,none⟩)) (.cptr cs off):=by
 obtain ⟨_,v,c⟩:=h g cs d;have get: ∀i,i<cs.length->cs[i]? =some cs[i]! :=fun i hi=>by simp [hi]
 have:=Rep.cptr (S:=S) (w:=w) g 0 off cs v (fun t b=>by
   obtain ⟨i,hi⟩:=List.mem_iff_getElem?.1 b;exact (c i t hi).2.2.1)
  (fun i hi=>by
   obtain ⟨k1,k2,_⟩:=c i _ (ggZ hi);rw [Nat.zero_add];exact ⟨k1,k2⟩)
  (fun i t b=>(c i t b).2.2.2.2.of_flat (c i t b).2.2.2.1)
 rwa [Nat.zero_add] at this
theorem SR.iZ{N:Nat}{w0:World}{S0:aa}{E:Env}{st:St}{a:Array Value}(h:SR N w0 S0 E st a):bE E.S E.w:=h.glob.up h.s0 h.below
end
section
theorem jG{a:Array Value}{d m:Nat}{v:Value}(hd:d<a.size):(a.setIfInBounds d v).getD m undef=if m=d then v else a.getD m undef:=by
 by_cases h:m=d
 ·subst h;simp [hd]
 ·have: ¬d=m:=fun e=>h e.symm
  simp [h,this]
end
section
variable [Glb]
theorem SR.put{N:Nat}{w0:World}{S0:aa}{E:Env}{st:St}{a:Array Value}(h:SR N w0 S0 E st a){d:Nat}(hd:d<N){v:Value}{u:V}(c:VR E v u):
  SR N w0 S0 E (st.set (some d) u) (a.setIfInBounds d v):=by
 refine {h with size:=by simp [h.size],sl:=fun m=>?_ };rw [jG (by rw [h.size];exact hd)]
 by_cases b:m=d
 ·subst b;rw [if_pos rfl];show VR E v (upd st.sl m u m)
  rw [aj];exact c
 ·rw [if_neg b];show VR E _ (upd st.sl d u m)
  rw [ae _ _ _ _ b];exact h.sl m
def ay(N:Nat):Option Nat->Prop
 |some d=>d<N
 |none=>True
theorem SR.cN{N:Nat}{w0:World}{S0:aa}{E:Env}{st:St}{a:Act}(h:SR N w0 S0 E st a.tmps){d:Option Nat}(hd:ay N d){v:Value}{u:V}(b:VR E v u):
  SR N w0 S0 E (st.set d u) (a.put d v).tmps:=by
 cases d with
 |none=>exact h
 |some d=>exact h.put hd b
theorem SR.world{N:Nat}{w0:World}{S0:aa}{E:Env}{st:St}{a:Array Value}(h:SR N w0 S0 E st a){w':World}(f:Below E.w.heap.size E.w w')
  (j:ar) (p: ∀b o,j b o↔E.S b o\/(j b o/\E.w.heap.size<=b/\b<w'.heap.size)):SR N w0 S0 {E with w:=w',S:=j } st a:=by
 have e: ∀b o,b<E.w.heap.size->(j b o↔E.S b o):=fun b o i=>by
  rw [p];constructor
  ·rintro (h|⟨_,h,_⟩)
   ·exact h
   ·omega
  ·exact .inl
 have g:Grow E {E with w:=w',S:=j }:=⟨rfl,fun _ u=>⟨u,rfl⟩,fun r g l=>⟨l,f.block g (h.rows r g l).2.1,fun o=>e g o (h.rows r g l).2.1⟩,fun b o c=>(p b o).2 (.inl c),
  fun b o c=>aC.dC f (h.lt b o c)⟩
 refine ⟨h.size,h.base,h.glob,fun m=>(h.sl m).grow g,fun k m=>(h.gh k m).grow g,fun n b x=>?_,h.live,h.inj,fun r k l=>?_,h.rinj,fun b o c=>?_,?_,fun b o c=>(p b o).2 (.inl (h.s0 b o c)),fun b o c=>?_,fun k o q=>⟨(h.obj k o q).1,(f.block k (Array.getElem?_eq_some_iff.1 (h.obj k o q).2).1).trans (h.obj k o q).2⟩,h.cx⟩
 ·have s:=h.bx n b x;have i:E.κ n<E.w.heap.size:=by
   exact s.lt
  exact s.grow g (f.block _ i) (fun o=>fun c=>s.free o ((e _ o i).1 c))
 ·obtain ⟨d,t,y⟩:=h.rows r k l;exact ⟨d,Nat.lt_of_lt_of_le t f.size,y⟩
 ·rcases (p b o).1 c with d|⟨_,_,d⟩
  ·exact Nat.lt_of_lt_of_le (h.lt b o d) f.size
  ·exact d
 ·exact h.below.trans (f.mono h.below.size)
 ·rcases (p b o).1 c with d|⟨_,d,_⟩
  ·exact h.s1 b o d
  ·exact .inr (Nat.le_trans h.below.size d)
theorem SR.drew{N:Nat}{w0:World}{S0:aa}{E:Env}{st:St}{a:Array Value}(h:SR N w0 S0 E st a):SR N w0 S0 {E with w:=E.w.drew } st a:=
 h.world (w':=E.w.drew) ((Below.refl _ _).drew) E.S (fun _ _=>⟨.inl,fun b=>b.elim id fun k=>k.1⟩)
theorem SR.alloc{N:Nat}{w0:World}{S0:aa}{E:Env}{st:St}{a:Array Value}(h:SR N w0 S0 E st a){n:Nat}(D:st.bx n=none)(cs:Array Value)(e:TypeId)(b:BX)(H:cH E cs b)
  {d:Nat} (hd:d<N) (off:Nat):
  SR N w0 S0 {E with w:=E.w.alloc (.cells cs e),κ:=upd E.κ n E.w.heap.size,live:=upd E.live n true } {st with sl:=upd st.sl d (.ptr n off),bx:=upd st.bx n (some b)}
   (a.setIfInBounds d (.pointer (some ⟨E.w.heap.size,off,none⟩))):=by
 have G:E.live n=false:=by rw [h.live,D];rfl
 have ne: ∀m,E.live m=true->m≠n:=fun m c e=>by rw [e,G] at c;cases c
 have s: ∀m,E.live m=true->E.κ m<E.w.heap.size:=fun m c=>by
  rw [h.live] at c;obtain ⟨j,q⟩:=Option.isSome_iff_exists.1 c;exact (h.bx m j q).lt
 have z:Below E.w.heap.size E.w (E.w.alloc (.cells cs e)):=(Below.refl _ _).alloc (Nat.le_refl _) _;have g:Grow E {E with w:=E.w.alloc (.cells cs e),κ:=upd E.κ n E.w.heap.size,live:=upd E.live n true }:=
  ⟨rfl,fun m c=>⟨by show upd E.live n true m=true;rw [ae _ _ _ _ (ne m c)];exact c,ae _ _ _ _ (ne m c)⟩,
   fun r k A=>⟨A,z.block k (h.rows r k A).2.1,fun _=>Iff.rfl⟩,fun _ _ t=>t,fun b o t=>aC.dC z (h.lt b o t)⟩
 refine ⟨by simp [h.size],h.base,h.glob,fun m=>?_,fun k m=>(h.gh k m).grow g,fun m j c=>?_,fun m=>?_,fun m x c i l=>?_,fun r k A=>?_,h.rinj,fun b o t=>?_,?_,h.s0,h.s1,fun k o y=>⟨(h.obj k o y).1,(z.block k (Array.getElem?_eq_some_iff.1 (h.obj k o y).2).1).trans (h.obj k o y).2⟩,h.cx⟩
 ·rw [jG (by rw [h.size];exact hd)]
  by_cases c:m=d
  ·subst c;rw [if_pos rfl];show VR _ _ (upd st.sl m _ m)
   rw [aj]
   have:=VR.ptr (E:={E with w:=E.w.alloc (.cells cs e),κ:=upd E.κ n E.w.heap.size,live:=upd E.live n true }) n off (by show upd E.live n true n=true;exact aj _ _ _)
   have y:upd E.κ n E.w.heap.size n=E.w.heap.size:=aj _ _ _;simp only [y] at this;exact this
  ·rw [if_neg c];show VR _ _ (upd st.sl d _ m)
   rw [ae _ _ _ _ c];exact (h.sl m).grow g
 ·by_cases f:m=n
  ·subst f;have q:b=j:=by
    have:upd st.bx m (some b) m=some j:=c
    rw [aj] at this;exact Option.some.inj this
   subst q;show bG _ (upd E.κ m E.w.heap.size m) b
   rw [aj];refine ⟨by rw [g.B,h.base];exact h.below.size,fun o t=>absurd (h.lt _ o t) (Nat.lt_irrefl _),_,heap_alloc_new _ _,.cells cs e b (H.grow g)⟩
  ·have i:st.bx m=some j:=by
    have:upd st.bx n (some b) m=some j:=c
    rwa [ae _ _ _ _ f] at this
   show bG _ (upd E.κ n E.w.heap.size m) j
   rw [ae _ _ _ _ f];have C:=h.bx m j i;exact C.grow g (z.block _ (s m (by rw [h.live,i];rfl))) C.free
 ·show upd E.live n true m=(upd st.bx n (some b) m).isSome
  by_cases f:m=n
  ·subst f;rw [aj,aj];rfl
  ·rw [ae _ _ _ _ f,ae _ _ _ _ f];exact h.live m
 ·have c:upd E.live n true m=true:=c;have i:upd E.live n true x=true:=i;have l:upd E.κ n E.w.heap.size m=upd E.κ n E.w.heap.size x:=l
  by_cases p:m=n <;> by_cases u:x=n
  ·rw [p,u]
  ·subst p;rw [ae _ _ _ _ u] at i;rw [aj,ae _ _ _ _ u] at l;exact absurd (s x i) (by omega)
  ·subst u;rw [ae _ _ _ _ p] at c;rw [aj,ae _ _ _ _ p] at l;exact absurd (s m c) (by omega)
  ·rw [ae _ _ _ _ p] at c l;rw [ae _ _ _ _ u] at i l;exact h.inj m x c i l
 ·obtain ⟨p,u,F⟩:=h.rows r k A;refine ⟨p,by simp;omega,fun m c=>?_⟩;have c:upd E.live n true m=true:=c;show upd E.κ n E.w.heap.size m≠k
  by_cases f:m=n
  ·subst f;rw [aj];omega
  ·rw [ae _ _ _ _ f] at c ⊢;exact F m c
 ·have:=h.lt b o t
  simp;omega
 ·exact h.below.trans (z.mono h.below.size)
theorem SR.write{N:Nat}{w0:World}{S0:aa}{E:Env}{st:St}{a:Array Value}(h:SR N w0 S0 E st a){n:Nat}{b:BX}(D:st.bx n=some b)(F:b.isM=false)(cs:Array Value)(i:BX)
  (J: ∀C:Env,Grow E C->cH C cs i):
  SR N w0 S0 {E with w:=E.w.setRow (E.κ n) cs } {st with bx:=upd st.bx n (some i)} a:=by
 have t:=h.bx n b D;obtain ⟨G,e0,x,_⟩:=t.cells F;have A:E.live n=true:=by rw [h.live,D];rfl
 have H:E.κ n<E.w.heap.size:=(Array.getElem?_eq_some_iff.1 x).1;have other: ∀k,k≠E.κ n->(E.w.setRow (E.κ n) cs).heap[k]? =E.w.heap[k]? :=fun k f=>setRow_other _ _ _ _ f
 have g:Grow E {E with w:=E.w.setRow (E.κ n) cs }:=⟨rfl,fun _ h=>⟨h,rfl⟩,fun r k u=>⟨u,other k (fun e=>(h.rows r k u).2.2 n A e.symm),fun _=>Iff.rfl⟩,fun _ _ s=>s,
  fun b o s=>aC.dD (other b (fun e=>t.free o (e▸s)))⟩
 have d:(E.w.setRow (E.κ n) cs).heap.size=E.w.heap.size:=by simp
 refine ⟨h.size,h.base,h.glob,fun m=>(h.sl m).grow g,fun k m=>(h.gh k m).grow g,fun m j B=>?_,fun m=>?_,h.inj,fun r k u=>?_,h.rinj,fun b o s=>?_,?_,h.s0,h.s1,fun k o f=>⟨(h.obj k o f).1,(other k fun e=>by have l:=(h.obj k o f);rw [e,x] at l;have y:=l.2;cases y;cases l.1).trans (h.obj k o f).2⟩,h.cx⟩
 ·by_cases c:m=n
  ·subst c;have z:i=j:=by
    have:upd st.bx m (some i) m=some j:=B
    rw [aj] at this;exact Option.some.inj this
   subst z;exact ⟨t.old,t.free,_,setRow_heap _ _ _ _ _ _ x,.cells cs e0 _ (J _ g)⟩
  ·have q:st.bx m=some j:=by
    have:upd st.bx n (some i) m=some j:=B
    rwa [ae _ _ _ _ c] at this
   have p:=h.bx m j q;exact p.grow g (other _ (fun e=>c (h.inj m n (by rw [h.live,q];rfl) A e))) p.free
 ·show E.live m=(upd st.bx n (some i) m).isSome
  by_cases c:m=n
  ·subst c;rw [aj];exact A
  ·rw [ae _ _ _ _ c];exact h.live m
 ·obtain ⟨l,y,I⟩:=h.rows r k u;exact ⟨l,by rw [d];exact y,I⟩
 ·rw [d];exact h.lt b o s
 ·refine h.below.trans (.of rfl rfl rfl (by rw [d];exact Nat.le_refl _) (fun k f=>other k ?_) (Nat.le_refl _))
  have:=t.old
  rw [h.base] at this;omega
end
end Go.DL
end
section
namespace Go.DL
open Go.RowKit
section
variable [Glb]{P:Program}
end
section
variable {P:Program}
theorem fN{S:ar}{w:World}{v:Value}{t:T}(h:dS v=some t):Rep S w v t/\t.one=true:=by
 unfold dS at h;split at h <;> first|(cases h;refine ⟨?_,rfl⟩;constructor)|cases h
theorem ia{α β:Type}(f:α->Option β): ∀(l:List α) (r:List β),l.mapM f=some r->l.length=r.length/\ ∀(i:Nat) (x:α) (y:β),l[i]? =some x->r[i]? =some y->f x=some y
 |[],r,h=>by simp at h;subst h;exact ⟨rfl,fun i x y c=>by simp at c⟩
 |a::l,r,h=>by
  rw [List.mapM_cons] at h;simp only [Option.bind_eq_bind,Option.bind_eq_some_iff] at h;obtain ⟨b,m,g,e,h⟩:=h;simp at h;subst h;obtain ⟨j,k⟩:=ia f l g e;refine ⟨by simp [j],fun i x y c d=>?_⟩;cases i with
  |zero=>simp at c d;subst c;subst d;exact m
  |succ i=>simp at c d;exact k i x y c d
theorem gL{S:ar}{w:World}{v:Value}{t:T}(h:eF v=some t):Rep S w v t:=by
 unfold eF at h;split at h
 ·rename_i cs;cases c:cs.toList.mapM dS with
  |none=>rw [c] at h;cases h
  |some ts=>
   rw [c] at h;simp at h;subst h;obtain ⟨e,f⟩:=ia _ _ _ c;refine .agg cs ts (by simpa using e) (fun t d=>?_) (fun i x t g d=>(fN (f i x t (by simpa using g) d)).1);obtain ⟨i,hi⟩:=List.mem_iff_getElem?.1 d;have b:i<cs.toList.length:=by rw [e];exact (gsZ hi).1
   exact (fN (S:=S) (w:=w) (f i _ t (ggZ b) hi)).2
 ·exact (fN h).1
theorem af{E:Env}{st:St}{a:Act}(d: ∀m,VR E (a.tmps.getD m undef) (st.sl m)){x:Operand}{y:O}(h:ak x=some y):VR E (a.eval x) (ev st.sl y):=by
 cases x with
 |tmp t=>simp [ak] at h;subst h;exact d t
 |const v=>
  simp only [ak,Option.map_eq_some_iff] at h;obtain ⟨t,c,rfl⟩:=h;exact .t _ _ (gL c)
 |global g=>cases h;exact .t _ _ (.glob g 0)
 |func f=>
  simp [ak] at h;subst h;exact .t _ _ (.clos f #[] [] rfl (fun i x t b=>by simp at b))
end
section
variable [Glb]{P:Program}
section inv
variable {E:Env}{v:Value}
end inv
end
section
variable {P:Program}
variable {E:Env}{v:Value}
theorem VR.ax{x:T}(h:VR E v (.t x)):Rep E.S E.w v x:=by cases h;assumption
theorem VR.eH{n:Nat}(h:VR E v (.mp n)):v= .map (some (E.κ n))/\E.live n=true:=by cases h;exact ⟨rfl,by assumption⟩
theorem VR.bd{n off:Nat}(h:VR E v (.ptr n off)):v= .pointer (some ⟨E.κ n,off,none⟩)/\E.live n=true:=by cases h;exact ⟨rfl,by assumption⟩
theorem VR.bM{n off len size:Nat}(h:VR E v (.view n off len size)): ∃cap,v= .slice (some ⟨E.κ n,off,none⟩) len cap/\len<=cap/\E.live n=true:=by
 cases h;exact ⟨_,rfl,by assumption,by assumption⟩
theorem Rep.aA{S:ar}{w:World}{k:IntKind}{n:Int}(h:Rep S w v (.int k n)):v= .int k n:=by cases h;rfl
theorem Rep.aP{S:ar}{w:World}{b:Bool}(h:Rep S w v (.bool b)):v= .bool b:=by cases h;rfl
theorem Rep.bg{S:ar}{w:World}{s:ByteArray}(h:Rep S w v (.str s)):v= .string s:=by cases h;rfl
theorem VR.aA{k:IntKind}{n:Int}(h:VR E v (.t (.int k n))):v= .int k n:=h.ax.aA
theorem VR.aP{b:Bool}(h:VR E v (.t (.bool b))):v= .bool b:=h.ax.aP
theorem VR.bg{s:ByteArray}(h:VR E v (.t (.str s))):v= .string s:=h.ax.bg
theorem bQ.rep{r:Nat}{e:TypeId}{size:Nat}{xs:List T}(h:bQ E v r e size xs):Rep E.S E.w v (.slice size xs):=by
 obtain ⟨cells,j,m,q⟩:=h.ex;rcases j.2 with ⟨rfl,p⟩|⟨g,cap,s,rfl,y,z,d,u,A,n⟩
 ·have f:xs=[]:=List.eq_nil_of_length_eq_zero p;subst f;exact .slice none 0 0 0 0 size [] (fun _=>undef) rfl (Nat.le_refl _) (fun x f=>by simp at f) (fun t c=>by simp at c) (fun l=>by simp at l) (fun i hi=>by simp at hi) (fun i t c=>by simp at c)
 ·refine .slice _ g 0 xs.length cap size xs (fun i=>cells[i]?.getD undef) rfl d h.uni h.one (fun _=>rfl) (fun i hi=>?_) (fun i t c=>?_)
  ·have b:i<cells.length:=by omega
   have d:=j.cells (g:=g) rfl i cells[i] (ggZ b);have k:(⟨g,0,none⟩:Addr).add i=⟨g,0+i,none⟩:=by unfold Addr.add;split <;> simp_all
   rw [k] at d;refine ⟨by rw [d];simp [ggZ b],?_⟩;rw [Nat.zero_add];exact ((h.row g rfl).2 i).2 hi
  ·have b:i<cells.length:=by rw [m];exact (gsZ c).1
   have:=q i cells[i] t (ggZ b) c
   simpa [ggZ b] using this
theorem aB{u:V}{x:T}(h:VR E v u)(b:asT u=some x):Rep E.S E.w v x:=by
 cases h with
 |t v c h=>simp [asT] at b;subst b;exact h
 |own v r e size xs h=>simp [asT] at b;subst b;exact h.rep
 |full a len size xs h=>simp [asT] at b;subst b;exact h
 |_=>cases b
end
section
variable [Glb]{P:Program}
section inv
variable {E:Env}{v:Value}
end inv
def Did(P:Program)(N:Nat)(w0:World)(S0:aa)(o:Oper)(a:Act)(E:Env)(b:St):Prop:=
 ∃(c:Next) (v:Value) (d:Env),(execOp a.eval o).run P E.w= .ok c d.w/\(c= .value v\/(c= .skip/\v=undef))/\SR N w0 S0 d b (a.put o.dst v).tmps
theorem ai{N:Nat}{w0:World}{S0:aa}{o:Oper}{a:Act}{E:Env}{st:St}(h:SR N w0 S0 E st a.tmps)(hd:ay N o.dst){v:Value}{u:V}{rd:List Nat}
  (c:(execOp a.eval o).run P E.w= .ok (.value v) E.w) (b:VR E v u):Did P N w0 S0 o a E (st.app o.dst {val:=u,rd:=rd }):=
 ⟨_,v,E,c,.inl rfl,h.cN hd b⟩
def Sound(P:Program)(N:Nat)(w0:World)(S0:aa)(o:Oper)(a:Act)(E:Env)(st:St):cr->Prop
 |.no=>True
 |.yes e=>Did P N w0 S0 o a E (st.app o.dst e)
 |.need c e=>c->Did P N w0 S0 o a E (st.app o.dst e)
 |.alt c b f=>c->Did P N w0 S0 o a E (st.app o.dst (f b))
 |.eq c t f=>c->Did P N w0 S0 o a E (st.app o.dst (f t))
section ops
variable {N:Nat}{w0:World}{S0:aa}{o:Oper}{a:Act}{E:Env}{st:St}
theorem qC(f:BinOp)(k e:IntKind)(x y:Int)(t ty:TypeId)(h:SR N w0 S0 E st a.tmps)(hd:ay N o.dst)(X Y:Operand)(n:o.op= .binOp f t X Y ty)(p:a.eval X= .int k x)(s:a.eval Y= .int e y):
  Sound P N w0 S0 o a E st (n5 f k e x y):=by
 have j: ∀r:Value,(binOp f t (.int k x) (.int e y)).run P E.w= .ok r E.w->(execOp a.eval o).run P E.w= .ok (.value r) E.w:=fun r g=>by
  unfold execOp;simp only [n,p,s];have q:eqGuard f t X Y (.int k x) (.int e y)=pure ():=by cases f <;> rfl
  simp [q,g]
 have b: ∀r:T,(∀ S w, ∃v,Rep S w v r/\(binOp f t (.int k x) (.int e y)).run P E.w= .ok v E.w)->Did P N w0 S0 o a E (st.app o.dst {val:=.t r }):=fun r g=>by
  obtain ⟨v,l,m⟩:=g E.S E.w;exact ai h hd (j v m) (.t _ _ l)
 have d: ∀(r:cr),(k=e->Sound P N w0 S0 o a E st r)->Sound P N w0 S0 o a E st (if k≠e then cr.no else r):=fun r g=>by
  by_cases c:k=e
  ·simp only [ne_eq,c,not_true_eq_false,if_false];exact g c
  ·simp only [ne_eq,c,not_false_eq_true,if_true];trivial
 unfold n5;cases f with
 |shl=>
  intro i;exact b _ fun S w=>⟨_,.int _ _,by simp [binOp,Op.shift,if_neg (show ¬y<0 by omega)]⟩
 |shr=>
  intro i;exact b _ fun S w=>⟨_,.int _ _,by simp [binOp,Op.shift,if_neg (show ¬y<0 by omega)]⟩
 |add=>exact d _ fun c=>by subst c;exact b _ fun S w=>⟨_,.int _ _,by simp [binOp,Op.intArith]⟩
 |sub=>exact d _ fun c=>by subst c;exact b _ fun S w=>⟨_,.int _ _,by simp [binOp,Op.intArith]⟩
 |mul=>exact d _ fun c=>by subst c;exact b _ fun S w=>⟨_,.int _ _,by simp [binOp,Op.intArith]⟩
 |quo=>exact d _ fun c=>by subst c;intro i;exact b _ fun S w=>⟨_,.int _ _,by simp [binOp,Op.intDiv,if_neg i]⟩
 |rem=>exact d _ fun c=>by subst c;intro i;exact b _ fun S w=>⟨_,.int _ _,by simp [binOp,Op.intDiv,if_neg i]⟩
 |and=>exact d _ fun c=>by subst c;exact b _ fun S w=>⟨_,.int _ _,by simp [binOp];rfl⟩
 |or=>exact d _ fun c=>by subst c;exact b _ fun S w=>⟨_,.int _ _,by simp [binOp];rfl⟩
 |xor=>exact d _ fun c=>by subst c;exact b _ fun S w=>⟨_,.int _ _,by simp [binOp];rfl⟩
 |andNot=>exact d _ fun c=>by subst c;exact b _ fun S w=>⟨_,.int _ _,by simp [binOp];rfl⟩
 |eql=>exact d _ fun c=>by subst c;intro _;exact b _ fun S w=>⟨_,.bool _,by simp [binOp,Op.intCmp]⟩
 |neq=>exact d _ fun c=>by subst c;intro _;exact b _ fun S w=>⟨_,.bool _,by simp [binOp,Op.intCmp]⟩
 |lss=>exact d _ fun c=>by subst c;intro _;exact b _ fun S w=>⟨_,.bool _,by simp [binOp,Op.intCmp]⟩
 |leq=>exact d _ fun c=>by subst c;intro _;exact b _ fun S w=>⟨_,.bool _,by simp [binOp,Op.intCmp]⟩
 |gtr=>exact d _ fun c=>by subst c;intro _;exact b _ fun S w=>⟨_,.bool _,by simp [binOp,Op.intCmp]⟩
 |geq=>exact d _ fun c=>by subst c;intro _;exact b _ fun S w=>⟨_,.bool _,by simp [binOp,Op.intCmp]⟩
theorem qD(c:BinOp)(x y:ByteArray)(t ty:TypeId)(h:SR N w0 S0 E st a.tmps)(hd:ay N o.dst)(X Y:Operand)(i:o.op= .binOp c t X Y ty)(j:a.eval X= .string x)(l:a.eval Y= .string y):
  Sound P N w0 S0 o a E st (n9 c x y):=by
 have e: ∀r:Value,(binOp c t (.string x) (.string y)).run P E.w= .ok r E.w->(execOp a.eval o).run P E.w= .ok (.value r) E.w:=fun r d=>by
  unfold execOp;simp only [i,j,l];have k:eqGuard c t X Y (.string x) (.string y)=pure ():=by cases c <;> rfl
  simp [k,d]
 have b: ∀r:T,(∀ S w, ∃v,Rep S w v r/\(binOp c t (.string x) (.string y)).run P E.w= .ok v E.w)->Did P N w0 S0 o a E (st.app o.dst {val:=.t r }):=fun r d=>by
  obtain ⟨v,f,g⟩:=d E.S E.w;exact ai h hd (e v g) (.t _ _ f)
 unfold n9;cases c with
 |add=>exact fun m=>b _ fun S w=>⟨_,.str _,by simp only [binOp,Op.stringOp,if_neg (show ¬(((x.size+y.size:Nat):Int)>IntKind.i64.max) by omega)];rfl⟩
 |eql=>exact fun _=>b _ fun S w=>⟨_,.bool _,by simp [binOp,Op.stringOp]⟩
 |neq=>exact fun _=>b _ fun S w=>⟨_,.bool _,by simp [binOp,Op.stringOp]⟩
 |lss=>exact fun _=>b _ fun S w=>⟨_,.bool _,by simp [binOp,Op.stringOp]⟩
 |leq=>exact fun _=>b _ fun S w=>⟨_,.bool _,by simp [binOp,Op.stringOp]⟩
 |gtr=>exact fun _=>b _ fun S w=>⟨_,.bool _,by simp only [binOp,Op.stringOp];rfl⟩
 |geq=>exact fun _=>b _ fun S w=>⟨_,.bool _,by simp [binOp,Op.stringOp]⟩
 |_=>trivial
end ops
end
end Go.DL
end
section
namespace Go.DL
open Go.RowKit
section
variable [Glb]{P:Program}{N:Nat}{w0:World}{S0:aa}{o:Oper}{a:Act}{E:Env}{st:St}
end
section
variable {P:Program}{N:Nat}{w0:World}{S0:aa}{o:Oper}{a:Act}{E:Env}{st:St}
theorem fJ{t:TypeId}{d:TypeDesc}(h:P.underlying t=some d)(w:World):(isAgg t).run P w= .ok (au P t) w:=by
 unfold isAgg au;rw [Sem.run_bind,run_underlying h w];simp only [Result.andThen_ok,h];cases d <;> rfl
theorem run_sizeOf{t:TypeId}{i:TypeInfo}(h:P.info? t=some i)(w:World):(sizeOf t).run P w= .ok i.size w:=by
 simp [sizeOf,typeInfo,h]
theorem bh(b o n:Nat):(⟨b,o,none⟩:Addr).add n=⟨b,o+n,none⟩:=by unfold Addr.add;split <;> simp_all
theorem b9{t:TypeId}{d:TypeDesc}{i:TypeInfo}(h:P.underlying t=some d)(hi:P.info? t=some i)(f:au P t=true)(w:World)(b off:Nat)(cs:List Value)
  (e:cs.length=i.size) (g: ∀(j:Nat) (v:Value),cs[j]? =some v->w.cell? ⟨b,off+j,none⟩=some v):(loadVar t ⟨b,off,none⟩).run P w= .ok (.agg cs.toArray) w:=by
 have:=run_loadCells_list (P:=P) w ⟨b,off,none⟩ cs (fun j v c=>by rw [bh];exact g j v c)
 rw [e] at this;simp [loadVar,fJ h,f,run_sizeOf hi,this]
theorem ba{t:TypeId}{d:TypeDesc}(h:P.underlying t=some d)(b:au P t=false)(w:World)(a:Addr)(v:Value)(c:w.cell? a=some v):(loadVar t a).run P w= .ok v w:=by
 simp [loadVar,fJ h,b,c]
theorem bZ{t:TypeId}{A:Operand}(c:o.op= .load t A){b:Addr}(e:a.eval A= .pointer (some b)){w:World}{v:Value}(d:(loadVar t b).run P w= .ok v w):
  (execOp a.eval o).run P w= .ok (.value v) w:=by
 unfold execOp;simp [c,e,Instr.loadAt,Instr.sureAddr,d]
theorem dW{S:ar}{w:World}{cs:List Value}{ts:List T}(h: ∀(i:Nat) (x:Value) (t:T),cs[i]? =some x->ts[i]? =some t->Rep S w x t/\t.one=true)(d:cs.length=ts.length):
  Rep S w (.agg cs.toArray) (.agg ts):=by
 refine .agg _ _ (by simpa using d) (fun t c=>?_) (fun i x t e c=>(h i x t (by simpa using e) c).1);obtain ⟨i,hi⟩:=List.mem_iff_getElem?.1 c;have b:i<cs.length:=by rw [d];exact (gsZ hi).1
 exact (h i _ t (ggZ b) hi).2
theorem aF{α:Type}(l:List α)(off n j:Nat):((l.drop off).take n)[j]? =if j<n then l[off+j]? else none:=by
 rw [List.getElem?_take];split
 ·rw [List.getElem?_drop]
 ·rfl
theorem kR: ∀{vs:List V} {ts:List T},eI vs=some ts->vs.length=ts.length/\ ∀(j:Nat) (u:V) (t:T),vs[j]? =some u->ts[j]? =some t->asT u=some t
 |[],ts,h=>by cases h;exact ⟨rfl,fun j u t b=>by simp at b⟩
 |v::vs,ts,h=>by
  unfold eI at h;split at h
  ·rename_i x xs e d;cases h;obtain ⟨f,g⟩:=kR d;refine ⟨by simp [f],fun j u t b c=>?_⟩;cases j with
   |zero=>simp at b c;subst b;subst c;exact e
   |succ j=>exact g j u t (by simpa using b) (by simpa using c)
  ·cases h
theorem Rep.kG{S:ar}{w:World}{v:Value}{t:T}(h:Rep S w v t)(b:v.oneCell'=true):t.one=true:=by
 cases h <;> first|rfl|simp [Value.oneCell'] at b
end
section
variable [Glb]{P:Program}{N:Nat}{w0:World}{S0:aa}{o:Oper}{a:Act}{E:Env}{st:St}
theorem nf(h:SR N w0 S0 E st a.tmps)(hd:ay N o.dst){t:TypeId}{A:Operand}(C:o.op= .load t A){d:TypeDesc}{i:TypeInfo}(z:P.underlying t=some d)(hi:P.info? t=some i)
  (_:au P t=true\/i.size=1) {b off:Nat} (B:a.eval A= .pointer (some ⟨E.κ b,off,none⟩)) {bx:BX} (S:st.bx b=some bx):
  Sound P N w0 S0 o a E st (eQ b bx off i.size (au P t)):=by
 have X:=h.bx b bx S;cases J:bx.isM with
 |true=>cases bx <;> first|trivial|cases J
 |false=>
 obtain ⟨cs,e,W,Y⟩:=X.cells J;have c: ∀j,E.w.cell? ⟨E.κ b,j,none⟩=cs[j]? :=fun j=>cell_of_row _ _ _ _ _ _ W
 cases Y with
 |d m ts U L s=>
  unfold eQ lW;cases n:au P t with
  |true=>
   have y:off+i.size<=m->Did P N w0 S0 o a E (st.app o.dst (aU [b] (.agg ((ts.drop off).take i.size)))):=fun O=>by
    have l:((cs.toList.drop off).take i.size).length=i.size:=by simp;omega
    refine ai h hd (bZ C B (b9 z hi n _ _ _ ((cs.toList.drop off).take i.size) l fun j v k=>?_)) (.t _ _ (dW (fun j x u r f=>?_) ?_))
    ·rw [aF] at k;split at k
     ·rw [c];simpa using k
     ·cases k
    ·rw [aF] at r f;split at r
     ·rename_i k;rw [if_pos k] at f;exact s (off+j) x u (by simpa using r) f
     ·cases r
    ·rw [l];simp [U];omega
   simp only;cases q:(Nat.beq off 0&&Nat.beq m i.size) with
   |true=>
    simp only [Bool.and_eq_true] at q;have D:off=0:=Nat.eq_of_beq_eq_true q.1;have Z:m=i.size:=Nat.eq_of_beq_eq_true q.2
    have:=y (by omega)
    rw [D,List.drop_zero,List.take_of_length_le (by omega)] at this;exact this
   |false=>exact y
  |false=>
   intro g;have M:off<cs.size:=by omega
   have F:E.w.cell? ⟨E.κ b,off,none⟩=some cs[off]:=by rw [c];simp [M]
   have Q:ts[off]? =some (ts[off]?.getD .nil):=by
    have:off<ts.length:=by omega
    simp [this]
   exact ai h hd (bZ C B (ba z n _ _ _ F)) (.t _ _ (s off _ _ (by simp [M]) Q).1)
 |v vs L s=>
  unfold eQ;cases n:au P t with
  |true=>
   simp only;cases R:eI ((vs.drop off).take i.size) with
   |none=>trivial
   |some ts=>
   simp only;cases q:Nat.beq ts.length i.size with
   |false=>trivial
   |true=>
   have q:=Nat.eq_of_beq_eq_true q;obtain ⟨T,V⟩:=kR R;rw [List.length_take,List.length_drop,q] at T;simp only [cond_true];have l:((cs.toList.drop off).take i.size).length=i.size:=by simp;omega
   refine ai h hd (bZ C B (b9 z hi n _ _ _ ((cs.toList.drop off).take i.size) l fun j v k=>?_)) (.t _ _ (dW (fun j x u r f=>?_) ?_))
   ·rw [aF] at k;split at k
    ·rw [c];simpa using k
    ·cases k
   ·have p:=r;rw [aF] at p;split at p
    ·rename_i k;have g:off+j<vs.length:=by
      have:=(gsZ f).1
      omega
     have G:((vs.drop off).take i.size)[j]? =some vs[off+j]:=by rw [aF,if_pos k];exact ggZ g
     have K:=s (off+j) x _ (by simpa using p) (ggZ g);have I:=aB K.1 (V j _ u G f);exact ⟨I,I.kG K.2⟩
    ·cases p
   ·rw [l,q]
  |false=>
   simp only;cases H:vs[off]? with
   |none=>trivial
   |some u=>
    have g:off<cs.size:=Nat.lt_of_lt_of_le (gsZ H).1 L;have F:E.w.cell? ⟨E.κ b,off,none⟩=some cs[off]:=by rw [c];simp [g]
    exact ai h hd (bZ C B (ba z n _ _ _ F)) (s off _ _ (by simp [g]) H).1
theorem iq(h:SR N w0 S0 E st a.tmps)(hd:ay N o.dst){t:TypeId}{A:Operand}(y:o.op= .load t A){d:TypeDesc}{i:TypeInfo}(q:P.underlying t=some d)(hi:P.info? t=some i)
  (_:au P t=true\/i.size=1) {cs:List T} {off:Nat} (r:Rep E.S E.w (a.eval A) (.cptr cs off)):
  Sound P N w0 S0 o a E st (match au P t with
   |true=>cond (Nat.beq off 0) (.eq (cs.length=i.size) (.agg cs) (aU [])) (.eq (off+i.size<=cs.length) (.agg ((cs.drop off).take i.size)) (aU []))
   |false=>.eq (off<cs.length) (cs[off]?.getD .nil) (aU [])):=by
 generalize p:a.eval A=v at r;cases r with
 |cptr b z _ _ g I B s=>
  cases k:au P t with
  |true=>
   have f:off+i.size<=cs.length->Did P N w0 S0 o a E (st.app o.dst (aU [] (.agg ((cs.drop off).take i.size)))):=fun C=>by
    refine ai h hd (bZ y p (b9 q hi k _ _ _ ((List.range i.size).map fun j=>g (off+j)) (by simp) fun j v n=>?_)) (.t _ _ (dW (fun j x u l e=>?_) ?_))
    ·have c:j<i.size:=by simpa using (gsZ n).1
     simp [c] at n
     have:=(B (off+j) (by omega)).1
     rw [show z+off+j=z+(off+j) by omega,this,n]
    ·have c:j<i.size:=by simpa using (gsZ l).1
     simp [c] at l;rw [aF,if_pos c] at e;subst l;exact ⟨s _ _ e,I _ (List.mem_of_getElem? e)⟩
    ·simp;omega
   simp only;cases F:Nat.beq off 0 with
   |true=>
    intro G;have m:off=0:=Nat.eq_of_beq_eq_true F
    have:=f (by omega)
    rw [m,List.drop_zero,List.take_of_length_le (by omega)] at this;exact this
   |false=>exact f
  |false=>
   intro c;have H:=(B off c).1;have D:cs[off]? =some (cs[off]?.getD .nil):=by simp [c]
   exact ai h hd (bZ y p (ba q k _ _ _ H)) (.t _ _ (s off _ D))
theorem qI(h:SR N w0 S0 E st a.tmps)(hd:ay N o.dst){t:TypeId}{A:Operand}(G:o.op= .load t A){x:DOp}(n:ah P o.op=some x):Sound P N w0 S0 o a E st (eff x (st.nm o.dst) st.sl st.bx):=by
 rw [G] at n;simp only [ah] at n;split at n
 ·rename_i d i y H hi hy;have l:au P t=true\/i.size=1:=by
   cases Z:(au P t||Nat.beq i.size 1) with
   |false=>rw [Z] at n;cases n
   |true=>
    rw [Bool.or_eq_true] at Z;exact Z.imp id Nat.eq_of_beq_eq_true
  have Z:(au P t||Nat.beq i.size 1)=true:=by
   rcases l with l|l <;> simp [l]
  rw [Z] at n;simp only [cond_true,Option.some.injEq] at n;subst n;have B:=af h.sl hy;unfold eff;simp only;cases hev:ev st.sl y with
  |ptr b off=>
   rw [hev] at B;obtain ⟨hp,_⟩:=B.bd;simp only;cases hb:st.bx b with
   |none=>trivial
   |some bx=>exact nf h hd G H hi l hp hb
  |t v=>
   rw [hev] at B;cases v with
   |cptr cs off=>exact iq h hd G H hi l B.ax
   |glob g off=>
    simp only;cases hg:Glb.gs g with
    |none=>trivial
    |some cs=>
     have z:=B.ax;have hA:Rep E.S E.w (a.eval A) (.cptr cs off):=by
      generalize a.eval A=v at z;cases z;exact h.iZ.rep hg off
     exact iq h hd G H hi l hA
   |knot f pre K=>
    simp only;cases r:au P t with
    |true=>trivial
    |false=>
     have z:=B.ax;generalize C:a.eval A=v at z;cases z with
     |knot b o' _ I c2 _ _ j s hg p m=>
      refine ai h hd (bZ G C (ba H r _ _ _ hg.1)) (.t _ _ (.clos f _ _ (by simp [j,s];omega) fun i x u k e=>?_))
      by_cases F:i<I.size
      ·rw [Array.getElem?_append_left (by simp;omega),Array.getElem?_append_left F] at k;rw [List.getElem?_append_left (by simp;omega),List.getElem?_append_left (by omega)] at e;exact p i x u k e
      ·by_cases D:i=I.size
       ·subst D;rw [Array.getElem?_append_left (by simp),Array.getElem?_append_right (by simp)] at k;rw [List.getElem?_append_left (by simp [j]),List.getElem?_append_right (by omega)] at e;simp [j] at k e;subst k;subst e;exact .knot b o' f I c2 pre K j s hg p m
       ·rw [Array.getElem?_append_right (by simp;omega)] at k;rw [List.getElem?_append_right (by simp;omega)] at e;simp at k e;rw [<- j] at e;exact m _ x u k e
   |wrld V R J O U M off=>
    simp only;cases r:au P t with
    |true=>trivial
    |false=>
     have z:=B.ax;generalize C:a.eval A=v at z;cases z with
     |wrld b o' b' q _ _ _ I d1 c2 d2 _ _ _ _ X W Y L hw l h2 r1 r2 r3 r4=>
      have Q:Rep E.S E.w (.pointer (some ⟨b',q,none⟩)) (.cptr [.wrld V R J O U M 0] 0):=by
       have:=Rep.cptr (S:=E.S) (w:=E.w) b' q 0 [.wrld V R J O U M 0] (fun _=>.pointer (some ⟨b,o',none⟩)) (by simp [T.one])
        (fun i hi=>by
         have:i=0:=by simp at hi;omega
         subst this;exact hw)
        (fun i t ht=>by
         have:i=0:=by have:=(gsZ ht).1;simp at this;omega
         subst this;simp at ht;subst ht;exact .wrld b o' b' q 0 V O I d1 c2 d2 R J U M X W Y L hw l h2 r1 r2 r3 r4)
       exact this
      have split: ∀(f:FuncId) (c d:Array Value) (x y:List T),c.size=x.length->d.size=y.length->(∀ (i:Nat) (v:Value) (t:T),c[i]? =some v->x[i]? =some t->Rep E.S E.w v t)->(∀ (i:Nat) (v:Value) (t:T),d[i]? =some v->y[i]? =some t->Rep E.S E.w v t)->
        Rep E.S E.w (.func (.func f) #[] (c++ #[.pointer (some ⟨b',q,none⟩)]++d)) (.clos f (x++[.cptr [.wrld V R J O U M 0] 0]++y)):=fun f c d x y j s p m=>by
       refine .clos f _ _ (by simp [j,s];omega) fun i v u k e=>?_
       by_cases F:i<c.size
       ·rw [Array.getElem?_append_left (by simp;omega),Array.getElem?_append_left F] at k;rw [List.getElem?_append_left (by simp;omega),List.getElem?_append_left (by omega)] at e;exact p i v u k e
       ·by_cases D:i=c.size
        ·subst D;rw [Array.getElem?_append_left (by simp),Array.getElem?_append_right (by simp)] at k;rw [List.getElem?_append_left (by simp [j]),List.getElem?_append_right (by omega)] at e;simp [j] at k e;subst k;subst e;exact Q
        ·rw [Array.getElem?_append_right (by simp;omega)] at k;rw [List.getElem?_append_right (by simp;omega)] at e;simp at k e;rw [<- j] at e;exact m _ v u k e
      match off,C with
      |0,C=>exact ai h hd (bZ G C (ba H r _ _ _ l.1)) (.t _ _ (split V I d1 R J X W r1 r2))
      |1,C=>exact ai h hd (bZ G C (ba H r _ _ _ h2.1)) (.t _ _ (split O c2 d2 U M Y L r3 r4))
      |_+2,_=>trivial
   |_=>trivial
  |_=>trivial
 ·cases n
end
end Go.DL
end
section
namespace Go.DL
open Go.RowKit
section
variable [Glb]{P:Program}{N:Nat}{w0:World}{S0:aa}{o:Oper}{a:Act}{E:Env}{st:St}
end
section
variable {P:Program}{N:Nat}{w0:World}{S0:aa}{o:Oper}{a:Act}{E:Env}{st:St}
theorem gd{d:Option Nat}{v:V}{n:Nat}{c:BX}{rd:List Nat}:st.app d {val:=v,wr:=some (n,c),rd:=rd }=({st with bx:=upd st.bx n (some c)}:St).set d v:=by
 cases d <;> rfl
theorem VR.one{v:Value}{u:V}(h:VR E v u)(c: ∀x,u≠ .t x)(d:u≠ .top)(f: ∀vs,u≠ .tup vs)(j: ∀vs,u≠ .agv vs):v.oneCell'=true:=by
 cases h with
 |top=>exact absurd rfl d
 |t v x h=>exact absurd rfl (c x)
 |tup cs vs=>exact absurd rfl (f vs)
 |agv cs vs=>exact absurd rfl (j vs)
 |raw v b=>exact b
 |own v r e size xs h=>
  obtain ⟨cells,b,_,_⟩:=h.ex;rcases b.2 with ⟨rfl,_⟩|⟨g,cap,i,rfl,_⟩ <;> rfl
 |_=>rfl
theorem VR.oL{v:Value}{u:V}(h:VR E v u)(c: ∀x,u≠ .t x)(d:u≠ .top)(b: ∀vs,u≠ .tup vs)(e: ∀vs,u≠ .agv vs):v.cells= #[v]:=by
 have:=h.one c d b e
 cases v <;> first|rfl|simp [Value.oneCell'] at this
theorem om{t:TypeId}{A X:Operand}(c:o.op= .store t A X){b:Addr}(f:a.eval A= .pointer (some b)){i:TypeInfo}(hi:P.info? t=some i){w w':World}(d:(a.eval X).cells.size=i.size)
  (e:(storeCells b (a.eval X).cells.toList).run P w= .ok () w'):(execOp a.eval o).run P w= .ok .skip w':=by
 unfold execOp;simp [c,f,Instr.storeAt,Instr.sureAddr,storeVar,run_sizeOf hi,d,e]
theorem bD{α:Type}(cs:List α)(off n:Nat)(vs:List α)(d:vs.length=n)(e:off+n<=cs.length)(j:Nat):
  (aN cs off n vs)[j]? =if j<off then cs[j]? else if j<off+n then vs[j - off]? else cs[j]? :=by
 unfold aN;rw [List.getElem?_append,List.length_take,Nat.min_eq_left (by omega)]
 by_cases b:j<off
 ·rw [if_pos b,if_pos b,List.getElem?_take,if_pos b]
 ·rw [if_neg b,if_neg b,List.getElem?_append,d]
  by_cases c:j<off+n
  ·rw [if_pos (by omega),if_pos c]
  ·rw [if_neg (by omega),if_neg c,List.getElem?_drop]
   congr 1;omega
theorem bN{α:Type}(cs:List α)(off n:Nat)(vs:List α)(b:vs.length=n)(c:off+n<=cs.length):(aN cs off n vs).length=cs.length:=by
 unfold aN;simp [b];omega
end
section
variable [Glb]{P:Program}{N:Nat}{w0:World}{S0:aa}{o:Oper}{a:Act}{E:Env}{st:St}
theorem fA(h:SR N w0 S0 E st a.tmps)(hd:ay N o.dst){t:TypeId}{A X:Operand}(s:o.op= .store t A X){i:TypeInfo}(hi:P.info? t=some i)
  {b off:Nat} (q:a.eval A= .pointer (some ⟨E.κ b,off,none⟩)) {bx:BX} (m:st.bx b=some bx) (k:bx.isM=false) (vs:List Value) (c:(a.eval X).cells.toList=vs) (d:vs.length=i.size) (p: ∀v∈vs,v.oneCell'=true)
  (j:BX) (r: ∀cs:Array Value,cH E cs bx->off+vs.length<=cs.size/\ ∀n,Grow E n->cH n (cs.toList.take off++vs++cs.toList.drop (off+vs.length)).toArray j) {rd:List Nat}:
  Did P N w0 S0 o a E (st.app o.dst {val:=.top,wr:=some (b,j),rd:=rd }):=by
 have x:=h.bx b bx m;obtain ⟨cs,e,u,y⟩:=x.cells k;obtain ⟨z,f⟩:=r cs y;have l:=run_storeCells_at P (E.κ b) off e vs 0 cs E.w u (by omega) p;simp only [Nat.add_zero] at l;have g:(a.eval X).cells.size=i.size:=by rw [<- d, <-c];simp
 refine ⟨.skip,undef,{E with w:=E.w.setRow (E.κ b) (cs.toList.take off++vs++cs.toList.drop (off+vs.length)).toArray },om s q hi g (by rw [c];exact l),.inr ⟨rfl,rfl⟩,?_⟩;rw [gd];exact (h.write m k _ j f).cN hd (.top _)
end
section
variable {P:Program}{N:Nat}{w0:World}{S0:aa}{o:Oper}{a:Act}{E:Env}{st:St}
theorem bz(cs:List Value)(off:Nat)(vs:List Value)(b:off+vs.length<=cs.length)(j:Nat):
  (cs.take off++vs++cs.drop (off+vs.length))[j]? =if j<off then cs[j]? else if j<off+vs.length then vs[j - off]? else cs[j]? :=by
 have:=bD cs off vs.length vs rfl b j
 unfold aN at this;rw [<- List.append_assoc] at this;exact this
end
section
variable [Glb]{P:Program}{N:Nat}{w0:World}{S0:aa}{o:Oper}{a:Act}{E:Env}{st:St}
theorem pD(h:SR N w0 S0 E st a.tmps)(hd:ay N o.dst){t:TypeId}{A X:Operand}(ho:o.op= .store t A X){x:DOp}(U:ah P o.op=some x):Sound P N w0 S0 o a E st (eff x (st.nm o.dst) st.sl st.bx):=by
 rw [ho] at U;simp only [ah] at U;split at U
 ·rename_i i y z hi hy hz;simp only [Option.some.injEq] at U;subst U;have hey:=af h.sl hy;have p:=af h.sl hz;unfold eff;simp only;cases hev:ev st.sl y with
  |ptr b off=>
   rw [hev] at hey;obtain ⟨hp,_⟩:=hey.bd;simp only;cases W:st.bx b with
   |none=>trivial
   |some bx=>
    simp only;cases B:bx.isM with
    |true=>cases bx <;> first|trivial|cases B
    |false=>
    have Z: ∀(m:Nat) (ts:List T) (u:T),bx= .d m ts->Rep E.S E.w (a.eval X) u->u.one=true->i.size=1->off<m->Did P N w0 S0 o a E (st.app o.dst {val:=.top,wr:=some (b,.d m (ts.set off u)),rd:=[b]}):=by
     intro m ts u q s O I k;have R:(a.eval X).cells.toList=[a.eval X]:=by rw [s.cells_one O]
     refine fA h hd ho hi hp W B [a.eval X] R (by simp [I]) (by simp;exact s.one O) _ (fun cs K=>?_);subst q;cases K with
     |d _ _ F M C=>
      refine ⟨by simp;omega,fun E' g=>?_⟩;refine .d m _ (by simp [F]) (by simp;omega) (fun j v w c f=>?_);rw [List.getElem?_toArray,bz _ _ _ (by simp;omega)] at c;rw [List.getElem?_set] at f
      by_cases G:j=off
      ·subst G;simp at c f;have D:u=w:=f.2;subst D;subst c;exact ⟨g.rep s,O⟩
      ·rw [if_neg (show ¬off=j from fun e=>G e.symm)] at f
       by_cases r:j<off
       ·rw [if_pos r] at c
        have:=C j v w (by simpa using c) f
        exact ⟨g.rep this.1,this.2⟩
       ·rw [if_neg r,if_neg (by simp;omega)] at c
        have:=C j v w (by simpa using c) f
        exact ⟨g.rep this.1,this.2⟩
    have dV: ∀(vs:List V) (u:V),(bx= .v vs\/ ∃m ts,bx= .d m ts/\vs=ts.map .t)->VR E (a.eval X) u->(a.eval X).oneCell'=true->i.size=1->off<vs.length->
      Did P N w0 S0 o a E (st.app o.dst {val:=.top,wr:=some (b,.v (vs.set off u)),rd:=[b]}):=by
     intro vs u q s l I k;have R:(a.eval X).cells.toList=[a.eval X]:=by
      have:(a.eval X).cells= #[a.eval X]:=by
       revert l
       cases a.eval X <;> intro l <;> first|rfl|simp [Value.oneCell'] at l
      rw [this]
     refine fA h hd ho hi hp W B [a.eval X] R (by simp [I]) (by simp;exact l) _ (fun cs K=>?_);have hc':vs.length<=cs.size/\ ∀(i:Nat) (x:Value) (u:V),cs[i]? =some x->vs[i]? =some u->VR E x u/\x.oneCell'=true:=by
      rcases q with rfl|⟨m,ts,rfl,rfl⟩
      ·cases K with
       |v _ r L=>exact ⟨r,L⟩
      ·cases K with
       |d _ _ r L h3=>
        refine ⟨by simp;omega,fun j v w c f=>?_⟩;simp only [List.getElem?_map,Option.map_eq_some_iff] at f;obtain ⟨t',ht',rfl⟩:=f
        have:=h3 j v t' c ht'
        exact ⟨.t _ _ this.1,this.1.one this.2⟩
     obtain ⟨M,C⟩:=hc';refine ⟨by simp;omega,fun E' g=>?_⟩;refine .v _ (by simp;omega) (fun j v w c f=>?_);rw [List.getElem?_toArray,bz _ _ _ (by simp;omega)] at c;rw [List.getElem?_set] at f
     by_cases G:j=off
     ·subst G;simp at c f;have D:u=w:=f.2;subst D;subst c;exact ⟨s.grow g,l⟩
     ·rw [if_neg (show ¬off=j from fun e=>G e.symm)] at f
      by_cases r:j<off
      ·rw [if_pos r] at c
       have:=C j v w (by simpa using c) f
       exact ⟨this.1.grow g,this.2⟩
      ·rw [if_neg r,if_neg (by simp;omega)] at c
       have:=C j v w (by simpa using c) f
       exact ⟨this.1.grow g,this.2⟩
    have Y: ∀(m:Nat) (ts cs:List T),bx= .d m ts->Rep E.S E.w (a.eval X) (.agg cs)->cs.length=i.size/\off+i.size<=m->Did P N w0 S0 o a E (st.app o.dst {val:=.top,wr:=some (b,.d m (aN ts off i.size cs)),rd:=[b]}):=by
     rintro m ts us q s ⟨n,hle⟩;obtain ⟨H,J⟩:=s.cells (fun ts e=>by cases e);have H:(a.eval X).cells.size=us.length:=H;refine fA h hd ho hi hp W B (a.eval X).cells.toList rfl (by simp;omega) (fun v c=>?_) _ (fun cs K=>?_)
     ·obtain ⟨j,G⟩:=List.mem_iff_getElem?.1 c;have k:j<us.length:=by
       have:=(gsZ G).1
       simp at this;omega
      have:=J j v us[j] (by simpa using G) (ggZ k)
      exact this.1.one this.2
     ·subst q;cases K with
      |d _ _ F M C=>
       refine ⟨by simp;omega,fun E' g=>?_⟩;have hL:(a.eval X).cells.toList.length=i.size:=by simp;omega
       refine .d m _ (by rw [bN _ _ _ _ n (by omega)];exact F) (by simp;omega) (fun j v w c f=>?_);rw [List.getElem?_toArray,bz _ _ _ (by simp;omega)] at c;rw [bD _ _ _ _ n (by omega)] at f
       by_cases r:j<off
       ·rw [if_pos r] at c f
        have:=C j v w (by simpa using c) f
        exact ⟨g.rep this.1,this.2⟩
       ·rw [if_neg r] at c f
        by_cases L:j<off+i.size
        ·rw [if_pos (by omega)] at c;rw [if_pos L] at f
         have:=J (j - off) v w (by simpa using c) f
         exact ⟨g.rep this.1,this.2⟩
        ·rw [if_neg (by omega)] at c;rw [if_neg L] at f
         have:=C j v w (by simpa using c) f
         exact ⟨g.rep this.1,this.2⟩
    have Q: ∀(vs:List V) (cs:List T),bx= .v vs->Rep E.S E.w (a.eval X) (.agg cs)->cs.length=i.size/\off+i.size<=vs.length->Did P N w0 S0 o a E (st.app o.dst {val:=.top,wr:=some (b,.v (aN vs off i.size (cs.map .t))),rd:=[b]}):=by
     rintro vs us q s ⟨n,hle⟩;obtain ⟨H,J⟩:=s.cells (fun ts e=>by cases e);have H:(a.eval X).cells.size=us.length:=H;refine fA h hd ho hi hp W B (a.eval X).cells.toList rfl (by simp;omega) (fun v c=>?_) _ (fun cs K=>?_)
     ·obtain ⟨j,G⟩:=List.mem_iff_getElem?.1 c;have k:j<us.length:=by
       have:=(gsZ G).1
       simp at this;omega
      have:=J j v us[j] (by simpa using G) (ggZ k)
      exact this.1.one this.2
     ·subst q;cases K with
      |v _ M C=>
       refine ⟨by simp;omega,fun E' g=>?_⟩;have hL:(a.eval X).cells.toList.length=i.size:=by simp;omega
       refine .v _ (by rw [bN _ _ _ _ (by simpa using n) (by omega)];simp;omega) (fun j v w c f=>?_);rw [List.getElem?_toArray,bz _ _ _ (by simp;omega)] at c;rw [bD _ _ _ _ (by simpa using n) (by omega)] at f
       by_cases r:j<off
       ·rw [if_pos r] at c f
        have:=C j v w (by simpa using c) f
        exact ⟨this.1.grow g,this.2⟩
       ·rw [if_neg r] at c f
        by_cases L:j<off+i.size
        ·rw [if_pos (by omega)] at c;rw [if_pos L] at f;simp only [List.getElem?_map,Option.map_eq_some_iff] at f;obtain ⟨w',D,rfl⟩:=f
         have:=J (j - off) v w' (by simpa using c) D
         exact ⟨.t _ _ (g.rep this.1),this.1.one this.2⟩
        ·rw [if_neg (by omega)] at c;rw [if_neg L] at f
         have:=C j v w (by simpa using c) f
         exact ⟨this.1.grow g,this.2⟩
    cases hx:ev st.sl z with
    |t u=>
     rw [hx] at p;have s:=p.ax;cases bx with
     |m _ _ _ _=>cases B
     |it _ _ _ _=>cases B
     |itd _ _=>cases B
     |d m ts=>
      cases u with
      |tup _=>trivial
      |agg cs=>exact Y m ts cs rfl s
      |_=>
       unfold gG;simp only;cases I:Nat.beq i.size 1 with
       |false=>trivial
       |true=>exact fun k=>Z m ts _ rfl s rfl (Nat.eq_of_beq_eq_true I) k
     |v vs=>
      cases u with
      |tup _=>trivial
      |agg cs=>exact Q vs cs rfl s
      |_=>
       unfold gG;simp only;cases I:Nat.beq i.size 1 with
       |false=>trivial
       |true=>exact fun k=>dV vs _ (.inl rfl) p (s.one rfl) (Nat.eq_of_beq_eq_true I) k
    |top=>cases bx <;> trivial
    |tup vs=>cases bx <;> trivial
    |agv vs=>cases bx <;> trivial
    |_=>
     rw [hx] at p;have l:=p.one (fun _ e=>by cases e) (fun e=>by cases e) (fun _ e=>by cases e) (fun _ e=>by cases e);cases bx with
     |m _ _ _ _=>cases B
     |it _ _ _ _=>cases B
     |itd _ _=>cases B
     |d m ts=>
      unfold gG;simp only;cases I:Nat.beq i.size 1 with
      |false=>trivial
      |true=>
       intro k;have hm:ts.length=m:=by
        obtain ⟨cs,e,hg,K⟩:=(h.bx b _ W).cells rfl;cases K with
        |d _ _ F _ _=>exact F
       exact dV (ts.map .t) _ (.inr ⟨m,ts,rfl,rfl⟩) p l (Nat.eq_of_beq_eq_true I) (by simp;omega)
     |v vs=>
      unfold gG;simp only;cases I:Nat.beq i.size 1 with
      |false=>trivial
      |true=>exact fun k=>dV vs _ (.inl rfl) p l (Nat.eq_of_beq_eq_true I) k
  |t v=>trivial
  |_=>trivial
 ·cases U
end
end Go.DL
end
section
namespace Go.DL
open Go.RowKit
section
variable [Glb]{P:Program}{N:Nat}{w0:World}{S0:aa}{o:Oper}{a:Act}{E:Env}{st:St}
theorem gk(h:SR N w0 S0 E st a.tmps){d q:Nat}(hd:d<N)(c:o.dst=some d)(f:st.bx q=none)(cs:Array Value)(e:TypeId)(b:BX)(g:cH E cs b){rd:List Nat}
  (i:(execOp a.eval o).run P E.w= .ok (.value (.pointer (some ⟨E.w.heap.size,0,none⟩))) (E.w.alloc (.cells cs e))):
  Did P N w0 S0 o a E (st.app (some d) {val:=.ptr q 0,wr:=some (q,b),rd:=rd }):=by
 refine ⟨_,_,{E with w:=E.w.alloc (.cells cs e),κ:=upd E.κ q E.w.heap.size,live:=upd E.live q true },i,.inl rfl,?_⟩;rw [c];exact h.alloc f cs e b g hd 0
end
section
variable {P:Program}{N:Nat}{w0:World}{S0:aa}{o:Oper}{a:Act}{E:Env}{st:St}
theorem iA{S:ar}{w:World}{v:Value}{t:T}(h:eF v=some t):v.cells.size=t.cells.length/\ ∀(i:Nat) (x:Value) (u:T),v.cells[i]? =some x->t.cells[i]? =some u->Rep S w x u/\u.one=true:=by
 refine (gL h).cells (fun ts e=>?_);subst e;unfold eF at h;split at h
 ·cases b:List.mapM dS _ with
  |none=>rw [b] at h;cases h
  |some ts=>rw [b] at h;cases h
 ·unfold dS at h;split at h <;> cases h
theorem dm{t:TypeId}{b:List T}(h:cq P t=some b): ∃i z,P.info? t=some i/\i.zero=some z/\i.size=b.length/\z.cells.size=b.length/\(∀ (S:ar) (w:World) (j:Nat) (x:Value) (u:T),z.cells[j]? =some x->b[j]? =some u->Rep S w x u/\u.one=true)/\
  ∃e,eF z=some e/\e.cells=b:=by
 unfold cq at h;split at h
 ·rename_i i hi;split at h
  ·rename_i z f;split at h
   ·rename_i x c;cases d:Nat.beq x.cells.length i.size with
    |false=>rw [d] at h;cases h
    |true=>
     rw [d] at h;simp only [cond_true,Option.some.injEq] at h;subst h
     have:=Nat.eq_of_beq_eq_true d
     exact ⟨i,z,hi,f,this.symm,(iA (S:=fun _ _=>False) (w:=default) c).1,fun S w=>(iA (S:=S) (w:=w) c).2,x,c,rfl⟩
   ·cases h
  ·cases h
 ·cases h
end
section
variable [Glb]{P:Program}{N:Nat}{w0:World}{S0:aa}{o:Oper}{a:Act}{E:Env}{st:St}
theorem po(h:SR N w0 S0 E st a.tmps)(hd:ay N o.dst){t:TypeId}(j:o.op= .alloc t){x:DOp}(c:ah P o.op=some x):Sound P N w0 S0 o a E st (eff x (st.nm o.dst) st.sl st.bx):=by
 rw [j] at c;simp only [ah,Option.map_eq_some_iff] at c;obtain ⟨m,k,rfl⟩:=c;obtain ⟨i,z,hi,g,_,e,n,_⟩:=dm k;unfold eff;cases f:o.dst with
 |none=>trivial
 |some d=>
  rw [f] at hd;simp only [St.nm];cases l:st.bx (d+st.off) with
  |some b=>trivial
  |none=>
   show Did P N w0 S0 o a E (st.app o.dst _)
   rw [f];refine gk h hd f l z.cells t _ (.d _ m rfl (Nat.le_of_eq e.symm) (n _ _)) ?_;unfold execOp;simp [j,Instr.alloc,zeroValue,typeInfo,hi,g,newVar,newRow]
theorem rH(h:SR N w0 S0 E st a.tmps)(hd:ay N o.dst){t:TypeId}{X:Operand}(H:o.op= .box t X){x:DOp}(r:ah P o.op=some x):Sound P N w0 S0 o a E st (eff x (st.nm o.dst) st.sl st.bx):=by
 rw [H] at r;simp only [ah] at r;split at r
 ·rename_i i y hi K;simp only [Option.some.injEq] at r;subst r;have k:=af h.sl K;unfold eff;cases n:o.dst with
  |none=>trivial
  |some d=>
   rw [n] at hd;simp only [St.nm];have f:(execOp a.eval o).run P E.w= .ok (.value (.pointer (some ⟨E.w.heap.size,0,none⟩))) (E.w.alloc (.cells (a.eval X).cells t)):=by
    unfold execOp;simp [H,Instr.box,newVar,newRow]
   cases C:st.bx (d+st.off) with
   |some b=>trivial
   |none=>
    have s: ∀u:V,ev st.sl y=u->(∀ x,u≠ .t x)->u≠ .top->(∀ vs,u≠ .tup vs)->(∀ vs,u≠ .agv vs)->Sound P N w0 S0 o a E st (match (none:Option BX),cond (Nat.beq i.size 1) (some (True,BX.v [u])) none with
      |none,some (c,b)=>cr.need c {val:=.ptr (d+st.off) 0,wr:=some (d+st.off,b),rd:=[d+st.off]}
      |_,_=>.no):=by
     intro u I p z G F;rw [I] at k;cases Nat.beq i.size 1 with
     |false=>trivial
     |true=>
      intro _;rw [n];refine gk h hd n C _ t _ (.v _ (by rw [k.oL p z G F];exact Nat.le_refl _) (fun j v w l m=>?_)) f;rw [k.oL p z G F] at l;cases j with
      |zero=>simp at l m;subst l;subst m;exact ⟨k,k.one p z G F⟩
      |succ j=>simp at m
    cases D:ev st.sl y with
    |t u=>
     rw [D] at k;have B:=k.ax;have A:u.one=true->Sound P N w0 S0 o a E st (match (none:Option BX),cond (Nat.beq i.size 1) (some (True,BX.d 1 [u])) none with
      |none,some (c,b)=>cr.need c {val:=.ptr (d+st.off) 0,wr:=some (d+st.off,b),rd:=[d+st.off]}
      |_,_=>.no):=by
      intro q;cases Nat.beq i.size 1 with
      |false=>trivial
      |true=>
       intro _;rw [n];refine gk h hd n C _ t _ (.d 1 [u] rfl (by rw [B.cells_one q];exact Nat.le_refl _) (fun j v w l m=>?_)) f;rw [B.cells_one q] at l;cases j with
       |zero=>simp at l m;subst l;subst m;exact ⟨B,q⟩
       |succ j=>simp at m
     cases u with
     |tup _=>trivial
     |agg cs=>
      intro g;rw [n];obtain ⟨p,z⟩:=B.cells (fun ts e=>by cases e);exact gk h hd n C _ t _ (.d _ cs g (Nat.le_of_eq (p.trans g).symm) z) f
     |_=>exact A rfl
    |top=>trivial
    |tup vs=>trivial
    |agv vs=>
     rw [D] at k;intro g;rw [n];generalize a.eval X=v at k f;cases k with
     |agv cs _ L p J=>exact gk h hd n C _ t _ (.v vs (Nat.le_of_eq L.symm) (fun j v w l m=>⟨J j v w l m,p j v l⟩)) f
    |_=>exact s _ D (fun _ e=>by cases e) (fun e=>by cases e) (fun _ e=>by cases e) (fun _ e=>by cases e)
 ·cases r
theorem nU(h:SR N w0 S0 E st a.tmps)(hd:ay N o.dst){X:Operand}{y:O}(b:o.op= .move X\/o.op= .assign X)(c:ak X=some y):Sound P N w0 S0 o a E st (eff (.mov y) (st.nm o.dst) st.sl st.bx):=by
 refine ai h hd (v:=a.eval X) ?_ (af h.sl c);unfold execOp;rcases b with b|b <;> simp [b]
theorem qO(h:SR N w0 S0 E st a.tmps)(hd:ay N o.dst){C A B:Operand}{c x y:O}(d:o.op= .pick C A B)(j:ak C=some c)(i:ak A=some x)(k:ak B=some y):
  Sound P N w0 S0 o a E st (eff (.pick c x y) (st.nm o.dst) st.sl st.bx):=by
 have e:=af h.sl j;unfold eff;simp only;cases g:ev st.sl c with
 |t u=>
  rw [g] at e;cases u with
  |bool b=>
   have f:=e.aP;cases b with
   |true=>exact ai h hd (v:=a.eval A) (by unfold execOp;simp [d,f,asBool]) (af h.sl i)
   |false=>exact ai h hd (v:=a.eval B) (by unfold execOp;simp [d,f,asBool]) (af h.sl k)
  |_=>trivial
 |_=>trivial
theorem qN(h:SR N w0 S0 E st a.tmps)(hd:ay N o.dst){s:TypeId}{X:Operand}{f:Nat}(G:o.op= .fieldAddr s X f){x:DOp}(c:ah P o.op=some x):Sound P N w0 S0 o a E st (eff x (st.nm o.dst) st.sl st.bx):=by
 rw [G] at c;simp only [ah] at c;split at c
 ·rename_i fs y J hy;split at c
  ·rename_i fd R;split at c
   ·rename_i i hi;cases m:Nat.beq i.size 0 with
    |true=>rw [m] at c;cases c
    |false=>
     rw [m] at c;simp only [cond_false,Option.some.injEq] at c;subst c;have D:i.size≠0:=fun e=>by rw [e] at m;cases m
     have d: ∀b off,a.eval X= .pointer (some ⟨b,off,none⟩)->(execOp a.eval o).run P E.w= .ok (.value (.pointer (some ⟨b,off+fd.offset,none⟩))) E.w:=fun b off k=>by
      unfold execOp;simp [G,k,Instr.fieldAt,run_underlying J,R,Instr.sureAddr,fieldPlace,run_sizeOf hi,D,bh]
     have l:=af h.sl hy;unfold eff;simp only;cases F:ev st.sl y with
     |ptr b off=>
      rw [F] at l;obtain ⟨Y,q⟩:=l.bd;exact ai h hd (d _ _ Y) (.ptr b _ q)
     |t u=>
      rw [F] at l;cases u with
      |cptr cs off=>
       have j:=l.ax;generalize k:a.eval X=v at j;cases j with
       |cptr b z _ _ g n hg K=>
        refine ai h hd (d _ _ k) (.t _ _ ?_);rw [Nat.add_assoc];exact .cptr b z _ cs g n hg K
      |glob g off=>
       have j:=l.ax;generalize k:a.eval X=v at j;cases j;exact ai h hd (d _ _ k) (.t _ _ (.glob g _))
      |wrld f1 V H Q W L off=>
       have j:=l.ax;generalize k:a.eval X=v at j;cases j with
       |wrld b z Z A _ _ _ c1 I O S _ _ _ _ B r C p T n U M r2 r3 r4=>
        refine ai h hd (d _ _ k) (.t _ _ ?_);rw [Nat.add_assoc];exact .wrld b z Z A _ f1 Q c1 I O S V H W L B r C p T n U M r2 r3 r4
      |_=>trivial
     |_=>trivial
   ·cases c
  ·cases c
 ·cases c
end
section
variable {P:Program}{N:Nat}{w0:World}{S0:aa}{o:Oper}{a:Act}{E:Env}{st:St}
theorem dQ{t e:TypeId}{len:Nat}{j:TypeInfo}(d:P.underlying t=some (.array len e))(g:P.info? e=some j)(b off:Nat)(k:IntKind)(n:Int)(f:0<=n)(c:n<len)(w:World):
  (Instr.indexAt t (.pointer (some ⟨b,off,none⟩)) (.int k n)).run P w= .ok (.pointer (some ⟨b,off+n.toNat * j.size,none⟩)) w:=by
 simp [Instr.indexAt,asIntOf,run_underlying d,Instr.sureAddr,f,c,run_sizeOf g,bh]
theorem gF{t e:TypeId}{j:TypeInfo}(d:P.underlying t=some (.slice e))(g:P.info? e=some j)(b off len cap:Nat)(k:IntKind)(n:Int)(f:0<=n)(c:n<len)(w:World):
  (Instr.indexAt t (.slice (some ⟨b,off,none⟩) len cap) (.int k n)).run P w= .ok (.pointer (some ⟨b,off+n.toNat * j.size,none⟩)) w:=by
 simp [Instr.indexAt,asIntOf,run_underlying d,f,c,run_sizeOf g,bh]
theorem jE{n:Nat}: ∀{xs:List T} (_: ∀x∈xs,x.cells.length=n) (k:Nat) (x:T),xs[k]? =some x-> ∀j,j<n->(xs.flatMap T.cells)[k * n+j]? =x.cells[j]?
 |[],_,k,x,b,_,_=>by simp at b
 |y::ys,hu,k,x,b,j,hj=>by
  rw [List.flatMap_cons];have c:=hu y (by simp);cases k with
  |zero=>
   simp at b;subst b;rw [Nat.zero_mul,Nat.zero_add,List.getElem?_append_left (by omega)]
  |succ k=>
   rw [List.getElem?_append_right (by rw [c,Nat.add_mul];omega)]
   have:=jE (fun x b=>hu x (List.mem_cons_of_mem _ b)) k x (by simpa using b) j hj
   rw [<- this]
   congr 1
   rw [c,Nat.add_mul];omega
theorem aI{n:Nat}: ∀{xs:List T} (_: ∀x∈xs,x.cells.length=n),(xs.flatMap T.cells).length=xs.length * n
 |[],_=>by simp
 |y::ys,hu=>by
  rw [List.flatMap_cons,List.length_append,hu y (by simp),aI (fun x b=>hu x (List.mem_cons_of_mem _ b)),List.length_cons,Nat.add_mul];omega
theorem qz{S:ar}{w:World}{v:Value}{n:Nat}{xs:List T}(h:Rep S w v (.slice n xs))(k:Nat)(f:k<xs.length)(x:0<n):
  ∃b off cap,v= .slice (some ⟨b,off,none⟩) xs.length cap/\Rep S w (.pointer (some ⟨b,off+k * n,none⟩)) (.cptr (xs[k]?.getD .nil).cells 0):=by
 cases h with
 |slice a b off len cap _ _ g s B l p z y r=>
  subst s;have c:=aI l;have q:0<(xs.flatMap T.cells).length:=by rw [c];exact Nat.mul_pos (by omega) x
  have d:xs[k]? =some xs[k]:=ggZ f;have u:(xs[k]).cells.length=n:=l _ (List.getElem_mem f);have m: ∀j,j<n->k * n+j<(xs.flatMap T.cells).length:=fun j A=>by
   rw [c]
   have:(k+1) * n<=xs.length * n:=Nat.mul_le_mul_right _ f
   rw [Nat.add_mul] at this;omega
  refine ⟨b,off,cap,by rw [z q],?_⟩;rw [d]
  have:=Rep.cptr (S:=S) (w:=w) b (off+k * n) 0 (xs[k]).cells (fun j=>g (k * n+j))
   (fun t e=>p t (List.mem_flatMap.2 ⟨_,List.getElem_mem f,e⟩))
   (fun i hi=>by
    have:=y (k * n+i) (m i (by omega))
    rwa [<- Nat.add_assoc] at this)
   (fun i t e=>r (k * n+i) t (by rw [jE l k _ d i (by have:=(gsZ e).1;omega)];exact e))
  simpa using this
end
section
variable [Glb]{P:Program}{N:Nat}{w0:World}{S0:aa}{o:Oper}{a:Act}{E:Env}{st:St}
theorem lP(h:SR N w0 S0 E st a.tmps)(hd:ay N o.dst){t:TypeId}{X I:Operand}(M:o.op= .indexAddr t X I){x:DOp}(l:ah P o.op=some x):Sound P N w0 S0 o a E st (eff x (st.nm o.dst) st.sl st.bx):=by
 have f: ∀r,(Instr.indexAt t (a.eval X) (a.eval I)).run P E.w= .ok r E.w->(execOp a.eval o).run P E.w= .ok (.value r) E.w:=fun r m=>by
  unfold execOp;simp [M,m]
 rw [M] at l;simp only [ah] at l;split at l
 ·rename_i len e y z u H G;split at l
  ·rename_i j A;simp only [Option.some.injEq] at l;subst l;have d:=af h.sl H;have c:=af h.sl G;unfold eff;simp only;split
   ·rename_i b off k n i p;rw [i] at d;rw [p] at c;obtain ⟨F,q⟩:=d.bd;rintro ⟨s,i⟩;exact ai h hd (f _ (by rw [F,c.aA];exact dQ u A _ _ _ _ s i _)) (.ptr b _ q)
   ·rename_i cs off k n i p;rw [i] at d;rw [p] at c;rintro ⟨s,i⟩;have m:=d.ax;generalize J:a.eval X=v at m;cases m with
    |cptr b V _ _ g R W Q=>
     refine ai h hd (f _ (by rw [J,c.aA];exact dQ u A _ _ _ _ s i _)) (.t _ _ ?_);rw [Nat.add_assoc];exact .cptr b V _ cs g R W Q
   ·rename_i g off k n i p;rw [i] at d;rw [p] at c;rintro ⟨s,i⟩;have m:=d.ax;generalize J:a.eval X=v at m;cases m;exact ai h hd (f _ (by rw [J,c.aA];exact dQ u A _ _ _ _ s i _)) (.t _ _ (.glob g _))
   ·trivial
  ·cases l
 ·rename_i e y z u H G;split at l
  ·rename_i j A;cases B:Nat.blt 0 j.size with
   |false=>rw [B] at l;cases l
   |true=>
   rw [B] at l;have B:0<j.size:=Nat.lt_of_lt_of_le (Nat.lt_succ_self 0) (nlZ B);simp only [cond_true,Option.some.injEq] at l;subst l;have d:=af h.sl H;have c:=af h.sl G;have C: ∀(xs:List T) (k:IntKind) (n:Int),Rep E.S E.w (a.eval X) (.slice j.size xs)->a.eval I= .int k n->0<=n/\n<xs.length->
     Did P N w0 S0 o a E (st.app o.dst {val:=.t (.cptr (xs[n.toNat]?.getD .nil).cells 0)}):=fun xs k n m U D=>by
    obtain ⟨b,off,cap,O,K⟩:=qz m n.toNat (by omega) B;exact ai h hd (f _ (by rw [O,U];exact gF u A _ _ _ _ _ _ D.1 D.2 _)) (.t _ _ K)
   unfold eff;simp only;split
   ·rename_i b off len sz k n i p;rw [i] at d;rw [p] at c;obtain ⟨cap,F,_,q⟩:=d.bM;cases L:Nat.beq j.size sz with
    |false=>trivial
    |true=>
     rintro ⟨s,i⟩;exact ai h hd (f _ (by rw [F,c.aA];exact gF u A _ _ _ _ _ _ s i _)) (.ptr b _ q)
   ·rename_i v k n p _;rw [p] at c;split
    ·rename_i sz xs Z;cases L:Nat.beq j.size sz with
     |false=>trivial
     |true=>
      have Y:j.size=sz:=Nat.eq_of_beq_eq_true L;intro D;have m:=aB d Z;rw [<- Y] at m;exact C xs k n m c.aA D
    ·trivial
   ·trivial
  ·cases l
 all_goals cases l
end
end Go.DL
end
section
namespace Go.DL
open Go.RowKit
section
variable [Glb]{P:Program}{N:Nat}{w0:World}{S0:aa}{o:Oper}{a:Act}{E:Env}{st:St}
end
section
variable {P:Program}{N:Nat}{w0:World}{S0:aa}{o:Oper}{a:Act}{E:Env}{st:St}
theorem fm{t:TypeId}{d:TypeDesc}{i:TypeInfo}(c:P.underlying t=some d)(hi:P.info? t=some i)(b:au P t=true)(cs:Array Value)(off:Nat)(w:World):
  (part t cs off).run P w= .ok (.agg (cs.extract off (off+i.size))) w:=by
 simp [part,fJ c,b,run_sizeOf hi]
theorem fq{t:TypeId}{d:TypeDesc}(e:P.underlying t=some d)(c:au P t=false)(cs:Array Value)(off:Nat)(v:Value)(b:cs[off]? =some v)(w:World):
  (part t cs off).run P w= .ok v w:=by
 simp [part,fJ e,c,b]
theorem nS{S:ar}{w:World}{cs:Array Value}{ts:List T}(h:Rep S w (.agg cs) (.agg ts))(off n:Nat)(f:off+n<=ts.length):Rep S w (.agg (cs.extract off (off+n))) (.agg ((ts.drop off).take n)):=by
 cases h with
 |agg _ _ e d g=>
  refine .agg _ _ (by simp [e];omega) (fun t b=>d t ?_) (fun i x t c b=>?_)
  ·exact List.mem_of_mem_drop (List.mem_of_mem_take b)
  ·rw [aF] at b;split at b
   ·rw [Array.getElem?_extract] at c;split at c
    ·exact g (off+i) x t c b
    ·cases c
   ·cases b
theorem nR{S:ar}{w:World}{cs:Array Value}{ts:List T}(h:Rep S w (.agg cs) (.agg ts))(off:Nat)(b:off<ts.length): ∃v,cs[off]? =some v/\Rep S w v (ts[off]?.getD .nil):=by
 cases h with
 |agg _ _ e d c=>
  have:off<cs.size:=by omega
  refine ⟨cs[off],by simp [this],c off _ _ (by simp [this]) (by simp [b])⟩
theorem gC{S:ar}{w:World}{v:Value}{ts:List T}(h:Rep S w v (.agg ts)): ∃cs,v= .agg cs:=by cases h;exact ⟨_,rfl⟩
end
section
variable [Glb]{P:Program}{N:Nat}{w0:World}{S0:aa}{o:Oper}{a:Act}{E:Env}{st:St}
theorem pt(h:SR N w0 S0 E st a.tmps)(hd:ay N o.dst){s:TypeId}{X:Operand}{f:Nat}(A:o.op= .field s X f){x:DOp}(b:ah P o.op=some x):Sound P N w0 S0 o a E st (eff x (st.nm o.dst) st.sl st.bx):=by
 have c: ∀r,(Instr.field s (a.eval X) f).run P E.w= .ok r E.w->(execOp a.eval o).run P E.w= .ok (.value r) E.w:=fun r j=>by
  unfold execOp;simp [A,j]
 rw [A] at b;simp only [ah] at b;split at b
 ·rename_i fs y u B;split at b
  ·rename_i fd z;split at b
   ·rename_i i d hi k;simp only [Option.some.injEq] at b;subst b;have q:=af h.sl B;unfold eff;simp only;split
    ·rename_i cs l;rw [l] at q;have j:=q.ax;obtain ⟨vs,e⟩:=gC j;rw [e] at j;split
     ·rename_i g;intro m;exact ai h hd (c _ (by simp [Instr.field,run_underlying u,z,e,asAgg,fm k hi g])) (.t _ _ (nS j _ _ m))
     ·rename_i g;intro n;obtain ⟨v,l,p⟩:=nR j _ n;exact ai h hd (c _ (by simp [Instr.field,run_underlying u,z,e,asAgg,fq k g _ _ _ l])) (.t _ _ p)
    ·trivial
   ·cases b
  ·cases b
 ·cases b
end
section
variable {P:Program}{N:Nat}{w0:World}{S0:aa}{o:Oper}{a:Act}{E:Env}{st:St}
theorem pO(s:ByteArray)(n:Nat)(h:n<s.size):s[n]? =some (s.toList[n]?.getD 0):=by
 have b:s[n]? =some s[n]:=getElem?_pos s n h;rw [b];rw [ByteArray.toList_eq]
 have:n<s.data.toList.length:=by simpa using h
 simp [ggZ this];rfl
end
section
variable [Glb]{P:Program}{N:Nat}{w0:World}{S0:aa}{o:Oper}{a:Act}{E:Env}{st:St}
theorem px(h:SR N w0 S0 E st a.tmps)(hd:ay N o.dst){t:TypeId}{X I:Operand}(K:o.op= .index t X I){x:DOp}(g:ah P o.op=some x):Sound P N w0 S0 o a E st (eff x (st.nm o.dst) st.sl st.bx):=by
 have c: ∀r,(Instr.index t (a.eval X) (a.eval I)).run P E.w= .ok r E.w->(execOp a.eval o).run P E.w= .ok (.value r) E.w:=fun r p=>by
  unfold execOp;simp [K,p]
 rw [K] at g;simp only [ah] at g;split at g
 ·rename_i len e y z A G F;split at g
  ·rename_i j d H u;simp only [Option.some.injEq] at g;subst g;have f:=af h.sl G;have b:=af h.sl F;unfold eff;simp only;split
   ·rename_i cs k n i C;rw [i] at f;rw [C] at b;have p:=f.ax;obtain ⟨vs,l⟩:=gC p;rw [l] at p;split
    ·rename_i m;rintro ⟨q,i,B⟩;exact ai h hd (c _ (by simp [Instr.index,asIntOf,b.aA,run_underlying A,l,q,i,run_sizeOf H,fm u H m])) (.t _ _ (nS p _ _ B))
    ·rename_i m;rintro ⟨q,i,D⟩;obtain ⟨v,L,J⟩:=nR p _ D;exact ai h hd (c _ (by simp [Instr.index,asIntOf,b.aA,run_underlying A,l,q,i,run_sizeOf H,fq u m _ _ _ L])) (.t _ _ J)
   ·trivial
  ·cases g
 ·rename_i y z A G F;simp only [Option.some.injEq] at g;subst g;have f:=af h.sl G;have b:=af h.sl F;unfold eff;simp only;split
  ·rename_i s k n i C;rw [i] at f;rw [C] at b;rintro ⟨q,i⟩;refine ai h hd (c _ ?_) (.t _ _ (.int _ _));have M:=pO s n.toNat (by omega);simp [Instr.index,asIntOf,b.aA,run_underlying A,f.bg,q,M]
  ·trivial
 all_goals cases g
theorem rP(h:SR N w0 S0 E st a.tmps)(hd:ay N o.dst){t:TypeId}{X:Operand}{y:O}(d:o.op= .unOp .not t X)(f:ak X=some y):Sound P N w0 S0 o a E st (eff (.not y) (st.nm o.dst) st.sl st.bx):=by
 have c:=af h.sl f;unfold eff;simp only;split
 ·rename_i b e;rw [e] at c;exact ai h hd (by unfold execOp;simp [d,c.aP,Op.unary]) (.t _ _ (.bool _))
 ·trivial
theorem rO(h:SR N w0 S0 E st a.tmps)(hd:ay N o.dst){t:TypeId}{X:Operand}{y:O}(c:o.op= .unOp .neg t X)(e:ak X=some y):Sound P N w0 S0 o a E st (eff (.neg y) (st.nm o.dst) st.sl st.bx):=by
 have b:=af h.sl e;unfold eff;simp only;split
 ·rename_i k n d;rw [d] at b;exact ai h hd (v:=.int k (k.wrap (0 - n))) (by unfold execOp;simp [c,b.aA,Op.unary,Op.intArith]) (.t _ _ (.int _ _))
 ·trivial
theorem nh(h:SR N w0 S0 E st a.tmps)(hd:ay N o.dst){f:FuncId}{caps:Array Operand}(g:o.op= .makeFunc (.func f) #[] caps){ys:List O}(c:dP caps.toList=some ys):
  Sound P N w0 S0 o a E st (eff (.mkfn f ys) (st.nm o.dst) st.sl st.bx):=by
 obtain ⟨b,k⟩:=ia _ _ _ c;refine ai h hd (v:=.func (.func f) #[] (caps.map a.eval)) (by unfold execOp;simp [g,Instr.makeFunc]) (.fn f _ _ (by simpa using b) fun i x u d e=>?_);simp only [Array.getElem?_map,Option.map_eq_some_iff] at d;simp only [List.getElem?_map,Option.map_eq_some_iff] at e;obtain ⟨X,j,rfl⟩:=d;obtain ⟨y,c,rfl⟩:=e;exact af h.sl (k i X y (by simpa using j) c)
theorem nI(h:SR N w0 S0 E st a.tmps)(hd:ay N o.dst){X:Operand}{i:Nat}{y:O}(l:o.op= .extract X i)(m:ak X=some y):Sound P N w0 S0 o a E st (eff (.ext y i) (st.nm o.dst) st.sl st.bx):=by
 have c:=af h.sl m;unfold eff;simp only;split
 ·rename_i ts e;rw [e] at c;split
  ·rename_i t d;have k:=c.ax;generalize g:a.eval X=v at k;cases k with
   |tup cs _ j f=>
    have b:i<cs.size:=by rw [j];exact (gsZ d).1
    exact ai h hd (v:=cs[i]) (by unfold execOp;simp [l,g,Instr.extract,b]) (.t _ _ (f i _ t (by simp [b]) d))
  ·trivial
 ·rename_i vs e;rw [e] at c;split
  ·rename_i t d;generalize g:a.eval X=v at c;cases c with
   |tup cs _ j f=>
    have b:i<cs.size:=by rw [j];exact (gsZ d).1
    exact ai h hd (v:=cs[i]) (by unfold execOp;simp [l,g,Instr.extract,b]) (f i _ t (by simp [b]) d)
  ·trivial
 ·trivial
theorem pB(h:SR N w0 S0 E st a.tmps)(hd:ay N o.dst){X:Operand}{y:O}(k:o.op= .nilCheck X)(l:ak X=some y):Sound P N w0 S0 o a E st (eff (.nilck y) (st.nm o.dst) st.sl st.bx):=by
 have d:=af h.sl l;have c: ∀e,a.eval X= .pointer (some e)->(execOp a.eval o).run P E.w= .ok (.value (a.eval X)) E.w:=fun e i=>by
  unfold execOp;simp [k,i]
 unfold eff;simp only;split
 ·rename_i b off j;rw [j] at d;exact ai h hd (c _ d.bd.1) d
 ·rename_i cs off j;rw [j] at d;have g:=d.ax
  have: ∃e,a.eval X= .pointer (some e):=by
   generalize a.eval X=v at g;cases g;exact ⟨_,rfl⟩
  obtain ⟨e,i⟩:=this;exact ai h hd (c _ i) d
 ·rename_i j;rw [j] at d;have g:=d.ax
  have: ∃e,a.eval X= .pointer (some e):=by
   generalize a.eval X=v at g;cases g;exact ⟨_,rfl⟩
  obtain ⟨e,i⟩:=this;exact ai h hd (c _ i) d
 ·rename_i f p q j;rw [j] at d;have g:=d.ax
  have: ∃e,a.eval X= .pointer (some e):=by
   generalize a.eval X=v at g;cases g;exact ⟨_,rfl⟩
  obtain ⟨e,i⟩:=this;exact ai h hd (c _ i) d
 ·rename_i j;rw [j] at d;have g:=d.ax
  have: ∃e,a.eval X= .pointer (some e):=by
   generalize a.eval X=v at g;cases g;exact ⟨_,rfl⟩
  obtain ⟨e,i⟩:=this;exact ai h hd (c _ i) d
 ·trivial
end
section
variable {P:Program}{N:Nat}{w0:World}{S0:aa}{o:Oper}{a:Act}{E:Env}{st:St}
theorem aD{b:Builtin}{args:Array Operand}{ts:Array TypeId}(d:o.op= .call {callee:=.builtin b,args:=args,argTypes:=ts }){w:World}{c:Next}{w':World}
  (e:(builtin b ts o.type (args.map fun|.const _=>true|_=>false) (args.map a.eval)).run P w= .ok c w'):(execOp a.eval o).run P w= .ok c w':=by
 unfold execOp;simp only [d,resolve,Sem.run_bind,Sem.run_pure,Result.andThen_ok,invoke];exact e
theorem bQ.len{v:Value}{r:Nat}{e:TypeId}{size:Nat}{xs:List T}(h:bQ E v r e size xs): ∃A cap,v= .slice A xs.length cap:=by
 obtain ⟨cells,b,_,_⟩:=h.ex;rcases b.2 with ⟨rfl,c⟩|⟨g,cap,d,rfl,_⟩
 ·exact ⟨none,0,by rw [c]⟩
 ·exact ⟨_,cap,rfl⟩
theorem VR.eY{v:Value}{r:Nat}{e:TypeId}{size:Nat}{xs:List T}(h:VR E v (.own r e size xs)):bQ E v r e size xs:=by cases h;assumption
end
section
variable [Glb]{P:Program}{N:Nat}{w0:World}{S0:aa}{o:Oper}{a:Act}{E:Env}{st:St}
theorem rL(h:SR N w0 S0 E st a.tmps)(hd:ay N o.dst){X:Operand}{t e:TypeId}{y:O}(q:o.op= .call {callee:=.builtin .len,args:= #[X],argTypes:= #[t]})(p:ak X=some y)
  (m:P.underlying t=some (.slice e)):Sound P N w0 S0 o a E st (eff (.len y) (st.nm o.dst) st.sl st.bx):=by
 have f:=af h.sl p;have k: ∀A n c,a.eval X= .slice A n c->Did P N w0 S0 o a E (st.app o.dst {val:=.t (.int .i64 n)}):=fun A n c d=>
  ai h hd (v:=.int .i64 n) (aD q (by simp [builtin,Builtin.len_,d,run_underlying m,goInt])) (.t _ _ (.int _ _))
 unfold eff;simp only;split
 ·rename_i n xs i;rw [i] at f;have j:=f.ax;generalize d:a.eval X=v at j;cases j with
  |slice A b off len cap _ _ g l s=>
   subst l;exact k _ _ _ d
 ·rename_i r e size xs i;rw [i] at f;obtain ⟨A,cap,d⟩:=f.eY.len;exact k _ _ _ d
 ·rename_i n xs i;rw [i] at f;have j:=aB f (rfl:asT (.full n xs)=some (.slice n xs));generalize d:a.eval X=v at j;cases j with
  |slice A b off len cap _ _ g l s=>
   subst l;exact k _ _ _ d
 ·rename_i i;rw [i] at f;have j:=f.ax;generalize d:a.eval X=v at j;cases j;exact k _ _ _ d
 ·rename_i b off n sz i;rw [i] at f;obtain ⟨cap,d,_,_⟩:=f.bM;exact k _ _ _ d
 ·trivial
theorem qH(h:SR N w0 S0 E st a.tmps)(hd:ay N o.dst){X:Operand}{t:TypeId}{y:O}(c:o.op= .call {callee:=.builtin .len,args:= #[X],argTypes:= #[t]})(g:ak X=some y)
  (f:P.underlying t=some .string):Sound P N w0 S0 o a E st (eff (.lenS y) (st.nm o.dst) st.sl st.bx):=by
 have b:=af h.sl g;unfold eff;simp only;split
 ·rename_i s e;rw [e] at b;have d:=b.bg;exact ai h hd (v:=.int .i64 s.size) (aD c (by simp [builtin,Builtin.len_,d,run_underlying f,goInt])) (.t _ _ (.int _ _))
 ·trivial
theorem rM(h:SR N w0 S0 E st a.tmps)(hd:ay N o.dst){X Y:Operand}{ts:Array TypeId}{x y:O}(d:o.op= .call {callee:=.builtin .max,args:= #[X,Y],argTypes:=ts })(e:ak X=some x)(i:ak Y=some y):
  Sound P N w0 S0 o a E st (eff (.maxI x y) (st.nm o.dst) st.sl st.bx):=by
 have b:=af h.sl e;have c:=af h.sl i;unfold eff;simp only;split
 ·rename_i k m j n f g;rw [f] at b;rw [g] at c;exact ai h hd (v:=.int k (if n>m then n else m)) (aD d (by simp [builtin,Builtin.max_,Builtin.max2,b.aA,c.aA])) (.t _ _ (.int _ _))
 ·trivial
theorem rN(h:SR N w0 S0 E st a.tmps)(hd:ay N o.dst){X Y:Operand}{ts:Array TypeId}{x y:O}(d:o.op= .call {callee:=.builtin .min,args:= #[X,Y],argTypes:=ts })(e:ak X=some x)(i:ak Y=some y):
  Sound P N w0 S0 o a E st (eff (.minI x y) (st.nm o.dst) st.sl st.bx):=by
 have b:=af h.sl e;have c:=af h.sl i;unfold eff;simp only;split
 ·rename_i k m j n f g;rw [f] at b;rw [g] at c;exact ai h hd (v:=.int k (if n<m then n else m)) (aD d (by simp [builtin,Builtin.min_,Builtin.min2,b.aA,c.aA])) (.t _ _ (.int _ _))
 ·trivial
end
end Go.DL
end
section
namespace Go.DL
open Go.RowKit
section
variable [Glb]{P:Program}{N:Nat}{w0:World}{S0:aa}{o:Oper}{a:Act}{E:Env}{st:St}
def Bnd(x:Option Value)(n:Int)(b:Nat):Prop:=(x=none/\n=b)\/ ∃k,x=some (.int k n)
theorem dR(h:SR N w0 S0 E st a.tmps){X:Option Operand}{y:Option O}(d:cK X=some y){n:Int}(c:ez (y.map (ev st.sl))=some n):Bnd (X.map a.eval) n 0:=by
 cases X with
 |none=>
  simp [cK] at d;subst d;simp [ez] at c;subst c;exact .inl ⟨rfl,rfl⟩
 |some X=>
  simp only [cK,Option.map_eq_some_iff] at d;obtain ⟨z,f,rfl⟩:=d;have e:=af h.sl f;simp only [Option.map_some,ez] at c;split at c
  ·rename_i b;cases b
  ·rename_i k m b;simp only [Option.some.injEq] at b c;subst c;rw [b] at e;exact .inr ⟨k,by simp [e.aA]⟩
  ·cases c
theorem dA(h:SR N w0 S0 E st a.tmps){X:Option Operand}{y:Option O}(d:cK X=some y){n:Int}{len:Nat}(c:dt (y.map (ev st.sl)) len=some n):Bnd (X.map a.eval) n len:=by
 cases X with
 |none=>
  simp [cK] at d;subst d;simp [dt] at c;subst c;exact .inl ⟨rfl,rfl⟩
 |some X=>
  simp only [cK,Option.map_eq_some_iff] at d;obtain ⟨z,f,rfl⟩:=d;have e:=af h.sl f;simp only [Option.map_some,dt] at c;split at c
  ·rename_i b;cases b
  ·rename_i k m b;simp only [Option.some.injEq] at b c;subst c;rw [b] at e;exact .inr ⟨k,by simp [e.aA]⟩
  ·cases c
end
section
variable {P:Program}{N:Nat}{w0:World}{S0:aa}{o:Oper}{a:Act}{E:Env}{st:St}
theorem bA(d:Bool){len cap:Nat}{lo hi:Option Value}{l h:Int}(g:Bnd lo l 0)(i:Bnd hi h len)(f:0<=l)(j:l<=h)(e:h<=cap)(w:World):
  (Instr.sliceBounds d len cap lo hi none).run P w= .ok (l.toNat,h.toNat,cap) w:=by
 have c:(0:Int)<=h:=by omega
 have b:l<=((h.toNat:Nat):Int):=by omega
 rcases i with ⟨rfl,rfl⟩|⟨k,rfl⟩ <;> rcases g with ⟨rfl,rfl⟩|⟨m,rfl⟩
 ·simp [Instr.sliceBounds]
 ·simp only [Int.toNat_natCast] at b;simp [Instr.sliceBounds,Instr.sliceBound,asIntOf,f,b]
 ·simp [Instr.sliceBounds,Instr.sliceBound,asIntOf,c,e]
 ·simp [Instr.sliceBounds,Instr.sliceBound,asIntOf,f,c,e];intro n;omega
theorem qa{n:Nat}{xs:List T}(c: ∀x∈xs,x.cells.length=n)(l h:Nat)(k:l<=h)(j:h<=xs.length)(i:Nat)(hi:i<(h - l) * n):
  (((xs.take h).drop l).flatMap T.cells)[i]? =(xs.flatMap T.cells)[l * n+i]? :=by
 have e:xs=xs.take l++((xs.take h).drop l++xs.drop h):=by
  have d:(xs.take h).drop l++xs.drop h=xs.drop l:=by
   rw [List.drop_take]
   have:xs.drop h=(xs.drop l).drop (h - l):=by rw [List.drop_drop];congr 1;omega
   rw [this,List.take_append_drop]
  rw [d,List.take_append_drop]
 have g:((xs.take l).flatMap T.cells).length=l * n:=by
  rw [aI (n:=n) (fun x b=>c x (List.mem_of_mem_take b)),List.length_take,Nat.min_eq_left (by omega)]
 have f:(((xs.take h).drop l).flatMap T.cells).length=(h - l) * n:=by
  rw [aI (n:=n) (fun x b=>c x (List.mem_of_mem_take (List.mem_of_mem_drop b))),List.length_drop,List.length_take,Nat.min_eq_left j]
 conv=>rhs;rw [e]
 rw [List.flatMap_append,List.flatMap_append,List.getElem?_append_right (by omega),g,List.getElem?_append_left (by rw [f];omega)]
 congr 1;omega
theorem il{S:ar}{w:World}{A:Option Addr}{len cap n:Nat}{xs:List T}(h:Rep S w (.slice A len cap) (.slice n xs))(l c:Nat)(D:l<=c)(d:c<=xs.length):
  Rep S w (.slice (if cap=l then A else A.map (·.add (l * n))) (c - l) (cap - l)) (.slice n ((xs.take c).drop l)):=by
 cases h with
 |slice _ b off _ _ _ _ g j H m y G F B=>
  subst j;have e: ∀x∈(xs.take c).drop l,x.cells.length=n:=fun x q=>m x (List.mem_of_mem_take (List.mem_of_mem_drop q))
  have p:(((xs.take c).drop l).flatMap T.cells).length=(c - l) * n:=by
   rw [aI e,List.length_drop,List.length_take,Nat.min_eq_left d]
  have s:=aI m;have u: ∀i,i<(c - l) * n->l * n+i<xs.length * n:=fun i hi=>by
   have:l * n+(c - l) * n<=xs.length * n:=by rw [<- Nat.add_mul];exact Nat.mul_le_mul_right _ (by omega)
   omega
  refine .slice _ b (off+l * n) _ _ n _ (fun i=>g (l * n+i)) (by simp;omega) (by omega) e (fun t f=>?_) (fun k=>?_) (fun i hi=>?_) (fun i t f=>?_)
  ·obtain ⟨x,q,r⟩:=List.mem_flatMap.1 f;exact y t (List.mem_flatMap.2 ⟨x,List.mem_of_mem_take (List.mem_of_mem_drop q),r⟩)
  ·rw [p] at k;have C:l<c:=by
    rcases Nat.lt_or_ge l c with h|h
    ·exact h
    ·have:c - l=0:=by omega
     rw [this,Nat.zero_mul] at k;omega
   have:=u 0 k
   have z:=G (by rw [s];omega);rw [if_neg (by omega),z];simp [bh]
  ·rw [p] at hi
   have:=F (l * n+i) (by rw [s];exact u i hi)
   rw [Nat.add_assoc];exact this
  ·have hi:i<(c - l) * n:=by rw [<- p];exact (gsZ f).1
   rw [qa m l c D d i hi] at f;exact B _ t f
theorem dX{S:ar}{w:World}{v:Value}{n:Nat}{xs:List T}(h:Rep S w v (.slice n xs)): ∃A cap,v= .slice A xs.length cap/\xs.length<=cap:=by
 cases h with
 |slice A b off len cap _ _ g c d=>subst c;exact ⟨_,_,rfl,d⟩
theorem cX{size:Nat}(g:0<size): ∀(n:Nat) (cs:List T),n * size<=cs.length->(∀ t∈cs,t.one=true)->(chunk size n cs).flatMap T.cells=cs.take (n * size)/\(chunk size n cs).length=n/\ ∀x∈chunk size n cs,x.cells.length=size
 |0,cs,_,_=>by simp [chunk]
 |n+1,cs,h,h1=>by
  rw [Nat.add_mul,Nat.one_mul] at h;have b:(elemOf size (cs.take size)).cells=cs.take size:=by
   unfold elemOf;cases f:Nat.beq size 1 with
   |false=>rfl
   |true=>
    have:size=1:=Nat.eq_of_beq_eq_true f
    subst this
    match cs,h,h1 with
    |[],h,_=>simp at h
    |t::cs,_,h1=>exact T.cells_one (h1 t (by simp))
  obtain ⟨k1,k2,d⟩:=cX g n (cs.drop size) (by simp;omega) (fun t e=>h1 t (List.mem_of_mem_drop e));unfold chunk;refine ⟨?_,by simp [k2],fun x c=>?_⟩
  ·rw [List.flatMap_cons,b,k1,Nat.add_mul,Nat.one_mul,Nat.add_comm (n * size) size,List.take_add]
  ·rcases List.mem_cons.1 c with rfl|c
   ·rw [b];simp;omega
   ·exact d x c
end
section
variable [Glb]{P:Program}{N:Nat}{w0:World}{S0:aa}{o:Oper}{a:Act}{E:Env}{st:St}
theorem pC(h:SR N w0 S0 E st a.tmps)(hd:ay N o.dst){t:TypeId}{X:Operand}{lo hi:Option Operand}(ho:o.op= .slice t X lo hi none){x:DOp}(u:ah P o.op=some x):Sound P N w0 S0 o a E st (eff x (st.nm o.dst) st.sl st.bx):=by
 have m: ∀r,(Instr.sliceAt t (a.eval X) (lo.map a.eval) (hi.map a.eval) none).run P E.w= .ok r E.w->(execOp a.eval o).run P E.w= .ok (.value r) E.w:=fun r G=>by
  unfold execOp;simp [ho,G]
 rw [ho] at u;simp only [ah] at u;split at u
 ·rename_i e y U T O Z q p;split at u
  ·rename_i j R;cases F:Nat.blt 0 j.size with
   |false=>rw [F] at u;cases u
   |true=>
   rw [F] at u;have F:0<j.size:=Nat.lt_of_lt_of_le (Nat.lt_succ_self 0) (nlZ F);simp only [cond_true,Option.some.injEq] at u;subst u;have B:=af h.sl Z;have Q: ∀A len cap (l f:Int),a.eval X= .slice A len cap->Bnd (lo.map a.eval) l 0->Bnd (hi.map a.eval) f len->0<=l->l<=f->f<=cap->
     (execOp a.eval o).run P E.w= .ok (.value (.slice (if cap=l.toNat then A else A.map (·.add (l.toNat * j.size))) (f.toNat - l.toNat) (cap - l.toNat))) E.w:=fun A len cap l f z L h2 D C I=>by
    refine m _ ?_;simp only [Instr.sliceAt,Instr.slice,Sem.run_bind,run_underlying O,Result.andThen_ok,z,bA true L h2 D C I,run_sizeOf R,Sem.run_pure]
   unfold eff;simp only;split
   ·rename_i b off len sz K;rw [K] at B;obtain ⟨cap,z,cT,M⟩:=B.bM;split
    ·rename_i l f c d;cases H:Nat.beq j.size sz with
     |false=>trivial
     |true=>
      rintro ⟨D,C,I,h6⟩;refine ai h hd (Q _ _ _ l f z (dR h q c) (dA h p d) D C (by omega)) ?_;rw [if_neg (by omega)];simp only [Option.map_some,bh];exact .view b _ _ sz _ M (by omega)
    ·trivial
   ·rename_i v K;split
    ·rename_i sz xs ha;have G:=aB B ha;obtain ⟨A,cap,z,cT⟩:=dX G;split
     ·rename_i l f c d;cases H:Nat.beq j.size sz with
      |false=>trivial
      |true=>
       have hs:j.size=sz:=Nat.eq_of_beq_eq_true H;subst hs;rintro ⟨D,C,I⟩;rw [z] at G;exact ai h hd (Q _ _ _ l f z (dR h q c) (dA h p d) D C (by omega)) (.t _ _ (il G _ _ (by omega) (by omega)))
     ·trivial
    ·rename_i ha;have G:=aB B ha;have z:a.eval X= .slice none 0 0:=by
      generalize a.eval X=v at G;cases G;rfl
     split
     ·rename_i l f c d;rintro ⟨rfl,rfl⟩;exact ai h hd (Q _ _ _ 0 0 z (dR h q c) (dA h p d) (by omega) (by omega) (by omega)) (.t _ _ .nil)
     ·trivial
    ·trivial
  ·cases u
 ·rename_i y U T O Z q p;simp only [Option.some.injEq] at u;subst u;have B:=af h.sl Z;unfold eff;simp only;split
  ·rename_i s K;rw [K] at B;have z:=B.bg;split
   ·rename_i l f c d;rintro ⟨D,C,I⟩;refine ai h hd (m _ ?_) (.t _ _ (.str _));have H:=bA (P:=P) false (dR h q c) (dA h p d) D C I E.w;simp [Instr.sliceAt,Instr.slice,run_underlying O,z,H]
   ·trivial
  ·trivial
 ·rename_i n e y U T O Z q p;split at u
  ·rename_i j R;simp only [Option.some.injEq] at u;subst u;have B:=af h.sl Z;unfold eff;simp only;split
   ·rename_i b off K;rw [K] at B;obtain ⟨z,M⟩:=B.bd;split
    ·have L:lo=none:=by cases lo <;> simp_all [cK]
     have h2:hi=none:=by cases hi <;> simp_all [cK]
     subst L;subst h2;refine ai h hd (v:=.slice (some ⟨E.κ b,off,none⟩) n n) (m _ ?_) (.view b off n _ n M (Nat.le_refl _));have H:=bA (P:=P) false (len:=n) (cap:=n) (lo:=none) (hi:=none) (l:=0) (h:=n) (.inl ⟨rfl,rfl⟩) (.inl ⟨rfl,rfl⟩) (by omega) (by omega) (by omega) E.w;simp only [Instr.sliceAt,Sem.run_bind,run_underlying O,Result.andThen_ok,z,Instr.sureAddr,Sem.run_pure,Option.map_none,H,run_sizeOf R];simp [bh]
    ·split
     ·rename_i l f c d;rintro ⟨D,C,I,h6⟩;refine ai h hd (v:=.slice (some ⟨E.κ b,off+l.toNat * j.size,none⟩) (f.toNat - l.toNat) (n - l.toNat)) (m _ ?_) (.view b _ _ _ _ M (by omega));have H:=bA (P:=P) false (len:=n) (cap:=n) (dR h q c) (dA h p d) D C I E.w;simp only [Instr.sliceAt,Sem.run_bind,run_underlying O,Result.andThen_ok,z,Instr.sureAddr,Sem.run_pure,H,run_sizeOf R];rw [if_neg (by omega),bh]
     ·trivial
   ·rename_i cs off K;rw [K] at B;have W:=B.ax;split
    ·rename_i l f c d;cases F:Nat.blt 0 j.size with
     |false=>trivial
     |true=>
     have F:0<j.size:=Nat.lt_of_lt_of_le (Nat.lt_succ_self 0) (nlZ F);rintro ⟨D,C,I,h6⟩;generalize z:a.eval X=v at W;cases W with
     |cptr b J _ _ g L hg G=>
     have H:=bA (P:=P) false (len:=n) (cap:=n) (dR h q c) (dA h p d) D C I E.w;have V:l.toNat * j.size+(f.toNat - l.toNat) * j.size<=n * j.size:=by rw [<- Nat.add_mul];exact Nat.mul_le_mul_right _ (by omega)
     obtain ⟨k1,k2,k3⟩:=cX F (f.toNat - l.toNat) (cs.drop (off+l.toNat * j.size)) (by rw [List.length_drop];omega) (fun t k=>L t (List.mem_of_mem_drop k));refine ai h hd (v:=.slice (some (if n=l.toNat then ⟨b,J+off,none⟩ else ⟨b,J+off+l.toNat * j.size,none⟩)) (f.toNat - l.toNat) (n - l.toNat)) (m _ ?_) (.t _ _ (.slice _ b (J+off+l.toNat * j.size) _ _ _ _ (fun i=>g (off+l.toNat * j.size+i)) k2 (by omega) k3 (fun t k=>?_) (fun Y=>?_) (fun i hi=>?_) (fun i t k=>?_)))
     ·simp only [Instr.sliceAt,Sem.run_bind,run_underlying O,Result.andThen_ok,z,Instr.sureAddr,Sem.run_pure,H,run_sizeOf R,bh]
     ·rw [k1] at k;exact L t (List.mem_of_mem_drop (List.mem_of_mem_take k))
     ·rw [k1,List.length_take] at Y
      have:0<f.toNat - l.toNat:=by
       rcases Nat.eq_zero_or_pos (f.toNat - l.toNat) with e|e
       ·rw [e,Nat.zero_mul] at Y;omega
       ·exact e
      rw [if_neg (by omega)]
     ·rw [k1,List.length_take,List.length_drop] at hi
      have:=hg (off+l.toNat * j.size+i) (by omega)
      rw [show J+off+l.toNat * j.size+i=J+(off+l.toNat * j.size+i) by omega];exact this
     ·rw [k1,List.getElem?_take] at k;split at k
      ·rw [List.getElem?_drop] at k;exact G _ t k
      ·cases k
    ·trivial
   ·rename_i g0 off K;rw [K] at B;have re:=B.ax;split
    ·rename_i cs hg0;have W:Rep E.S E.w (a.eval X) (.cptr cs off):=by
      generalize a.eval X=v at re;cases re;exact h.iZ.rep hg0 off
     split
     ·rename_i l f c d;cases F:Nat.blt 0 j.size with
      |false=>trivial
      |true=>
      have F:0<j.size:=Nat.lt_of_lt_of_le (Nat.lt_succ_self 0) (nlZ F);rintro ⟨D,C,I,h6⟩;generalize z:a.eval X=v at W;cases W with
      |cptr b J _ _ g L hg G=>
      have H:=bA (P:=P) false (len:=n) (cap:=n) (dR h q c) (dA h p d) D C I E.w;have V:l.toNat * j.size+(f.toNat - l.toNat) * j.size<=n * j.size:=by rw [<- Nat.add_mul];exact Nat.mul_le_mul_right _ (by omega)
      obtain ⟨k1,k2,k3⟩:=cX F (f.toNat - l.toNat) (cs.drop (off+l.toNat * j.size)) (by rw [List.length_drop];omega) (fun t k=>L t (List.mem_of_mem_drop k));refine ai h hd (v:=.slice (some (if n=l.toNat then ⟨b,J+off,none⟩ else ⟨b,J+off+l.toNat * j.size,none⟩)) (f.toNat - l.toNat) (n - l.toNat)) (m _ ?_) (.t _ _ (.slice _ b (J+off+l.toNat * j.size) _ _ _ _ (fun i=>g (off+l.toNat * j.size+i)) k2 (by omega) k3 (fun t k=>?_) (fun Y=>?_) (fun i hi=>?_) (fun i t k=>?_)))
      ·simp only [Instr.sliceAt,Sem.run_bind,run_underlying O,Result.andThen_ok,z,Instr.sureAddr,Sem.run_pure,H,run_sizeOf R,bh]
      ·rw [k1] at k;exact L t (List.mem_of_mem_drop (List.mem_of_mem_take k))
      ·rw [k1,List.length_take] at Y
       have:0<f.toNat - l.toNat:=by
        rcases Nat.eq_zero_or_pos (f.toNat - l.toNat) with e|e
        ·rw [e,Nat.zero_mul] at Y;omega
        ·exact e
       rw [if_neg (by omega)]
      ·rw [k1,List.length_take,List.length_drop] at hi
       have:=hg (off+l.toNat * j.size+i) (by omega)
       rw [show J+off+l.toNat * j.size+i=J+(off+l.toNat * j.size+i) by omega];exact this
      ·rw [k1,List.getElem?_take] at k;split at k
       ·rw [List.getElem?_drop] at k;exact G _ t k
       ·cases k
     ·trivial
    ·trivial
   ·trivial
  ·cases u
 ·cases u
end
end Go.DL
end
section
namespace Go.DL
open Go.RowKit
section
variable [Glb]{P:Program}{N:Nat}{w0:World}{S0:aa}{o:Oper}{a:Act}{E:Env}{st:St}
def bj(S:ar)(w:World)(cs:List Value)(ts:List T):Prop:=
 cs.length=ts.length/\ ∀(i:Nat) (x:Value) (t:T),cs[i]? =some x->ts[i]? =some t->Rep S w x t/\t.one=true
end
section
variable {P:Program}{N:Nat}{w0:World}{S0:aa}{o:Oper}{a:Act}{E:Env}{st:St}
theorem bj.put{S:ar}{w:World}{cs vs:List Value}{ts us:List T}(h:bj S w cs ts)(g:bj S w vs us){off n:Nat}(e:vs.length=n)(b:off+n<=cs.length):bj S w (aN cs off n vs) (aN ts off n us):=by
 have j:us.length=n:=by rw [<- g.1];exact e
 refine ⟨by rw [bN _ _ _ _ e b,bN _ _ _ _ j (by rw [<- h.1];exact b)];exact h.1,fun i x t c d=>?_⟩;rw [bD _ _ _ _ e b] at c;rw [bD _ _ _ _ j (by rw [<- h.1];exact b)] at d
 by_cases f:i<off
 ·rw [if_pos f] at c d;exact h.2 i x t c d
 ·rw [if_neg f] at c d
  by_cases k:i<off+n
  ·rw [if_pos k] at c d;exact g.2 _ x t c d
  ·rw [if_neg k] at c d;exact h.2 i x t c d
theorem lC(off:Nat): ∀(vs:List Value) (k:Nat) (cs:Array Value),off+k+vs.length<=cs.size->
  ((vs.zipIdx k).foldl (fun (cs:Array Value) (p:Value×Nat)=>cs.setIfInBounds (off+p.2) p.1) cs).toList=aN cs.toList (off+k) vs.length vs
 |[],k,cs,_=>by
  simp [aN]
 |v::vs,k,cs,h=>by
  simp only [List.zipIdx_cons,List.foldl_cons,List.length_cons] at h ⊢;rw [lC off vs (k+1) _ (by simp;omega)]
  apply List.ext_getElem?
  intro j;rw [bD _ _ _ _ rfl (by simp;omega),bD _ _ _ _ (by simp) (by simp;omega)];simp only [Array.toList_setIfInBounds,List.getElem?_set,Array.length_toList]
  by_cases b:j<off+k
  ·rw [if_pos (by omega),if_pos b,if_neg (by omega)]
  ·rw [if_neg b]
   by_cases d:j=off+k
   ·subst d;rw [if_pos (by omega),if_pos rfl,if_pos (by omega),if_pos (by omega)];simp
   ·rw [if_neg (by omega)]
    by_cases c:j<off+k+(vs.length+1)
    ·rw [if_pos (by omega),if_pos c]
     have:j - (off+k)=(j - (off+(k+1)))+1:=by omega
     rw [this,List.getElem?_cons_succ]
    ·rw [if_neg (by omega),if_neg c,if_neg (by omega)]
theorem jz(off:Nat)(vs cs:Array Value)(h:off+vs.size<=cs.size):
  (vs.zipIdx.foldl (fun (cs:Array Value) (p:Value×Nat)=>cs.setIfInBounds (off+p.2) p.1) cs).toList=aN cs.toList off vs.size vs.toList:=by
 have:=lC off vs.toList 0 cs (by simpa using h)
 rw [<- Array.foldl_toList,Array.toList_zipIdx];simpa using this
theorem iF{g:Nat->V}: ∀{f:List (Nat×Nat×O)} {d ts:List T} {c b:Prop},cZ g d c f=some (ts,b)->b->c
 |[],d,ts,c,b,h,hc=>by simp [cZ] at h;rw [h.2];exact hc
 |(off,size,x)::rest,d,ts,c,b,h,hc=>by
  unfold cZ at h;split at h
  ·cases h
  ·exact (iF h hc).1
  ·cases e:Nat.beq size 1 with
   |false=>rw [e] at h;cases h
   |true=>rw [e] at h;exact iF h hc
  ·cases h
theorem fk{b:Nat->Option (Nat×Nat)}: ∀{c:List (Nat×Operand)} {i:Nat} {X:Operand} {rest:List (Nat×Operand)} {d:List (Nat×Nat×O)},c=(i,X)::rest->aZ b c=some d->
  ∃off size y r,b i=some (off,size)/\ak X=some y/\aZ b rest=some r/\d=(off,size,y)::r:=by
 rintro c i X rest d rfl h;unfold aZ at h;split at h
 ·rename_i off size y r e f g;simp only [Option.some.injEq] at h;exact ⟨off,size,y,r,e,f,g,h.symm⟩
 ·cases h
theorem gQ(W: ∀m,VR E (a.tmps.getD m undef) (st.sl m)){f mplace:Nat->Option (Nat×Nat)}(n: ∀i p,f i=some p->mplace i=some p):
  ∀(g:List (Nat×Operand)) (B:List (Nat×Nat×O)) (cells:Array Value) (d ts:List T) (c q:Prop),aZ f g=some B->bj E.S E.w cells.toList d->(∀ p∈B,p.1+p.2.1<=d.length)->
   cZ st.sl d c B=some (ts,q)->q-> ∃b,Instr.fill mplace cells (g.map fun (i,x)=>(i,a.eval x))=some b/\bj E.S E.w b.toList ts
 |[],B,cells,d,ts,c,q,hl,hc,_,hf,_=>by
  simp [aZ] at hl;subst hl;simp [cZ] at hf;exact ⟨cells,rfl,hf.1▸hc⟩
 |(i,X)::rest,B,cells,d,ts,c,q,hl,hc,hb,hf,hc'=>by
  obtain ⟨off,size,y,r,s,h2,h3,rfl⟩:=fk rfl hl;have V:=af W h2;have F:off+size<=d.length:=hb (off,size,y) (by simp);have K: ∀p∈r,p.1+p.2.1<=d.length:=fun p n=>hb p (List.mem_cons_of_mem _ n)
  have step: ∀(us:List T),bj E.S E.w (a.eval X).cells.toList us->us.length=size-> ∀J,cZ st.sl (aN d off size us) J r=some (ts,q)->
    ∃b,Instr.fill mplace cells (((i,X)::rest).map fun (i,x)=>(i,a.eval x))=some b/\bj E.S E.w b.toList ts:=fun us h A J I=>by
   have l:(a.eval X).cells.size=size:=by have:=h.1;simp at this;omega
   have hcl:cells.size=d.length:=by have:=hc.1;simpa using this
   have Y:bj E.S E.w ((a.eval X).cells.zipIdx.foldl (fun (cs:Array Value) (p:Value×Nat)=>cs.setIfInBounds (off+p.2) p.1) cells).toList (aN d off size us):=by
    rw [jz _ _ _ (by omega),l];exact hc.put h (by simpa using l) (by simp;omega)
   have L:(aN d off size us).length=d.length:=bN _ _ _ _ A F;obtain ⟨b,g1,Z⟩:=gQ W n rest r _ _ ts J q h3 Y (fun p n=>by rw [L];exact K p n) I hc';refine ⟨b,?_,Z⟩;simp only [List.map_cons,Instr.fill,n i _ s];rw [if_neg (by simp [l];omega)];exact g1
  unfold cZ at hf;split at hf
  ·cases hf
  ·rename_i cs U;have h:=aB V U;obtain ⟨Q,R⟩:=h.cells (fun ts e=>by cases e);have C:=iF hf hc';exact step cs ⟨by simpa [T.cells] using Q,fun j x t z ht=>R j x t (by simpa using z) ht⟩ C.2 _ hf
  ·rename_i t D H U;cases k:Nat.beq size 1 with
   |false=>rw [k] at hf;cases hf
   |true=>
    rw [k] at hf;have M:size=1:=Nat.eq_of_beq_eq_true k;subst M;have h:=aB V U;have s:t.one=true:=by
     cases t with
     |agg cs=>exact absurd rfl (H cs)
     |tup ts=>exact absurd rfl (D ts)
     |_=>rfl
    refine step [t] ⟨by rw [h.cells_one s];rfl,fun j x u z G=>?_⟩ rfl _ hf;rw [h.cells_one s] at z;cases j with
    |zero=>simp at z G;subst z;subst G;exact ⟨h,s⟩
    |succ j=>simp at G
  ·cases hf
end
section
variable [Glb]{P:Program}{N:Nat}{w0:World}{S0:aa}{o:Oper}{a:Act}{E:Env}{st:St}
def dH(E:Env)(cs:List Value)(us:List V):Prop:=cs.length=us.length/\ ∀(i:Nat) (x:Value) (u:V),cs[i]? =some x->us[i]? =some u->VR E x u/\x.oneCell'=true
end
section
variable {P:Program}{N:Nat}{w0:World}{S0:aa}{o:Oper}{a:Act}{E:Env}{st:St}
theorem dH.put{cs vs:List Value}{us k:List V}{off n:Nat}(h:dH E cs us)(g:dH E vs k)(j:vs.length=n)(f:off+n<=cs.length):dH E (aN cs off n vs) (aN us off n k):=by
 have d:k.length=n:=by rw [<- g.1];exact j
 have e:off+n<=us.length:=by rw [<- h.1];exact f
 refine ⟨by rw [bN _ _ _ _ j f,bN _ _ _ _ d e];exact h.1,fun i x u c b=>?_⟩;rw [bD _ _ _ _ j f] at c;rw [bD _ _ _ _ d e] at b
 by_cases l:i<off
 ·rw [if_pos l] at c b;exact h.2 i x u c b
 ·rw [if_neg l] at c b
  by_cases m:i<off+n
  ·rw [if_pos m] at c b;exact g.2 _ x u c b
  ·rw [if_neg m] at c b;exact h.2 i x u c b
theorem iG{g:Nat->V}: ∀{f:List (Nat×Nat×O)} {d ts:List V} {c b:Prop},da g d c f=some (ts,b)->b->c
 |[],d,ts,c,b,h,hc=>by simp [da] at h;rw [h.2];exact hc
 |(off,size,x)::rest,d,ts,c,b,h,hc=>by
  unfold da at h;split at h
  ·cases h
  ·exact (iG h hc).1
  ·cases h
  ·cases h
  ·cases h
  ·cases e:Nat.beq size 1 with
   |false=>rw [e] at h;cases h
   |true=>rw [e] at h;exact iG h hc
theorem fP(W: ∀m,VR E (a.tmps.getD m undef) (st.sl m)){f mplace:Nat->Option (Nat×Nat)}(q: ∀i p,f i=some p->mplace i=some p):
  ∀(g:List (Nat×Operand)) (C:List (Nat×Nat×O)) (cells:Array Value) (d ts:List V) (c s:Prop),aZ f g=some C->dH E cells.toList d->(∀ p∈C,p.1+p.2.1<=d.length)->
   da st.sl d c C=some (ts,s)->s-> ∃b,Instr.fill mplace cells (g.map fun (i,x)=>(i,a.eval x))=some b/\dH E b.toList ts
 |[],C,cells,d,ts,c,s,hl,hc,_,hf,_=>by
  simp [aZ] at hl;subst hl;simp [da] at hf;exact ⟨cells,rfl,hf.1▸hc⟩
 |(i,X)::rest,C,cells,d,ts,c,s,hl,hc,hb,hf,hc'=>by
  obtain ⟨off,size,y,r,w,h2,h3,rfl⟩:=fk rfl hl;have l:=af W h2;have G:off+size<=d.length:=hb (off,size,y) (by simp);have K: ∀p∈r,p.1+p.2.1<=d.length:=fun p q=>hb p (List.mem_cons_of_mem _ q)
  have step: ∀(us:List V),dH E (a.eval X).cells.toList us->us.length=size-> ∀J,da st.sl (aN d off size us) J r=some (ts,s)->
    ∃b,Instr.fill mplace cells (((i,X)::rest).map fun (i,x)=>(i,a.eval x))=some b/\dH E b.toList ts:=fun us n B J I=>by
   have k:(a.eval X).cells.size=size:=by have:=n.1;simp at this;omega
   have hcl:cells.size=d.length:=by have:=hc.1;simpa using this
   have Y:dH E ((a.eval X).cells.zipIdx.foldl (fun (cs:Array Value) (p:Value×Nat)=>cs.setIfInBounds (off+p.2) p.1) cells).toList (aN d off size us):=by
    rw [jz _ _ _ (by omega),k];exact hc.put n (by simpa using k) (by simp;omega)
   have L:(aN d off size us).length=d.length:=bN _ _ _ _ B G;obtain ⟨b,g1,Z⟩:=fP W q rest r _ _ ts J s h3 Y (fun p q=>by rw [L];exact K p q) I hc';refine ⟨b,?_,Z⟩;simp only [List.map_cons,Instr.fill,q i _ w];rw [if_neg (by simp [k];omega)];exact g1
  unfold da at hf;split at hf
  ·cases hf
  ·rename_i cs ha;rw [ha] at l;have n:=l.ax;obtain ⟨Q,R⟩:=n.cells (fun ts e=>by cases e);have D:=iG hf hc';refine step (cs.map .t) ⟨by simpa [T.cells] using Q,fun j x t A F=>?_⟩ (by simpa using D.2) _ hf;rw [List.getElem?_map,Option.map_eq_some_iff] at F;obtain ⟨t,F,rfl⟩:=F
   have:=R j x t (by simpa using A) F
   exact ⟨.t _ _ this.1,this.1.one this.2⟩
  ·cases hf
  ·cases hf
  ·cases hf
  ·rename_i k1 k2 U k4 k5;cases h:Nat.beq size 1 with
   |false=>rw [h] at hf;cases hf
   |true=>
    rw [h] at hf;have M:size=1:=Nat.eq_of_beq_eq_true h;subst M;have w:(a.eval X).oneCell'=true:=by
     cases z:ev st.sl y with
     |t u=>
      rw [z] at l;have n:=l.ax;refine n.one ?_;cases u with
      |agg cs=>exact absurd z (k2 cs)
      |tup ts=>exact absurd z (k1 ts)
      |_=>rfl
     |_=>
      refine l.one ?_ ?_ ?_ ?_
      all_goals (first|(intro vs e;rw [z] at e;cases e;done)|(intro e;rw [z] at e;cases e;done)|(intro vs e;first|exact k1 vs e|exact k2 vs e|exact U e|exact k4 vs e|exact k5 vs e)|(intro e;exact U e))
    have S:(a.eval X).cells= #[a.eval X]:=by
     generalize a.eval X=v at w;cases v <;> first|rfl|simp [Value.oneCell'] at w
    refine step [ev st.sl y] ⟨by rw [S];rfl,fun j x u A H=>?_⟩ rfl _ hf;rw [S] at A;cases j with
    |zero=>simp at A H;subst A;subst H;exact ⟨l,w⟩
    |succ j=>simp at H
theorem bj.toV{cs:List Value}{ts:List T}(h:bj E.S E.w cs ts):dH E cs (ts.map .t):=by
 refine ⟨by simpa using h.1,fun i x u c b=>?_⟩;rw [List.getElem?_map,Option.map_eq_some_iff] at b;obtain ⟨t,d,rfl⟩:=b
 have:=h.2 i x t c d
 exact ⟨.t _ _ this.1,this.1.one this.2⟩
theorem fK{fs:Array Field}(h: ∀f∈fs.toList, ∃i,P.info? f.type=some i)(w:World):
  (fs.mapM fun f=>do pure (f.offset, <-sizeOf f.type):Sem (Array (Nat×Nat))).run P w= .ok (fs.map fun f=>(f.offset,((P.info? f.type).map (·.size)).getD 0)) w:=by
 rw [Array.mapM_eq_mapM_toList];have key: ∀l:List Field,(∀ f∈l, ∃i,P.info? f.type=some i)->(l.mapM (fun f=>do pure (f.offset, <-sizeOf f.type)):Sem (List (Nat×Nat))).run P w= .ok (l.map fun f=>(f.offset,((P.info? f.type).map (·.size)).getD 0)) w:=by
  intro l
  induction l with
  |nil=>intro _;rfl
  |cons f l c=>
   intro b;obtain ⟨i,hi⟩:=b f (by simp)
   have:=c (fun g d=>b g (List.mem_cons_of_mem _ d))
   rw [List.mapM_cons];simp only [Sem.run_bind,run_sizeOf hi,Result.andThen_ok,Sem.run_pure,this,List.map_cons,hi,Option.map_some,Option.getD_some]
 have:=key fs.toList h
 simp only [Sem.run_map,this,Result.andThen_ok]
 congr 1
 apply Array.ext'
 simp
end
section
variable [Glb]{P:Program}{N:Nat}{w0:World}{S0:aa}{o:Oper}{a:Act}{E:Env}{st:St}
theorem pq(h:SR N w0 S0 E st a.tmps)(hd:ay N o.dst){t:TypeId}{d:Array (Nat×Operand)}(ho:o.op= .build t d){x:DOp}(k:ah P o.op=some x):Sound P N w0 S0 o a E st (eff x (st.nm o.dst) st.sl st.bx):=by
 have q: ∀r,(Instr.build t (d.map fun (i,x)=>(i,a.eval x))).run P E.w= .ok r E.w->(execOp a.eval o).run P E.w= .ok (.value r) E.w:=fun r hr=>by
  unfold execOp;simp only [ho,Sem.run_bind,hr,Result.andThen_ok,Sem.run_pure]
 have H: ∀{B},cq P t=some B-> ∃z,(zeroValue t).run P E.w= .ok z E.w/\bj E.S E.w z.cells.toList B:=fun R=>by
  obtain ⟨i,z,hi,hiz,_,Z,aq,_⟩:=dm R;exact ⟨z,by simp [zeroValue,typeInfo,hi,hiz],by simpa using Z,fun j x u M D=>aq E.S E.w j x u (by simpa using M) D⟩
 have Q: ∀(cells:Array Value) (ts:List T),bj E.S E.w cells.toList ts->Rep E.S E.w (.agg cells) (.agg ts):=fun cells ts m=>by
  have:=dW m.2 m.1
  simpa using this
 have G: ∀(cells:Array Value) (us:List V),dH E cells.toList us->VR E (.agg cells) (.agv us):=fun cells us m=>
  .agv cells us (by simpa using m.1) (fun i x M=>by
   have Y:i<us.length:=by have:=(Array.getElem?_eq_some_iff.1 M).1;have:=m.1;simp at this;omega
   exact (m.2 i x us[i] (by simpa using M) (ggZ Y)).2) (fun i x u M D=>(m.2 i x u (by simpa using M) D).1)
 have F:(d.map fun (i,x)=>(i,a.eval x)).toList=d.toList.map fun (i,x)=>(i,a.eval x):=by simp
 rw [ho] at k;simp only [ah] at k;split at k
 ·rename_i fs B D R;split at k
  ·rename_i L A;cases C:((fs.toList.all fun f=>(P.info? f.type).isSome)&&L.all fun p=>Nat.ble (p.1+p.2.1) B.length) with
   |false=>rw [C] at k;cases k
   |true=>
   rw [C] at k;simp only [cond_true,Option.some.injEq] at k;subst k;rw [Bool.and_eq_true,List.all_eq_true,List.all_eq_true] at C;obtain ⟨U,W⟩:=C;obtain ⟨z,y,s⟩:=H R;unfold eff;simp only;split
   ·rename_i ts c J;intro m;obtain ⟨b,K,I⟩:=gQ (mplace:=fun i=>(fs.map fun f=>(f.offset,((P.info? f.type).map (·.size)).getD 0))[i]?) h.sl (fun i p g=>by
     split at g
     ·rename_i f l;simp only [Option.map_eq_some_iff] at g;obtain ⟨j,O,rfl⟩:=g;simp [l,O]
     ·cases g) d.toList L z.cells B ts True c A s (fun p g=>nlZ (W p g)) J m
    refine ai h hd (q (.agg b) ?_) (.t _ _ (Q _ _ I));have X:=fK (P:=P) (fs:=fs) (fun f l=>Option.isSome_iff_exists.1 (U f l)) E.w;unfold Instr.build;simp only [Sem.run_bind,y,Result.andThen_ok,run_underlying D,X,F,K,Sem.run_pure]
   ·split
    ·rename_i us c J;intro m;obtain ⟨b,K,I⟩:=fP (mplace:=fun i=>(fs.map fun f=>(f.offset,((P.info? f.type).map (·.size)).getD 0))[i]?) h.sl (fun i p g=>by
      split at g
      ·rename_i f l;simp only [Option.map_eq_some_iff] at g;obtain ⟨j,O,rfl⟩:=g;simp [l,O]
      ·cases g) d.toList L z.cells (B.map .t) us True c A s.toV (fun p g=>by rw [List.length_map];exact nlZ (W p g)) J m
     refine ai h hd (q (.agg b) ?_) (G _ _ I);have X:=fK (P:=P) (fs:=fs) (fun f l=>Option.isSome_iff_exists.1 (U f l)) E.w;unfold Instr.build;simp only [Sem.run_bind,y,Result.andThen_ok,run_underlying D,X,F,K,Sem.run_pure]
    ·trivial
  ·cases k
 ·rename_i n e B D R;split at k
  ·rename_i j O;split at k
   ·rename_i L A;cases C:(L.all fun p=>Nat.ble (p.1+p.2.1) B.length) with
    |false=>rw [C] at k;cases k
    |true=>
    rw [C] at k;simp only [cond_true,Option.some.injEq] at k;subst k;rw [List.all_eq_true] at C;obtain ⟨z,y,s⟩:=H R;unfold eff;simp only;split
    ·rename_i ts c J;intro m;obtain ⟨b,K,I⟩:=gQ (mplace:=fun i=>some (i * j.size,j.size)) h.sl (fun i p g=>g) d.toList L z.cells B ts True c A s (fun p g=>nlZ (C p g)) J m;refine ai h hd (q (.agg b) ?_) (.t _ _ (Q _ _ I));unfold Instr.build;simp only [Sem.run_bind,y,Result.andThen_ok,run_underlying D,run_sizeOf O,F,K,Sem.run_pure]
    ·split
     ·rename_i us c J;intro m;obtain ⟨b,K,I⟩:=fP (mplace:=fun i=>some (i * j.size,j.size)) h.sl (fun i p g=>g) d.toList L z.cells (B.map .t) us True c A s.toV (fun p g=>by rw [List.length_map];exact nlZ (C p g)) J m;refine ai h hd (q (.agg b) ?_) (G _ _ I);unfold Instr.build;simp only [Sem.run_bind,y,Result.andThen_ok,run_underlying D,run_sizeOf O,F,K,Sem.run_pure]
     ·trivial
   ·cases k
  ·cases k
 ·cases k
end
end Go.DL
end
section
namespace Go.DL
open Go.RowKit
section
variable [Glb]{P:Program}{N:Nat}{w0:World}{S0:aa}{o:Oper}{a:Act}{E:Env}{st:St}
end
section
variable {P:Program}{N:Nat}{w0:World}{S0:aa}{o:Oper}{a:Act}{E:Env}{st:St}
theorem bB: ∀{b:List Sh} {xs:List T},fits b xs->xs.length=b.length
 |[],[],_=>rfl
 |[],_::_,h=>by simp [fits] at h
 |_::_,[],h=>by simp [fits] at h
 |s::b,x::xs,h=>by
  have:fits b xs:=by
   cases s <;> cases x <;> simp only [fits] at h <;> first|exact h.2|exact h|exact h.elim
  simp [bB this]
theorem bc: ∀{s1 s2:List Sh} {xs:List T},fits (s1++s2) xs->fits s1 (xs.take s1.length)/\fits s2 (xs.drop s1.length)
 |[],s2,xs,h=>by simpa [fits] using h
 |s::s1,s2,[],h=>by simp [fits] at h
 |s::s1,s2,x::xs,h=>by
  simp only [List.cons_append,List.length_cons,List.take_succ_cons,List.drop_succ_cons] at h ⊢;cases s <;> cases x <;> simp only [fits] at h ⊢ <;> first
   |exact h.elim
   |(obtain ⟨b,c⟩:=bc h.2;exact ⟨⟨h.1,b⟩,c⟩)
   |exact bc h
theorem eO: ∀(a c:List T) (b d:List T),a.length=c.length->eqL (a++b) (c++d)=(eqL a c&&eqL b d)
 |[],[],b,d,_=>by simp [eqL]
 |[],_::_,_,_,h=>by simp at h
 |_::_,[],_,_,h=>by simp at h
 |x::a,y::c,b,d,h=>by
  have e:=eO a c b d (by simpa using h);cases x <;> cases y <;> simp [eqL,e,Bool.and_assoc]
end
section
variable [Glb]{P:Program}{N:Nat}{w0:World}{S0:aa}{o:Oper}{a:Act}{E:Env}{st:St}
structure Of (P:Program) (S:ar) (w:World) (t:TypeId) (x:Value) (xs:List T):Prop where
 agg:au P t=true-> ∃c,x= .agg c
 one:au P t=false->x.oneCell'=true
 rep:bj S w x.cells.toList xs
end
section
variable {P:Program}{N:Nat}{w0:World}{S0:aa}{o:Oper}{a:Act}{E:Env}{st:St}
theorem eL{x:Value}(h:x.oneCell'=true):x.cells= #[x]:=by cases x <;> first|rfl|simp [Value.oneCell'] at h
theorem pS{S:ar}{w:World}{cs:List Value}{ts:List T}(h:bj S w cs ts)(off n:Nat):bj S w ((cs.drop off).take n) ((ts.drop off).take n):=by
 refine ⟨by simp [h.1],fun i x t b c=>?_⟩;rw [aF] at b c;split at b
 ·rename_i hi;rw [if_pos hi] at c;exact h.2 _ x t b c
 ·cases b
theorem dY{S:ar}{w:World}{t:TypeId}{d:TypeDesc}{i:TypeInfo}(c:P.underlying t=some d)(hi:P.info? t=some i)(k:au P t=false->i.size=1){cs:Array Value}{ts:List T}(h:bj S w cs.toList ts)
  {off:Nat} (m:off+i.size<=ts.length): ∃v,(part t cs off).run P w= .ok v w/\Of P S w t v ((ts.drop off).take i.size):=by
 have p:cs.size=ts.length:=by simpa using h.1
 cases b:au P t with
 |true=>
  refine ⟨_,fm c hi b cs off w,fun _=>⟨_,rfl⟩,(fun e=>by rw [b] at e;cases e),?_⟩
  have:=pS h off i.size
  show bj S w (cs.extract off (off+i.size)).toList _
  rw [Array.toList_extract,List.extract_eq_take_drop];rw [show off+i.size - off=i.size by omega];exact this
 |false=>
  have k:=k b;have g:off<cs.size:=by omega
  have n:ts[off]? =some (ts[off]'(by omega)):=ggZ _;have f:=h.2 off cs[off] _ (by simp [g]) n;refine ⟨cs[off],fq c b cs off _ (by simp [g]) w,(fun e=>by rw [b] at e;cases e),fun _=>f.1.one f.2,?_⟩;rw [eL (f.1.one f.2),k]
  have:(ts.drop off).take 1=[ts[off]'(by omega)]:=by
   rw [List.drop_eq_getElem_cons (by omega)];rfl
  rw [this];refine ⟨rfl,fun j x u l c=>?_⟩;cases j with
  |zero=>simp at l c;subst l;subst c;exact f
  |succ j=>simp at c
end
section
variable [Glb]{P:Program}{N:Nat}{w0:World}{S0:aa}{o:Oper}{a:Act}{E:Env}{st:St}
def pI(P:Program)(d:Nat)(t:TypeId)(b:List Sh):Prop:=
 ∀(S:ar) (w:World) (D:Nat) (x y:Value) (xs ys:List T),d<=D->Of P S w t x xs->Of P S w t y ys->fits b xs->fits b ys->(Op.equalIn D t x y).run P w= .ok (eqL xs ys) w
end
section
variable {P:Program}{N:Nat}{w0:World}{S0:aa}{o:Oper}{a:Act}{E:Env}{st:St}
theorem kj{d:Nat}{e:TypeId}{O:TypeDesc}{i:TypeInfo}{s:List Sh}(z:pI P d e s)(l:P.underlying e=some O)(hi:P.info? e=some i)(G:s.length=i.size)(I:0<i.size)(j:au P e=false->i.size=1)
  {S:ar} {w:World} {D:Nat} (C:d<=D) {X Y:Array Value} {A B:List T} (F:bj S w X.toList A) (H:bj S w Y.toList B): ∀(m k:Nat),fits (List.replicate m s).flatten (A.drop (k * i.size))->fits (List.replicate m s).flatten (B.drop (k * i.size))->
   (Op.eqItems D e i.size X Y (List.range' k m)).run P w= .ok (eqL (A.drop (k * i.size)) (B.drop (k * i.size))) w
 |0,k,fa,fb=>by
  have Q:A.drop (k * i.size)=[]:=by cases h:A.drop (k * i.size) with|nil=>rfl|cons x xs=>rw [h] at fa;simp [fits] at fa
  have L:B.drop (k * i.size)=[]:=by cases h:B.drop (k * i.size) with|nil=>rfl|cons x xs=>rw [h] at fb;simp [fits] at fb
  rw [Q,L];simp [Op.eqItems,eqL]
 |m+1,k,fa,fb=>by
  have J:=bB fa;have K:=bB fb;rw [List.replicate_succ,List.flatten_cons] at fa fb;rw [List.replicate_succ,List.flatten_cons,List.length_append,List.length_drop] at J K;obtain ⟨g,b⟩:=bc fa;obtain ⟨f,c⟩:=bc fb;rw [G] at g b f c;rw [List.drop_drop] at b c;have q:k * i.size+i.size=(k+1) * i.size:=by rw [Nat.add_mul];omega
  rw [q] at b c;obtain ⟨u,t,r⟩:=dY l hi j F (off:=k * i.size) (by omega);obtain ⟨v,y,p⟩:=dY l hi j H (off:=k * i.size) (by omega);have n:=z S w D u v _ _ C r p g f;have rest:=kj z l hi G I j C F H m (k+1) b c;have M:eqL (A.drop (k * i.size)) (B.drop (k * i.size))=(eqL ((A.drop (k * i.size)).take i.size) ((B.drop (k * i.size)).take i.size)&&eqL (A.drop ((k+1) * i.size)) (B.drop ((k+1) * i.size))):=by
   rw [<- eO _ _ _ _ (by simp;omega)]
   congr 1
   ·rw [<- q, <-List.drop_drop,List.take_append_drop]
   ·rw [<- q, <-List.drop_drop,List.take_append_drop]
  rw [List.range'_succ];simp only [Op.eqItems,Sem.run_bind,t,y,n,Result.andThen_ok,M];cases eqL ((A.drop (k * i.size)).take i.size) ((B.drop (k * i.size)).take i.size) with
  |true=>simpa using rest
  |false=>simp
theorem jj{d:Nat}(L: ∀t k,shapeOf P d t=some k->pI P d t k)(K: ∀t k,shapeOf P d t=some k->(∃ Q,P.underlying t=some Q)/\(au P t=false->k.length=1))
  {S:ar} {w:World} {D:Nat} (M:d<=D) {X Y:Array Value} {A B:List T} (O:bj S w X.toList A) (U:bj S w Y.toList B): ∀(fs:List Field) (off:Nat) (ss:List Sh),shapeOf.shapesOf (shapeOf P d) P fs off=some ss->
   fits ss (A.drop off)->fits ss (B.drop off)->(Op.eqFields D X Y fs).run P w= .ok (eqL (A.drop off) (B.drop off)) w
 |[],off,ss,h,fa,fb=>by
  simp [shapeOf.shapesOf] at h;subst h;have ha:A.drop off=[]:=by cases h:A.drop off with|nil=>rfl|cons x xs=>rw [h] at fa;simp [fits] at fa
  have hb:B.drop off=[]:=by cases h:B.drop off with|nil=>rfl|cons x xs=>rw [h] at fb;simp [fits] at fb
  rw [ha,hb];simp [Op.eqFields,eqL]
 |f::fs,off,ss,h,fa,fb=>by
  unfold shapeOf.shapesOf at h;split at h
  ·rename_i s r R hr;cases m:(Nat.beq s.length (P.cellsOf f.type)&&Nat.beq f.offset off&&f.name != "_" &&Nat.blt 0 s.length) with
   |false=>rw [m] at h;cases h
   |true=>
   rw [m] at h;simp only [cond_true,Option.some.injEq] at h;subst h;simp only [Bool.and_eq_true] at m;obtain ⟨⟨⟨H,I⟩,J⟩,F⟩:=m;have aH:0<s.length:=Nat.lt_of_lt_of_le (Nat.lt_succ_self 0) (nlZ F);have b:s.length=P.cellsOf f.type:=Nat.eq_of_beq_eq_true H;have W:f.offset=off:=Nat.eq_of_beq_eq_true I;have ox:f.name≠ "_" :=by simpa using J
   obtain ⟨⟨Q,n⟩,V⟩:=K _ _ R;have Z:=bB fa;have lb:=bB fb;rw [List.length_append,List.length_drop] at Z lb;have ud:s.length=0\/ ∃i,P.info? f.type=some i/\i.size=s.length:=by
    cases hi:P.info? f.type with
    |none=>left;rw [b];simp [Program.cellsOf,hi]
    |some i=>right;exact ⟨i,rfl,by rw [b];simp [Program.cellsOf,hi]⟩
   have mD: ∃i,P.info? f.type=some i/\i.size=s.length:=by
    cases hi:P.info? f.type with
    |none=>simp [Program.underlying,hi] at n
    |some i=>exact ⟨i,rfl,by rw [b];simp [Program.cellsOf,hi]⟩
   obtain ⟨i,hi,l⟩:=mD;obtain ⟨j,c⟩:=bc fa;obtain ⟨g,e⟩:=bc fb;rw [List.drop_drop] at c e;rw [<- l] at j c g e;obtain ⟨u,C,z⟩:=dY n hi (fun p=>by rw [l];exact V p) O (off:=off) (by omega);obtain ⟨v,G,q⟩:=dY n hi (fun p=>by rw [l];exact V p) U (off:=off) (by omega);have y:=L _ _ R S w D u v _ _ M z q j g;have rest:=jj L K M O U fs (off+i.size) r (by rw [l,b];exact hr) c e;have mK:eqL (A.drop off) (B.drop off)=(eqL ((A.drop off).take i.size) ((B.drop off).take i.size)&&eqL (A.drop (off+i.size)) (B.drop (off+i.size))):=by
    rw [<- eO _ _ _ _ (by simp;omega)]
    congr 1
    ·rw [<- List.drop_drop,List.take_append_drop]
    ·rw [<- List.drop_drop,List.take_append_drop]
   unfold Op.eqFields;rw [if_pos ox,W];simp only [Sem.run_bind,C,G,y,Result.andThen_ok,mK];cases eqL ((A.drop off).take i.size) ((B.drop off).take i.size) with
   |true=>simpa using rest
   |false=>simp
  ·cases h
theorem dF: ∀(d:Nat) (t:TypeId) (c:List Sh),shapeOf P d t=some c->(∃ g,P.underlying t=some g)/\(au P t=false->c.length=1)
 |0,_,_,h=>by simp [shapeOf] at h
 |d+1,t,c,h=>by
  unfold shapeOf at h;split at h
  ·rename_i b;cases h;exact ⟨⟨_,b⟩,fun _=>rfl⟩
  ·rename_i k b;cases h;exact ⟨⟨_,b⟩,fun _=>rfl⟩
  ·rename_i b;cases h;exact ⟨⟨_,b⟩,fun _=>rfl⟩
  ·rename_i len e b;exact ⟨⟨_,b⟩,fun f=>by simp [au,b] at f⟩
  ·rename_i fs b;exact ⟨⟨_,b⟩,fun f=>by simp [au,b] at f⟩
  ·cases h
theorem single{S:ar}{w:World}{t:TypeId}{x:Value}{xs:List T}(h:Of P S w t x xs)(f:au P t=false){s:Sh}(c:fits [s] xs): ∃u,xs=[u]/\Rep S w x u/\fits [s] [u]:=by
 have e:=h.one f;have b:=h.rep;rw [eL e] at b;cases xs with
 |nil=>simp [fits] at c
 |cons u us=>
  have d:=b.1
  have:us=[]:=by cases us with|nil=>rfl|cons _ _=>simp at d
  subst this;exact ⟨u,rfl,(b.2 0 x u rfl rfl).1,c⟩
theorem ig: ∀(d:Nat) (t:TypeId) (F:List Sh),shapeOf P d t=some F->pI P d t F
 |0,_,_,h=>by simp [shapeOf] at h
 |d+1,t,F,h=>by
  intro S w D x y xs ys Q l m z C;obtain ⟨D,rfl⟩: ∃K,D=K+1:=⟨D - 1,by omega⟩
  unfold shapeOf at h;split at h
  ·rename_i b;cases h;have c:au P t=false:=by simp [au,b]
   obtain ⟨u,rfl,f,p⟩:=single l c z;obtain ⟨v,rfl,g,n⟩:=single m c C;cases u <;> simp only [fits] at p
   cases v <;> simp only [fits] at n
   rw [f.aP,g.aP,run_equalIn_bool' w D t _ _ b];simp [eqL]
  ·rename_i k b;cases h;have c:au P t=false:=by simp [au,b]
   obtain ⟨u,rfl,f,p⟩:=single l c z;obtain ⟨v,rfl,g,n⟩:=single m c C;cases u <;> simp only [fits] at p
   cases v <;> simp only [fits] at n
   obtain ⟨rfl,_⟩:=p;obtain ⟨rfl,_⟩:=n;rw [f.aA,g.aA,run_equalIn_int w D t _ _ _ _ b];simp [eqL]
  ·rename_i b;cases h;have c:au P t=false:=by simp [au,b]
   obtain ⟨u,rfl,f,p⟩:=single l c z;obtain ⟨v,rfl,g,n⟩:=single m c C;cases u <;> simp only [fits] at p
   cases v <;> simp only [fits] at n
   rw [f.bg,g.bg,run_equalIn_string w D t _ _ b];simp [eqL,beq_toListBytes]
  ·rename_i len e b;split at h
   ·rename_i s I;cases A:(Nat.beq s.length (P.cellsOf e)&&Nat.blt 0 s.length) with
    |false=>rw [A] at h;cases h
    |true=>
    rw [A] at h;simp only [cond_true,Option.some.injEq] at h;subst h;rw [Bool.and_eq_true] at A;have B:s.length=P.cellsOf e:=Nat.eq_of_beq_eq_true A.1;have O:0<s.length:=Nat.lt_of_lt_of_le (Nat.lt_succ_self 0) (nlZ A.2);have c:au P t=true:=by simp [au,b]
    obtain ⟨X,rfl⟩:=l.agg c;obtain ⟨Y,rfl⟩:=m.agg c;obtain ⟨⟨R,r⟩,M⟩:=dF d e s I;have L: ∃i,P.info? e=some i/\i.size=s.length:=by
     cases hi:P.info? e with
     |none=>simp [Program.underlying,hi] at r
     |some i=>exact ⟨i,rfl,by rw [B];simp [Program.cellsOf,hi]⟩
    obtain ⟨i,hi,H⟩:=L
    have:=kj (ig d e s I) r hi H.symm (by omega) (fun J=>by rw [H];exact M J) (show d<=D by omega) l.rep m.rep len 0 (by simpa using z) (by simpa using C)
    have G:P.cellsOf e=i.size:=by rw [H,B]
    rw [run_equalIn_array w D X Y b hi,List.range_eq_range',G];rw [Nat.zero_mul,List.drop_zero,List.drop_zero] at this;exact this
   ·cases h
  ·rename_i fs b;cases j:P.stoodInHeld t with
   |true=>rw [j] at h;simp at h
   |false=>
   rw [j] at h;simp only [Bool.false_eq_true,if_false] at h;have c:au P t=true:=by simp [au,b]
   obtain ⟨X,rfl⟩:=l.agg c;obtain ⟨Y,rfl⟩:=m.agg c;have q:P.fieldsOf t=fs:=by simp [Program.fieldsOf,b]
   rw [run_equalIn_struct w D t X Y (by rw [q];exact b) j,q]
   have:=jj (ig d) (dF d) (show d<=D by omega) l.rep m.rep fs.toList 0 F h (by simpa using z) (by simpa using C)
   rw [List.drop_zero,List.drop_zero] at this;exact this
  ·cases h
theorem mS{S:ar}{w:World}{t:TypeId}(g:au P t=true){c:Array Value}{u:List T}(h:Rep S w (.agg c) (.agg u)):Of P S w t (.agg c) u:=by
 have b:=h.cells (fun ts e=>by cases e);exact ⟨fun _=>⟨c,rfl⟩,(fun d=>by rw [g] at d;cases d),⟨by simpa [T.cells] using b.1,fun i y v j f=>b.2 i y v (by simpa using j) f⟩⟩
end
section
variable [Glb]{P:Program}{N:Nat}{w0:World}{S0:aa}{o:Oper}{a:Act}{E:Env}{st:St}
theorem rK(h:SR N w0 S0 E st a.tmps)(hd:ay N o.dst){f:BinOp}{t ty:TypeId}{X Y:Operand}{x y:O}(l:f= .eql\/f= .neq)(r:o.op= .binOp f t X Y ty)(A:ak X=some x)(F:ak Y=some y)
  {n:List Sh} (m:shapeOf P 100 t=some n) (G:P.eqGuardType P.depth t=false) (j:au P t=true):
  Sound P N w0 S0 o a E st (eff (.eqv (aL f) n x y) (st.nm o.dst) st.sl st.bx):=by
 have e:=af h.sl A;have i:=af h.sl F;unfold eff;simp only;split
 ·rename_i u v z s;rw [z] at e;rw [s] at i;have b:=e.ax;have d:=i.ax;rintro ⟨C,B⟩;obtain ⟨c,p⟩:=gC b;obtain ⟨D,q⟩:=gC d;rw [p] at b;rw [q] at d;have g:=ig 100 t n m E.S E.w 10000 _ _ u v (by omega) (mS j b) (mS j d) C B;have k:=run_eqGuard_agg (P:=P) E.w f t X Y c D G;rcases l with rfl|rfl
  ·refine ai h hd (v:=.bool (eqL u v)) ?_ (.t _ _ (.bool _));unfold execOp;simp only [r,p,q,Sem.run_bind,k,Result.andThen_ok,run_eql_struct,g,Sem.run_pure]
  ·refine ai h hd (v:=.bool (!eqL u v)) ?_ (.t _ _ (.bool _));unfold execOp;simp only [r,p,q,Sem.run_bind,k,Result.andThen_ok,run_neq_struct,g,Sem.run_pure]
 ·trivial
theorem rJ(h:SR N w0 S0 E st a.tmps)(hd:ay N o.dst){e:BinOp}{t ty:TypeId}{X Y:Operand}{x y:O}(f:e= .eql\/e= .neq)(j:o.op= .binOp e t X Y ty)(n:ak X=some x)(p:ak Y=some y)
  (m:P.underlying t=some .bool):Sound P N w0 S0 o a E st (eff (.eqB (aL e) x y) (st.nm o.dst) st.sl st.bx):=by
 have b:=af h.sl n;have d:=af h.sl p;unfold eff;simp only;split
 ·rename_i u v g i;rw [g] at b;rw [i] at d;have k:=b.aP;have l:=d.aP;have c:=run_equal_bool (P:=P) E.w t u v m;intro _;rcases f with rfl|rfl
  ·refine ai h hd (v:=.bool (u==v)) ?_ (.t _ _ (.bool _));unfold execOp;simp [j,k,l,binOp,c,eqGuard]
  ·refine ai h hd (v:=.bool (!(u==v))) ?_ (.t _ _ (.bool _));unfold execOp;simp [j,k,l,binOp,c,eqGuard]
 ·trivial
end
section
variable {P:Program}{N:Nat}{w0:World}{S0:aa}{o:Oper}{a:Act}{E:Env}{st:St}
theorem eu{α:Type}{b:List α}(d:0<b.length): ∀n j,j<n * b.length->(List.replicate n b).flatten[j]? =b[j % b.length]?
 |0,j,h=>by simp at h
 |n+1,j,h=>by
  rw [List.replicate_succ,List.flatten_cons]
  by_cases c:j<b.length
  ·rw [List.getElem?_append_left c,Nat.mod_eq_of_lt c]
  ·rw [List.getElem?_append_right (by omega),eu d n (j - b.length) (by rw [Nat.add_mul] at h;omega)];rw [<- Nat.mod_eq_sub_mod (by omega)]
end
section
variable [Glb]{P:Program}{N:Nat}{w0:World}{S0:aa}{o:Oper}{a:Act}{E:Env}{st:St}
theorem pr(h:SR N w0 S0 E st a.tmps)(hd:ay N o.dst){X:Operand}{t e:TypeId}{j:TypeInfo}{p:List T}{y:O}(ho:o.op= .call {callee:=.builtin .clear,args:= #[X],argTypes:= #[t]})(hy:ak X=some y)
  (A:P.underlying t=some (.slice e)) (Y:P.info? e=some j) (hz:cq P e=some p) (aH:0<j.size):Sound P N w0 S0 o a E st (eff (.clr j.size p y) (st.nm o.dst) st.sl st.bx):=by
 have K:=af h.sl hy;obtain ⟨i,z,hi,I,B,F,aq,_⟩:=dm hz;rw [Y] at hi;cases hi;unfold eff;simp only;cases C:ev st.sl y with
 |view b off len sz=>
  rw [C] at K;obtain ⟨cap,hX,_,hlv⟩:=K.bM;simp only;cases U:st.bx b with
  |none=>trivial
  |some bx=>
   cases bx with
   |m _ _ _ _=>trivial
   |it _ _ _ _=>trivial
   |itd _ _=>trivial
   |v vs=>trivial
   |d m ts=>
    simp only;cases hs:Nat.beq j.size sz with
    |false=>trivial
    |true=>
     rintro ⟨V,hle⟩;obtain ⟨cs,e',hg,hc⟩:=(h.bx b _ U).cells rfl;cases hc with
     |d _ _ hl hsz M=>
      let vs:List Value:=(Builtin.zeroCells z.cells len).toList
      have s:vs.length=len * j.size:=by simp [vs,Builtin.zeroCells,F,B]
      have tg:0<p.length:=by omega
      have L: ∀(k:Nat) (x:Value) (u:T),vs[k]? =some x->(List.replicate len p).flatten[k]? =some u->Rep E.S E.w x u/\u.one=true:=fun k x u D A=>by
       have q:k<len * j.size:=by rw [<- s];exact (gsZ D).1
       rw [eu tg len k (by rw [<- B];exact q)] at A;have mH:k % z.cells.size<z.cells.size:=Nat.mod_lt _ (by omega);have r:z.cells[k % z.cells.size]? =some x:=by
        have:vs[k]? =some (z.cells[k % z.cells.size]!):=by simp [vs,Builtin.zeroCells,F, <-B,q]
        rw [this] at D;rw [<- D];simp [mH]
       rw [F] at r;exact aq E.S E.w _ x u r A
      have l:(List.replicate len p).flatten.length=len * j.size:=by simp [B]
      have Z: ∀v∈vs,v.oneCell'=true:=fun v C=>by
       obtain ⟨k,q⟩:=List.mem_iff_getElem?.1 C;have H:k<(List.replicate len p).flatten.length:=by rw [l, <-s];exact (gsZ q).1
       have:=L k v _ q (ggZ H)
       exact this.1.one this.2
      have R:=run_storeCells_at P (E.κ b) off e' vs 0 cs E.w hg (by omega) Z;simp only [Nat.add_zero] at R;have G:(execOp a.eval o).run P E.w= .ok (.value (.tuple #[])) (E.w.setRow (E.κ b) (cs.toList.take off++vs++cs.toList.drop (off+vs.length)).toArray):=by
       obtain ⟨n,rfl⟩: ∃n,len=n+1:=⟨len - 1,by omega⟩
       refine aD ho ?_;have J:(storeCells ⟨E.κ b,off,none⟩ (Builtin.zeroCells z.cells (n+1)).toList).run P E.w= .ok () (E.w.setRow (E.κ b) (cs.toList.take off++vs++cs.toList.drop (off+vs.length)).toArray):=R;simp [builtin,Builtin.clear_,hX,run_underlying A,zeroValue,typeInfo,Y,I,J]
      refine ⟨_,_,{E with w:=E.w.setRow (E.κ b) (cs.toList.take off++vs++cs.toList.drop (off+vs.length)).toArray },G,.inl rfl,?_⟩;rw [gd];refine (h.write U rfl _ _ fun E' g=>?_).cN hd (.top _);refine .d m _ (by rw [bN _ _ _ _ l (by omega)];exact hl) (by simp;omega) (fun k v w c f=>?_);rw [List.getElem?_toArray,bz _ _ _ (by simp;omega)] at c;rw [bD _ _ _ _ l (by omega)] at f
      by_cases W:k<off
      ·rw [if_pos W] at c f
       have:=M k v w (by simpa using c) f
       exact ⟨g.rep this.1,this.2⟩
      ·rw [if_neg W] at c f
       by_cases Q:k<off+len * j.size
       ·rw [if_pos (by omega)] at c;rw [if_pos Q] at f
        have:=L (k - off) v w c f
        exact ⟨g.rep this.1,this.2⟩
       ·rw [if_neg (by omega)] at c;rw [if_neg Q] at f
        have:=M k v w (by simpa using c) f
        exact ⟨g.rep this.1,this.2⟩
 |_=>trivial
end
end Go.DL
end
section
namespace Go.DL
open Go.RowKit
section
variable [Glb]{P:Program}{N:Nat}{w0:World}{S0:aa}{o:Oper}{a:Act}{E:Env}{st:St}
theorem SR.jX{b:Array Value}(h:SR N w0 S0 E st b){n:Nat}(I:st.bx n=none)(F:Obj)(B:BX)(L: ∀y:Env,Grow E y->bP y F B)(v:Value)(u:V)
  (H: ∀y:Env,y.κ n=E.w.heap.size->y.live n=true->VR y v u) {d:Nat} (hd:d<N):
  SR N w0 S0 {E with w:=E.w.alloc F,κ:=upd E.κ n E.w.heap.size,live:=upd E.live n true } {st with sl:=upd st.sl d u,bx:=upd st.bx n (some B)}
   (b.setIfInBounds d v):=by
 have K:E.live n=false:=by rw [h.live,I];rfl
 have ne: ∀m,E.live m=true->m≠n:=fun m c e=>by rw [e,K] at c;cases c
 have s: ∀m,E.live m=true->E.κ m<E.w.heap.size:=fun m c=>by
  rw [h.live] at c;obtain ⟨j,q⟩:=Option.isSome_iff_exists.1 c;exact (h.bx m j q).lt
 have C:Below E.w.heap.size E.w (E.w.alloc F):=(Below.refl _ _).alloc (Nat.le_refl _) _;have g:Grow E {E with w:=E.w.alloc F,κ:=upd E.κ n E.w.heap.size,live:=upd E.live n true }:=
  ⟨rfl,fun m c=>⟨by show upd E.live n true m=true;rw [ae _ _ _ _ (ne m c)];exact c,ae _ _ _ _ (ne m c)⟩,
   fun r k D=>⟨D,C.block k (h.rows r k D).2.1,fun _=>Iff.rfl⟩,fun _ _ t=>t,fun b o t=>aC.dC C (h.lt b o t)⟩
 refine ⟨by simp [h.size],h.base,h.glob,fun m=>?_,fun k m=>(h.gh k m).grow g,fun m j c=>?_,fun m=>?_,fun m z c i l=>?_,fun r k D=>?_,h.rinj,fun b o t=>?_,?_,h.s0,h.s1,fun k o G=>⟨(h.obj k o G).1,(C.block k (Array.getElem?_eq_some_iff.1 (h.obj k o G).2).1).trans (h.obj k o G).2⟩,h.cx⟩
 ·rw [jG (by rw [h.size];exact hd)]
  by_cases c:m=d
  ·subst c;rw [if_pos rfl];show VR _ _ (upd st.sl m _ m)
   rw [aj];exact H _ (aj _ _ _) (aj _ _ _)
  ·rw [if_neg c];show VR _ _ (upd st.sl d _ m)
   rw [ae _ _ _ _ c];exact (h.sl m).grow g
 ·by_cases f:m=n
  ·subst f;have q:B=j:=by
    have:upd st.bx m (some B) m=some j:=c
    rw [aj] at this;exact Option.some.inj this
   subst q;show bG _ (upd E.κ m E.w.heap.size m) _
   rw [aj];exact ⟨by rw [g.B,h.base];exact h.below.size,fun o t=>absurd (h.lt _ o t) (Nat.lt_irrefl _),_,heap_alloc_new _ _,L _ g⟩
  ·have i:st.bx m=some j:=by
    have:upd st.bx n (some B) m=some j:=c
    rwa [ae _ _ _ _ f] at this
   show bG _ (upd E.κ n E.w.heap.size m) j
   rw [ae _ _ _ _ f];have A:=h.bx m j i;exact A.grow g (C.block _ (s m (by rw [h.live,i];rfl))) A.free
 ·show upd E.live n true m=(upd st.bx n (some _) m).isSome
  by_cases f:m=n
  ·subst f;rw [aj,aj];rfl
  ·rw [ae _ _ _ _ f,ae _ _ _ _ f];exact h.live m
 ·have c:upd E.live n true m=true:=c;have i:upd E.live n true z=true:=i;have l:upd E.κ n E.w.heap.size m=upd E.κ n E.w.heap.size z:=l
  by_cases p:m=n <;> by_cases x:z=n
  ·rw [p,x]
  ·subst p;rw [ae _ _ _ _ x] at i;rw [aj,ae _ _ _ _ x] at l;exact absurd (s z i) (by omega)
  ·subst x;rw [ae _ _ _ _ p] at c;rw [aj,ae _ _ _ _ p] at l;exact absurd (s m c) (by omega)
  ·rw [ae _ _ _ _ p] at c l;rw [ae _ _ _ _ x] at i l;exact h.inj m z c i l
 ·obtain ⟨p,x,J⟩:=h.rows r k D;refine ⟨p,by simp;omega,fun m c=>?_⟩;have c:upd E.live n true m=true:=c;show upd E.κ n E.w.heap.size m≠k
  by_cases f:m=n
  ·subst f;rw [aj];omega
  ·rw [ae _ _ _ _ f] at c ⊢;exact J m c
 ·have:=h.lt b o t
  simp;omega
 ·exact h.below.trans (C.mono h.below.size)
theorem SR.rT{b:Array Value}(h:SR N w0 S0 E st b){n:Nat}(l:st.bx n=none)(f:Bool)(g:List Sh)
  {d:Nat} (hd:d<N):
  SR N w0 S0 {E with w:=E.w.alloc (.map #[] 0),κ:=upd E.κ n E.w.heap.size,live:=upd E.live n true } {st with sl:=upd st.sl d (.mp n),bx:=upd st.bx n (some (.m f g [] none))}
   (b.setIfInBounds d (.map (some E.w.heap.size))):=
 h.jX l _ _ (fun _ _=>.map #[] 0 f g [] none ⟨rfl,fun i x e c=>by simp at c,fun x c=>by simp at c,by simp,fun p k=>by cases k⟩) _ _ (fun r q j=>by rw [<- q];exact .mp n j) hd
theorem SR.pG{b:Array Value}(h:SR N w0 S0 E st b){n:Nat}{B:BX}(H:st.bx n=some B)(t:Obj)(s:BX)
  (L: ∀G:Env,Grow E G->bP G t s):
  SR N w0 S0 {E with w:={E.w with heap:=E.w.heap.setIfInBounds (E.κ n) t }} {st with bx:=upd st.bx n (some s)} b:=by
 have j:=h.bx n _ H;obtain ⟨o0,y,I⟩:=j.at_;have D:cz o0=false:=by cases I <;> rfl
 have C:E.live n=true:=by rw [h.live,H];rfl
 have J:E.κ n<E.w.heap.size:=j.lt;have other: ∀k,k≠E.κ n->(E.w.heap.setIfInBounds (E.κ n) t)[k]? =E.w.heap[k]? :=fun k i=>(Go.MapKept.heap_set y).2 k i
 have g:Grow E {E with w:={E.w with heap:=E.w.heap.setIfInBounds (E.κ n) t }}:=⟨rfl,fun _ h=>⟨h,rfl⟩,fun r k x=>⟨x,other k (fun e=>(h.rows r k x).2.2 n C e.symm),fun _=>Iff.rfl⟩,fun _ _ u=>u,
  fun b o u=>aC.dD (other b (fun e=>j.free o (e▸u)))⟩
 have d:(E.w.heap.setIfInBounds (E.κ n) t).size=E.w.heap.size:=by simp
 refine ⟨h.size,h.base,h.glob,fun m=>(h.sl m).grow g,fun k m=>(h.gh k m).grow g,fun m l F=>?_,fun m=>?_,h.inj,fun r k x=>?_,h.rinj,fun b o u=>?_,?_,h.s0,h.s1,
  fun k o i=>⟨(h.obj k o i).1,(other k fun e=>by have f:=(h.obj k o i);rw [e,y] at f;have z:=f.2;cases z;rw [D] at f;cases f.1).trans (h.obj k o i).2⟩,h.cx⟩
 ·by_cases c:m=n
  ·subst c;have A:s=l:=by
    have:upd st.bx m (some s) m=some l:=F
    rw [aj] at this;exact Option.some.inj this
   subst A;exact ⟨j.old,j.free,_,(Go.MapKept.heap_set y).1,L _ g⟩
  ·have q:st.bx m=some l:=by
    have:upd st.bx n (some s) m=some l:=F
    rwa [ae _ _ _ _ c] at this
   have p:=h.bx m l q;exact p.grow g (other _ (fun e=>c (h.inj m n (by rw [h.live,q];rfl) C e))) p.free
 ·show E.live m=(upd st.bx n (some _) m).isSome
  by_cases c:m=n
  ·subst c;rw [aj];exact C
  ·rw [ae _ _ _ _ c];exact h.live m
 ·obtain ⟨f,z,K⟩:=h.rows r k x;exact ⟨f,by rw [d];exact z,K⟩
 ·rw [d];exact h.lt b o u
 ·refine h.below.trans (.of rfl rfl rfl (by rw [d];exact Nat.le_refl _) (fun k i=>other k ?_) (Nat.le_refl _))
  have:=j.old
  rw [h.base] at this;omega
theorem SR.ny{b:Array Value}(h:SR N w0 S0 E st b){n:Nat}{f:Bool}{i:List Sh}{j:List (T×T)}{p:Option (List Nat×Nat)}(l:st.bx n=some (.m f i j p))(d:Array MapEntry)(c:Nat)(e:List (T×T))
  (k:bL E d c f i e none):
  SR N w0 S0 {E with w:={E.w with heap:=E.w.heap.setIfInBounds (E.κ n) (.map d c)}} {st with bx:=upd st.bx n (some (.m f i e none))} b:=
 h.pG l _ _ fun _ g=>.map d c f i e none (k.grow g)
end
section
variable {P:Program}{N:Nat}{w0:World}{S0:aa}{o:Oper}{a:Act}{E:Env}{st:St}
theorem lK: ∀{a b:List Sh},kL a b=true->a=b
 |[],[],_=>rfl
 |[],_::_,h=>by cases h
 |_::_,[],h=>by cases h
 |x::a,y::b,h=>by
  simp only [kL,Bool.and_eq_true] at h;have c:x=y:=by
   have:=h.1
   cases x <;> cases y <;> simp_all [Sh.same]
  rw [c,lK h.2]
theorem eS{d c:Bool}{e b:List Sh}(h:ct d e c b=true):d=c/\e=b:=by
 simp only [ct,Bool.and_eq_true,beq_iff_eq] at h;exact ⟨h.1,lK h.2⟩
theorem mM{S:ar}{w:World}{f:TypeId}{v:Value}{k:T}{d:List Sh}(h:Rep S w v k)(b:aR (au P f) d k):Of P S w f v k.cells/\fits d k.cells:=by
 cases e:au P f with
 |true=>
  rw [e] at b;cases k with
  |agg ts=>obtain ⟨c,rfl⟩:=gC h;exact ⟨mS e h,b.2⟩
  |_=>cases b.1
 |false=>
  rw [e] at b;have one:k.one=true->k.cells=[k]->fits d [k]->Of P S w f v k.cells/\fits d k.cells:=fun j q p=>by
   have n:=h.one j;rw [q];refine ⟨⟨(fun l=>by rw [e] at l;cases l),fun _=>n,?_⟩,p⟩;rw [eL n];exact ⟨rfl,fun i x t g m=>by
    cases i with
    |zero=>simp at g m;subst g;subst m;exact ⟨h,j⟩
    |succ i=>simp at g⟩
  cases k with
  |agg ts=>cases b.1
  |tup ts=>exfalso;have:=b.2;cases d with
   |nil=>simp [fits] at this
   |cons s ss=>cases s <;> simp [fits] at this
  |_=>exact one rfl rfl b.2
theorem lO{S:ar}{w:World}{c:TypeId}{d:List Sh}(h:shapeOf P 100 c=some d){x y:Value}{a b:T}(e:Rep S w x a)(m:Rep S w y b)(i:aR (au P c) d a)(j:aR (au P c) d b):
  (Op.equal c x y).run P w= .ok (eqL a.cells b.cells) w:=by
 obtain ⟨f,l⟩:=mM e i;obtain ⟨k,g⟩:=mM m j;exact ig 100 c d h S w 10000 x y _ _ (by omega) f k l g
end
section
variable [Glb]{P:Program}{N:Nat}{w0:World}{S0:aa}{o:Oper}{a:Act}{E:Env}{st:St}
def At(k:List T)(b:List (T×T))(l:List MapEntry)(i:Nat):Option (Nat×Value)->Prop
 |none=> ∀e∈b,eqL k e.1.cells=false
 |some (m,v)=> ∃j x e,m=i+j/\l[j]? =some x/\v=x.val/\b[j]? =some e/\eqL k e.1.cells=true/\ ∀c∈b.take j,eqL k c.1.cells=false
end
section
variable {P:Program}{N:Nat}{w0:World}{S0:aa}{o:Oper}{a:Act}{E:Env}{st:St}
theorem At.cons{k:List T}{e:T×T}{n:List (T×T)}{x:MapEntry}{l:List MapEntry}{i:Nat}{r:Option (Nat×Value)}(h:At k n l (i+1) r)(g:eqL k e.1.cells=false):At k (e::n) (x::l) i r:=by
 cases r with
 |none=>intro f d;rcases List.mem_cons.1 d with rfl|c;exact g;exact h f c
 |some p=>
  obtain ⟨m,v⟩:=p;obtain ⟨j,y,f,A,t,z,u,q,w⟩:=h;refine ⟨j+1,y,f,by omega,by simpa using t,z,by simpa using u,q,fun s b=>?_⟩;rw [List.take_succ_cons] at b;rcases List.mem_cons.1 b with rfl|c
  ·exact g
  ·exact w s c
theorem At.here{k:List T}{e:T×T}{c:List (T×T)}{x:MapEntry}{l:List MapEntry}{i:Nat}(b:eqL k e.1.cells=true):At k (e::c) (x::l) i (some (i,x.val)):=
 ⟨0,x,e,rfl,rfl,rfl,rfl,b,fun _ h=>by simp at h⟩
theorem gD{S:ar}{w:World}{d:TypeId}{g:List Sh}(q:shapeOf P 100 d=some g){v:Value}{k:T}(n:Rep S w v k)(p:aR (au P d) g k): ∀(l:List MapEntry) (c:List (T×T)) (i:Nat),l.length=c.length->
  (∀ (j:Nat) (x:MapEntry) (e:T×T),l[j]? =some x->c[j]? =some e->Rep S w x.key e.1/\aR (au P d) g e.1)-> ∃r,(Instr.findAsking d v l i).run P w= .ok r w/\At k.cells c l i r
 |[],[],i,_,_=>⟨none,rfl,fun e b=>by simp at b⟩
 |[],_::_,_,h,_=>by simp at h
 |_::_,[],_,h,_=>by simp at h
 |x::l,e::c,i,hl,h=>by
  obtain ⟨s,u⟩:=h 0 x e rfl rfl;have m:=lO q n s p u;unfold Instr.findAsking;rw [Sem.run_bind,m];simp only [Result.andThen_ok];cases b:eqL k.cells e.1.cells with
  |true=>exact ⟨_,by simp,At.here b⟩
  |false=>
   obtain ⟨r,y,f⟩:=gD q n p l c (i+1) (by simpa using hl) (fun j x e t b=>h (j+1) x e (by simpa using t) (by simpa using b));exact ⟨r,by simpa using y,f.cons b⟩
theorem rD{S:ar}{w:World}{j:TypeId}{e:List Sh}(c:shapeOf P 100 j=some e)(l:au P j=false){d:TypeDesc}(hd:P.underlying j=some d){x y:Value}{a b:T}(g:Rep S w x a)(i:Rep S w y b)
  (p:aR false e a) (n:aR false e b):Instr.sameNow d x y=some (eqL a.cells b.cells):=by
 unfold shapeOf at c;rw [hd] at c;have m: ∀{ts:List T}, ¬aR false e (.agg ts):=fun h=>by cases h.1
 have one: ∀{t:T},aR false e t->fits e [t]:=fun {t} h=>by cases t <;> first|exact h.2|exact absurd h m
 have fa:=one p;have f:=one n;split at c
 ·rename_i h;cases h;cases c;cases a <;> simp only [fits] at fa
  cases b <;> simp only [fits] at f
  rw [g.aP,i.aP];simp [Instr.sameNow,eqL,T.cells]
 ·rename_i k h;cases h;cases c;cases a <;> simp only [fits] at fa
  cases b <;> simp only [fits] at f
  obtain ⟨rfl,_⟩:=fa;obtain ⟨rfl,_⟩:=f;rw [g.aA,i.aA];simp [Instr.sameNow,eqL,T.cells]
 ·rename_i h;cases h;cases c;cases a <;> simp only [fits] at fa
  cases b <;> simp only [fits] at f
  rw [g.bg,i.bg];simp [Instr.sameNow,eqL,T.cells]
 ·rename_i h;cases h;simp [au,hd] at l
 ·rename_i h;cases h;simp [au,hd] at l
 ·cases c
theorem jn{S:ar}{w:World}{n:TypeId}{g:List Sh}(t:shapeOf P 100 n=some g)(s:au P n=false){d:TypeDesc}(hd:P.underlying n=some d){v:Value}{k:T}(p:Rep S w v k)(q:aR false g k): ∀(l:List MapEntry) (c:List (T×T)) (i:Nat),l.length=c.length->
  (∀ (j:Nat) (x:MapEntry) (e:T×T),l[j]? =some x->c[j]? =some e->Rep S w x.key e.1/\aR false g e.1)-> ∃r,Instr.findNow d v l i=some r/\At k.cells c l i r
 |[],[],i,_,_=>⟨none,rfl,fun e b=>by simp at b⟩
 |[],_::_,_,h,_=>by simp at h
 |_::_,[],_,h,_=>by simp at h
 |x::l,e::c,i,hl,h=>by
  obtain ⟨u,z⟩:=h 0 x e rfl rfl;have m:=rD t s hd p u q z;unfold Instr.findNow;rw [m];cases b:eqL k.cells e.1.cells with
  |true=>exact ⟨_,rfl,At.here b⟩
  |false=>
   obtain ⟨r,A,f⟩:=jn t s hd p q l c (i+1) (by simpa using hl) (fun j x e y b=>h (j+1) x e (by simpa using y) (by simpa using b));exact ⟨r,A,f.cons b⟩
theorem cQ{S:ar}{w:World}{c:TypeId}{i:List Sh}(q:shapeOf P 100 c=some i){v:Value}{k:T}(s:Rep S w v k)(n:aR (au P c) i k)(l:List MapEntry)(b:List (T×T))(p:l.length=b.length)
  (h: ∀(j:Nat) (x:MapEntry) (e:T×T),l[j]? =some x->b[j]? =some e->Rep S w x.key e.1/\aR (au P c) i e.1): ∃r,(Instr.findKey c v l).run P w= .ok r w/\At k.cells b l 0 r:=by
 obtain ⟨⟨d,hd⟩,_⟩:=dF 100 c i q;unfold Instr.findKey;rw [Sem.run_bind,run_underlying hd];simp only [Result.andThen_ok];cases g:au P c with
 |false=>
  rw [g] at n h;obtain ⟨r,u,m⟩:=jn q g hd s n l b 0 p h;exact ⟨r,by rw [u];rfl,m⟩
 |true=>
  cases f:Instr.findNow d v l 0 with
  |none=>exact gD q s n l b 0 p h
  |some r=>
   cases l with
   |nil=>
    have:b=[]:=List.length_eq_zero_iff.1 p.symm
    subst this;simp only [Instr.findNow,Option.some.injEq] at f;subst f;exact ⟨none,rfl,fun e t=>by simp at t⟩
   |cons x l=>
    exfalso;unfold Instr.findNow at f
    have:Instr.sameNow d v x.key=none:=by
     unfold au at g;rw [hd] at g;cases d <;> first|rfl|cases g
    rw [this] at f;cases f
theorem At.find{k:List T}: ∀{b:List (T×T)} {l:List MapEntry} {i:Nat} {r:Option (Nat×Value)},At k b l i r->match r with
  |none=>eA k b=none/\cM k b=b
  |some (m,_)=> ∃e,b[m - i]? =some e/\eA k b=some e.2/\cM k b=b.eraseIdx (m - i)
 |b,l,i,none,h=>by
  induction b with
  |nil=>exact ⟨rfl,rfl⟩
  |cons e b g=>
   have:=g fun f q=>h f (List.mem_cons_of_mem _ q)
   have s:=h e (by simp);simp only [eA,cM,s,cond_false];exact ⟨this.1,by rw [this.2]⟩
 |b,l,i,some (m,v),h=>by
  obtain ⟨j,x,e,rfl,u,w,c,t,p⟩:=h;simp only [Nat.add_sub_cancel_left];refine ⟨e,c,?_⟩;clear u w x v
  induction b generalizing j with
  |nil=>simp at c
  |cons e0 b g=>
   cases j with
   |zero=>
    simp at c;subst c;simp [eA,cM,t]
   |succ j=>
    have n:=p e0 (by simp)
    have:=g j (by simpa using c) (fun f d=>p f (by rw [List.take_succ_cons];exact List.mem_cons_of_mem _ d))
    simp only [eA,cM,n,cond_false,List.eraseIdx_cons_succ];exact ⟨this.1,by rw [this.2]⟩
theorem At.put{k v:T}: ∀{b:List (T×T)} {l:List MapEntry} {i:Nat} {r:Option (Nat×Value)},At k.cells b l i r->match r with
  |none=>bC k v b=b++[(k,v)]
  |some (m,_)=>bC k v b=b.set (m - i) (k,v)
 |b,l,i,none,h=>by
  induction b with
  |nil=>rfl
  |cons e b g=>
   have:=g fun f q=>h f (List.mem_cons_of_mem _ q)
   have s:=h e (by simp);simp only [bC,s,cond_false];rw [this];rfl
 |b,l,i,some (m,v'),h=>by
  obtain ⟨j,x,e,rfl,u,w,c,t,p⟩:=h;simp only [Nat.add_sub_cancel_left];clear u w x v'
  induction b generalizing j with
  |nil=>simp at c
  |cons e0 b g=>
   cases j with
   |zero=>simp at c;subst c;simp [bC,t]
   |succ j=>
    have n:=p e0 (by simp)
    have:=g j (by simpa using c) (fun f d=>p f (by rw [List.take_succ_cons];exact List.mem_cons_of_mem _ d))
    simp only [bC,n,cond_false,List.set_cons_succ];rw [this]
end
section
variable [Glb]{P:Program}{N:Nat}{w0:World}{S0:aa}{o:Oper}{a:Act}{E:Env}{st:St}
def sP(P:Program)(c:Bool)(d:Nat)(t:TypeId)(b:List Sh):Prop:=
 ∀(S:ar) (w:World) (D:Nat) (x:Value) (xs:List T),d<=D->Of P S w t x xs->fits b xs->(Instr.checkKey c D t x).run P w= .ok () w
end
section
variable {P:Program}{N:Nat}{w0:World}{S0:aa}{o:Oper}{a:Act}{E:Env}{st:St}
theorem nB{f:Field}{s:List Sh}{d:Nat}(e:shapeOf P d f.type=some s)(b:s.length=P.cellsOf f.type): ∃i,P.info? f.type=some i/\i.size=s.length:=by
 obtain ⟨⟨g,c⟩,_⟩:=dF d f.type s e;cases hi:P.info? f.type with
 |none=>simp [Program.underlying,hi] at c
 |some i=>exact ⟨i,rfl,by rw [b];simp [Program.cellsOf,hi]⟩
theorem fU(I:Bool): ∀(d:Nat) (t:TypeId) (J:List Sh),shapeOf P d t=some J->sP P I d t J
 |0,_,_,h=>by simp [shapeOf] at h
 |d+1,t,J,h=>by
  intro S w D x xs hD G O;obtain ⟨D,rfl⟩: ∃D',D=D'+1:=⟨D - 1,by omega⟩
  unfold shapeOf at h;split at h
  ·rename_i b;cases h;obtain ⟨u,rfl,hu1,fu⟩:=single G (by simp [au,b]) O;simp [Instr.checkKey,run_underlying b]
  ·rename_i k b;cases h;simp [Instr.checkKey,run_underlying b]
  ·rename_i b;cases h;simp [Instr.checkKey,run_underlying b]
  ·rename_i len e b;split at h
   ·rename_i s B;cases n:(Nat.beq s.length (P.cellsOf e)&&Nat.blt 0 s.length) with
    |false=>rw [n] at h;cases h
    |true=>
    rw [n] at h;simp only [cond_true,Option.some.injEq] at h;subst h;rw [Bool.and_eq_true] at n;have p:s.length=P.cellsOf e:=Nat.eq_of_beq_eq_true n.1;have hg:au P t=true:=by simp [au,b]
    obtain ⟨X,rfl⟩:=G.agg hg;obtain ⟨⟨de,l⟩,Y⟩:=dF d e s B;have mD: ∃i,P.info? e=some i/\i.size=s.length:=by
     cases hi:P.info? e with
     |none=>simp [Program.underlying,hi] at l
     |some i=>exact ⟨i,rfl,by rw [p];simp [Program.cellsOf,hi]⟩
    obtain ⟨i,hi,z⟩:=mD;have IH:=fU I d e s B;rw [Instr.checkKey];simp only [Sem.run_bind,run_underlying b,Result.andThen_ok];simp only [Std.Legacy.Range.forIn_eq_forIn_range',Std.Legacy.Range.size,Nat.sub_zero,Nat.add_one_sub_one,Nat.div_one];have c: ∀j∈List.range' 0 len, ∃a,(part e X (j * i.size)).run P w= .ok a w/\(Instr.checkKey I D e a).run P w= .ok () w:=fun j K=>by
     have K:j<len:=by simpa using K
     have hl:=bB O;have H:(List.replicate len s).flatten.length=len * s.length:=by simp
     rw [H] at hl;have R:j * i.size+i.size<=xs.length:=by
      rw [hl,z, <-Nat.succ_mul];exact Nat.mul_le_mul_right _ K
     obtain ⟨v,Z,M⟩:=dY l hi (fun hh=>by rw [z];exact Y hh) G.rep (off:=j * i.size) R;refine ⟨v,Z,IH S w D v _ (by omega) M ?_⟩;have V: ∀(j m:Nat) (ys:List T),j<m->fits (List.replicate m s).flatten ys->fits s ((ys.drop (j * s.length)).take s.length):=by
      intro j
      induction j with
      |zero=>
       intro m ys hm g;obtain ⟨m,rfl⟩: ∃k,m=k+1:=⟨m - 1,by omega⟩
       rw [List.replicate_succ,List.flatten_cons] at g;simpa using (bc g).1
      |succ j q=>
       intro m ys hm g;obtain ⟨m,rfl⟩: ∃k,m=k+1:=⟨m - 1,by omega⟩
       rw [List.replicate_succ,List.flatten_cons] at g
       have:=q m _ (by omega) (bc g).2
       rw [List.drop_drop] at this;rwa [Nat.succ_mul,Nat.add_comm (j * s.length)]
     rw [z];exact V j len xs K O
    generalize List.range' 0 len=is at c
    induction is with
    |nil=>simp
    |cons j is q=>
     obtain ⟨a,p1,p2⟩:=c j (by simp);simp only [List.forIn_cons,Sem.run_bind,run_sizeOf hi,Result.andThen_ok,p1,p2,Sem.run_pure];exact q (fun y hy=>c y (by simp [hy]))
   ·cases h
  ·rename_i fs b;cases F:P.stoodInHeld t with
   |true=>rw [F] at h;simp at h
   |false=>
   rw [F] at h;simp only [Bool.false_eq_true,if_false] at h;have hg:au P t=true:=by simp [au,b]
   obtain ⟨X,rfl⟩:=G.agg hg;rw [Instr.checkKey];simp only [Sem.run_bind,run_underlying b,Result.andThen_ok];rw [<- Array.forIn_toList];have all: ∀(L:List Field) (off:Nat) (ss:List Sh),shapeOf.shapesOf (shapeOf P d) P L off=some ss->fits ss (xs.drop off)-> ∀f∈L,f.name≠ "_" /\ ∃a,(part f.type X f.offset).run P w= .ok a w/\(Instr.checkKey I D f.type a).run P w= .ok () w:=by
    intro L
    induction L with
    |nil=>intro off ss _ _ f g;cases g
    |cons A L q=>
     intro off ss h fa f g;unfold shapeOf.shapesOf at h;split at h
     ·rename_i s r B hr;cases n:(Nat.beq s.length (P.cellsOf A.type)&&Nat.beq A.offset off&&A.name != "_" &&Nat.blt 0 s.length) with
      |false=>rw [n] at h;cases h
      |true=>
      rw [n] at h;simp only [cond_true,Option.some.injEq] at h;subst h;simp only [Bool.and_eq_true] at n;obtain ⟨⟨⟨hc1,hc2⟩,U⟩,hc4⟩:=n;have p:s.length=P.cellsOf A.type:=Nat.eq_of_beq_eq_true hc1;have qk:A.offset=off:=Nat.eq_of_beq_eq_true hc2;have ox:A.name≠ "_" :=by simpa using U
      obtain ⟨⟨de,l⟩,Y⟩:=dF d _ _ B;obtain ⟨i,hi,z⟩:=nB B p;obtain ⟨Q,C⟩:=bc fa;rw [List.drop_drop] at C;have la:=bB fa;rw [List.length_append,List.length_drop] at la;have aH:0<s.length:=Nat.lt_of_lt_of_le (Nat.lt_succ_self 0) (nlZ hc4);rcases List.mem_cons.1 g with rfl|W
      ·obtain ⟨v,Z,M⟩:=dY l hi (fun hh=>by rw [z];exact Y hh) G.rep (off:=off) (by omega);rw [z] at M;refine ⟨ox,v,by rw [qk];exact Z,fU I d f.type s B S w D v _ (by omega) M Q⟩
      ·exact q (off+s.length) r (by rw [p];exact hr) C f W
     ·cases h
   have deep:=all fs.toList 0 J h (by simpa using O);generalize fs.toList=L at deep
   induction L with
   |nil=>simp
   |cons f L q=>
    obtain ⟨hn,a,p1,p2⟩:=deep f (by simp);simp only [List.forIn_cons,Sem.run_bind,hn,ne_eq,not_false_eq_true,if_true,Result.andThen_ok,p1,p2,Sem.run_pure];exact q (fun y hy=>deep y (by simp [hy]))
  ·cases h
theorem dz{S:ar}{w:World}{b:TypeId}{c:List Sh}(g:shapeOf P 100 b=some c){v:Value}{k:T}(e:Rep S w v k)(h:aR (au P b) c k)(d:Bool):(Instr.checkKey d 10000 b v).run P w= .ok () w:=by
 obtain ⟨f,i⟩:=mM e h;exact fU d 100 b c g S w 10000 v _ (by omega) f i
theorem lJ{S:ar}{w:World}{s:Sh}{x y:Value}{u v:T}(d:Rep S w x u)(f:Rep S w y v)(c:fits [s] [u])(b:fits [s] [v])(e:eqL [u] [v]=true)(n:Nat):Instr.sameBits n x y=true:=by
 cases s with
 |int k=>
  cases u <;> simp only [fits] at c
  cases v <;> simp only [fits] at b
  obtain ⟨rfl,_⟩:=c;obtain ⟨rfl,_⟩:=b;rw [d.aA,f.aA];cases n <;> simpa [Instr.sameBits,eqL] using e
 |bool=>
  cases u <;> simp only [fits] at c
  cases v <;> simp only [fits] at b
  rw [d.aP,f.aP];cases n <;> simpa [Instr.sameBits,eqL] using e
 |str=>
  cases u <;> simp only [fits] at c
  cases v <;> simp only [fits] at b
  rw [d.bg,f.bg];cases n <;> simpa [Instr.sameBits,eqL] using e
theorem kK{S:ar}{w:World}(n:Nat): ∀(c:List Sh) (us vs:List T) (xs ys:List Value),fits c us->fits c vs->eqL us vs=true->xs.length=us.length->ys.length=vs.length->
  (∀ (i:Nat) (x:Value) (u:T),xs[i]? =some x->us[i]? =some u->Rep S w x u)->(∀ (i:Nat) (x:Value) (u:T),ys[i]? =some x->vs[i]? =some u->Rep S w x u)->(xs.zip ys).all (fun (x,y)=>Instr.sameBits n x y)=true
 |[],us,vs,xs,ys,fu,fv,_,lx,ly,_,_=>by
  cases us with
  |cons u us=>simp [fits] at fu
  |nil=>cases xs with
   |nil=>rfl
   |cons _ _=>simp at lx
 |s::c,us,vs,xs,ys,fu,fv,he,lx,ly,hx,hy=>by
  have h:=bB fu;have j:=bB fv;cases us with
  |nil=>simp at h
  |cons u us=>
  cases vs with
  |nil=>simp at j
  |cons v vs=>
  cases xs with
  |nil=>simp at lx
  |cons x xs=>
  cases ys with
  |nil=>simp at ly
  |cons y ys=>
  have g:=bc (s1:=[s]) (s2:=c) fu;have f:=bc (s1:=[s]) (s2:=c) fv;have e:=eO [u] [v] us vs rfl;simp only [List.length_singleton,List.take_succ_cons,List.take_zero,List.drop_succ_cons,List.drop_zero,List.singleton_append] at g f e;rw [e,Bool.and_eq_true] at he;rw [List.zip_cons_cons,List.all_cons,Bool.and_eq_true];exact ⟨lJ (hx 0 x u rfl rfl) (hy 0 y v rfl rfl) g.1 f.1 he.1 n,
   kK n c us vs xs ys g.2 f.2 he.2 (by simpa using lx) (by simpa using ly) (fun i x u b d=>hx (i+1) x u (by simpa using b) (by simpa using d)) (fun i x u b d=>hy (i+1) x u (by simpa using b) (by simpa using d))⟩
theorem qE{S:ar}{w:World}{k:TypeId}{c:List Sh}{x y:Value}{u v:T}(e:Rep S w x u)(n:Rep S w y v)(b:aR (au P k) c u)(d:aR (au P k) c v)(f:eqL u.cells v.cells=true):Instr.sameBits 10000 x y=true:=by
 cases p:au P k with
 |true=>
  rw [p] at b d;cases u with
  |agg us=>
   cases v with
   |agg vs=>
    cases e with
    |agg z _ g _ q=>
    cases n with
    |agg r _ l _ A=>
    have j:=bB b.2;have F:=bB d.2
    have:=kK 9999 c us vs z.toList r.toList b.2 d.2 f (by simpa using g) (by simpa using l) (fun i x u e b=>q i x u (by simpa using e) b) (fun i x u e b=>A i x u (by simpa using e) b)
    simp only [Instr.sameBits,Bool.and_eq_true,beq_iff_eq];exact ⟨by omega,this⟩
   |_=>cases d.1
  |_=>cases b.1
 |false=>
  rw [p] at b d;have one: ∀{t:T},aR false c t->fits c [t]/\t.cells=[t]:=fun {t} h=>by cases t <;> first|exact ⟨h.2,rfl⟩|(cases h.1;done)
  obtain ⟨m,C⟩:=one b;obtain ⟨B,D⟩:=one d;rw [C,D] at f;have j:=bB m;cases c with
  |nil=>simp at j
  |cons s c=>
   cases c with
   |nil=>exact lJ e n m B f 10000
   |cons _ _=>simp at j
theorem mz: ∀(a b:List T),eqL a b=eqL b a
 |[],[]=>rfl
 |[],_::_=>by simp [eqL]
 |_::_,[]=>by simp [eqL]
 |x::a,y::b=>by
  have c:=mz a b;cases x <;> cases y <;> simp only [eqL,c] <;> first|rfl|(congr 1;exact Bool.beq_comm)|(congr 1;rw [Bool.eq_iff_iff,Go.MapKept.bytes_beq,Go.MapKept.bytes_beq];exact eq_comm)
end
section
variable [Glb]{P:Program}{N:Nat}{w0:World}{S0:aa}{o:Oper}{a:Act}{E:Env}{st:St}
theorem pz(h:SR N w0 S0 E st a.tmps)(hd:ay N o.dst){t:TypeId}(g:o.op= .makeMap t none)(e:Bool)(f:List Sh):Sound P N w0 S0 o a E st (eff (.mkmap e f) (st.nm o.dst) st.sl st.bx):=by
 unfold eff;cases c:o.dst with
 |none=>trivial
 |some d=>
  rw [c] at hd;simp only [St.nm];cases i:st.bx (d+st.off) with
  |some b=>trivial
  |none=>
   show Did P N w0 S0 o a E (st.app o.dst _)
   rw [c];refine ⟨.value (.map (some E.w.heap.size)),.map (some E.w.heap.size),{E with w:=E.w.alloc (.map #[] 0),κ:=upd E.κ (d+st.off) E.w.heap.size,live:=upd E.live (d+st.off) true },?_,.inl rfl,?_⟩
   ·unfold execOp;simp [g,Instr.makeMap]
   ·rw [c];exact h.rT i e f hd
end
section
variable {P:Program}{N:Nat}{w0:World}{S0:aa}{o:Oper}{a:Act}{E:Env}{st:St}
theorem kP{t:TypeId}{z:T}(h:zeroV P t=some z): ∃v,(∀ w,(zeroValue t).run P w= .ok v w)/\ ∀(S:ar) (w:World),Rep S w v z:=by
 unfold zeroV at h;split at h
 ·rename_i i hi;split at h
  ·rename_i v b;exact ⟨v,fun w=>by simp [zeroValue,typeInfo,hi,b],fun S w=>gL h⟩
  ·cases h
 ·cases h
theorem bL.keys{E:Env}{c:Array MapEntry}{b:Nat}{i:Bool}{k:List Sh}{d:List (T×T)}{l:Option (List Nat×Nat)}(h:bL E c b i k d l):c.toList.length=d.length/\
  ∀(j:Nat) (x:MapEntry) (e:T×T),c.toList[j]? =some x->d[j]? =some e->Rep E.S E.w x.key e.1/\aR i k e.1:=
 ⟨by simpa using h.size,fun j x e f g=>⟨(h.at_ j x e (by simpa using f) g).1,(h.at_ j x e (by simpa using f) g).2.2⟩⟩
theorem mQ{j:Bool}{k:List Sh}{ks vs:List T}{v:Value}(h:Rep E.S E.w v (.mapd j k ks vs)): ∃g c b,v= .map (some g)/\E.w.heap[g]? =some (.map c b)/\bL E c b j k (ks.zip vs) none:=by
 cases h with
 |mapd g c b _ _ _ _ n l s m r ok lt apart=>
  refine ⟨g,c,b,rfl,s.1,by rw [List.length_zip,n,l];simp,fun i x e f d=>?_,lt,apart,fun p q=>by cases q⟩;rw [List.getElem?_zip_eq_some] at d;exact ⟨m i x e.1 f d.1,r i x e.2 f d.2,ok _ (List.mem_of_getElem? d.1)⟩
end
section
variable [Glb]{P:Program}{N:Nat}{w0:World}{S0:aa}{o:Oper}{a:Act}{E:Env}{st:St}
theorem lE(h:SR N w0 S0 E st a.tmps)(hd:ay N o.dst){t A e:TypeId}{M K:Operand}{ok:Bool}(R:o.op= .lookup t M K ok)(c:P.underlying t=some (.map A e))
  {D:List Sh} (V:shapeOf P 100 A=some D) {z:T} (Z:zeroV P e=some z) {g:Nat} (I:a.eval M= .map (some g)) {f:Array MapEntry} {d:Nat} (U:E.w.heap[g]? =some (.map f d)) {y:List (T×T)} {Y:Option (List Nat×Nat)} (B:bL E f d (au P A) D y Y)
  {key:T} (Q:Rep E.S E.w (a.eval K) key) (q:aR (au P A) D key) {rd:List Nat}:Did P N w0 S0 o a E (st.app o.dst {val:=.t (oB z ok (eA key.cells y)),rd:=rd }):=by
 obtain ⟨X,G,m⟩:=kP Z;obtain ⟨r,L,k⟩:=cQ V Q q f.toList y B.keys.1 B.keys.2;have n:=dz V Q q f.isEmpty;have W:=k.find;cases r with
 |none=>
  have F:eA key.cells y=none:=W.1;rw [F]
  have:(execOp a.eval o).run P E.w= .ok (.value (if ok then .tuple #[X,.bool false] else X)) E.w:=by
   unfold execOp;simp [R,Instr.lookup,I,run_underlying c,Go.MapKept.run_getObj_map U,n,L,G]
  cases ok with
  |true=>exact ai h hd this (.t _ _ (.tup _ _ rfl (fun i x u b c=>by
    cases i with
    |zero=>simp at b c;subst b;subst c;exact m _ _
    |succ i=>cases i with
     |zero=>simp at b c;subst b;subst c;exact .bool _
     |succ i=>simp at b)))
  |false=>exact ai h hd this (.t _ _ (m _ _))
 |some p=>
  obtain ⟨i,v⟩:=p;obtain ⟨j,x,O,hj,b,H,l,_,_⟩:=k;obtain ⟨e2,s,F,_⟩:=W;have C:i - 0=j:=by omega
  rw [C,l] at s;cases s;rw [F];have J:Rep E.S E.w v O.2:=by rw [H];exact (B.at_ j x O (by simpa using b) l).2.1
  have:(execOp a.eval o).run P E.w= .ok (.value (if ok then .tuple #[v,.bool true] else v)) E.w:=by
   unfold execOp;simp [R,Instr.lookup,I,run_underlying c,Go.MapKept.run_getObj_map U,n,L]
  cases ok with
  |true=>exact ai h hd this (.t _ _ (.tup _ _ rfl (fun i x u b c=>by
    cases i with
    |zero=>simp at b c;subst b;subst c;exact J
    |succ i=>cases i with
     |zero=>simp at b c;subst b;subst c;exact .bool _
     |succ i=>simp at b)))
  |false=>exact ai h hd this (.t _ _ J)
theorem pA(h:SR N w0 S0 E st a.tmps)(hd:ay N o.dst){t F e:TypeId}{M K:Operand}{ok:Bool}(U:o.op= .lookup t M K ok){m k:O}(Z:ak M=some m)(hk:ak K=some k)(n:P.underlying t=some (.map F e))
  {G:List Sh} (H:shapeOf P 100 F=some G) {z:T} (R:zeroV P e=some z):Sound P N w0 S0 o a E st (eff (.mlook (au P F) G z ok m k) (st.nm o.dst) st.sl st.bx):=by
 have d:=af h.sl Z;have c:=af h.sl hk;unfold eff;simp only;split
 ·rename_i b A;rw [A] at d;obtain ⟨B,hl⟩:=d.eH;split
  ·rename_i y s es mb hb;split
   ·rename_i key D;rw [D] at c;cases S:ct (au P F) G y s with
    |false=>trivial
    |true=>
    obtain ⟨rfl,rfl⟩:=eS S;intro f;obtain ⟨X,q,V,I⟩:=(h.bx b _ hb).map;exact lE h hd U n H R B V I c.ax f
   ·trivial
  ·trivial
 ·rename_i y s ks vs A;rw [A] at d;split
  ·rename_i key D;rw [D] at c;cases S:ct (au P F) G y s with
   |false=>trivial
   |true=>
   obtain ⟨rfl,rfl⟩:=eS S;intro f;obtain ⟨g,X,q,B,V,I⟩:=mQ d.ax;exact lE h hd U n H R B V I c.ax f
  ·trivial
 ·rename_i A;rw [A] at d;have B:a.eval M= .map none:=by
   have:=d.ax
   generalize a.eval M=v at this;cases this;rfl
  split
  ·rename_i key D;rw [D] at c;intro f;obtain ⟨Y,L,C⟩:=kP R;obtain ⟨r,hr,J⟩:=cQ H c.ax f [] [] rfl (fun j x e l=>by simp at l);have Q:=dz H c.ax f true;have W:r=none:=by
    cases r with
    |none=>rfl
    |some p=>obtain ⟨i,v⟩:=p;obtain ⟨j,x,e1,_,l,_⟩:=J;simp at l
   subst W
   have:(execOp a.eval o).run P E.w= .ok (.value (if ok then .tuple #[Y,.bool false] else Y)) E.w:=by
    unfold execOp;simp [U,Instr.lookup,B,run_underlying n,Q,hr,L]
   cases ok with
   |true=>exact ai h hd this (.t _ _ (.tup _ _ rfl (fun i x u l n=>by
     cases i with
     |zero=>simp at l n;subst l;subst n;exact C _ _
     |succ i=>cases i with
      |zero=>simp at l n;subst l;subst n;exact .bool _
      |succ i=>simp at l)))
   |false=>exact ai h hd this (.t _ _ (C _ _))
  ·trivial
 ·trivial
end
section
variable {P:Program}{N:Nat}{w0:World}{S0:aa}{o:Oper}{a:Act}{E:Env}{st:St}
theorem me(b:Array MapEntry)(i:Nat)(f:MapEntry->MapEntry)(c: ∀e,(f e).born=e.born):(b.modify i f).toList.map (·.born)=b.toList.map (·.born):=by
 apply List.ext_getElem?
 intro j;simp only [List.getElem?_map,Array.getElem?_toList,Array.getElem?_modify];split
 ·cases b[j]? with
  |none=>rfl
  |some x=>simp [c]
 ·rfl
theorem bL.set{E:Env}{b:Array MapEntry}{c:Nat}{q:Bool}{r:List Sh}{u:List (T×T)}{A:Option (List Nat×Nat)}(h:bL E b c q r u A){j:Nat}{f:MapEntry->MapEntry}{k v:T}(z: ∀e,(f e).born=e.born)
  (t: ∀x,b[j]? =some x->Rep E.S E.w (f x).key k/\Rep E.S E.w (f x).val v) (s:aR q r k):bL E (b.modify j f) c q r (u.set j (k,v)) none:=by
 have n:=me b j f z;refine ⟨by simp [h.size],fun i x e d g=>?_,fun x d=>?_,by rw [n];exact h.apart,fun p B=>by cases B⟩
 ·rw [Array.getElem?_modify] at d;rw [List.getElem?_set] at g
  by_cases m:j=i
  ·subst m;rw [if_pos rfl] at d g;split at g
   ·cases g;cases l:b[j]? with
    |none=>rw [l] at d;cases d
    |some x0=>
     rw [l] at d;cases d;exact ⟨(t x0 l).1,(t x0 l).2,s⟩
   ·cases g
  ·rw [if_neg m] at d g;exact h.at_ i x e d g
 ·have:x.born∈(b.modify j f).toList.map (·.born):=List.mem_map_of_mem d
  rw [n] at this;obtain ⟨y,C,g⟩:=List.mem_map.1 this;rw [<- g];exact h.lt y C
theorem bL.push{E:Env}{f:Array MapEntry}{c:Nat}{j:Bool}{l:List Sh}{s:List (T×T)}{z:Option (List Nat×Nat)}(h:bL E f c j l s z){r q:Value}{k v:T}(u:Rep E.S E.w r k)(t:Rep E.S E.w q v)(m:aR j l k):
  bL E (f.push {key:=r,val:=q,born:=c }) (c+1) j l (s++[(k,v)]) none:=by
 refine ⟨by simp [h.size],fun i x e d g=>?_,fun x d=>?_,?_,fun p A=>by cases A⟩
 ·rw [Array.getElem?_push] at d;rw [List.getElem?_append] at g
  by_cases hi:i=f.size
  ·rw [if_pos hi] at d;cases d;rw [if_neg (by rw [<- h.size];omega),hi,h.size,Nat.sub_self] at g;cases g;exact ⟨u,t,m⟩
  ·rw [if_neg hi] at d;rw [if_pos (by rw [<- h.size];have:=(Array.getElem?_eq_some_iff.1 d).1;omega)] at g;exact h.at_ i x e d g
 ·simp only [Array.toList_push,List.mem_append,List.mem_singleton] at d;rcases d with d|rfl
  ·exact Nat.lt_succ_of_lt (h.lt x d)
  ·exact Nat.lt_succ_self _
 ·simp only [Array.toList_push,List.map_append,List.map_cons,List.map_nil];refine List.nodup_append.2 ⟨h.apart,by simp,fun a C b n=>?_⟩;simp at n;subst n;obtain ⟨y,B,rfl⟩:=List.mem_map.1 C
  have:=h.lt y B
  omega
end
section
variable [Glb]{P:Program}{N:Nat}{w0:World}{S0:aa}{o:Oper}{a:Act}{E:Env}{st:St}
theorem nk(h:SR N w0 S0 E st a.tmps)(hd:ay N o.dst){t s e:TypeId}{M K V:Operand}(n:o.op= .mapUpdate t M K V\/o.op= .insert t M K V){m k v:O}(hm:ak M=some m)(hk:ak K=some k)(hv:ak V=some v)(hu:P.underlying t=some (.map s e))
  {A:List Sh} (hs:shapeOf P 100 s=some A):Sound P N w0 S0 o a E st (eff (.bC (au P s) A m k v) (st.nm o.dst) st.sl st.bx):=by
 have F:=af h.sl hm;have B:=af h.sl hk;have X:=af h.sl hv;unfold eff;simp only;split
 ·rename_i b R;rw [R] at F;obtain ⟨hM,hl⟩:=F.eH;split
  ·rename_i W T q mb hb;split
   ·rename_i key x gV hx;rw [gV] at B;have D:=B.ax;have hX:=aB X hx;cases df:ct (au P s) A W T with
    |false=>trivial
    |true=>
    obtain ⟨rfl,rfl⟩:=eS df;intro g;obtain ⟨l,f,G,y⟩:=(h.bx b _ hb).map;obtain ⟨r,hr,z⟩:=cQ hs D g l.toList q y.keys.1 y.keys.2;have C:=dz hs D g false;have fc:=z.put (v:=x);have u: ∀d c,(execOp a.eval o).run P E.w= .ok .skip {E.w with heap:=E.w.heap.setIfInBounds (E.κ b) (.map d c)}->bL E d c (au P s) A (bC key x q) none->
      Did P N w0 S0 o a E (st.app o.dst {val:=.top,wr:=some (b,.m (au P s) A (bC key x q) none),rd:=[b]}):=fun d c aJ L=>by
     refine ⟨.skip,undef,{E with w:={E.w with heap:=E.w.heap.setIfInBounds (E.κ b) (.map d c)}},aJ,.inr ⟨rfl,rfl⟩,?_⟩;rw [gd];exact (h.ny hb d c _ L).cN hd (.top _)
    cases r with
    |none=>
     have J:bC key x q=q++[(key,x)]:=fc;refine u (l.push {key:=a.eval K,val:=a.eval V,born:=f }) (f+1) ?_ (by rw [J];exact y.push D hX g);unfold execOp;rcases n with n|n <;> simp [n,Instr.mapUpdate,hM,run_underlying hu,Go.MapKept.run_getObj_map G,C,hr,Go.MapKept.run_setObj_map _ G]
    |some p=>
     obtain ⟨i,v'⟩:=p;obtain ⟨j,x0,e1,hj,S,_,H,I,_⟩:=z;have J:bC key x q=q.set (i - 0) (key,x):=fc;have Y:i=j:=by omega
     subst Y;have Z:l[i]? =some x0:=by simpa using S
     have Q:Instr.sameBits 10000 x0.key (a.eval K)=true:=by
      have:=(y.at_ i x0 e1 Z H)
      refine qE this.1 D this.2.2 g ?_;rw [mz];exact I
     refine u (l.modify i fun e=>{e with key:=a.eval K,val:=a.eval V }) f ?_ (by rw [J];exact y.set (fun _=>rfl) (fun _ _=>⟨D,hX⟩) g);have U:(Instr.keyThatStays x0.key (a.eval K)).run P E.w= .ok (a.eval K) E.w:=by simp [Instr.keyThatStays,Q]
     unfold execOp;rcases n with n|n <;> simp [n,Instr.mapUpdate,hM,run_underlying hu,Go.MapKept.run_getObj_map G,C,hr,Z,U,Go.MapKept.run_setObj_map _ G]
   ·trivial
  ·trivial
 ·trivial
end
section
variable {P:Program}{N:Nat}{w0:World}{S0:aa}{o:Oper}{a:Act}{E:Env}{st:St}
theorem fI{w:World}{r:Nat}{m:Option Nat}{c t:Nat}{s:Array Nat}(b:w.heap[r]? =some (.mapIter m c s t)):(getObj r).run P w= .ok (.mapIter m c s t) w:=by
 simp [getObj,Sem.run,b]
theorem ki{X:Operand}(x:o.op= .entry X){g k:Nat}(A:a.eval X= .pointer (some ⟨k,0,none⟩)){b:Array MapEntry}{c:Nat}{ix:List Nat}(p:(b.toList.map (·.born)).Nodup)(r:ix≠[])(f:ix.getLast?.getD 0<b.size)
  (y:E.w.heap[g]? =some (.map b c)) (i:E.w.heap[k]? =some (.mapIter (some g) c (ix.map fun j=>(b.toList.map (·.born)).getD j 0).toArray c)):
  (execOp a.eval o).run P E.w= .ok (.value (.tuple #[b[ix.getLast?.getD 0].key,b[ix.getLast?.getD 0].val])) E.w:=by
 obtain ⟨l,q⟩: ∃l,ix.getLast? =some l:=by
  cases h:ix.getLast? with
  |none=>exact absurd (List.getLast?_eq_none_iff.1 h) r
  |some l=>exact ⟨l,rfl⟩
 have s:((ix.map fun j=>(b.toList.map (·.born)).getD j 0).toArray).back? =some ((b.toList.map (·.born)).getD l 0):=by
  simp [List.back?_toArray,q]
 have d:l<b.size:=by rw [q] at f;exact f
 have m:(b.toList.map (·.born)).getD l 0=b[l].born:=by
  rw [List.getD_eq_getElem?_getD];simp [d]
 have z:b.find? (fun e=>e.born==b[l].born)=some b[l]:=by
  rw [Array.find?_eq_some_iff_getElem];refine ⟨by simp,l,d,rfl,fun j C=>?_⟩;have n:j<b.size:=by omega
  simp only [Bool.not_eq_true',beq_eq_false_iff_ne,ne_eq];intro t;have u:(b.toList.map (·.born))[j]'(by simpa using n)=(b.toList.map (·.born))[l]'(by simpa using d):=by simpa using t
  have:=(List.getElem_inj p).1 u
  omega
 unfold execOp;simp only [q,Option.getD_some];generalize B:(ix.map fun j=>(b.toList.map (·.born)).getD j 0).toArray=seen at s i
 simp only [x,A,Instr.entry,Sem.run_bind,fI i,Result.andThen_ok,s,m,Go.MapKept.run_getObj_map y,bne_self_eq_false,Bool.false_eq_true,if_false,z,Sem.run_pure]
end
section
variable [Glb]{P:Program}{N:Nat}{w0:World}{S0:aa}{o:Oper}{a:Act}{E:Env}{st:St}
theorem qL(h:SR N w0 S0 E st a.tmps)(hd:ay N o.dst){X:Operand}{y:O}(Q:o.op= .entry X)(hy:ak X=some y):Sound P N w0 S0 o a E st (eff (.ment y) (st.nm o.dst) st.sl st.bx):=by
 have J:=af h.sl hy;have C: ∀{S:ar} {w:World} {I L:Value} {K M:T},Rep S w I K->Rep S w L M->Rep S w (.tuple #[I,L]) (.tup [K,M]):=fun W r2=>.tup _ _ rfl fun i x u f l=>by
  match i,f,l with
  |0,f,l=>simp at f l;subst f;subst l;exact W
  |1,f,l=>simp at f l;subst f;subst l;exact r2
  |i+2,f,l=>simp at f
 unfold eff;simp only;split
 ·rename_i k U;rw [U] at J;obtain ⟨R,hl⟩:=J.bd;split
  ·rename_i b bs c ix n;split
   ·rename_i Z sh r q hb;rintro ⟨V,A,d⟩;obtain ⟨s,F,G,j⟩:=(h.bx b _ hb).map;have p:=j.mb q rfl;rw [V] at p;simp only [Prod.mk.injEq] at p;obtain ⟨rfl,rfl⟩:=p;obtain ⟨ob,z,m⟩:=(h.bx k _ n).at_;cases m with
    |cells _ _ _ H=>cases H
    |it _ _ _ _ Y=>
    have B:ix.getLast?.getD 0<s.size:=by rw [j.size];exact d
    have e:=j.at_ _ _ _ (Array.getElem?_eq_getElem B) (ggZ d);have D:kV r ix= .tup [r[ix.getLast?.getD 0].1,r[ix.getLast?.getD 0].2]:=by
     unfold kV;rw [ggZ d]
    rw [D];exact ai h hd (ki Q R j.apart A B G z) (.t _ _ (C e.1 e.2.1))
   ·trivial
  ·rename_i r ix n;rintro ⟨A,d⟩;obtain ⟨ob,z,m⟩:=(h.bx k _ n).at_;cases m with
   |cells _ _ _ H=>cases H
   |itd g s c Z sh _ _ G hS j=>
   have B:ix.getLast?.getD 0<s.size:=by rw [j.size];exact d
   have e:=j.at_ _ _ _ (Array.getElem?_eq_getElem B) (ggZ d);have D:kV r ix= .tup [r[ix.getLast?.getD 0].1,r[ix.getLast?.getD 0].2]:=by
    unfold kV;rw [ggZ d]
   rw [D];exact ai h hd (ki Q R j.apart A B G z) (.t _ _ (C e.1 e.2.1))
  ·trivial
 ·trivial
theorem qM(h:SR N w0 S0 E st a.tmps)(hd:ay N o.dst){X:Operand}{t x e:TypeId}{y:O}(k:o.op= .call {callee:=.builtin .len,args:= #[X],argTypes:= #[t]})(s:ak X=some y)
  (j:P.underlying t=some (.map x e)):Sound P N w0 S0 o a E st (eff (.mlen y) (st.nm o.dst) st.sl st.bx):=by
 have d:=af h.sl s;unfold eff;simp only;split
 ·rename_i b f;rw [f] at d;obtain ⟨i,C⟩:=d.eH;split
  ·rename_i z A u B r;obtain ⟨m,c,l,p⟩:=(h.bx b _ r).map;exact ai h hd (v:=.int .i64 u.length) (aD k (by simp [builtin,Builtin.len_,i,run_underlying j,goInt,Go.MapKept.run_getObj_map l,p.size])) (.t _ _ (.int _ _))
  ·trivial
 ·rename_i ks vs f;rw [f] at d;have n:=d.ax;generalize i:a.eval X=v at n;cases n with
  |mapd g m c _ _ _ _ q w l=>
   exact ai h hd (v:=.int .i64 ks.length) (aD k (by simp [builtin,Builtin.len_,i,run_underlying j,goInt,Go.MapKept.run_getObj_map l.1,q])) (.t _ _ (.int _ _))
 ·rename_i f;rw [f] at d;have i:a.eval X= .map none:=by
   have:=d.ax
   generalize a.eval X=v at this;cases this;rfl
  exact ai h hd (v:=.int .i64 0) (aD k (by simp [builtin,Builtin.len_,i,run_underlying j,goInt])) (.t _ _ (.int _ _))
 ·trivial
theorem qJ(h:SR N w0 S0 E st a.tmps)(hd:ay N o.dst){X:Operand}{t s e:TypeId}{y:O}(r:o.op= .call {callee:=.builtin .clear,args:= #[X],argTypes:= #[t]})(q:ak X=some y)
  (l:P.underlying t=some (.map s e)):Sound P N w0 S0 o a E st (eff (.mclr y) (st.nm o.dst) st.sl st.bx):=by
 have f:=af h.sl q;unfold eff;simp only;split
 ·rename_i b k;rw [k] at f;obtain ⟨m,D⟩:=f.eH;split
  ·rename_i A B F C g;obtain ⟨u,c,j,z⟩:=(h.bx b _ g).map;refine ⟨.value (.tuple #[]),.tuple #[],{E with w:={E.w with heap:=E.w.heap.setIfInBounds (E.κ b) (.map #[] c)}},aD r (by simp [builtin,Builtin.clear_,m,run_underlying l,Go.MapKept.run_getObj_map j,Go.MapKept.run_setObj_map _ j]),.inl rfl,?_⟩;rw [gd];exact (h.ny g #[] c _ ⟨rfl,fun i x e d=>by simp at d,fun x d=>by simp at d,by simp,fun p n=>by cases n⟩).cN hd (.top _)
  ·trivial
 ·trivial
end
section
variable {P:Program}{N:Nat}{w0:World}{S0:aa}{o:Oper}{a:Act}{E:Env}{st:St}
theorem bL.erase{E:Env}{b:Array MapEntry}{c:Nat}{m:Bool}{n:List Sh}{l:List (T×T)}{r:Option (List Nat×Nat)}(h:bL E b c m n l r)(j:Nat):bL E (b.eraseIdxIfInBounds j) c m n (l.eraseIdx j) none:=by
 have k:(b.eraseIdxIfInBounds j).toList=b.toList.eraseIdx j:=by
  unfold Array.eraseIdxIfInBounds;split
  ·simp
  ·rename_i u;rw [List.eraseIdx_of_length_le (by simpa using u)]
 have q:(b.toList.eraseIdx j).Sublist b.toList:=List.eraseIdx_sublist _ _;have s:b.toList.length=l.length:=by simpa using h.size
 refine ⟨?_,fun i x e f g=>?_,fun x f=>h.lt x (q.subset (k▸f)),?_,fun p t=>by cases t⟩
 ·rw [<- Array.length_toList,k,List.length_eraseIdx,List.length_eraseIdx,s]
 ·rw [<- Array.getElem?_toList,k,List.getElem?_eraseIdx] at f;rw [List.getElem?_eraseIdx] at g;split at f
  ·rename_i d;rw [if_pos d] at g;exact h.at_ i x e (by simpa using f) g
  ·rename_i d;rw [if_neg d] at g;exact h.at_ (i+1) x e (by simpa using f) g
 ·rw [k];exact (q.map _).nodup h.apart
end
section
variable [Glb]{P:Program}{N:Nat}{w0:World}{S0:aa}{o:Oper}{a:Act}{E:Env}{st:St}
theorem qK(h:SR N w0 S0 E st a.tmps)(hd:ay N o.dst){M K:Operand}{t Y l e:TypeId}{m k:O}(Q:o.op= .call {callee:=.builtin .delete,args:= #[M,K],argTypes:= #[t,Y]})(U:ak M=some m)(X:ak K=some k)
  (G:P.underlying t=some (.map l e)) {q:List Sh} (R:shapeOf P 100 l=some q):Sound P N w0 S0 o a E st (eff (.cM (au P l) q m k) (st.nm o.dst) st.sl st.bx):=by
 have x:=af h.sl U;have s:=af h.sl X;unfold eff;simp only;split
 ·rename_i b T;rw [T] at x;obtain ⟨H,hl⟩:=x.eH;split
  ·rename_i F D z mb J;split
   ·rename_i key W;rw [W] at s;have L:=s.ax;cases Z:ct (au P l) q F D with
    |false=>trivial
    |true=>
    obtain ⟨rfl,rfl⟩:=eS Z;intro y;obtain ⟨f,c,A,g⟩:=(h.bx b _ J).map;obtain ⟨r,I,B⟩:=cQ R L y f.toList z g.keys.1 g.keys.2;have u:=dz R L y f.isEmpty;have S:=B.find;have n: ∀d,(execOp a.eval o).run P E.w= .ok (.value (.tuple #[])) {E.w with heap:=E.w.heap.setIfInBounds (E.κ b) (.map d c)}->bL E d c (au P l) q (cM key.cells z) none->
      Did P N w0 S0 o a E (st.app o.dst {val:=.top,wr:=some (b,.m (au P l) q (cM key.cells z) none),rd:=[b]}):=fun d V C=>by
     refine ⟨.value (.tuple #[]),.tuple #[],{E with w:={E.w with heap:=E.w.heap.setIfInBounds (E.κ b) (.map d c)}},V,.inl rfl,?_⟩;rw [gd];exact (h.ny J d c _ C).cN hd (.top _)
    cases r with
    |none=>
     have j:cM key.cells z=z:=S.2;refine n f (aD Q ?_) (by rw [j];exact ⟨g.size,g.at_,g.lt,g.apart,fun p j=>by cases j⟩);simp [builtin,Builtin.delete_,H,run_underlying G,Go.MapKept.run_getObj_map A,u,I,Go.MapKept.run_setObj_map _ A]
    |some p=>
     obtain ⟨i,v'⟩:=p;obtain ⟨e2,_,_,j⟩:=S;rw [Nat.sub_zero] at j;refine n (f.eraseIdxIfInBounds i) (aD Q ?_) (by rw [j];exact g.erase i);simp [builtin,Builtin.delete_,H,run_underlying G,Go.MapKept.run_getObj_map A,u,I,Go.MapKept.run_setObj_map _ A]
   ·trivial
  ·trivial
 ·trivial
end
end Go.DL
end
