/- Joined by program: parts of a data level over the model, of the program's functions over it, and of the statement's proof. -/
import Derived.Test.YtnfonfjleonbdaaGd
import Derived.Test.YtnfonfjleonbdaaProg
import Derived.Test.YtnfonfjleonbdaaGc
import Derived.KernelRfl
import Derived.Shelf.Sort.Plain
import Derived.Shelf.Slices.In.SortNone
import Derived.Shelf.Lays8
set_option maxRecDepth 100000
set_option maxHeartbeats 8000000
section
namespace Go.ST
open Go Go.DL Go.MM Go.Proofs
open Go.TY hiding Fd
abbrev fdc (l:List Fd) (k:ByteArray):T:=.agg [.str (fld l k).name,I (fld l k).a,I (fld l k).w]
theorem tS (l:List Fd) (hl:LOk l) (k:ByteArray):DCalls Try.prog 44 [fds l,.str k] (.tup [fdc l k,.bool (qD l k)]):=by
 have h:=t74 l k hl.len
 unfold sQ at h
 unfold fdc fld qD
 cases hF:findF l k with
 |none=>rw [hF] at h;exact h
 |some F=>rw [hF] at h;exact h
theorem yh (l:List Fd) (hl:LOk l) (k:ByteArray):DCalls Try.prog 24 [fds l,.str k] (.tup [fdc l k,.bool (qD l k)]):=by
 have h:=t51 l k hl.len
 unfold sQ at h
 unfold fdc fld qD
 cases hF:findF l k with
 |none=>rw [hF] at h;exact h
 |some F=>rw [hF] at h;exact h
theorem tf {l:List Fd} (hl:LOk l) {k:ByteArray} (h:qD l k=true):FOk (fld l k):=by
 unfold qD at h
 obtain ⟨F,hF⟩:=Option.isSome_iff_exists.1 h
 rw [wb hF]
 exact hl.find hF
theorem ten {h:List Int} (hh:HOk h): ∃a b c d e f g i j k,h=[a,b,c,d,e,f,g,i,j,k]:=by
 have hl:=hh.len
 match h,hl with
 |[a,b,c,d,e,f,g,i,j,k],_=>exact ⟨a,b,c,d,e,f,g,i,j,k,rfl⟩
theorem vD (l:List Fd) (ks:List ByteArray) (h:List Int) {i:Nat} (hi:i<ks.length):(keyOf l (ks.take (i+1)) h).map I=(keyOf l (ks.take i) h).map I++[I (re (fld l ks[i]) h)]:=by
 unfold keyOf
 rw [List.take_succ_eq_append_getElem hi,List.map_append,List.map_append];rfl
theorem zF (l:List Fd) (hl:LOk l) (ks:List ByteArray) (hk: ∀k∈ks,qD l k=true) (hkl:ks.length<2^40) (h:List Int) (hh:HOk h):DCalls Try.prog 22 [fds l,.slice 1 (ks.map .str),hd h] (.tup [.slice 1 ((keyOf l ks h).map I),.bool true]):=by
 refine pN (rs:=[.tmp 6,.tmp 7]) mixed Try.func22 Go.ST4.l22 rfl rfl rfl (r:=[.slice 1 _,.bool true]) (nlZ rfl) ?_
 have hl1:((ks.map T.str).length:Int)=ks.length:=by rw [List.length_map]
 have hG: ∀f,FOk f→DCalls Try.prog 45 [fd f,hd h] (I (re f h)):=fun f hf=>t78 f hf h hh
 obtain ⟨x0,x1,x2,x3,x4,x5,x6,x7,x8,x9,rfl⟩:=ten hh
 repeat' ((conv=>whnf);first|exact trivial|refine nT_ ?_|refine aE1 ?_|refine aE0 ?_|refine aN1 ?_|refine aN0 ?_|refine aD1 ?_|refine aD0 ?_|refine nE_ (fun hq=>?_) (fun hq=>?_)|refine nN_ (fun hq=>?_) (fun hq=>?_)|refine nD_ (fun hq=>?_) (fun hq=>?_)|refine rb1 ?_|refine rb0 ?_|refine rbx ?_|refine rix ?_|refine aS ?_|fail)
 refine pX 0 (α:=Nat×Nat) (β:=Nat) (fun q=>{sl:=[(0,.t (fds l)),(5,.ptr 5 0),(8,.own q.2 3 1 ((keyOf l (ks.take q.1) [x0,x1,x2,x3,x4,x5,x6,x7,x8,x9]).map I)),(13,.t (.slice 1 (ks.map .str))),(14,.t (I ks.length)),(15,.t (I q.1))],bx:=[(5,.d 10 ([x0,x1,x2,x3,x4,x5,x6,x7,x8,x9].map I))]})
  (fun q=>q.1≤ks.length∧(q.2=8∨q.2=32)) (fun q=>ks.length - q.1) (fun q=>{sl:=[(8,.own q 3 1 ((keyOf l ks [x0,x1,x2,x3,x4,x5,x6,x7,x8,x9]).map I))],bx:=[]}) (fun q=>q=8∨q=32) (0,8) ⟨Nat.zero_le _,Or.inl rfl⟩ ?_ ?_ ?_
 ·repeat' (first|(exact leI hl1.symm)|exact trivial|exact LeV.same _|exact LeB.same _|exact rfl|exact fun _ _ _=>trivial|exact lI|exact LeV.nil _ _ _|exact lB|refine qq ?_|refine qo ?_|refine And.intro ?_ ?_)
 ·rintro ⟨i,q⟩ ⟨hi,hq⟩
  dsimp only at hi hq
  rcases Nat.lt_or_ge i ks.length with h|h
  ·have hlt:(i:Int)<(ks.length:Int):=by omega
   have hf:=hk ks[i] (List.getElem_mem h)
   have hF:=tS l hl ks[i]
   rw [hf] at hF
   have hGf:=hG _ (tf hl hf)
   have hnx:((i+1:Nat):Int)=IntKind.wrap .i64 ((i:Int)+1):=by rw [lS] <;> omega
   have hsn:=vD l ks [x0,x1,x2,x3,x4,x5,x6,x7,x8,x9] h
   have hln:((keyOf l (ks.take i) [x0,x1,x2,x3,x4,x5,x6,x7,x8,x9]).map I).length≤2^40:=by unfold keyOf;simp only [List.length_map,List.length_take];omega
   have hst:(ks.map T.str)[((i:Int)).toNat]?.getD .nil= .str ks[i]:=by simp [h]
   generalize (keyOf l (ks.take i) [x0,x1,x2,x3,x4,x5,x6,x7,x8,x9]).map I=out at *
   generalize re (fld l ks[i]) [x0,x1,x2,x3,x4,x5,x6,x7,x8,x9]=g at *
   rcases hq with rfl|rfl <;> repeat' ((conv=>whnf);first|exact trivial|refine pt hlt ?_|(refine nv_ (.str ks[i]) (by first|exact hst|fail) ?_)|refine qk _ (hF) ?_|refine qk _ (hGf) ?_|(exact ⟨(i+1,32),⟨h,Or.inr rfl⟩,(by dsimp only;omega),by (repeat' (first|(exact leI hnx)|(exact qo hsn)|exact trivial|exact LeV.same _|exact LeB.same _|exact rfl|exact fun _ _ _=>trivial|exact lI|exact LeV.nil _ _ _|exact lB|refine qq ?_|refine qo ?_|refine And.intro ?_ ?_));done⟩)|refine nT_ ?_|refine aE1 ?_|refine aE0 ?_|refine aN1 ?_|refine aN0 ?_|refine aD1 ?_|refine aD0 ?_|refine nE_ (fun hq=>?_) (fun hq=>?_)|refine nN_ (fun hq=>?_) (fun hq=>?_)|refine nD_ (fun hq=>?_) (fun hq=>?_)|refine rb1 ?_|refine rb0 ?_|refine rbx ?_|refine rix ?_|(refine And.intro (by first|((simp only [List.length_cons,List.length_nil];omega);done)|fail) ?_)|refine aS ?_|fail)
  ·have hlt: ¬(i:Int)<(ks.length:Int):=by omega
   have hi2:i=ks.length:=by omega
   have e0:(keyOf l ks [x0,x1,x2,x3,x4,x5,x6,x7,x8,x9]).map I=(keyOf l (ks.take i) [x0,x1,x2,x3,x4,x5,x6,x7,x8,x9]).map I:=by rw [hi2,List.take_length]
   repeat' ((conv=>whnf);first|exact trivial|refine pq hlt ?_|(exact ⟨q,hq,by (repeat' (first|(exact qo e0)|exact trivial|exact LeV.same _|exact LeB.same _|exact rfl|exact fun _ _ _=>trivial|exact lI|exact LeV.nil _ _ _|exact lB|refine qq ?_|refine qo ?_|refine And.intro ?_ ?_));done⟩)|refine nT_ ?_|refine aE1 ?_|refine aE0 ?_|refine aN1 ?_|refine aN0 ?_|refine aD1 ?_|refine aD0 ?_|refine nE_ (fun hq=>?_) (fun hq=>?_)|refine nN_ (fun hq=>?_) (fun hq=>?_)|refine nD_ (fun hq=>?_) (fun hq=>?_)|refine rb1 ?_|refine rb0 ?_|refine rbx ?_|refine rix ?_|refine aS ?_|fail)
 ·rintro q hq
  repeat' ((conv=>whnf);first|exact trivial|refine nT_ ?_|refine aE1 ?_|refine aE0 ?_|refine aN1 ?_|refine aN0 ?_|refine aD1 ?_|refine aD0 ?_|refine nE_ (fun hq=>?_) (fun hq=>?_)|refine nN_ (fun hq=>?_) (fun hq=>?_)|refine nD_ (fun hq=>?_) (fun hq=>?_)|refine rb1 ?_|refine rb0 ?_|refine rbx ?_|refine rix ?_|refine aS ?_|fail)
end Go.ST
end
noncomputable section
namespace Go.ST3
open Go Go.DL Go.Proofs
theorem mx:Try.prog.follows .mixedOrders=true:=by kernel_rfl
def b6:Code:=(Try.f6.body).getD .skip
theorem hb6:Try.f6.body=some b6:=by kernel_rfl
def xf:Code:=gF [0] b6
def yR:ba:=(.region [oo 6 (.box 6 (tm 1)),oo 8 (.box 10 (tm 3)),oo 10 (.alloc [Z0,Z0,Z0,Z0,Z0,Z0,Z0,Z0,Z0,Z0]),oo 11 (.mov kF),oo 12 (.mov (.const .nil))] [])
theorem Ab:bo Try.prog 84 [] xf=some yR:=by kernel_rfl
theorem yO [Glb] {st:St} {Q:aD→St→Prop} (hw:wpC Try.prog yR st Q):bJ Try.prog 84 xf st Q:=bJ.low mx Ab (by kernel_rfl) (by kernel_rfl) hw
def xg:Code:=gF [1,0] b6
def yS:ba:=(.seq (.region [fa 17 0 6,ld 18 17,oo 19 (.bin .eql (tm 18) (Kc 0))] []) (.cond (tm 19) (.seq (.region [lA 20 10 8,mv 21 2,o0 (.store 10 (tm 10) (tm 20)),oo 11 (.mov kT),mv 12 21] []) .ret) .skip))
theorem Ac:bo Try.prog 84 [] xg=some yS:=by kernel_rfl
theorem yP [Glb] {st:St} {Q:aD→St→Prop} (hw:wpC Try.prog yS st Q):bJ Try.prog 84 xg st Q:=bJ.low mx Ac (by kernel_rfl) (by kernel_rfl) hw
def xh:Code:=gF [1,1,0] b6
def yT:ba:=(.region [oo 22 (.build [.nilfn,.nilfn,.nilfn,.nilfn,.nilfn,.nilfn,.nilfn] [(0,1,(.const .nilfn)),(1,1,(.const (.clos 16 []))),(2,1,(.const (.clos 17 []))),(3,1,(.const (.clos 18 []))),(4,1,(.const (.clos 19 []))),(5,1,(.const (.clos 20 []))),(6,1,(.const (.clos 21 [])))]),oo 13 (.alloc [.nilfn,.nilfn,.nilfn,.nilfn,.nilfn,.nilfn,.nilfn]),o0 (.store 7 (tm 13) (tm 22))] [])
theorem Ad:bo Try.prog 84 [] xh=some yT:=by kernel_rfl
theorem zT [Glb] {st:St} {Q:aD→St→Prop} (hw:wpC Try.prog yT st Q):bJ Try.prog 84 xh st Q:=bJ.low mx Ad (by kernel_rfl) (by kernel_rfl) hw
def xi:Code:=gF [1,1,1,0] b6
def yU:ba:=(.region [mv 24 0,fa 25 2 6,ld 26 25,lA 27 10 8,oo 28 (.call 22 [(tm 24),(tm 26),(tm 27)]),mv 23 28,oo 29 (.ext (tm 23) 0),oo 30 (.ext (tm 23) 1),mv 14 29,mv 15 30] [])
theorem Ae:bo Try.prog 84 [] xi=some yU:=by kernel_rfl
theorem zU [Glb] {st:St} {Q:aD→St→Prop} (hw:wpC Try.prog yU st Q):bJ Try.prog 84 xi st Q:=bJ.low mx Ae (by kernel_rfl) (by kernel_rfl) hw
def xj:Code:=gF [1,1,1,1,0] b6
def yV:ba:=(.region [mv 31 0,lA 32 6 6,mv 33 2,lA 34 10 8,mv 35 4,⟨some 36,.build [.nil,Z0,S0,.nil,S0,Z0,Z0,.nil,Z0,Z0,Z0,Z0,Z0,Z0,Z0,Z0,Z0,Z0,Z0,S0,.nil,Z0,Z0,(.bool false)] [(0,1,(tm 31)),(1,6,(tm 32)),(7,1,(tm 33)),(8,10,(tm 34)),(18,1,(tm 35))],none,[]⟩,oo 37 (.box 24 (tm 36)),mv 16 37] [])
theorem Af:bo Try.prog 84 [] xj=some yV:=by kernel_rfl
theorem zW [Glb] {st:St} {Q:aD→St→Prop} (hw:wpC Try.prog yV st Q):bJ Try.prog 84 xj st Q:=bJ.low mx Af (by kernel_rfl) (by kernel_rfl) hw
def xl:Code:=gF [1,1,1,1,1,0] b6
def yW:ba:=(.seq (.region [mv 39 16,mv 40 16,mv 41 2,fa 42 1 6,ld 43 42,mv 44 14,oo 45 (.call 23 [(tm 41),(tm 43),(tm 44)]),mv 38 45,oo 46 (.ext (tm 38) 0),oo 47 (.ext (tm 38) 1),oo 48 (.nilck (tm 39)),fa 49 19 48,o0 (.store 4 (tm 49) (tm 46)),oo 50 (.nilck (tm 40)),fa 51 23 50,o0 (.store 1 (tm 51) (tm 47))] []) (.seq (.region [mv 52 16,oo 53 (.nilck (tm 52)),fa 54 23 53,ld 55 54,oo 56 (.not (tm 55))] []) (.cond (tm 56) (.region [mv 57 16,fa 58 1 6,ld 59 58,mv 60 14,⟨some 61,.build [S0,.nil,Z0,Z0] [(0,1,(tm 59)),(1,1,(tm 60))],none,[]⟩,oo 62 (.nilck (tm 57)),fa 63 19 62,o0 (.store 4 (tm 63) (tm 61))] []) .skip)))
theorem Ag:bo Try.prog 84 [] xl=some yW:=by kernel_rfl
theorem zX [Glb] {st:St} {Q:aD→St→Prop} (hw:wpC Try.prog yW st Q):bJ Try.prog 84 xl st Q:=bJ.low mx Ag (by kernel_rfl) (by kernel_rfl) hw
def rO:Code:=gF [1,1,1,1,1,1,0,0] b6
theorem zP:rO= .region 9 (qt rO) false:=by kernel_rfl
theorem s9 [Glb] {st:St} {Q:aD→St→Prop} (hw:cF Try.prog [⟨some 64,.offA 0 (.tmp 6),none,[]⟩,⟨some 65,.load 1 false (.tmp 64),none,[]⟩,⟨some 66,.idxA 7 1 (.tmp 13) (.tmp 65),none,[]⟩,⟨some 67,.load 1 false (.tmp 66),none,[]⟩,⟨some 68,.mov (.tmp 16),none,[]⟩] st fun s0=>jr Try.prog (ev s0.sl (.tmp 67)) (List.map (ev s0.sl) [(.tmp 68)]) (some 69) s0 fun s1=>cF Try.prog [⟨some 70,.not (.tmp 69),none,[]⟩] s1 (Q .normal)):bJ Try.prog 84 rO st Q:=by
 rw [zP]
 exact bJ.qi (k1:=[0,1,2,3,4]) (k:=5) (k2:=[6]) (by kernel_rfl) (by kernel_rfl) (by kernel_rfl) (by kernel_rfl) (by kernel_rfl) (X:=.tmp 67) (az:= #[.tmp 68]) (ats:= #[56]) (d:=69) (by kernel_rfl) rfl rfl (by decide) hw
def uQ:Code:=gF [1,1,1,1,1,1,0,1] b6
def yX:ba:=(.cond (tm 70) (.seq (.region [lA 71 10 8,mv 72 16,oo 73 (.nilck (tm 72)),fa 74 7 73,ld 75 74,o0 (.store 10 (tm 10) (tm 71)),oo 11 (.mov kF),mv 12 75] [[],[],[],[],[],[4],[],[]]) .ret) .skip)
theorem Ah:bo Try.prog 84 [] uQ=some yX:=by kernel_rfl
theorem zY [Glb] {st:St} {Q:aD→St→Prop} (hw:wpC Try.prog yX st Q):bJ Try.prog 84 uQ st Q:=bJ.low mx Ah (by kernel_rfl) (by kernel_rfl) hw
def uR:Code:=gF [1,1,1,1,1,1,1] b6
def yY:ba:=(.seq (.region [mv 76 16,oo 77 (.nilck (tm 76)),fa 78 8 77,lA 79 10 78,mv 80 16,oo 81 (.nilck (tm 80)),fa 82 7 81,ld 83 82,o0 (.store 10 (tm 10) (tm 79)),oo 11 (.mov kT),mv 12 83] [[],[],[],[],[],[],[],[],[7],[],[]]) .ret)
theorem Ai:bo Try.prog 84 [] uR=some yY:=by kernel_rfl
theorem zZ [Glb] {st:St} {Q:aD→St→Prop} (hw:wpC Try.prog yY st Q):bJ Try.prog 84 uR st Q:=bJ.low mx Ai (by kernel_rfl) (by kernel_rfl) hw
theorem k6:b6=(.seq xf (.seq xg (.seq xh (.seq xi (.seq xj (.seq xl (.seq (.seq rO uQ) uR))))))):=by kernel_rfl
end Go.ST3
end
section
namespace Go.ST
open Go Go.DL Go.MM Go.Proofs
open Go.TY hiding Fd
theorem WC.toM {P:Program} {f:FuncId} {us:List V} {d:Option Nat} {st:St} {K:St→Prop} (h:WC P f us d st K):WCM P f us d st K:=by
 refine ⟨h.1,fun N w0 S0 E a vs hs hlen hv hd=>(h.2 N w0 S0 E a vs hs hlen hv hd).mono ?_⟩
 rintro e w' ⟨v,rfl,E',st',h1,h2,h3⟩
 exact ⟨v,rfl,S0,E',st',Ext.refl _,h1,h2,h3⟩
abbrev dL (l:List Fd) (s:RS) (st:List RE) (x0 x1 x2 x3 x4 x5 x6 x7 x8 x9 tick:Int) (e:RE) (is:Bool):List T:=
 [fds l,I s.kind,.str s.var,.slice 1 (s.key.map .str),.str s.field,I s.n,I s.m,esT st,I x0,I x1,I x2,I x3,I x4,I x5,I x6,I x7,I x8,I x9,I tick,.str e.var,.slice 1 (e.key.map I),I e.n,I e.at_,.bool is]
abbrev yK:List T:=[.nilfn,.clos 16 [],.clos 17 [],.clos 18 [],.clos 19 [],.clos 20 [],.clos 21 []]
abbrev z10:List T:=[I 0,I 0,I 0,I 0,I 0,I 0,I 0,I 0,I 0,I 0]
section
variable (l:List Fd) (s:RS) (st:List RE) (x0 x1 x2 x3 x4 x5 x6 x7 x8 x9 tick:Int) (e:RE) (is:Bool)
abbrev S0:Wk:={sl:=[(6,.ptr 6 0),(8,.ptr 8 0),(10,.ptr 10 0),(13,.ptr 13 0),(16,.ptr 37 0)],bx:=[(6,.d 6 (rh s)),(8,.d 10 [I x0,I x1,I x2,I x3,I x4,I x5,I x6,I x7,I x8,I x9]),(10,.d 10 z10),(13,.d 7 yK),(37,.d 24 (dL l s st x0 x1 x2 x3 x4 x5 x6 x7 x8 x9 tick e is))]}
abbrev S1 (st':List RE) (y0 y1 y2 y3 y4 y5 y6 y7 y8 y9:Int) (e':RE) (pass:Bool):Wk:={sl:=[(8,.ptr 8 0),(10,.ptr 10 0),(16,.ptr 37 0),(70,.t (.bool (!pass)))],bx:=[(8,.d 10 [I x0,I x1,I x2,I x3,I x4,I x5,I x6,I x7,I x8,I x9]),(10,.d 10 z10),(37,.d 24 (dL l s st' y0 y1 y2 y3 y4 y5 y6 y7 y8 y9 tick e' is))]}
end
variable {l:List Fd} {s:RS} {st:List RE} {x0 x1 x2 x3 x4 x5 x6 x7 x8 x9 tick:Int} {e:RE} {is:Bool}
attribute [local irreducible] bJ WCM YC
theorem xW (hk:s.kind=3) (b:Bool) (hb:b=(is&&decide (e.at_≥tick - s.n))) (h1: -2^40<tick∧tick<2^40) (h2: -2^40<s.n∧s.n<2^40):
  bJ Try.prog 84 Go.ST3.rO (S0 l s st x0 x1 x2 x3 x4 x5 x6 x7 x8 x9 tick e is).mk' (fun ex s'=>ex= .normal∧bK (S1 l s x0 x1 x2 x3 x4 x5 x6 x7 x8 x9 tick is st x0 x1 x2 x3 x4 x5 x6 x7 x8 x9 e b) s'):=by
 obtain ⟨kk,var,key,field,n,m⟩:=s
 dsimp only at hk h2 hb
 subst hk
 have hw:IntKind.wrap .i64 (tick - n)=tick - n:=lS (by omega) (by omega)
 refine Go.ST3.s9 ?_
 cases is with
 |false=>
  subst hb
  repeat' ((conv=>whnf);first|exact trivial|refine WC.toM (qf mixed Try.func18 Go.ST4.l18 rfl rfl (rs:=[.tmp 2]) rfl 3000 (nlZ rfl) ?_)|refine nT_ ?_|refine aE1 ?_|refine aE0 ?_|refine aN1 ?_|refine aN0 ?_|refine aD1 ?_|refine aD0 ?_|refine nE_ (fun hq=>?_) (fun hq=>?_)|refine nN_ (fun hq=>?_) (fun hq=>?_)|refine nD_ (fun hq=>?_) (fun hq=>?_)|refine rb1 ?_|refine rb0 ?_|refine rbx ?_|refine rix ?_|refine aS ?_|fail)
  refine ⟨_,rfl,?_⟩
  repeat' ((conv=>whnf);first|exact trivial|(exact ⟨rfl,by (repeat' (first|exact trivial|exact LeV.same _|exact LeB.same _|exact rfl|exact fun _ _ _=>trivial|exact lI|exact LeV.nil _ _ _|exact lB|refine qq ?_|refine qo ?_|refine And.intro ?_ ?_));done⟩)|refine nT_ ?_|refine aE1 ?_|refine aE0 ?_|refine aN1 ?_|refine aN0 ?_|refine aD1 ?_|refine aD0 ?_|refine nE_ (fun hq=>?_) (fun hq=>?_)|refine nN_ (fun hq=>?_) (fun hq=>?_)|refine nD_ (fun hq=>?_) (fun hq=>?_)|refine rb1 ?_|refine rb0 ?_|refine rbx ?_|refine rix ?_|refine aS ?_|fail)
 |true=>
  by_cases c:e.at_≥tick - n
  ·have hc:e.at_≥IntKind.wrap .i64 (tick - n):=by rw [hw];exact c
   obtain rfl:b=true:=by rw [hb,decide_eq_true c];rfl
   repeat' ((conv=>whnf);first|exact trivial|refine WC.toM (qf mixed Try.func18 Go.ST4.l18 rfl rfl (rs:=[.tmp 2]) rfl 3000 (nlZ rfl) ?_)|refine pt hc ?_|refine nT_ ?_|refine aE1 ?_|refine aE0 ?_|refine aN1 ?_|refine aN0 ?_|refine aD1 ?_|refine aD0 ?_|refine nE_ (fun hq=>?_) (fun hq=>?_)|refine nN_ (fun hq=>?_) (fun hq=>?_)|refine nD_ (fun hq=>?_) (fun hq=>?_)|refine rb1 ?_|refine rb0 ?_|refine rbx ?_|refine rix ?_|refine aS ?_|fail)
   refine ⟨_,rfl,?_⟩
   repeat' ((conv=>whnf);first|exact trivial|(exact ⟨rfl,by (repeat' (first|exact trivial|exact LeV.same _|exact LeB.same _|exact rfl|exact fun _ _ _=>trivial|exact lI|exact LeV.nil _ _ _|exact lB|refine qq ?_|refine qo ?_|refine And.intro ?_ ?_));done⟩)|refine nT_ ?_|refine aE1 ?_|refine aE0 ?_|refine aN1 ?_|refine aN0 ?_|refine aD1 ?_|refine aD0 ?_|refine nE_ (fun hq=>?_) (fun hq=>?_)|refine nN_ (fun hq=>?_) (fun hq=>?_)|refine nD_ (fun hq=>?_) (fun hq=>?_)|refine rb1 ?_|refine rb0 ?_|refine rbx ?_|refine rix ?_|refine aS ?_|fail)
  ·have hc: ¬e.at_≥IntKind.wrap .i64 (tick - n):=by rw [hw];exact c
   obtain rfl:b=false:=by rw [hb,decide_eq_false c];rfl
   repeat' ((conv=>whnf);first|exact trivial|refine WC.toM (qf mixed Try.func18 Go.ST4.l18 rfl rfl (rs:=[.tmp 2]) rfl 3000 (nlZ rfl) ?_)|refine pq hc ?_|refine nT_ ?_|refine aE1 ?_|refine aE0 ?_|refine aN1 ?_|refine aN0 ?_|refine aD1 ?_|refine aD0 ?_|refine nE_ (fun hq=>?_) (fun hq=>?_)|refine nN_ (fun hq=>?_) (fun hq=>?_)|refine nD_ (fun hq=>?_) (fun hq=>?_)|refine rb1 ?_|refine rb0 ?_|refine rbx ?_|refine rix ?_|refine aS ?_|fail)
   refine ⟨_,rfl,?_⟩
   repeat' ((conv=>whnf);first|exact trivial|(exact ⟨rfl,by (repeat' (first|exact trivial|exact LeV.same _|exact LeB.same _|exact rfl|exact fun _ _ _=>trivial|exact lI|exact LeV.nil _ _ _|exact lB|refine qq ?_|refine qo ?_|refine And.intro ?_ ?_));done⟩)|refine nT_ ?_|refine aE1 ?_|refine aE0 ?_|refine aN1 ?_|refine aN0 ?_|refine aD1 ?_|refine aD0 ?_|refine nE_ (fun hq=>?_) (fun hq=>?_)|refine nN_ (fun hq=>?_) (fun hq=>?_)|refine nD_ (fun hq=>?_) (fun hq=>?_)|refine rb1 ?_|refine rb0 ?_|refine rbx ?_|refine rix ?_|refine aS ?_|fail)
end Go.ST
end
section
namespace Go.ST
open Go Go.DL Go.MM Go.Proofs
open Go.TY hiding Fd
variable {l:List Fd} {s:RS} {st st' o:List RE} {x0 x1 x2 x3 x4 x5 x6 x7 x8 x9 tick:Int} {e:RE} {is:Bool}
attribute [local irreducible] bJ WCM YC
theorem yJ (hk:s.kind=2) (hOf:DCalls Try.prog 43 [esT st,.str s.var] (esT o)) (hput:DCalls Try.prog 64 [esT st,qx ⟨e.var,e.key,e.n,tick⟩] (esT st')) (full:Bool) (hf:full=(!is&&decide (100≤o.length))):
  bJ Try.prog 84 Go.ST3.rO (S0 l s st x0 x1 x2 x3 x4 x5 x6 x7 x8 x9 tick e is).mk' (fun ex s'=>ex= .normal∧bK (S1 l s x0 x1 x2 x3 x4 x5 x6 x7 x8 x9 tick is (if full then st else st') x0 x1 x2 x3 x4 x5 x6 x7 x8 x9 ⟨e.var,e.key,e.n,tick⟩ (!full)) s'):=by
 obtain ⟨kk,var,key,field,n,m⟩:=s
 dsimp only at hk hOf
 subst hk
 have hol:((o.map qx).length:Int)=o.length:=by rw [List.length_map]
 refine Go.ST3.s9 ?_
 cases is with
 |true=>
  obtain rfl:full=false:=by rw [hf];rfl
  repeat' ((conv=>whnf);first|exact trivial|refine WC.toM (qf mixed Try.func17 Go.ST4.l17 rfl rfl (rs:=[.tmp 2]) rfl 3000 (nlZ rfl) ?_)|refine nT_ ?_|refine aE1 ?_|refine aE0 ?_|refine aN1 ?_|refine aN0 ?_|refine aD1 ?_|refine aD0 ?_|refine nE_ (fun hq=>?_) (fun hq=>?_)|refine nN_ (fun hq=>?_) (fun hq=>?_)|refine nD_ (fun hq=>?_) (fun hq=>?_)|refine rb1 ?_|refine rb0 ?_|refine rbx ?_|refine rix ?_|refine aS ?_|fail)
  repeat' ((conv=>whnf);first|exact trivial|refine qf mixed Try.func41 Go.ST4.l41 rfl rfl (rs:=[.tmp 2]) rfl 3100 (nlZ rfl) ?_|refine nT_ ?_|refine aE1 ?_|refine aE0 ?_|refine aN1 ?_|refine aN0 ?_|refine aD1 ?_|refine aD0 ?_|refine nE_ (fun hq=>?_) (fun hq=>?_)|refine nN_ (fun hq=>?_) (fun hq=>?_)|refine nD_ (fun hq=>?_) (fun hq=>?_)|refine rb1 ?_|refine rb0 ?_|refine rbx ?_|refine rix ?_|refine aS ?_|fail)
  repeat' ((conv=>whnf);first|exact trivial|refine qk _ (hput) ?_|refine nT_ ?_|refine aE1 ?_|refine aE0 ?_|refine aN1 ?_|refine aN0 ?_|refine aD1 ?_|refine aD0 ?_|refine nE_ (fun hq=>?_) (fun hq=>?_)|refine nN_ (fun hq=>?_) (fun hq=>?_)|refine nD_ (fun hq=>?_) (fun hq=>?_)|refine rb1 ?_|refine rb0 ?_|refine rbx ?_|refine rix ?_|refine aS ?_|fail)
  refine ⟨_,rfl,?_⟩
  repeat' ((conv=>whnf);first|exact trivial|refine nT_ ?_|refine aE1 ?_|refine aE0 ?_|refine aN1 ?_|refine aN0 ?_|refine aD1 ?_|refine aD0 ?_|refine nE_ (fun hq=>?_) (fun hq=>?_)|refine nN_ (fun hq=>?_) (fun hq=>?_)|refine nD_ (fun hq=>?_) (fun hq=>?_)|refine rb1 ?_|refine rb0 ?_|refine rbx ?_|refine rix ?_|refine aS ?_|fail)
  refine ⟨_,rfl,?_⟩
  repeat' ((conv=>whnf);first|exact trivial|(exact ⟨rfl,by (repeat' (first|exact trivial|exact LeV.same _|exact LeB.same _|exact rfl|exact fun _ _ _=>trivial|exact lI|exact LeV.nil _ _ _|exact lB|refine qq ?_|refine qo ?_|refine And.intro ?_ ?_));done⟩)|refine nT_ ?_|refine aE1 ?_|refine aE0 ?_|refine aN1 ?_|refine aN0 ?_|refine aD1 ?_|refine aD0 ?_|refine nE_ (fun hq=>?_) (fun hq=>?_)|refine nN_ (fun hq=>?_) (fun hq=>?_)|refine nD_ (fun hq=>?_) (fun hq=>?_)|refine rb1 ?_|refine rb0 ?_|refine rbx ?_|refine rix ?_|refine aS ?_|fail)
 |false=>
  by_cases c:100≤o.length
  ·obtain rfl:full=true:=by rw [hf,decide_eq_true c];rfl
   have hc:((o.map qx).length:Int)≥100:=by omega
   repeat' ((conv=>whnf);first|exact trivial|refine WC.toM (qf mixed Try.func17 Go.ST4.l17 rfl rfl (rs:=[.tmp 2]) rfl 3000 (nlZ rfl) ?_)|refine nT_ ?_|refine aE1 ?_|refine aE0 ?_|refine aN1 ?_|refine aN0 ?_|refine aD1 ?_|refine aD0 ?_|refine nE_ (fun hq=>?_) (fun hq=>?_)|refine nN_ (fun hq=>?_) (fun hq=>?_)|refine nD_ (fun hq=>?_) (fun hq=>?_)|refine rb1 ?_|refine rb0 ?_|refine rbx ?_|refine rix ?_|refine aS ?_|fail)
   repeat' ((conv=>whnf);first|exact trivial|refine qf mixed Try.func41 Go.ST4.l41 rfl rfl (rs:=[.tmp 2]) rfl 3100 (nlZ rfl) ?_|refine nT_ ?_|refine aE1 ?_|refine aE0 ?_|refine aN1 ?_|refine aN0 ?_|refine aD1 ?_|refine aD0 ?_|refine nE_ (fun hq=>?_) (fun hq=>?_)|refine nN_ (fun hq=>?_) (fun hq=>?_)|refine nD_ (fun hq=>?_) (fun hq=>?_)|refine rb1 ?_|refine rb0 ?_|refine rbx ?_|refine rix ?_|refine aS ?_|fail)
   repeat' ((conv=>whnf);first|exact trivial|refine qk _ (hOf) ?_|refine pt hc ?_|refine nT_ ?_|refine aE1 ?_|refine aE0 ?_|refine aN1 ?_|refine aN0 ?_|refine aD1 ?_|refine aD0 ?_|refine nE_ (fun hq=>?_) (fun hq=>?_)|refine nN_ (fun hq=>?_) (fun hq=>?_)|refine nD_ (fun hq=>?_) (fun hq=>?_)|refine rb1 ?_|refine rb0 ?_|refine rbx ?_|refine rix ?_|refine aS ?_|fail)
   refine ⟨_,rfl,?_⟩
   repeat' ((conv=>whnf);first|exact trivial|refine nT_ ?_|refine aE1 ?_|refine aE0 ?_|refine aN1 ?_|refine aN0 ?_|refine aD1 ?_|refine aD0 ?_|refine nE_ (fun hq=>?_) (fun hq=>?_)|refine nN_ (fun hq=>?_) (fun hq=>?_)|refine nD_ (fun hq=>?_) (fun hq=>?_)|refine rb1 ?_|refine rb0 ?_|refine rbx ?_|refine rix ?_|refine aS ?_|fail)
   refine ⟨_,rfl,?_⟩
   repeat' ((conv=>whnf);first|exact trivial|(exact ⟨rfl,by (repeat' (first|exact trivial|exact LeV.same _|exact LeB.same _|exact rfl|exact fun _ _ _=>trivial|exact lI|exact LeV.nil _ _ _|exact lB|refine qq ?_|refine qo ?_|refine And.intro ?_ ?_));done⟩)|refine nT_ ?_|refine aE1 ?_|refine aE0 ?_|refine aN1 ?_|refine aN0 ?_|refine aD1 ?_|refine aD0 ?_|refine nE_ (fun hq=>?_) (fun hq=>?_)|refine nN_ (fun hq=>?_) (fun hq=>?_)|refine nD_ (fun hq=>?_) (fun hq=>?_)|refine rb1 ?_|refine rb0 ?_|refine rbx ?_|refine rix ?_|refine aS ?_|fail)
  ·obtain rfl:full=false:=by rw [hf,decide_eq_false c];rfl
   have hc: ¬((o.map qx).length:Int)≥100:=by omega
   repeat' ((conv=>whnf);first|exact trivial|refine WC.toM (qf mixed Try.func17 Go.ST4.l17 rfl rfl (rs:=[.tmp 2]) rfl 3000 (nlZ rfl) ?_)|refine nT_ ?_|refine aE1 ?_|refine aE0 ?_|refine aN1 ?_|refine aN0 ?_|refine aD1 ?_|refine aD0 ?_|refine nE_ (fun hq=>?_) (fun hq=>?_)|refine nN_ (fun hq=>?_) (fun hq=>?_)|refine nD_ (fun hq=>?_) (fun hq=>?_)|refine rb1 ?_|refine rb0 ?_|refine rbx ?_|refine rix ?_|refine aS ?_|fail)
   repeat' ((conv=>whnf);first|exact trivial|refine qf mixed Try.func41 Go.ST4.l41 rfl rfl (rs:=[.tmp 2]) rfl 3100 (nlZ rfl) ?_|refine nT_ ?_|refine aE1 ?_|refine aE0 ?_|refine aN1 ?_|refine aN0 ?_|refine aD1 ?_|refine aD0 ?_|refine nE_ (fun hq=>?_) (fun hq=>?_)|refine nN_ (fun hq=>?_) (fun hq=>?_)|refine nD_ (fun hq=>?_) (fun hq=>?_)|refine rb1 ?_|refine rb0 ?_|refine rbx ?_|refine rix ?_|refine aS ?_|fail)
   repeat' ((conv=>whnf);first|exact trivial|refine qk _ (hOf) ?_|refine pq hc ?_|refine qk _ (hput) ?_|refine nT_ ?_|refine aE1 ?_|refine aE0 ?_|refine aN1 ?_|refine aN0 ?_|refine aD1 ?_|refine aD0 ?_|refine nE_ (fun hq=>?_) (fun hq=>?_)|refine nN_ (fun hq=>?_) (fun hq=>?_)|refine nD_ (fun hq=>?_) (fun hq=>?_)|refine rb1 ?_|refine rb0 ?_|refine rbx ?_|refine rix ?_|refine aS ?_|fail)
   refine ⟨_,rfl,?_⟩
   repeat' ((conv=>whnf);first|exact trivial|refine nT_ ?_|refine aE1 ?_|refine aE0 ?_|refine aN1 ?_|refine aN0 ?_|refine aD1 ?_|refine aD0 ?_|refine nE_ (fun hq=>?_) (fun hq=>?_)|refine nN_ (fun hq=>?_) (fun hq=>?_)|refine nD_ (fun hq=>?_) (fun hq=>?_)|refine rb1 ?_|refine rb0 ?_|refine rbx ?_|refine rix ?_|refine aS ?_|fail)
   refine ⟨_,rfl,?_⟩
   repeat' ((conv=>whnf);first|exact trivial|(exact ⟨rfl,by (repeat' (first|exact trivial|exact LeV.same _|exact LeB.same _|exact rfl|exact fun _ _ _=>trivial|exact lI|exact LeV.nil _ _ _|exact lB|refine qq ?_|refine qo ?_|refine And.intro ?_ ?_));done⟩)|refine nT_ ?_|refine aE1 ?_|refine aE0 ?_|refine aN1 ?_|refine aN0 ?_|refine aD1 ?_|refine aD0 ?_|refine nE_ (fun hq=>?_) (fun hq=>?_)|refine nN_ (fun hq=>?_) (fun hq=>?_)|refine nD_ (fun hq=>?_) (fun hq=>?_)|refine rb1 ?_|refine rb0 ?_|refine rbx ?_|refine rix ?_|refine aS ?_|fail)
end Go.ST
end
section
namespace Go.ST
open Go Go.DL Go.MM Go.Proofs
open Go.TY hiding Fd
variable {l:List Fd} {s:RS} {st st' o:List RE} {x0 x1 x2 x3 x4 x5 x6 x7 x8 x9 y0 y1 y2 y3 y4 y5 y6 y7 y8 y9 tick:Int} {e:RE} {is:Bool}
attribute [local irreducible] bJ WCM YC
abbrev vt (w:Nat) (n:Int):Int:=if ((2^w - 1:Nat):Int)<n then ((2^w - 1:Nat):Int) else n
theorem wM (w:Nat) (n:Int):vt w n=min n ((2^w - 1:Nat):Int):=by
 unfold vt;split <;> omega
structure Wr (l:List Fd) (field:ByteArray) (h h':List Int) (n:Int):Prop where
 find:DCalls Try.prog 44 [fds l,.str field] (.tup [fdc l field,.bool (qD l field)])
 max:qD l field=true→DCalls Try.prog 66 [fdc l field] (I ((2^(fld l field).w - 1:Nat):Int))
 set:qD l field=true→DCalls Try.prog 65 [fdc l field,hd h,I (vt (fld l field).w n)] (hd h')
 no:qD l field=false→h'=h
theorem vS {l:List Fd} (hl:LOk l) (field:ByteArray) {h:List Int} (hh:HOk h) {n:Int} (h0:0≤n):Wr l field h (wrF l h field n) n:=by
 refine ⟨tS l hl field,fun hf=>t97 _ (tf hl hf),fun hf=>?_,fun hf=>?_⟩
 ·have hp:=Nat.two_pow_pos (fld l field).w
  have hS:=t98 _ (tf hl hf) h hh (min n ((2^(fld l field).w - 1:Nat):Int)).toNat (by omega)
  unfold wrF
  rw [if_pos hf,wM]
  rwa [Int.toNat_of_nonneg (by omega)] at hS
 ·unfold wrF
  rw [hf];rfl
theorem xX (hk:s.kind=1) (hOf:DCalls Try.prog 43 [esT st,.str s.var] (esT o)) (N:Int) (hN:(if (65535:Int)<IntKind.wrap .i64 (e.n+1) then 65535 else IntKind.wrap .i64 (e.n+1))=N) (hput:DCalls Try.prog 64 [esT st,qx ⟨e.var,e.key,N,tick⟩] (esT st')) (full:Bool) (hf:full=(!is&&decide (100≤o.length)))
  (hw:Wr l s.field [x0,x1,x2,x3,x4,x5,x6,x7,x8,x9] [y0,y1,y2,y3,y4,y5,y6,y7,y8,y9] N):
  bJ Try.prog 84 Go.ST3.rO (S0 l s st x0 x1 x2 x3 x4 x5 x6 x7 x8 x9 tick e is).mk' (fun ex s'=>ex= .normal∧((full=true∧bK (S1 l s x0 x1 x2 x3 x4 x5 x6 x7 x8 x9 tick is st x0 x1 x2 x3 x4 x5 x6 x7 x8 x9 ⟨e.var,e.key,N,tick⟩ false) s')∨(full=false∧bK (S1 l s x0 x1 x2 x3 x4 x5 x6 x7 x8 x9 tick is st' y0 y1 y2 y3 y4 y5 y6 y7 y8 y9 ⟨e.var,e.key,N,tick⟩ true) s'))):=by
 obtain ⟨kk,var,key,field,n,m⟩:=s
 dsimp only at hk hOf hw
 subst hk
 subst hN
 have hol:((o.map qx).length:Int)=o.length:=by rw [List.length_map]
 obtain ⟨hF,hM,hS,hno⟩:=hw
 refine Go.ST3.s9 ?_
 by_cases c:full=true
 ·subst c
  cases is with
  |true=>cases hf
  |false=>
   have c:100≤o.length:=by
    by_cases c:100≤o.length
    ·exact c
    ·rw [decide_eq_false c] at hf;cases hf
   have hc:((o.map qx).length:Int)≥100:=by omega
   repeat' ((conv=>whnf);first|exact trivial|refine WC.toM (qf mixed Try.func16 Go.ST4.l16 rfl rfl (rs:=[.tmp 2]) rfl 3000 (nlZ rfl) ?_)|refine nT_ ?_|refine aE1 ?_|refine aE0 ?_|refine aN1 ?_|refine aN0 ?_|refine aD1 ?_|refine aD0 ?_|refine nE_ (fun hq=>?_) (fun hq=>?_)|refine nN_ (fun hq=>?_) (fun hq=>?_)|refine nD_ (fun hq=>?_) (fun hq=>?_)|refine rb1 ?_|refine rb0 ?_|refine rbx ?_|refine rix ?_|refine aS ?_|fail)
   repeat' ((conv=>whnf);first|exact trivial|refine qf mixed Try.func41 Go.ST4.l41 rfl rfl (rs:=[.tmp 2]) rfl 3100 (nlZ rfl) ?_|refine nT_ ?_|refine aE1 ?_|refine aE0 ?_|refine aN1 ?_|refine aN0 ?_|refine aD1 ?_|refine aD0 ?_|refine nE_ (fun hq=>?_) (fun hq=>?_)|refine nN_ (fun hq=>?_) (fun hq=>?_)|refine nD_ (fun hq=>?_) (fun hq=>?_)|refine rb1 ?_|refine rb0 ?_|refine rbx ?_|refine rix ?_|refine aS ?_|fail)
   repeat' ((conv=>whnf);first|exact trivial|refine qk _ (hOf) ?_|refine pt hc ?_|refine nT_ ?_|refine aE1 ?_|refine aE0 ?_|refine aN1 ?_|refine aN0 ?_|refine aD1 ?_|refine aD0 ?_|refine nE_ (fun hq=>?_) (fun hq=>?_)|refine nN_ (fun hq=>?_) (fun hq=>?_)|refine nD_ (fun hq=>?_) (fun hq=>?_)|refine rb1 ?_|refine rb0 ?_|refine rbx ?_|refine rix ?_|refine aS ?_|fail)
   refine ⟨_,rfl,?_⟩
   repeat' ((conv=>whnf);first|exact trivial|refine nT_ ?_|refine aE1 ?_|refine aE0 ?_|refine aN1 ?_|refine aN0 ?_|refine aD1 ?_|refine aD0 ?_|refine nE_ (fun hq=>?_) (fun hq=>?_)|refine nN_ (fun hq=>?_) (fun hq=>?_)|refine nD_ (fun hq=>?_) (fun hq=>?_)|refine rb1 ?_|refine rb0 ?_|refine rbx ?_|refine rix ?_|refine aS ?_|fail)
   refine ⟨_,rfl,?_⟩
   repeat' ((conv=>whnf);first|exact trivial|(exact ⟨rfl,Or.inl ⟨rfl,by (repeat' (first|exact trivial|exact LeV.same _|exact LeB.same _|exact rfl|exact fun _ _ _=>trivial|exact lI|exact LeV.nil _ _ _|exact lB|refine qq ?_|refine qo ?_|refine And.intro ?_ ?_));done⟩⟩)|refine nT_ ?_|refine aE1 ?_|refine aE0 ?_|refine aN1 ?_|refine aN0 ?_|refine aD1 ?_|refine aD0 ?_|refine nE_ (fun hq=>?_) (fun hq=>?_)|refine nN_ (fun hq=>?_) (fun hq=>?_)|refine nD_ (fun hq=>?_) (fun hq=>?_)|refine rb1 ?_|refine rb0 ?_|refine rbx ?_|refine rix ?_|refine aS ?_|fail)
 ·have c:full=false:=by simpa using c
  subst c
  have hgo:(is=true)∨(is=false∧ ¬((o.map qx).length:Int)≥100):=by
   cases is with
   |true=>exact Or.inl rfl
   |false=>
    refine Or.inr ⟨rfl,fun hc=>?_⟩
    rw [decide_eq_true (by omega)] at hf
    cases hf
  cases hfo:qD l field with
  |true=>
   have hM:=hM hfo
   have hS:=hS hfo
   rw [hfo] at hF
   rcases hgo with rfl|⟨rfl,hc⟩
   ·repeat' ((conv=>whnf);first|exact trivial|refine WC.toM (qf mixed Try.func16 Go.ST4.l16 rfl rfl (rs:=[.tmp 2]) rfl 3000 (nlZ rfl) ?_)|refine nT_ ?_|refine aE1 ?_|refine aE0 ?_|refine aN1 ?_|refine aN0 ?_|refine aD1 ?_|refine aD0 ?_|refine nE_ (fun hq=>?_) (fun hq=>?_)|refine nN_ (fun hq=>?_) (fun hq=>?_)|refine nD_ (fun hq=>?_) (fun hq=>?_)|refine rb1 ?_|refine rb0 ?_|refine rbx ?_|refine rix ?_|refine aS ?_|fail)
    repeat' ((conv=>whnf);first|exact trivial|refine qf mixed Try.func41 Go.ST4.l41 rfl rfl (rs:=[.tmp 2]) rfl 3100 (nlZ rfl) ?_|refine nT_ ?_|refine aE1 ?_|refine aE0 ?_|refine aN1 ?_|refine aN0 ?_|refine aD1 ?_|refine aD0 ?_|refine nE_ (fun hq=>?_) (fun hq=>?_)|refine nN_ (fun hq=>?_) (fun hq=>?_)|refine nD_ (fun hq=>?_) (fun hq=>?_)|refine rb1 ?_|refine rb0 ?_|refine rbx ?_|refine rix ?_|refine aS ?_|fail)
    repeat' ((conv=>whnf);first|exact trivial|refine qk _ (hput) ?_|refine nT_ ?_|refine aE1 ?_|refine aE0 ?_|refine aN1 ?_|refine aN0 ?_|refine aD1 ?_|refine aD0 ?_|refine nE_ (fun hq=>?_) (fun hq=>?_)|refine nN_ (fun hq=>?_) (fun hq=>?_)|refine nD_ (fun hq=>?_) (fun hq=>?_)|refine rb1 ?_|refine rb0 ?_|refine rbx ?_|refine rix ?_|refine aS ?_|fail)
    refine ⟨_,rfl,?_⟩
    repeat' ((conv=>whnf);first|exact trivial|refine qf mixed Try.func42 Go.ST4.l42 rfl rfl (rs:=[]) rfl 3200 (nlZ rfl) ?_|refine nT_ ?_|refine aE1 ?_|refine aE0 ?_|refine aN1 ?_|refine aN0 ?_|refine aD1 ?_|refine aD0 ?_|refine nE_ (fun hq=>?_) (fun hq=>?_)|refine nN_ (fun hq=>?_) (fun hq=>?_)|refine nD_ (fun hq=>?_) (fun hq=>?_)|refine rb1 ?_|refine rb0 ?_|refine rbx ?_|refine rix ?_|refine aS ?_|fail)
    repeat' ((conv=>whnf);first|exact trivial|refine qk _ (hF) ?_|refine qk _ (hM) ?_|refine qk _ (hS) ?_|refine nT_ ?_|refine aE1 ?_|refine aE0 ?_|refine aN1 ?_|refine aN0 ?_|refine aD1 ?_|refine aD0 ?_|refine nE_ (fun hq=>?_) (fun hq=>?_)|refine nN_ (fun hq=>?_) (fun hq=>?_)|refine nD_ (fun hq=>?_) (fun hq=>?_)|refine rb1 ?_|refine rb0 ?_|refine rbx ?_|refine rix ?_|refine aS ?_|fail)
    refine ⟨_,rfl,?_⟩
    repeat' ((conv=>whnf);first|exact trivial|refine nT_ ?_|refine aE1 ?_|refine aE0 ?_|refine aN1 ?_|refine aN0 ?_|refine aD1 ?_|refine aD0 ?_|refine nE_ (fun hq=>?_) (fun hq=>?_)|refine nN_ (fun hq=>?_) (fun hq=>?_)|refine nD_ (fun hq=>?_) (fun hq=>?_)|refine rb1 ?_|refine rb0 ?_|refine rbx ?_|refine rix ?_|refine aS ?_|fail)
    refine ⟨_,rfl,?_⟩
    repeat' ((conv=>whnf);first|exact trivial|(exact ⟨rfl,Or.inr ⟨rfl,by (repeat' (first|exact trivial|exact LeV.same _|exact LeB.same _|exact rfl|exact fun _ _ _=>trivial|exact lI|exact LeV.nil _ _ _|exact lB|refine qq ?_|refine qo ?_|refine And.intro ?_ ?_));done⟩⟩)|refine nT_ ?_|refine aE1 ?_|refine aE0 ?_|refine aN1 ?_|refine aN0 ?_|refine aD1 ?_|refine aD0 ?_|refine nE_ (fun hq=>?_) (fun hq=>?_)|refine nN_ (fun hq=>?_) (fun hq=>?_)|refine nD_ (fun hq=>?_) (fun hq=>?_)|refine rb1 ?_|refine rb0 ?_|refine rbx ?_|refine rix ?_|refine aS ?_|fail)
   ·repeat' ((conv=>whnf);first|exact trivial|refine WC.toM (qf mixed Try.func16 Go.ST4.l16 rfl rfl (rs:=[.tmp 2]) rfl 3000 (nlZ rfl) ?_)|refine nT_ ?_|refine aE1 ?_|refine aE0 ?_|refine aN1 ?_|refine aN0 ?_|refine aD1 ?_|refine aD0 ?_|refine nE_ (fun hq=>?_) (fun hq=>?_)|refine nN_ (fun hq=>?_) (fun hq=>?_)|refine nD_ (fun hq=>?_) (fun hq=>?_)|refine rb1 ?_|refine rb0 ?_|refine rbx ?_|refine rix ?_|refine aS ?_|fail)
    repeat' ((conv=>whnf);first|exact trivial|refine qf mixed Try.func41 Go.ST4.l41 rfl rfl (rs:=[.tmp 2]) rfl 3100 (nlZ rfl) ?_|refine nT_ ?_|refine aE1 ?_|refine aE0 ?_|refine aN1 ?_|refine aN0 ?_|refine aD1 ?_|refine aD0 ?_|refine nE_ (fun hq=>?_) (fun hq=>?_)|refine nN_ (fun hq=>?_) (fun hq=>?_)|refine nD_ (fun hq=>?_) (fun hq=>?_)|refine rb1 ?_|refine rb0 ?_|refine rbx ?_|refine rix ?_|refine aS ?_|fail)
    repeat' ((conv=>whnf);first|exact trivial|refine qk _ (hOf) ?_|refine pq hc ?_|refine qk _ (hput) ?_|refine nT_ ?_|refine aE1 ?_|refine aE0 ?_|refine aN1 ?_|refine aN0 ?_|refine aD1 ?_|refine aD0 ?_|refine nE_ (fun hq=>?_) (fun hq=>?_)|refine nN_ (fun hq=>?_) (fun hq=>?_)|refine nD_ (fun hq=>?_) (fun hq=>?_)|refine rb1 ?_|refine rb0 ?_|refine rbx ?_|refine rix ?_|refine aS ?_|fail)
    refine ⟨_,rfl,?_⟩
    repeat' ((conv=>whnf);first|exact trivial|refine qf mixed Try.func42 Go.ST4.l42 rfl rfl (rs:=[]) rfl 3200 (nlZ rfl) ?_|refine nT_ ?_|refine aE1 ?_|refine aE0 ?_|refine aN1 ?_|refine aN0 ?_|refine aD1 ?_|refine aD0 ?_|refine nE_ (fun hq=>?_) (fun hq=>?_)|refine nN_ (fun hq=>?_) (fun hq=>?_)|refine nD_ (fun hq=>?_) (fun hq=>?_)|refine rb1 ?_|refine rb0 ?_|refine rbx ?_|refine rix ?_|refine aS ?_|fail)
    repeat' ((conv=>whnf);first|exact trivial|refine qk _ (hF) ?_|refine qk _ (hM) ?_|refine qk _ (hS) ?_|refine nT_ ?_|refine aE1 ?_|refine aE0 ?_|refine aN1 ?_|refine aN0 ?_|refine aD1 ?_|refine aD0 ?_|refine nE_ (fun hq=>?_) (fun hq=>?_)|refine nN_ (fun hq=>?_) (fun hq=>?_)|refine nD_ (fun hq=>?_) (fun hq=>?_)|refine rb1 ?_|refine rb0 ?_|refine rbx ?_|refine rix ?_|refine aS ?_|fail)
    refine ⟨_,rfl,?_⟩
    repeat' ((conv=>whnf);first|exact trivial|refine nT_ ?_|refine aE1 ?_|refine aE0 ?_|refine aN1 ?_|refine aN0 ?_|refine aD1 ?_|refine aD0 ?_|refine nE_ (fun hq=>?_) (fun hq=>?_)|refine nN_ (fun hq=>?_) (fun hq=>?_)|refine nD_ (fun hq=>?_) (fun hq=>?_)|refine rb1 ?_|refine rb0 ?_|refine rbx ?_|refine rix ?_|refine aS ?_|fail)
    refine ⟨_,rfl,?_⟩
    repeat' ((conv=>whnf);first|exact trivial|(exact ⟨rfl,Or.inr ⟨rfl,by (repeat' (first|exact trivial|exact LeV.same _|exact LeB.same _|exact rfl|exact fun _ _ _=>trivial|exact lI|exact LeV.nil _ _ _|exact lB|refine qq ?_|refine qo ?_|refine And.intro ?_ ?_));done⟩⟩)|refine nT_ ?_|refine aE1 ?_|refine aE0 ?_|refine aN1 ?_|refine aN0 ?_|refine aD1 ?_|refine aD0 ?_|refine nE_ (fun hq=>?_) (fun hq=>?_)|refine nN_ (fun hq=>?_) (fun hq=>?_)|refine nD_ (fun hq=>?_) (fun hq=>?_)|refine rb1 ?_|refine rb0 ?_|refine rbx ?_|refine rix ?_|refine aS ?_|fail)
  |false=>
   have hno:=hno hfo
   cases hno
   rw [hfo] at hF
   rcases hgo with rfl|⟨rfl,hc⟩
   ·repeat' ((conv=>whnf);first|exact trivial|refine WC.toM (qf mixed Try.func16 Go.ST4.l16 rfl rfl (rs:=[.tmp 2]) rfl 3000 (nlZ rfl) ?_)|refine nT_ ?_|refine aE1 ?_|refine aE0 ?_|refine aN1 ?_|refine aN0 ?_|refine aD1 ?_|refine aD0 ?_|refine nE_ (fun hq=>?_) (fun hq=>?_)|refine nN_ (fun hq=>?_) (fun hq=>?_)|refine nD_ (fun hq=>?_) (fun hq=>?_)|refine rb1 ?_|refine rb0 ?_|refine rbx ?_|refine rix ?_|refine aS ?_|fail)
    repeat' ((conv=>whnf);first|exact trivial|refine qf mixed Try.func41 Go.ST4.l41 rfl rfl (rs:=[.tmp 2]) rfl 3100 (nlZ rfl) ?_|refine nT_ ?_|refine aE1 ?_|refine aE0 ?_|refine aN1 ?_|refine aN0 ?_|refine aD1 ?_|refine aD0 ?_|refine nE_ (fun hq=>?_) (fun hq=>?_)|refine nN_ (fun hq=>?_) (fun hq=>?_)|refine nD_ (fun hq=>?_) (fun hq=>?_)|refine rb1 ?_|refine rb0 ?_|refine rbx ?_|refine rix ?_|refine aS ?_|fail)
    repeat' ((conv=>whnf);first|exact trivial|refine qk _ (hput) ?_|refine nT_ ?_|refine aE1 ?_|refine aE0 ?_|refine aN1 ?_|refine aN0 ?_|refine aD1 ?_|refine aD0 ?_|refine nE_ (fun hq=>?_) (fun hq=>?_)|refine nN_ (fun hq=>?_) (fun hq=>?_)|refine nD_ (fun hq=>?_) (fun hq=>?_)|refine rb1 ?_|refine rb0 ?_|refine rbx ?_|refine rix ?_|refine aS ?_|fail)
    refine ⟨_,rfl,?_⟩
    repeat' ((conv=>whnf);first|exact trivial|refine qf mixed Try.func42 Go.ST4.l42 rfl rfl (rs:=[]) rfl 3200 (nlZ rfl) ?_|refine nT_ ?_|refine aE1 ?_|refine aE0 ?_|refine aN1 ?_|refine aN0 ?_|refine aD1 ?_|refine aD0 ?_|refine nE_ (fun hq=>?_) (fun hq=>?_)|refine nN_ (fun hq=>?_) (fun hq=>?_)|refine nD_ (fun hq=>?_) (fun hq=>?_)|refine rb1 ?_|refine rb0 ?_|refine rbx ?_|refine rix ?_|refine aS ?_|fail)
    repeat' ((conv=>whnf);first|exact trivial|refine qk _ (hF) ?_|refine nT_ ?_|refine aE1 ?_|refine aE0 ?_|refine aN1 ?_|refine aN0 ?_|refine aD1 ?_|refine aD0 ?_|refine nE_ (fun hq=>?_) (fun hq=>?_)|refine nN_ (fun hq=>?_) (fun hq=>?_)|refine nD_ (fun hq=>?_) (fun hq=>?_)|refine rb1 ?_|refine rb0 ?_|refine rbx ?_|refine rix ?_|refine aS ?_|fail)
    refine ⟨_,rfl,?_⟩
    repeat' ((conv=>whnf);first|exact trivial|refine nT_ ?_|refine aE1 ?_|refine aE0 ?_|refine aN1 ?_|refine aN0 ?_|refine aD1 ?_|refine aD0 ?_|refine nE_ (fun hq=>?_) (fun hq=>?_)|refine nN_ (fun hq=>?_) (fun hq=>?_)|refine nD_ (fun hq=>?_) (fun hq=>?_)|refine rb1 ?_|refine rb0 ?_|refine rbx ?_|refine rix ?_|refine aS ?_|fail)
    refine ⟨_,rfl,?_⟩
    repeat' ((conv=>whnf);first|exact trivial|(exact ⟨rfl,Or.inr ⟨rfl,by (repeat' (first|exact trivial|exact LeV.same _|exact LeB.same _|exact rfl|exact fun _ _ _=>trivial|exact lI|exact LeV.nil _ _ _|exact lB|refine qq ?_|refine qo ?_|refine And.intro ?_ ?_));done⟩⟩)|refine nT_ ?_|refine aE1 ?_|refine aE0 ?_|refine aN1 ?_|refine aN0 ?_|refine aD1 ?_|refine aD0 ?_|refine nE_ (fun hq=>?_) (fun hq=>?_)|refine nN_ (fun hq=>?_) (fun hq=>?_)|refine nD_ (fun hq=>?_) (fun hq=>?_)|refine rb1 ?_|refine rb0 ?_|refine rbx ?_|refine rix ?_|refine aS ?_|fail)
   ·repeat' ((conv=>whnf);first|exact trivial|refine WC.toM (qf mixed Try.func16 Go.ST4.l16 rfl rfl (rs:=[.tmp 2]) rfl 3000 (nlZ rfl) ?_)|refine nT_ ?_|refine aE1 ?_|refine aE0 ?_|refine aN1 ?_|refine aN0 ?_|refine aD1 ?_|refine aD0 ?_|refine nE_ (fun hq=>?_) (fun hq=>?_)|refine nN_ (fun hq=>?_) (fun hq=>?_)|refine nD_ (fun hq=>?_) (fun hq=>?_)|refine rb1 ?_|refine rb0 ?_|refine rbx ?_|refine rix ?_|refine aS ?_|fail)
    repeat' ((conv=>whnf);first|exact trivial|refine qf mixed Try.func41 Go.ST4.l41 rfl rfl (rs:=[.tmp 2]) rfl 3100 (nlZ rfl) ?_|refine nT_ ?_|refine aE1 ?_|refine aE0 ?_|refine aN1 ?_|refine aN0 ?_|refine aD1 ?_|refine aD0 ?_|refine nE_ (fun hq=>?_) (fun hq=>?_)|refine nN_ (fun hq=>?_) (fun hq=>?_)|refine nD_ (fun hq=>?_) (fun hq=>?_)|refine rb1 ?_|refine rb0 ?_|refine rbx ?_|refine rix ?_|refine aS ?_|fail)
    repeat' ((conv=>whnf);first|exact trivial|refine qk _ (hOf) ?_|refine pq hc ?_|refine qk _ (hput) ?_|refine nT_ ?_|refine aE1 ?_|refine aE0 ?_|refine aN1 ?_|refine aN0 ?_|refine aD1 ?_|refine aD0 ?_|refine nE_ (fun hq=>?_) (fun hq=>?_)|refine nN_ (fun hq=>?_) (fun hq=>?_)|refine nD_ (fun hq=>?_) (fun hq=>?_)|refine rb1 ?_|refine rb0 ?_|refine rbx ?_|refine rix ?_|refine aS ?_|fail)
    refine ⟨_,rfl,?_⟩
    repeat' ((conv=>whnf);first|exact trivial|refine qf mixed Try.func42 Go.ST4.l42 rfl rfl (rs:=[]) rfl 3200 (nlZ rfl) ?_|refine nT_ ?_|refine aE1 ?_|refine aE0 ?_|refine aN1 ?_|refine aN0 ?_|refine aD1 ?_|refine aD0 ?_|refine nE_ (fun hq=>?_) (fun hq=>?_)|refine nN_ (fun hq=>?_) (fun hq=>?_)|refine nD_ (fun hq=>?_) (fun hq=>?_)|refine rb1 ?_|refine rb0 ?_|refine rbx ?_|refine rix ?_|refine aS ?_|fail)
    repeat' ((conv=>whnf);first|exact trivial|refine qk _ (hF) ?_|refine nT_ ?_|refine aE1 ?_|refine aE0 ?_|refine aN1 ?_|refine aN0 ?_|refine aD1 ?_|refine aD0 ?_|refine nE_ (fun hq=>?_) (fun hq=>?_)|refine nN_ (fun hq=>?_) (fun hq=>?_)|refine nD_ (fun hq=>?_) (fun hq=>?_)|refine rb1 ?_|refine rb0 ?_|refine rbx ?_|refine rix ?_|refine aS ?_|fail)
    refine ⟨_,rfl,?_⟩
    repeat' ((conv=>whnf);first|exact trivial|refine nT_ ?_|refine aE1 ?_|refine aE0 ?_|refine aN1 ?_|refine aN0 ?_|refine aD1 ?_|refine aD0 ?_|refine nE_ (fun hq=>?_) (fun hq=>?_)|refine nN_ (fun hq=>?_) (fun hq=>?_)|refine nD_ (fun hq=>?_) (fun hq=>?_)|refine rb1 ?_|refine rb0 ?_|refine rbx ?_|refine rix ?_|refine aS ?_|fail)
    refine ⟨_,rfl,?_⟩
    repeat' ((conv=>whnf);first|exact trivial|(exact ⟨rfl,Or.inr ⟨rfl,by (repeat' (first|exact trivial|exact LeV.same _|exact LeB.same _|exact rfl|exact fun _ _ _=>trivial|exact lI|exact LeV.nil _ _ _|exact lB|refine qq ?_|refine qo ?_|refine And.intro ?_ ?_));done⟩⟩)|refine nT_ ?_|refine aE1 ?_|refine aE0 ?_|refine aN1 ?_|refine aN0 ?_|refine aD1 ?_|refine aD0 ?_|refine nE_ (fun hq=>?_) (fun hq=>?_)|refine nN_ (fun hq=>?_) (fun hq=>?_)|refine nD_ (fun hq=>?_) (fun hq=>?_)|refine rb1 ?_|refine rb0 ?_|refine rbx ?_|refine rix ?_|refine aS ?_|fail)
end Go.ST
end
section
namespace Go.ST
open Go Go.DL Go.MM Go.Proofs
open Go.TY hiding Fd
variable {l:List Fd} {s:RS} {st st' o:List RE} {x0 x1 x2 x3 x4 x5 x6 x7 x8 x9 tick:Int} {e:RE} {is:Bool}
attribute [local irreducible] bJ WCM YC
abbrev W64 (n:Int):Int:=IntKind.wrap .i64 n
abbrev qR (tick a m:Int):Int:=W64 ((if W64 (tick - a)>0 then W64 (tick - a) else 0).tdiv m)
abbrev xC (n m tick en ea:Int):Int×Int:=if W64 (en+qR tick ea m)≥n then (n,tick) else (W64 (en+qR tick ea m),W64 (ea+W64 (qR tick ea m * m)))
theorem xY (hk:s.kind=6) (hm:s.m≠0) (en ea n2 a2:Int) (h1:en=if is then e.n else s.n) (h1':ea=if is then e.at_ else tick) (h2:xC s.n s.m tick en ea=(n2,a2)) (n3:Int) (h3:n3=if n2>0 then W64 (n2 - 1) else n2)
  (hOf:DCalls Try.prog 43 [esT st,.str s.var] (esT o)) (hput:DCalls Try.prog 64 [esT st,qx ⟨e.var,e.key,n3,a2⟩] (esT st')) (full:Bool) (hf:full=(!is&&decide (100≤o.length))):
  bJ Try.prog 84 Go.ST3.rO (S0 l s st x0 x1 x2 x3 x4 x5 x6 x7 x8 x9 tick e is).mk' (fun ex s'=>ex= .normal∧bK (S1 l s x0 x1 x2 x3 x4 x5 x6 x7 x8 x9 tick is (if full then st else st') x0 x1 x2 x3 x4 x5 x6 x7 x8 x9 ⟨e.var,e.key,n3,a2⟩ (!full&&decide (n2>0))) s'):=by
 obtain ⟨kk,var,key,field,n,m⟩:=s
 dsimp only at hk hOf hm h1 h1' h2
 subst hk
 have hol:((o.map qx).length:Int)=o.length:=by rw [List.length_map]
 refine Go.ST3.s9 ?_
 cases is with
 |true=>
  obtain rfl:full=false:=by rw [hf];rfl
  obtain rfl:en=e.n:=h1
  obtain rfl:ea=e.at_:=h1'
  by_cases c1:W64 (e.n+qR tick e.at_ m)≥n
  ·have h2:(n,tick)=(n2,a2):=by rw [← h2];exact (if_pos c1).symm
   obtain ⟨rfl,rfl⟩:=Prod.mk.injEq .. ▸h2
   by_cases c2:n>0
   ·rw [if_pos c2] at h3
    subst h3
    rw [decide_eq_true c2]
    repeat' ((conv=>whnf);first|exact trivial|refine WC.toM (qf mixed Try.func21 Go.ST4.l21 rfl rfl (rs:=[.tmp 2]) rfl 3000 (nlZ rfl) ?_)|refine nT_ ?_|refine aE1 ?_|refine aE0 ?_|refine aN1 ?_|refine aN0 ?_|refine aD1 ?_|refine aD0 ?_|refine nE_ (fun hq=>?_) (fun hq=>?_)|refine nN_ (fun hq=>?_) (fun hq=>?_)|refine nD_ (fun hq=>?_) (fun hq=>?_)|refine rb1 ?_|refine rb0 ?_|refine rbx ?_|refine rix ?_|refine aS ?_|fail)
    repeat' ((conv=>whnf);first|exact trivial|refine pt c1 ?_|refine pt c2 ?_|refine qf mixed Try.func41 Go.ST4.l41 rfl rfl (rs:=[.tmp 2]) rfl 3100 (nlZ rfl) ?_|refine nT_ ?_|refine aE1 ?_|refine aE0 ?_|refine aN1 ?_|refine aN0 ?_|refine aD1 ?_|refine aD0 ?_|refine nE_ (fun hq=>?_) (fun hq=>?_)|refine nN_ (fun hq=>?_) (fun hq=>?_)|refine nD_ (fun hq=>?_) (fun hq=>?_)|refine rb1 ?_|refine rb0 ?_|refine rbx ?_|refine rix ?_|(refine And.intro (by first|exact hm|fail) ?_)|refine aS ?_|fail)
    repeat' ((conv=>whnf);first|exact trivial|refine qk _ (hput) ?_|refine nT_ ?_|refine aE1 ?_|refine aE0 ?_|refine aN1 ?_|refine aN0 ?_|refine aD1 ?_|refine aD0 ?_|refine nE_ (fun hq=>?_) (fun hq=>?_)|refine nN_ (fun hq=>?_) (fun hq=>?_)|refine nD_ (fun hq=>?_) (fun hq=>?_)|refine rb1 ?_|refine rb0 ?_|refine rbx ?_|refine rix ?_|refine aS ?_|fail)
    refine ⟨_,rfl,?_⟩
    repeat' ((conv=>whnf);first|exact trivial|refine nT_ ?_|refine aE1 ?_|refine aE0 ?_|refine aN1 ?_|refine aN0 ?_|refine aD1 ?_|refine aD0 ?_|refine nE_ (fun hq=>?_) (fun hq=>?_)|refine nN_ (fun hq=>?_) (fun hq=>?_)|refine nD_ (fun hq=>?_) (fun hq=>?_)|refine rb1 ?_|refine rb0 ?_|refine rbx ?_|refine rix ?_|refine aS ?_|fail)
    refine ⟨_,rfl,?_⟩
    repeat' ((conv=>whnf);first|exact trivial|(exact ⟨rfl,by (repeat' (first|exact trivial|exact LeV.same _|exact LeB.same _|exact rfl|exact fun _ _ _=>trivial|exact lI|exact LeV.nil _ _ _|exact lB|refine qq ?_|refine qo ?_|refine And.intro ?_ ?_));done⟩)|refine nT_ ?_|refine aE1 ?_|refine aE0 ?_|refine aN1 ?_|refine aN0 ?_|refine aD1 ?_|refine aD0 ?_|refine nE_ (fun hq=>?_) (fun hq=>?_)|refine nN_ (fun hq=>?_) (fun hq=>?_)|refine nD_ (fun hq=>?_) (fun hq=>?_)|refine rb1 ?_|refine rb0 ?_|refine rbx ?_|refine rix ?_|refine aS ?_|fail)
   ·rw [if_neg c2] at h3
    subst h3
    rw [decide_eq_false c2]
    repeat' ((conv=>whnf);first|exact trivial|refine WC.toM (qf mixed Try.func21 Go.ST4.l21 rfl rfl (rs:=[.tmp 2]) rfl 3000 (nlZ rfl) ?_)|refine nT_ ?_|refine aE1 ?_|refine aE0 ?_|refine aN1 ?_|refine aN0 ?_|refine aD1 ?_|refine aD0 ?_|refine nE_ (fun hq=>?_) (fun hq=>?_)|refine nN_ (fun hq=>?_) (fun hq=>?_)|refine nD_ (fun hq=>?_) (fun hq=>?_)|refine rb1 ?_|refine rb0 ?_|refine rbx ?_|refine rix ?_|refine aS ?_|fail)
    repeat' ((conv=>whnf);first|exact trivial|refine pt c1 ?_|refine pq c2 ?_|refine qf mixed Try.func41 Go.ST4.l41 rfl rfl (rs:=[.tmp 2]) rfl 3100 (nlZ rfl) ?_|refine nT_ ?_|refine aE1 ?_|refine aE0 ?_|refine aN1 ?_|refine aN0 ?_|refine aD1 ?_|refine aD0 ?_|refine nE_ (fun hq=>?_) (fun hq=>?_)|refine nN_ (fun hq=>?_) (fun hq=>?_)|refine nD_ (fun hq=>?_) (fun hq=>?_)|refine rb1 ?_|refine rb0 ?_|refine rbx ?_|refine rix ?_|(refine And.intro (by first|exact hm|fail) ?_)|refine aS ?_|fail)
    repeat' ((conv=>whnf);first|exact trivial|refine qk _ (hput) ?_|refine nT_ ?_|refine aE1 ?_|refine aE0 ?_|refine aN1 ?_|refine aN0 ?_|refine aD1 ?_|refine aD0 ?_|refine nE_ (fun hq=>?_) (fun hq=>?_)|refine nN_ (fun hq=>?_) (fun hq=>?_)|refine nD_ (fun hq=>?_) (fun hq=>?_)|refine rb1 ?_|refine rb0 ?_|refine rbx ?_|refine rix ?_|refine aS ?_|fail)
    refine ⟨_,rfl,?_⟩
    repeat' ((conv=>whnf);first|exact trivial|refine nT_ ?_|refine aE1 ?_|refine aE0 ?_|refine aN1 ?_|refine aN0 ?_|refine aD1 ?_|refine aD0 ?_|refine nE_ (fun hq=>?_) (fun hq=>?_)|refine nN_ (fun hq=>?_) (fun hq=>?_)|refine nD_ (fun hq=>?_) (fun hq=>?_)|refine rb1 ?_|refine rb0 ?_|refine rbx ?_|refine rix ?_|refine aS ?_|fail)
    refine ⟨_,rfl,?_⟩
    repeat' ((conv=>whnf);first|exact trivial|(exact ⟨rfl,by (repeat' (first|exact trivial|exact LeV.same _|exact LeB.same _|exact rfl|exact fun _ _ _=>trivial|exact lI|exact LeV.nil _ _ _|exact lB|refine qq ?_|refine qo ?_|refine And.intro ?_ ?_));done⟩)|refine nT_ ?_|refine aE1 ?_|refine aE0 ?_|refine aN1 ?_|refine aN0 ?_|refine aD1 ?_|refine aD0 ?_|refine nE_ (fun hq=>?_) (fun hq=>?_)|refine nN_ (fun hq=>?_) (fun hq=>?_)|refine nD_ (fun hq=>?_) (fun hq=>?_)|refine rb1 ?_|refine rb0 ?_|refine rbx ?_|refine rix ?_|refine aS ?_|fail)
  ·have h2:(W64 (e.n+qR tick e.at_ m),W64 (e.at_+W64 (qR tick e.at_ m * m)))=(n2,a2):=by rw [← h2];exact (if_neg c1).symm
   obtain ⟨rfl,rfl⟩:=Prod.mk.injEq .. ▸h2
   by_cases c2:W64 (e.n+qR tick e.at_ m)>0
   ·rw [if_pos c2] at h3
    subst h3
    rw [decide_eq_true c2]
    repeat' ((conv=>whnf);first|exact trivial|refine WC.toM (qf mixed Try.func21 Go.ST4.l21 rfl rfl (rs:=[.tmp 2]) rfl 3000 (nlZ rfl) ?_)|refine nT_ ?_|refine aE1 ?_|refine aE0 ?_|refine aN1 ?_|refine aN0 ?_|refine aD1 ?_|refine aD0 ?_|refine nE_ (fun hq=>?_) (fun hq=>?_)|refine nN_ (fun hq=>?_) (fun hq=>?_)|refine nD_ (fun hq=>?_) (fun hq=>?_)|refine rb1 ?_|refine rb0 ?_|refine rbx ?_|refine rix ?_|refine aS ?_|fail)
    repeat' ((conv=>whnf);first|exact trivial|refine pq c1 ?_|refine pt c2 ?_|refine qf mixed Try.func41 Go.ST4.l41 rfl rfl (rs:=[.tmp 2]) rfl 3100 (nlZ rfl) ?_|refine nT_ ?_|refine aE1 ?_|refine aE0 ?_|refine aN1 ?_|refine aN0 ?_|refine aD1 ?_|refine aD0 ?_|refine nE_ (fun hq=>?_) (fun hq=>?_)|refine nN_ (fun hq=>?_) (fun hq=>?_)|refine nD_ (fun hq=>?_) (fun hq=>?_)|refine rb1 ?_|refine rb0 ?_|refine rbx ?_|refine rix ?_|(refine And.intro (by first|exact hm|fail) ?_)|refine aS ?_|fail)
    repeat' ((conv=>whnf);first|exact trivial|refine qk _ (hput) ?_|refine nT_ ?_|refine aE1 ?_|refine aE0 ?_|refine aN1 ?_|refine aN0 ?_|refine aD1 ?_|refine aD0 ?_|refine nE_ (fun hq=>?_) (fun hq=>?_)|refine nN_ (fun hq=>?_) (fun hq=>?_)|refine nD_ (fun hq=>?_) (fun hq=>?_)|refine rb1 ?_|refine rb0 ?_|refine rbx ?_|refine rix ?_|refine aS ?_|fail)
    refine ⟨_,rfl,?_⟩
    repeat' ((conv=>whnf);first|exact trivial|refine nT_ ?_|refine aE1 ?_|refine aE0 ?_|refine aN1 ?_|refine aN0 ?_|refine aD1 ?_|refine aD0 ?_|refine nE_ (fun hq=>?_) (fun hq=>?_)|refine nN_ (fun hq=>?_) (fun hq=>?_)|refine nD_ (fun hq=>?_) (fun hq=>?_)|refine rb1 ?_|refine rb0 ?_|refine rbx ?_|refine rix ?_|refine aS ?_|fail)
    refine ⟨_,rfl,?_⟩
    repeat' ((conv=>whnf);first|exact trivial|(exact ⟨rfl,by (repeat' (first|exact trivial|exact LeV.same _|exact LeB.same _|exact rfl|exact fun _ _ _=>trivial|exact lI|exact LeV.nil _ _ _|exact lB|refine qq ?_|refine qo ?_|refine And.intro ?_ ?_));done⟩)|refine nT_ ?_|refine aE1 ?_|refine aE0 ?_|refine aN1 ?_|refine aN0 ?_|refine aD1 ?_|refine aD0 ?_|refine nE_ (fun hq=>?_) (fun hq=>?_)|refine nN_ (fun hq=>?_) (fun hq=>?_)|refine nD_ (fun hq=>?_) (fun hq=>?_)|refine rb1 ?_|refine rb0 ?_|refine rbx ?_|refine rix ?_|refine aS ?_|fail)
   ·rw [if_neg c2] at h3
    subst h3
    rw [decide_eq_false c2]
    repeat' ((conv=>whnf);first|exact trivial|refine WC.toM (qf mixed Try.func21 Go.ST4.l21 rfl rfl (rs:=[.tmp 2]) rfl 3000 (nlZ rfl) ?_)|refine nT_ ?_|refine aE1 ?_|refine aE0 ?_|refine aN1 ?_|refine aN0 ?_|refine aD1 ?_|refine aD0 ?_|refine nE_ (fun hq=>?_) (fun hq=>?_)|refine nN_ (fun hq=>?_) (fun hq=>?_)|refine nD_ (fun hq=>?_) (fun hq=>?_)|refine rb1 ?_|refine rb0 ?_|refine rbx ?_|refine rix ?_|refine aS ?_|fail)
    repeat' ((conv=>whnf);first|exact trivial|refine pq c1 ?_|refine pq c2 ?_|refine qf mixed Try.func41 Go.ST4.l41 rfl rfl (rs:=[.tmp 2]) rfl 3100 (nlZ rfl) ?_|refine nT_ ?_|refine aE1 ?_|refine aE0 ?_|refine aN1 ?_|refine aN0 ?_|refine aD1 ?_|refine aD0 ?_|refine nE_ (fun hq=>?_) (fun hq=>?_)|refine nN_ (fun hq=>?_) (fun hq=>?_)|refine nD_ (fun hq=>?_) (fun hq=>?_)|refine rb1 ?_|refine rb0 ?_|refine rbx ?_|refine rix ?_|(refine And.intro (by first|exact hm|fail) ?_)|refine aS ?_|fail)
    repeat' ((conv=>whnf);first|exact trivial|refine qk _ (hput) ?_|refine nT_ ?_|refine aE1 ?_|refine aE0 ?_|refine aN1 ?_|refine aN0 ?_|refine aD1 ?_|refine aD0 ?_|refine nE_ (fun hq=>?_) (fun hq=>?_)|refine nN_ (fun hq=>?_) (fun hq=>?_)|refine nD_ (fun hq=>?_) (fun hq=>?_)|refine rb1 ?_|refine rb0 ?_|refine rbx ?_|refine rix ?_|refine aS ?_|fail)
    refine ⟨_,rfl,?_⟩
    repeat' ((conv=>whnf);first|exact trivial|refine nT_ ?_|refine aE1 ?_|refine aE0 ?_|refine aN1 ?_|refine aN0 ?_|refine aD1 ?_|refine aD0 ?_|refine nE_ (fun hq=>?_) (fun hq=>?_)|refine nN_ (fun hq=>?_) (fun hq=>?_)|refine nD_ (fun hq=>?_) (fun hq=>?_)|refine rb1 ?_|refine rb0 ?_|refine rbx ?_|refine rix ?_|refine aS ?_|fail)
    refine ⟨_,rfl,?_⟩
    repeat' ((conv=>whnf);first|exact trivial|(exact ⟨rfl,by (repeat' (first|exact trivial|exact LeV.same _|exact LeB.same _|exact rfl|exact fun _ _ _=>trivial|exact lI|exact LeV.nil _ _ _|exact lB|refine qq ?_|refine qo ?_|refine And.intro ?_ ?_));done⟩)|refine nT_ ?_|refine aE1 ?_|refine aE0 ?_|refine aN1 ?_|refine aN0 ?_|refine aD1 ?_|refine aD0 ?_|refine nE_ (fun hq=>?_) (fun hq=>?_)|refine nN_ (fun hq=>?_) (fun hq=>?_)|refine nD_ (fun hq=>?_) (fun hq=>?_)|refine rb1 ?_|refine rb0 ?_|refine rbx ?_|refine rix ?_|refine aS ?_|fail)
 |false=>
  obtain rfl:n=en:=h1.symm
  obtain rfl:tick=ea:=h1'.symm
  by_cases c:100≤o.length
  ·have c3:((o.map qx).length:Int)≥100:=by omega
   obtain rfl:full=true:=by rw [hf,decide_eq_true c];rfl
   by_cases c1:W64 (n+qR tick tick m)≥n
   ·have h2:(n,tick)=(n2,a2):=by rw [← h2];exact (if_pos c1).symm
    obtain ⟨rfl,rfl⟩:=Prod.mk.injEq .. ▸h2
    by_cases c2:n>0
    ·rw [if_pos c2] at h3
     subst h3
     rw [decide_eq_true c2]
     repeat' ((conv=>whnf);first|exact trivial|refine WC.toM (qf mixed Try.func21 Go.ST4.l21 rfl rfl (rs:=[.tmp 2]) rfl 3000 (nlZ rfl) ?_)|refine nT_ ?_|refine aE1 ?_|refine aE0 ?_|refine aN1 ?_|refine aN0 ?_|refine aD1 ?_|refine aD0 ?_|refine nE_ (fun hq=>?_) (fun hq=>?_)|refine nN_ (fun hq=>?_) (fun hq=>?_)|refine nD_ (fun hq=>?_) (fun hq=>?_)|refine rb1 ?_|refine rb0 ?_|refine rbx ?_|refine rix ?_|refine aS ?_|fail)
     repeat' ((conv=>whnf);first|exact trivial|refine pt c1 ?_|refine pt c2 ?_|refine qf mixed Try.func41 Go.ST4.l41 rfl rfl (rs:=[.tmp 2]) rfl 3100 (nlZ rfl) ?_|refine nT_ ?_|refine aE1 ?_|refine aE0 ?_|refine aN1 ?_|refine aN0 ?_|refine aD1 ?_|refine aD0 ?_|refine nE_ (fun hq=>?_) (fun hq=>?_)|refine nN_ (fun hq=>?_) (fun hq=>?_)|refine nD_ (fun hq=>?_) (fun hq=>?_)|refine rb1 ?_|refine rb0 ?_|refine rbx ?_|refine rix ?_|(refine And.intro (by first|exact hm|fail) ?_)|refine aS ?_|fail)
     repeat' ((conv=>whnf);first|exact trivial|refine qk _ (hOf) ?_|refine pt c3 ?_|refine nT_ ?_|refine aE1 ?_|refine aE0 ?_|refine aN1 ?_|refine aN0 ?_|refine aD1 ?_|refine aD0 ?_|refine nE_ (fun hq=>?_) (fun hq=>?_)|refine nN_ (fun hq=>?_) (fun hq=>?_)|refine nD_ (fun hq=>?_) (fun hq=>?_)|refine rb1 ?_|refine rb0 ?_|refine rbx ?_|refine rix ?_|refine aS ?_|fail)
     refine ⟨_,rfl,?_⟩
     repeat' ((conv=>whnf);first|exact trivial|refine nT_ ?_|refine aE1 ?_|refine aE0 ?_|refine aN1 ?_|refine aN0 ?_|refine aD1 ?_|refine aD0 ?_|refine nE_ (fun hq=>?_) (fun hq=>?_)|refine nN_ (fun hq=>?_) (fun hq=>?_)|refine nD_ (fun hq=>?_) (fun hq=>?_)|refine rb1 ?_|refine rb0 ?_|refine rbx ?_|refine rix ?_|refine aS ?_|fail)
     refine ⟨_,rfl,?_⟩
     repeat' ((conv=>whnf);first|exact trivial|(exact ⟨rfl,by (repeat' (first|exact trivial|exact LeV.same _|exact LeB.same _|exact rfl|exact fun _ _ _=>trivial|exact lI|exact LeV.nil _ _ _|exact lB|refine qq ?_|refine qo ?_|refine And.intro ?_ ?_));done⟩)|refine nT_ ?_|refine aE1 ?_|refine aE0 ?_|refine aN1 ?_|refine aN0 ?_|refine aD1 ?_|refine aD0 ?_|refine nE_ (fun hq=>?_) (fun hq=>?_)|refine nN_ (fun hq=>?_) (fun hq=>?_)|refine nD_ (fun hq=>?_) (fun hq=>?_)|refine rb1 ?_|refine rb0 ?_|refine rbx ?_|refine rix ?_|refine aS ?_|fail)
    ·rw [if_neg c2] at h3
     subst h3
     rw [decide_eq_false c2]
     repeat' ((conv=>whnf);first|exact trivial|refine WC.toM (qf mixed Try.func21 Go.ST4.l21 rfl rfl (rs:=[.tmp 2]) rfl 3000 (nlZ rfl) ?_)|refine nT_ ?_|refine aE1 ?_|refine aE0 ?_|refine aN1 ?_|refine aN0 ?_|refine aD1 ?_|refine aD0 ?_|refine nE_ (fun hq=>?_) (fun hq=>?_)|refine nN_ (fun hq=>?_) (fun hq=>?_)|refine nD_ (fun hq=>?_) (fun hq=>?_)|refine rb1 ?_|refine rb0 ?_|refine rbx ?_|refine rix ?_|refine aS ?_|fail)
     repeat' ((conv=>whnf);first|exact trivial|refine pt c1 ?_|refine pq c2 ?_|refine qf mixed Try.func41 Go.ST4.l41 rfl rfl (rs:=[.tmp 2]) rfl 3100 (nlZ rfl) ?_|refine nT_ ?_|refine aE1 ?_|refine aE0 ?_|refine aN1 ?_|refine aN0 ?_|refine aD1 ?_|refine aD0 ?_|refine nE_ (fun hq=>?_) (fun hq=>?_)|refine nN_ (fun hq=>?_) (fun hq=>?_)|refine nD_ (fun hq=>?_) (fun hq=>?_)|refine rb1 ?_|refine rb0 ?_|refine rbx ?_|refine rix ?_|(refine And.intro (by first|exact hm|fail) ?_)|refine aS ?_|fail)
     repeat' ((conv=>whnf);first|exact trivial|refine qk _ (hOf) ?_|refine pt c3 ?_|refine nT_ ?_|refine aE1 ?_|refine aE0 ?_|refine aN1 ?_|refine aN0 ?_|refine aD1 ?_|refine aD0 ?_|refine nE_ (fun hq=>?_) (fun hq=>?_)|refine nN_ (fun hq=>?_) (fun hq=>?_)|refine nD_ (fun hq=>?_) (fun hq=>?_)|refine rb1 ?_|refine rb0 ?_|refine rbx ?_|refine rix ?_|refine aS ?_|fail)
     refine ⟨_,rfl,?_⟩
     repeat' ((conv=>whnf);first|exact trivial|refine nT_ ?_|refine aE1 ?_|refine aE0 ?_|refine aN1 ?_|refine aN0 ?_|refine aD1 ?_|refine aD0 ?_|refine nE_ (fun hq=>?_) (fun hq=>?_)|refine nN_ (fun hq=>?_) (fun hq=>?_)|refine nD_ (fun hq=>?_) (fun hq=>?_)|refine rb1 ?_|refine rb0 ?_|refine rbx ?_|refine rix ?_|refine aS ?_|fail)
     refine ⟨_,rfl,?_⟩
     repeat' ((conv=>whnf);first|exact trivial|(exact ⟨rfl,by (repeat' (first|exact trivial|exact LeV.same _|exact LeB.same _|exact rfl|exact fun _ _ _=>trivial|exact lI|exact LeV.nil _ _ _|exact lB|refine qq ?_|refine qo ?_|refine And.intro ?_ ?_));done⟩)|refine nT_ ?_|refine aE1 ?_|refine aE0 ?_|refine aN1 ?_|refine aN0 ?_|refine aD1 ?_|refine aD0 ?_|refine nE_ (fun hq=>?_) (fun hq=>?_)|refine nN_ (fun hq=>?_) (fun hq=>?_)|refine nD_ (fun hq=>?_) (fun hq=>?_)|refine rb1 ?_|refine rb0 ?_|refine rbx ?_|refine rix ?_|refine aS ?_|fail)
   ·have h2:(W64 (n+qR tick tick m),W64 (tick+W64 (qR tick tick m * m)))=(n2,a2):=by rw [← h2];exact (if_neg c1).symm
    obtain ⟨rfl,rfl⟩:=Prod.mk.injEq .. ▸h2
    by_cases c2:W64 (n+qR tick tick m)>0
    ·rw [if_pos c2] at h3
     subst h3
     rw [decide_eq_true c2]
     repeat' ((conv=>whnf);first|exact trivial|refine WC.toM (qf mixed Try.func21 Go.ST4.l21 rfl rfl (rs:=[.tmp 2]) rfl 3000 (nlZ rfl) ?_)|refine nT_ ?_|refine aE1 ?_|refine aE0 ?_|refine aN1 ?_|refine aN0 ?_|refine aD1 ?_|refine aD0 ?_|refine nE_ (fun hq=>?_) (fun hq=>?_)|refine nN_ (fun hq=>?_) (fun hq=>?_)|refine nD_ (fun hq=>?_) (fun hq=>?_)|refine rb1 ?_|refine rb0 ?_|refine rbx ?_|refine rix ?_|refine aS ?_|fail)
     repeat' ((conv=>whnf);first|exact trivial|refine pq c1 ?_|refine pt c2 ?_|refine qf mixed Try.func41 Go.ST4.l41 rfl rfl (rs:=[.tmp 2]) rfl 3100 (nlZ rfl) ?_|refine nT_ ?_|refine aE1 ?_|refine aE0 ?_|refine aN1 ?_|refine aN0 ?_|refine aD1 ?_|refine aD0 ?_|refine nE_ (fun hq=>?_) (fun hq=>?_)|refine nN_ (fun hq=>?_) (fun hq=>?_)|refine nD_ (fun hq=>?_) (fun hq=>?_)|refine rb1 ?_|refine rb0 ?_|refine rbx ?_|refine rix ?_|(refine And.intro (by first|exact hm|fail) ?_)|refine aS ?_|fail)
     repeat' ((conv=>whnf);first|exact trivial|refine qk _ (hOf) ?_|refine pt c3 ?_|refine nT_ ?_|refine aE1 ?_|refine aE0 ?_|refine aN1 ?_|refine aN0 ?_|refine aD1 ?_|refine aD0 ?_|refine nE_ (fun hq=>?_) (fun hq=>?_)|refine nN_ (fun hq=>?_) (fun hq=>?_)|refine nD_ (fun hq=>?_) (fun hq=>?_)|refine rb1 ?_|refine rb0 ?_|refine rbx ?_|refine rix ?_|refine aS ?_|fail)
     refine ⟨_,rfl,?_⟩
     repeat' ((conv=>whnf);first|exact trivial|refine nT_ ?_|refine aE1 ?_|refine aE0 ?_|refine aN1 ?_|refine aN0 ?_|refine aD1 ?_|refine aD0 ?_|refine nE_ (fun hq=>?_) (fun hq=>?_)|refine nN_ (fun hq=>?_) (fun hq=>?_)|refine nD_ (fun hq=>?_) (fun hq=>?_)|refine rb1 ?_|refine rb0 ?_|refine rbx ?_|refine rix ?_|refine aS ?_|fail)
     refine ⟨_,rfl,?_⟩
     repeat' ((conv=>whnf);first|exact trivial|(exact ⟨rfl,by (repeat' (first|exact trivial|exact LeV.same _|exact LeB.same _|exact rfl|exact fun _ _ _=>trivial|exact lI|exact LeV.nil _ _ _|exact lB|refine qq ?_|refine qo ?_|refine And.intro ?_ ?_));done⟩)|refine nT_ ?_|refine aE1 ?_|refine aE0 ?_|refine aN1 ?_|refine aN0 ?_|refine aD1 ?_|refine aD0 ?_|refine nE_ (fun hq=>?_) (fun hq=>?_)|refine nN_ (fun hq=>?_) (fun hq=>?_)|refine nD_ (fun hq=>?_) (fun hq=>?_)|refine rb1 ?_|refine rb0 ?_|refine rbx ?_|refine rix ?_|refine aS ?_|fail)
    ·rw [if_neg c2] at h3
     subst h3
     rw [decide_eq_false c2]
     repeat' ((conv=>whnf);first|exact trivial|refine WC.toM (qf mixed Try.func21 Go.ST4.l21 rfl rfl (rs:=[.tmp 2]) rfl 3000 (nlZ rfl) ?_)|refine nT_ ?_|refine aE1 ?_|refine aE0 ?_|refine aN1 ?_|refine aN0 ?_|refine aD1 ?_|refine aD0 ?_|refine nE_ (fun hq=>?_) (fun hq=>?_)|refine nN_ (fun hq=>?_) (fun hq=>?_)|refine nD_ (fun hq=>?_) (fun hq=>?_)|refine rb1 ?_|refine rb0 ?_|refine rbx ?_|refine rix ?_|refine aS ?_|fail)
     repeat' ((conv=>whnf);first|exact trivial|refine pq c1 ?_|refine pq c2 ?_|refine qf mixed Try.func41 Go.ST4.l41 rfl rfl (rs:=[.tmp 2]) rfl 3100 (nlZ rfl) ?_|refine nT_ ?_|refine aE1 ?_|refine aE0 ?_|refine aN1 ?_|refine aN0 ?_|refine aD1 ?_|refine aD0 ?_|refine nE_ (fun hq=>?_) (fun hq=>?_)|refine nN_ (fun hq=>?_) (fun hq=>?_)|refine nD_ (fun hq=>?_) (fun hq=>?_)|refine rb1 ?_|refine rb0 ?_|refine rbx ?_|refine rix ?_|(refine And.intro (by first|exact hm|fail) ?_)|refine aS ?_|fail)
     repeat' ((conv=>whnf);first|exact trivial|refine qk _ (hOf) ?_|refine pt c3 ?_|refine nT_ ?_|refine aE1 ?_|refine aE0 ?_|refine aN1 ?_|refine aN0 ?_|refine aD1 ?_|refine aD0 ?_|refine nE_ (fun hq=>?_) (fun hq=>?_)|refine nN_ (fun hq=>?_) (fun hq=>?_)|refine nD_ (fun hq=>?_) (fun hq=>?_)|refine rb1 ?_|refine rb0 ?_|refine rbx ?_|refine rix ?_|refine aS ?_|fail)
     refine ⟨_,rfl,?_⟩
     repeat' ((conv=>whnf);first|exact trivial|refine nT_ ?_|refine aE1 ?_|refine aE0 ?_|refine aN1 ?_|refine aN0 ?_|refine aD1 ?_|refine aD0 ?_|refine nE_ (fun hq=>?_) (fun hq=>?_)|refine nN_ (fun hq=>?_) (fun hq=>?_)|refine nD_ (fun hq=>?_) (fun hq=>?_)|refine rb1 ?_|refine rb0 ?_|refine rbx ?_|refine rix ?_|refine aS ?_|fail)
     refine ⟨_,rfl,?_⟩
     repeat' ((conv=>whnf);first|exact trivial|(exact ⟨rfl,by (repeat' (first|exact trivial|exact LeV.same _|exact LeB.same _|exact rfl|exact fun _ _ _=>trivial|exact lI|exact LeV.nil _ _ _|exact lB|refine qq ?_|refine qo ?_|refine And.intro ?_ ?_));done⟩)|refine nT_ ?_|refine aE1 ?_|refine aE0 ?_|refine aN1 ?_|refine aN0 ?_|refine aD1 ?_|refine aD0 ?_|refine nE_ (fun hq=>?_) (fun hq=>?_)|refine nN_ (fun hq=>?_) (fun hq=>?_)|refine nD_ (fun hq=>?_) (fun hq=>?_)|refine rb1 ?_|refine rb0 ?_|refine rbx ?_|refine rix ?_|refine aS ?_|fail)
  ·have c3: ¬((o.map qx).length:Int)≥100:=by omega
   obtain rfl:full=false:=by rw [hf,decide_eq_false c];rfl
   by_cases c1:W64 (n+qR tick tick m)≥n
   ·have h2:(n,tick)=(n2,a2):=by rw [← h2];exact (if_pos c1).symm
    obtain ⟨rfl,rfl⟩:=Prod.mk.injEq .. ▸h2
    by_cases c2:n>0
    ·rw [if_pos c2] at h3
     subst h3
     rw [decide_eq_true c2]
     repeat' ((conv=>whnf);first|exact trivial|refine WC.toM (qf mixed Try.func21 Go.ST4.l21 rfl rfl (rs:=[.tmp 2]) rfl 3000 (nlZ rfl) ?_)|refine nT_ ?_|refine aE1 ?_|refine aE0 ?_|refine aN1 ?_|refine aN0 ?_|refine aD1 ?_|refine aD0 ?_|refine nE_ (fun hq=>?_) (fun hq=>?_)|refine nN_ (fun hq=>?_) (fun hq=>?_)|refine nD_ (fun hq=>?_) (fun hq=>?_)|refine rb1 ?_|refine rb0 ?_|refine rbx ?_|refine rix ?_|refine aS ?_|fail)
     repeat' ((conv=>whnf);first|exact trivial|refine pt c1 ?_|refine pt c2 ?_|refine qf mixed Try.func41 Go.ST4.l41 rfl rfl (rs:=[.tmp 2]) rfl 3100 (nlZ rfl) ?_|refine nT_ ?_|refine aE1 ?_|refine aE0 ?_|refine aN1 ?_|refine aN0 ?_|refine aD1 ?_|refine aD0 ?_|refine nE_ (fun hq=>?_) (fun hq=>?_)|refine nN_ (fun hq=>?_) (fun hq=>?_)|refine nD_ (fun hq=>?_) (fun hq=>?_)|refine rb1 ?_|refine rb0 ?_|refine rbx ?_|refine rix ?_|(refine And.intro (by first|exact hm|fail) ?_)|refine aS ?_|fail)
     repeat' ((conv=>whnf);first|exact trivial|refine qk _ (hOf) ?_|refine pq c3 ?_|refine qk _ (hput) ?_|refine nT_ ?_|refine aE1 ?_|refine aE0 ?_|refine aN1 ?_|refine aN0 ?_|refine aD1 ?_|refine aD0 ?_|refine nE_ (fun hq=>?_) (fun hq=>?_)|refine nN_ (fun hq=>?_) (fun hq=>?_)|refine nD_ (fun hq=>?_) (fun hq=>?_)|refine rb1 ?_|refine rb0 ?_|refine rbx ?_|refine rix ?_|refine aS ?_|fail)
     refine ⟨_,rfl,?_⟩
     repeat' ((conv=>whnf);first|exact trivial|refine nT_ ?_|refine aE1 ?_|refine aE0 ?_|refine aN1 ?_|refine aN0 ?_|refine aD1 ?_|refine aD0 ?_|refine nE_ (fun hq=>?_) (fun hq=>?_)|refine nN_ (fun hq=>?_) (fun hq=>?_)|refine nD_ (fun hq=>?_) (fun hq=>?_)|refine rb1 ?_|refine rb0 ?_|refine rbx ?_|refine rix ?_|refine aS ?_|fail)
     refine ⟨_,rfl,?_⟩
     repeat' ((conv=>whnf);first|exact trivial|(exact ⟨rfl,by (repeat' (first|exact trivial|exact LeV.same _|exact LeB.same _|exact rfl|exact fun _ _ _=>trivial|exact lI|exact LeV.nil _ _ _|exact lB|refine qq ?_|refine qo ?_|refine And.intro ?_ ?_));done⟩)|refine nT_ ?_|refine aE1 ?_|refine aE0 ?_|refine aN1 ?_|refine aN0 ?_|refine aD1 ?_|refine aD0 ?_|refine nE_ (fun hq=>?_) (fun hq=>?_)|refine nN_ (fun hq=>?_) (fun hq=>?_)|refine nD_ (fun hq=>?_) (fun hq=>?_)|refine rb1 ?_|refine rb0 ?_|refine rbx ?_|refine rix ?_|refine aS ?_|fail)
    ·rw [if_neg c2] at h3
     subst h3
     rw [decide_eq_false c2]
     repeat' ((conv=>whnf);first|exact trivial|refine WC.toM (qf mixed Try.func21 Go.ST4.l21 rfl rfl (rs:=[.tmp 2]) rfl 3000 (nlZ rfl) ?_)|refine nT_ ?_|refine aE1 ?_|refine aE0 ?_|refine aN1 ?_|refine aN0 ?_|refine aD1 ?_|refine aD0 ?_|refine nE_ (fun hq=>?_) (fun hq=>?_)|refine nN_ (fun hq=>?_) (fun hq=>?_)|refine nD_ (fun hq=>?_) (fun hq=>?_)|refine rb1 ?_|refine rb0 ?_|refine rbx ?_|refine rix ?_|refine aS ?_|fail)
     repeat' ((conv=>whnf);first|exact trivial|refine pt c1 ?_|refine pq c2 ?_|refine qf mixed Try.func41 Go.ST4.l41 rfl rfl (rs:=[.tmp 2]) rfl 3100 (nlZ rfl) ?_|refine nT_ ?_|refine aE1 ?_|refine aE0 ?_|refine aN1 ?_|refine aN0 ?_|refine aD1 ?_|refine aD0 ?_|refine nE_ (fun hq=>?_) (fun hq=>?_)|refine nN_ (fun hq=>?_) (fun hq=>?_)|refine nD_ (fun hq=>?_) (fun hq=>?_)|refine rb1 ?_|refine rb0 ?_|refine rbx ?_|refine rix ?_|(refine And.intro (by first|exact hm|fail) ?_)|refine aS ?_|fail)
     repeat' ((conv=>whnf);first|exact trivial|refine qk _ (hOf) ?_|refine pq c3 ?_|refine qk _ (hput) ?_|refine nT_ ?_|refine aE1 ?_|refine aE0 ?_|refine aN1 ?_|refine aN0 ?_|refine aD1 ?_|refine aD0 ?_|refine nE_ (fun hq=>?_) (fun hq=>?_)|refine nN_ (fun hq=>?_) (fun hq=>?_)|refine nD_ (fun hq=>?_) (fun hq=>?_)|refine rb1 ?_|refine rb0 ?_|refine rbx ?_|refine rix ?_|refine aS ?_|fail)
     refine ⟨_,rfl,?_⟩
     repeat' ((conv=>whnf);first|exact trivial|refine nT_ ?_|refine aE1 ?_|refine aE0 ?_|refine aN1 ?_|refine aN0 ?_|refine aD1 ?_|refine aD0 ?_|refine nE_ (fun hq=>?_) (fun hq=>?_)|refine nN_ (fun hq=>?_) (fun hq=>?_)|refine nD_ (fun hq=>?_) (fun hq=>?_)|refine rb1 ?_|refine rb0 ?_|refine rbx ?_|refine rix ?_|refine aS ?_|fail)
     refine ⟨_,rfl,?_⟩
     repeat' ((conv=>whnf);first|exact trivial|(exact ⟨rfl,by (repeat' (first|exact trivial|exact LeV.same _|exact LeB.same _|exact rfl|exact fun _ _ _=>trivial|exact lI|exact LeV.nil _ _ _|exact lB|refine qq ?_|refine qo ?_|refine And.intro ?_ ?_));done⟩)|refine nT_ ?_|refine aE1 ?_|refine aE0 ?_|refine aN1 ?_|refine aN0 ?_|refine aD1 ?_|refine aD0 ?_|refine nE_ (fun hq=>?_) (fun hq=>?_)|refine nN_ (fun hq=>?_) (fun hq=>?_)|refine nD_ (fun hq=>?_) (fun hq=>?_)|refine rb1 ?_|refine rb0 ?_|refine rbx ?_|refine rix ?_|refine aS ?_|fail)
   ·have h2:(W64 (n+qR tick tick m),W64 (tick+W64 (qR tick tick m * m)))=(n2,a2):=by rw [← h2];exact (if_neg c1).symm
    obtain ⟨rfl,rfl⟩:=Prod.mk.injEq .. ▸h2
    by_cases c2:W64 (n+qR tick tick m)>0
    ·rw [if_pos c2] at h3
     subst h3
     rw [decide_eq_true c2]
     repeat' ((conv=>whnf);first|exact trivial|refine WC.toM (qf mixed Try.func21 Go.ST4.l21 rfl rfl (rs:=[.tmp 2]) rfl 3000 (nlZ rfl) ?_)|refine nT_ ?_|refine aE1 ?_|refine aE0 ?_|refine aN1 ?_|refine aN0 ?_|refine aD1 ?_|refine aD0 ?_|refine nE_ (fun hq=>?_) (fun hq=>?_)|refine nN_ (fun hq=>?_) (fun hq=>?_)|refine nD_ (fun hq=>?_) (fun hq=>?_)|refine rb1 ?_|refine rb0 ?_|refine rbx ?_|refine rix ?_|refine aS ?_|fail)
     repeat' ((conv=>whnf);first|exact trivial|refine pq c1 ?_|refine pt c2 ?_|refine qf mixed Try.func41 Go.ST4.l41 rfl rfl (rs:=[.tmp 2]) rfl 3100 (nlZ rfl) ?_|refine nT_ ?_|refine aE1 ?_|refine aE0 ?_|refine aN1 ?_|refine aN0 ?_|refine aD1 ?_|refine aD0 ?_|refine nE_ (fun hq=>?_) (fun hq=>?_)|refine nN_ (fun hq=>?_) (fun hq=>?_)|refine nD_ (fun hq=>?_) (fun hq=>?_)|refine rb1 ?_|refine rb0 ?_|refine rbx ?_|refine rix ?_|(refine And.intro (by first|exact hm|fail) ?_)|refine aS ?_|fail)
     repeat' ((conv=>whnf);first|exact trivial|refine qk _ (hOf) ?_|refine pq c3 ?_|refine qk _ (hput) ?_|refine nT_ ?_|refine aE1 ?_|refine aE0 ?_|refine aN1 ?_|refine aN0 ?_|refine aD1 ?_|refine aD0 ?_|refine nE_ (fun hq=>?_) (fun hq=>?_)|refine nN_ (fun hq=>?_) (fun hq=>?_)|refine nD_ (fun hq=>?_) (fun hq=>?_)|refine rb1 ?_|refine rb0 ?_|refine rbx ?_|refine rix ?_|refine aS ?_|fail)
     refine ⟨_,rfl,?_⟩
     repeat' ((conv=>whnf);first|exact trivial|refine nT_ ?_|refine aE1 ?_|refine aE0 ?_|refine aN1 ?_|refine aN0 ?_|refine aD1 ?_|refine aD0 ?_|refine nE_ (fun hq=>?_) (fun hq=>?_)|refine nN_ (fun hq=>?_) (fun hq=>?_)|refine nD_ (fun hq=>?_) (fun hq=>?_)|refine rb1 ?_|refine rb0 ?_|refine rbx ?_|refine rix ?_|refine aS ?_|fail)
     refine ⟨_,rfl,?_⟩
     repeat' ((conv=>whnf);first|exact trivial|(exact ⟨rfl,by (repeat' (first|exact trivial|exact LeV.same _|exact LeB.same _|exact rfl|exact fun _ _ _=>trivial|exact lI|exact LeV.nil _ _ _|exact lB|refine qq ?_|refine qo ?_|refine And.intro ?_ ?_));done⟩)|refine nT_ ?_|refine aE1 ?_|refine aE0 ?_|refine aN1 ?_|refine aN0 ?_|refine aD1 ?_|refine aD0 ?_|refine nE_ (fun hq=>?_) (fun hq=>?_)|refine nN_ (fun hq=>?_) (fun hq=>?_)|refine nD_ (fun hq=>?_) (fun hq=>?_)|refine rb1 ?_|refine rb0 ?_|refine rbx ?_|refine rix ?_|refine aS ?_|fail)
    ·rw [if_neg c2] at h3
     subst h3
     rw [decide_eq_false c2]
     repeat' ((conv=>whnf);first|exact trivial|refine WC.toM (qf mixed Try.func21 Go.ST4.l21 rfl rfl (rs:=[.tmp 2]) rfl 3000 (nlZ rfl) ?_)|refine nT_ ?_|refine aE1 ?_|refine aE0 ?_|refine aN1 ?_|refine aN0 ?_|refine aD1 ?_|refine aD0 ?_|refine nE_ (fun hq=>?_) (fun hq=>?_)|refine nN_ (fun hq=>?_) (fun hq=>?_)|refine nD_ (fun hq=>?_) (fun hq=>?_)|refine rb1 ?_|refine rb0 ?_|refine rbx ?_|refine rix ?_|refine aS ?_|fail)
     repeat' ((conv=>whnf);first|exact trivial|refine pq c1 ?_|refine pq c2 ?_|refine qf mixed Try.func41 Go.ST4.l41 rfl rfl (rs:=[.tmp 2]) rfl 3100 (nlZ rfl) ?_|refine nT_ ?_|refine aE1 ?_|refine aE0 ?_|refine aN1 ?_|refine aN0 ?_|refine aD1 ?_|refine aD0 ?_|refine nE_ (fun hq=>?_) (fun hq=>?_)|refine nN_ (fun hq=>?_) (fun hq=>?_)|refine nD_ (fun hq=>?_) (fun hq=>?_)|refine rb1 ?_|refine rb0 ?_|refine rbx ?_|refine rix ?_|(refine And.intro (by first|exact hm|fail) ?_)|refine aS ?_|fail)
     repeat' ((conv=>whnf);first|exact trivial|refine qk _ (hOf) ?_|refine pq c3 ?_|refine qk _ (hput) ?_|refine nT_ ?_|refine aE1 ?_|refine aE0 ?_|refine aN1 ?_|refine aN0 ?_|refine aD1 ?_|refine aD0 ?_|refine nE_ (fun hq=>?_) (fun hq=>?_)|refine nN_ (fun hq=>?_) (fun hq=>?_)|refine nD_ (fun hq=>?_) (fun hq=>?_)|refine rb1 ?_|refine rb0 ?_|refine rbx ?_|refine rix ?_|refine aS ?_|fail)
     refine ⟨_,rfl,?_⟩
     repeat' ((conv=>whnf);first|exact trivial|refine nT_ ?_|refine aE1 ?_|refine aE0 ?_|refine aN1 ?_|refine aN0 ?_|refine aD1 ?_|refine aD0 ?_|refine nE_ (fun hq=>?_) (fun hq=>?_)|refine nN_ (fun hq=>?_) (fun hq=>?_)|refine nD_ (fun hq=>?_) (fun hq=>?_)|refine rb1 ?_|refine rb0 ?_|refine rbx ?_|refine rix ?_|refine aS ?_|fail)
     refine ⟨_,rfl,?_⟩
     repeat' ((conv=>whnf);first|exact trivial|(exact ⟨rfl,by (repeat' (first|exact trivial|exact LeV.same _|exact LeB.same _|exact rfl|exact fun _ _ _=>trivial|exact lI|exact LeV.nil _ _ _|exact lB|refine qq ?_|refine qo ?_|refine And.intro ?_ ?_));done⟩)|refine nT_ ?_|refine aE1 ?_|refine aE0 ?_|refine aN1 ?_|refine aN0 ?_|refine aD1 ?_|refine aD0 ?_|refine nE_ (fun hq=>?_) (fun hq=>?_)|refine nN_ (fun hq=>?_) (fun hq=>?_)|refine nD_ (fun hq=>?_) (fun hq=>?_)|refine rb1 ?_|refine rb0 ?_|refine rbx ?_|refine rix ?_|refine aS ?_|fail)
end Go.ST
end
section
namespace Go.ST5
open Go Go.DL Go.Proofs
noncomputable def c20:ba:=(.seq (.region [oo 1 (.box 1 (tm 0)),oo 2 (.mov kF)] []) (.seq (.region [ld 10 1,oo 11 (.nilck (tm 10)),fa 12 0 11,ld 13 12,ld 14 1,oo 15 (.nilck (tm 14)),fa 16 1 15,fa 17 3 16,ld 18 17,oo 19 (.call 44 [(tm 13),(tm 18)]),mv 9 19,oo 20 (.ext (tm 9) 0),oo 21 (.ext (tm 9) 1),⟨some 3,.alloc [S0,Z0,Z0],none,[]⟩,o0 (.store 3 (tm 3) (tm 20)),mv 4 21] []) (.seq (.region [lA 22 3 3,ld 23 1,oo 24 (.nilck (tm 23)),fa 25 8 24,lA 26 10 25,oo 27 (.call 45 [(tm 22),(tm 26)]),oo 5 (.alloc [Z0]),o0 (.store 1 (tm 5) (tm 27))] []) (.seq (.region [ld 28 1,oo 29 (.nilck (tm 28)),fa 30 7 29,ld 31 30,oo 32 (.mkfn 47 [(tm 1),(tm 5)]),oo 33 (.inl 46 [(tm 31),(tm 32)]),mv 6 33] []) (.seq (.seq (.region [mv 34 6,oo 35 (.bin .lss (tm 34) (Kc 0))] []) (.cond (tm 35) (.seq (.region [oo 2 (.mov kF)] []) .ret) .skip)) (.seq (.seq (.region [ld 36 1,oo 37 (.nilck (tm 36)),fa 38 1 37,fa 39 2 38,ld 40 39,ln 41 40,oo 42 (.mov (Kc 0))] []) (.block 0 (.loop (.seq (.region [oo 43 (.bin .lss (tm 42) (tm 41))] []) (.seq (.cond (tm 43) .skip (.exit 0)) (.seq (.block 1 (.seq (.region [mv 44 42,ix 45 1 40 42,ld 46 45,mv 7 44,mv 8 46] []) (.region [ld 47 1,mv 48 8,ld 49 1,oo 50 (.nilck (tm 49)),fa 51 7 50,ld 52 51,mv 53 6,ix 54 4 52 53,fa 55 1 54,ld 56 55,mv 57 7,ix 58 1 56 57,ld 59 58,oo 60 (.inl 42 [(tm 47),(tm 48),(tm 59)])] []))) (.region [oo 61 (.bin .add (tm 42) (Kc 1)),mv 42 61] []))))))) (.seq (.region [oo 2 (.mov kT)] []) .ret)))))))
theorem l20:(Try.f20.body.bind (bo Try.prog 62 [42,46]))=some c20:=by kernel_rfl
end Go.ST5
end
section
namespace Go.ST
open Go Go.DL Go.MM
open Go.TY hiding Fd
def qO (ps:List Bool) (k:Nat):Int:=((ps.drop k).count true:Nat)
theorem tx {ps:List Bool} {b:Bool} {k:Nat} (h:k≤ps.length):qO (ps++[b]) k=qO ps k+if b then 1 else 0:=by
 unfold qO
 rw [List.drop_append_of_le_length h,List.count_append]
 cases b <;> simp
structure rC (n m:Int) (ts:List Int) (ps:List Bool) (N A t:Int):Prop where
 len:ps.length=ts.length
 n0:0≤N
 n1:N≤n
 a0:0≤A
 a1:A≤t
 le: ∀(k:Nat) (x:Int),ts[k]? =some x→m * (qO ps k+N)≤m * n+(A - x)
def qP (n m N A t:Int):Int×Int:=if N+(if t>A then (t - A).tdiv m else 0)≥n then (n,t) else (N+(if t>A then (t - A).tdiv m else 0),A+(if t>A then (t - A).tdiv m else 0) * m)
theorem wH {n m N A t:Int} (_:1≤n) (hm:1≤m) (_:0≤N) (_:0≤A) (hat:A≤t): ∃q:Int,0≤q∧q * m≤t - A∧(m≤t - A→1≤q)∧t - A<(q+1) * m∧qP n m N A t=(if N+q≥n then (n,t) else (N+q,A+q * m)):=by
 refine ⟨if t>A then (t - A).tdiv m else 0,?_,?_,?_,?_,rfl⟩
 all_goals
  by_cases h:t>A
  ·rw [if_pos h,Int.tdiv_eq_ediv_of_nonneg (by omega)]
   have h1:=Int.ediv_nonneg (a:=t - A) (b:=m) (by omega) (by omega)
   have h2:=Int.ediv_mul_le (t - A) (b:=m) (by omega)
   have h3:=Int.lt_ediv_add_one_mul_self (t - A) (b:=m) (by omega)
   first
    |exact h1
    |exact h2
    |exact h3
    |(intro hq
      generalize (t - A) / m=q at *
      by_cases hq0:q≤0
      ·have:q=0:=by omega
       subst this
       simp at h3
       omega
      ·omega)
  ·rw [if_neg h]
   first|omega|(simp;omega)
theorem rC.nil {n m:Int} (hn:1≤n) {t:Int} (ht:0≤t):rC n m [t] [true] (n - 1) t t:=by
 refine ⟨rfl,by omega,by omega,ht,by omega,fun k x hx=>?_⟩
 cases k with
 |zero=>
  simp only [List.getElem?_cons_zero,Option.some.injEq] at hx
  subst hx
  have:qO [true] 0=1:=by decide
  rw [this]
  have:(1:Int)+(n - 1)=n:=by omega
  rw [this];omega
 |succ k=>simp at hx
theorem rC.snoc {n m:Int} {ts:List Int} {ps:List Bool} {N A t:Int} (hn:1≤n) (hm:1≤m) (h:rC n m ts ps N A t) {t':Int} (ht:t≤t'):
  ((qP n m N A t').1>0→rC n m (ts++[t']) (ps++[true]) ((qP n m N A t').1 - 1) (qP n m N A t').2 t')∧(¬ (qP n m N A t').1>0→(qP n m N A t').1=0∧ ¬m≤t' - t∧rC n m (ts++[t']) (ps++[false]) 0 (qP n m N A t').2 t'):=by
 have hat:=h.a1
 obtain ⟨q,q0,q1,q2,q3,q4⟩:=wH (t:=t') hn hm h.n0 h.a0 (by omega)
 have n0:=h.n0
 have n1:=h.n1
 have a0:=h.a0
 have key:0≤(qP n m N A t').1∧(qP n m N A t').1≤n∧0≤(qP n m N A t').2∧(qP n m N A t').2≤t'∧(∀ (k:Nat) (x:Int),ts[k]? =some x→m * (qO ps k+(qP n m N A t').1)≤m * n+((qP n m N A t').2 - x))∧m * (qP n m N A t').1≤m * n+((qP n m N A t').2 - t')∧(m≤t' - A→(qP n m N A t').1>0):=by
  rw [q4]
  by_cases c:N+q≥n
  ·rw [if_pos c]
   refine ⟨by dsimp only;omega,by dsimp only;omega,by dsimp only;omega,by dsimp only;omega,fun k x hx=>?_,by dsimp only;omega,fun _=>by dsimp only;omega⟩
   have hk:=h.le k x hx
   dsimp only
   rw [Int.mul_add] at hk ⊢
   have h1:m * (n - N)≤m * q:=Int.mul_le_mul_of_nonneg_left (by omega) (by omega)
   rw [Int.mul_sub,Int.mul_comm m q] at h1
   omega
  ·rw [if_neg c]
   refine ⟨by dsimp only;omega,by dsimp only;omega,?_,by dsimp only;omega,fun k x hx=>?_,?_,fun hq=>by have:=q2 hq;dsimp only;omega⟩
   ·have:=Int.mul_nonneg q0 (show (0:Int)≤m by omega)
    dsimp only;omega
   ·have hk:=h.le k x hx
    dsimp only
    rw [Int.mul_add] at hk ⊢
    rw [Int.mul_add,Int.mul_comm m q]
    omega
   ·dsimp only
    have h1:m * (N+q)≤m * (n - 1):=Int.mul_le_mul_of_nonneg_left (by omega) (by omega)
    rw [Int.mul_sub,Int.mul_one] at h1
    have h2:(q+1) * m=q * m+m:=by rw [Int.add_mul,Int.one_mul]
    omega
 obtain ⟨k1,k2,k3,k4,k5,k6,k7⟩:=key
 generalize qP n m N A t'=F at *
 obtain ⟨F,B⟩:=F
 dsimp only at *
 have sn: ∀(b:Bool) (N':Int),N'+(if b then 1 else 0)=F→0≤N'→rC n m (ts++[t']) (ps++[b]) N' B t':=fun b N' he h0=>by
  refine ⟨by simp [h.len],h0,by split at he <;> omega,k3,k4,fun k x hx=>?_⟩
  rcases Nat.lt_or_ge k ts.length with hk|hk
  ·rw [List.getElem?_append_left hk] at hx
   rw [tx (by rw [h.len];omega),show qO ps k+(if b then (1:Int) else 0)+N'=qO ps k+F by omega]
   exact k5 k x hx
  ·have hl:=(gsZ hx).1
   rw [List.length_append,List.length_singleton] at hl
   have:k=ts.length:=by omega
   subst this
   rw [List.getElem?_append_right (Nat.le_refl _),Nat.sub_self,List.getElem?_cons_zero,Option.some.injEq] at hx
   subst hx
   rw [tx (by rw [h.len];omega)]
   have:qO ps ts.length=0:=by unfold qO;rw [← h.len,List.drop_length];rfl
   rw [this,show (0:Int)+(if b then (1:Int) else 0)+N'=F by omega]
   exact k6
 refine ⟨fun hp=>sn true (F - 1) (by simp) (by omega),fun hp=>?_⟩
 have h0:F=0:=by omega
 exact ⟨h0,fun hq=>hp (k7 (by omega)),sn false 0 (by simp [h0]) (by omega)⟩
theorem rC.few {n m:Int} {ts:List Int} {ps:List Bool} {N A t:Int} (hm:1≤m) (h:rC n m ts ps N A t) {k:Nat} {x:Int} (hx:ts[k]? =some x) (hxt:x≤t):qO ps k≤n+(t - x).tdiv m:=by
 have h1:=h.le k x hx
 have n0:=h.n0
 have a1:=h.a1
 rw [Int.tdiv_eq_ediv_of_nonneg (by omega)]
 have h2:m * (qO ps k - n)≤t - x:=by
  rw [Int.mul_sub]
  rw [Int.mul_add] at h1
  have:=Int.mul_nonneg (show (0:Int)≤m by omega) n0
  omega
 have h3:=(Int.le_ediv_iff_mul_le (show (0:Int)<m by omega)).2 (by rw [Int.mul_comm];exact h2)
 omega
end Go.ST
end
section
namespace Go.ST
open Go Go.DL Go.MM
open Go.TY hiding Fd
theorem yM {l:List Fd} (h:LOk l) {k:ByteArray} (hf:qD l k=true):FOk (MM.fld l k):=by
 unfold qD at hf
 obtain ⟨f,hf⟩:=Option.isSome_iff_exists.1 hf
 rw [wb hf]
 exact h.find hf
theorem tD {l:List Fd} (hl:LOk l) {h:List Int} (hh:HOk h) {name:ByteArray} {n:Int} (_:0≤n):HOk (wrF l h name n):=by
 unfold wrF
 cases hf:qD l name with
 |false=>simpa using hh
 |true=>
  rw [if_pos rfl]
  have:=Nat.two_pow_pos (fld l name).w
  exact hh.set (yM hl hf) (by omega)
theorem tT {l:List Fd} (hl:LOk l): ∀{ks:List ByteArray} {vs:List Int} {h:List Int},HOk h→(∀ x∈vs,0≤x)→HOk (rI l ks vs h)
 |[],_,h,hh,_=>hh
 |_::_,[],h,hh,_=>hh
 |k::ks,v::vs,h,hh,hv=>show HOk (rI l ks vs (wrF l h k v)) from tT hl (tD hl hh (hv v (by simp))) fun x hx=>hv x (by simp [hx])
end Go.ST
end
section
namespace Go.ST
open Go Go.DL Go.MM Go.Proofs
open Go.TY hiding Fd
theorem DCalls.wv {P:Program} {f:FuncId} {ts:List T} {r:T} (h:DCalls P f ts r) (hf:r.flat=true):oZ P f ts r:=by
 refine ⟨h.1,fun w vs hG hl hr=>(h.2 (dC w) w vs (fun _ _ hs=>hs) hG hl hr).mono ?_⟩
 rintro e w' ⟨v,rfl,hb,hrep⟩
 exact ⟨v,rfl,hb,hrep.of_flat hf⟩
theorem uU (xs:List RE) (f:FuncId) (c1 c2:T) (p:RE→Bool) (hl:xs.length<2^60) (hc: ∀(i:Nat) (h:i<xs.length),DCalls Try.prog f [.agg (qu xs[i]),c1,c2] (.bool (p xs[i]))):
  DCalls Try.prog 46 [esT xs,.clos f [c1,c2]] (I (qZ p xs)):=by
 refine pN (rs:=[.tmp 4]) mixed Try.func46 l46 rfl rfl rfl (r:=[.int _ _]) (nlZ rfl) ?_
 repeat' ((conv=>whnf);first|exact trivial|refine nT_ ?_|refine aE1 ?_|refine aE0 ?_|refine aN1 ?_|refine aN0 ?_|refine aD1 ?_|refine aD0 ?_|refine nE_ (fun hq=>?_) (fun hq=>?_)|refine nN_ (fun hq=>?_) (fun hq=>?_)|refine nD_ (fun hq=>?_) (fun hq=>?_)|refine rb1 ?_|refine rb0 ?_|refine rbx ?_|refine rix ?_|refine aS ?_|fail)
 refine qc (α:=Nat) (fun i=>{sl:=[(0,.t (esT xs)),(1,.t (.clos f [c1,c2])),(6,.t (esT xs)),(7,.t (I xs.length)),(8,.t (I i))],bx:=[]})
  (fun i=>i≤xs.length∧ ∀j (h:j<xs.length),j<i→p xs[j]=false) (fun i=>xs.length - i) 0 (by simp) ?_ ?_
 ·repeat' (first|(exact leI (by simp))|exact trivial|exact LeV.same _|exact LeB.same _|exact rfl|exact fun _ _ _=>trivial|exact lI|exact LeV.nil _ _ _|exact lB|refine qq ?_|refine qo ?_|refine And.intro ?_ ?_)
 rintro i ⟨hi,hp⟩
 rcases Nat.lt_or_ge i xs.length with h|h
 ·have h0:=hc i h
  cases hb:p xs[i] with
  |true=>
   rw [hb] at h0
   rw [tG h hb hp]
   repeat' ((conv=>whnf);first|exact trivial|(refine nv_ (.agg (qu xs[i])) (by first|exact qU h|fail) ?_)|refine qk _ (h0) ?_|refine nT_ ?_|refine aE1 ?_|refine aE0 ?_|refine aN1 ?_|refine aN0 ?_|refine aD1 ?_|refine aD0 ?_|refine nE_ (fun hq=>?_) (fun hq=>?_)|refine nN_ (fun hq=>?_) (fun hq=>?_)|refine nD_ (fun hq=>?_) (fun hq=>?_)|refine rb1 ?_|refine rb0 ?_|refine rbx ?_|refine rix ?_|(refine And.intro (by first|exact qw _|fail) ?_)|refine aS ?_|fail)
  |false=>
   rw [hb] at h0
   repeat' ((conv=>whnf);first|exact trivial|(refine nv_ (.agg (qu xs[i])) (by first|exact qU h|fail) ?_)|refine qk _ (h0) ?_|refine nT_ ?_|refine aE1 ?_|refine aE0 ?_|refine aN1 ?_|refine aN0 ?_|refine aD1 ?_|refine aD0 ?_|refine nE_ (fun hq=>?_) (fun hq=>?_)|refine nN_ (fun hq=>?_) (fun hq=>?_)|refine nD_ (fun hq=>?_) (fun hq=>?_)|refine rb1 ?_|refine rb0 ?_|refine rbx ?_|refine rix ?_|(refine And.intro (by first|exact qw _|fail) ?_)|refine aS ?_|fail)
   refine ⟨i+1,⟨h,fun j hj hlt=>?_⟩,by omega,?_⟩
   ·rcases Nat.lt_or_ge j i with h4|h4
    ·exact hp j hj h4
    ·obtain rfl:j=i:=by omega
     exact hb
   ·repeat' (first|exact trivial|exact LeV.same _|exact LeB.same _|exact rfl|exact fun _ _ _=>trivial|exact lI|exact LeV.nil _ _ _|exact lB|refine qq ?_|refine qo ?_|refine And.intro ?_ ?_)
 ·have:i=xs.length:=by omega
  subst this
  rw [tH fun j hj=>hp j hj hj]
  repeat' ((conv=>whnf);first|exact trivial|refine nT_ ?_|refine aE1 ?_|refine aE0 ?_|refine aN1 ?_|refine aN0 ?_|refine aD1 ?_|refine aD0 ?_|refine nE_ (fun hq=>?_) (fun hq=>?_)|refine nN_ (fun hq=>?_) (fun hq=>?_)|refine nD_ (fun hq=>?_) (fun hq=>?_)|refine rb1 ?_|refine rb0 ?_|refine rbx ?_|refine rix ?_|refine aS ?_|fail)
structure H10 where
 x0:Int
 x1:Int
 x2:Int
 x3:Int
 x4:Int
 x5:Int
 x6:Int
 x7:Int
 x8:Int
 x9:Int
abbrev H10.ls (q:H10):List Int:=[q.x0,q.x1,q.x2,q.x3,q.x4,q.x5,q.x6,q.x7,q.x8,q.x9]
theorem um (l:List Fd) (k:ByteArray) (v:Int): ∀(a:List ByteArray) (b:List Int) (h:List Int),a.length=b.length→rI l (a++[k]) (b++[v]) h=wrF l (rI l a b h) k v
 |[],[],h,_=>rfl
 |x::a,y::b,h,e=>by
  show rI l (a++[k]) (b++[v]) (wrF l h x y)=_
  rw [um l k v a b _ (by simpa using e)]
  rfl
 |[],_::_,_,e=>by simp at e
 |_::_,[],_,e=>by simp at e
variable {l:List Fd} {s:RS} {st st' o:List RE} {x0 x1 x2 x3 x4 x5 x6 x7 x8 x9 y0 y1 y2 y3 y4 y5 y6 y7 y8 y9 tick:Int} {e:RE} {is:Bool}
theorem yq (x:RE) (g:Int):DCalls Try.prog 47 [.agg (qu x),.cptr [.cptr (dL l s st x0 x1 x2 x3 x4 x5 x6 x7 x8 x9 tick e is) 0] 0,.cptr [I g] 0] (.bool (decide (x.var=s.var)&&decide (x.n=g))):=by
 refine pN (rs:=[.tmp 4]) mixed Try.func47 Go.ST4.l47 rfl rfl rfl (r:=[.bool _]) (nlZ rfl) ?_
 have h:=eqS x.var s.var
 by_cases c:x.var=s.var
 ·rw [decide_eq_true c] at h ⊢
  by_cases c2:x.n=g
  ·rw [decide_eq_true c2]
   repeat' ((conv=>whnf);first|exact trivial|refine nb_ _ h ?_|refine py c2 ?_|refine nT_ ?_|refine aE1 ?_|refine aE0 ?_|refine aN1 ?_|refine aN0 ?_|refine aD1 ?_|refine aD0 ?_|refine nE_ (fun hq=>?_) (fun hq=>?_)|refine nN_ (fun hq=>?_) (fun hq=>?_)|refine nD_ (fun hq=>?_) (fun hq=>?_)|refine rb1 ?_|refine rb0 ?_|refine rbx ?_|refine rix ?_|(refine And.intro (by first|exact qw _|fail) ?_)|refine aS ?_|fail)
  ·rw [decide_eq_false c2]
   repeat' ((conv=>whnf);first|exact trivial|refine nb_ _ h ?_|refine px c2 ?_|refine nT_ ?_|refine aE1 ?_|refine aE0 ?_|refine aN1 ?_|refine aN0 ?_|refine aD1 ?_|refine aD0 ?_|refine nE_ (fun hq=>?_) (fun hq=>?_)|refine nN_ (fun hq=>?_) (fun hq=>?_)|refine nD_ (fun hq=>?_) (fun hq=>?_)|refine rb1 ?_|refine rb0 ?_|refine rbx ?_|refine rix ?_|(refine And.intro (by first|exact qw _|fail) ?_)|refine aS ?_|fail)
 ·rw [decide_eq_false c] at h ⊢
  repeat' ((conv=>whnf);first|exact trivial|refine nb_ _ h ?_|refine nT_ ?_|refine aE1 ?_|refine aE0 ?_|refine aN1 ?_|refine aN0 ?_|refine aD1 ?_|refine aD0 ?_|refine nE_ (fun hq=>?_) (fun hq=>?_)|refine nN_ (fun hq=>?_) (fun hq=>?_)|refine nD_ (fun hq=>?_) (fun hq=>?_)|refine rb1 ?_|refine rb0 ?_|refine rbx ?_|refine rix ?_|(refine And.intro (by first|exact qw _|fail) ?_)|refine aS ?_|fail)
attribute [local irreducible] bJ WCM YC
theorem yI (hk:s.kind=5) (hl:LOk l) (hlen:st.length<2^40) (hkl:s.key.length<2^40) (hh:HOk [x0,x1,x2,x3,x4,x5,x6,x7,x8,x9]) (hfo:qD l s.field=true)
  (hvs: ∀x∈st,x.var=s.var→x.key.length=s.key.length∧ ∀v∈x.key,0≤v) (fnd:Option RE) (hfnd:fnd=st.find? fun x=>decide (x.var=s.var)&&decide (x.n=(re (fld l s.field) [x0,x1,x2,x3,x4,x5,x6,x7,x8,x9]:Int))):
  bJ Try.prog 84 Go.ST3.rO (S0 l s st x0 x1 x2 x3 x4 x5 x6 x7 x8 x9 tick e is).mk' (fun ex s'=>ex= .normal∧((fnd=none∧bK (S1 l s x0 x1 x2 x3 x4 x5 x6 x7 x8 x9 tick is st x0 x1 x2 x3 x4 x5 x6 x7 x8 x9 e false) s')∨
   (∃ (x:RE) (q:H10),fnd=some x∧q.ls=rI l s.key x.key [x0,x1,x2,x3,x4,x5,x6,x7,x8,x9]∧bK (S1 l s x0 x1 x2 x3 x4 x5 x6 x7 x8 x9 tick is st q.x0 q.x1 q.x2 q.x3 q.x4 q.x5 q.x6 q.x7 q.x8 q.x9 e true) s'))):=by
 have hidx:=uU st 47 (.cptr [.cptr (dL l s st x0 x1 x2 x3 x4 x5 x6 x7 x8 x9 tick e is) 0] 0) (.cptr [I (re (fld l s.field) [x0,x1,x2,x3,x4,x5,x6,x7,x8,x9])] 0) (fun x=>decide (x.var=s.var)&&decide (x.n=(re (fld l s.field) [x0,x1,x2,x3,x4,x5,x6,x7,x8,x9]:Int))) (by omega) (fun i h=>yq st[i] _)
 have hF:=tS l hl s.field
 rw [hfo] at hF
 have hG:=t78 _ (tf hl hfo) _ hh
 obtain ⟨kk,var,key,field,n,m⟩:=s
 dsimp only at hk hF hG hidx hvs hfnd hkl hfo
 subst hk
 rcases sL (fun x=>decide (x.var=var)&&decide (x.n=(re (fld l field) [x0,x1,x2,x3,x4,x5,x6,x7,x8,x9]:Int))) st with ⟨hx,hno⟩|⟨k,hk,hx,hfd⟩
 ·rw [hno] at hfnd
  have hN:=DCalls.wv hidx rfl
  rw [hx] at hN
  refine Go.ST3.s9 ?_
  repeat' ((conv=>whnf);first|exact trivial|refine WC.toM (qf mixed Try.func20 Go.ST5.l20 rfl rfl (rs:=[.tmp 2]) rfl 3000 (nlZ rfl) ?_)|refine nT_ ?_|refine aE1 ?_|refine aE0 ?_|refine aN1 ?_|refine aN0 ?_|refine aD1 ?_|refine aD0 ?_|refine nE_ (fun hq=>?_) (fun hq=>?_)|refine nN_ (fun hq=>?_) (fun hq=>?_)|refine nD_ (fun hq=>?_) (fun hq=>?_)|refine rb1 ?_|refine rb0 ?_|refine rbx ?_|refine rix ?_|refine aS ?_|fail)
  repeat' ((conv=>whnf);first|exact trivial|refine qk _ (hF) ?_|refine qk _ (hG) ?_|refine qg rfl hN ?_|refine nT_ ?_|refine aE1 ?_|refine aE0 ?_|refine aN1 ?_|refine aN0 ?_|refine aD1 ?_|refine aD0 ?_|refine nE_ (fun hq=>?_) (fun hq=>?_)|refine nN_ (fun hq=>?_) (fun hq=>?_)|refine nD_ (fun hq=>?_) (fun hq=>?_)|refine rb1 ?_|refine rb0 ?_|refine rbx ?_|refine rix ?_|refine aS ?_|fail)
  refine ⟨_,rfl,?_⟩
  repeat' ((conv=>whnf);first|exact trivial|(exact ⟨rfl,Or.inl ⟨hfnd,by (repeat' (first|exact trivial|exact LeV.same _|exact LeB.same _|exact rfl|exact fun _ _ _=>trivial|exact lI|exact LeV.nil _ _ _|exact lB|refine qq ?_|refine qo ?_|refine And.intro ?_ ?_));done⟩⟩)|refine nT_ ?_|refine aE1 ?_|refine aE0 ?_|refine aN1 ?_|refine aN0 ?_|refine aD1 ?_|refine aD0 ?_|refine nE_ (fun hq=>?_) (fun hq=>?_)|refine nN_ (fun hq=>?_) (fun hq=>?_)|refine nD_ (fun hq=>?_) (fun hq=>?_)|refine rb1 ?_|refine rb0 ?_|refine rbx ?_|refine rix ?_|refine aS ?_|fail)
 ·rw [hfd] at hfnd
  have hN:=DCalls.wv hidx rfl
  rw [hx] at hN
  have hxm:st[k]∈st:=List.getElem_mem hk
  have hxv:st[k].var=var:=by
   have:=List.find?_some hfd
   rw [Bool.and_eq_true] at this
   exact of_decide_eq_true this.1
  obtain ⟨hlk,hpos⟩:=hvs st[k] hxm hxv
  have hgk:=qU hk
  have hget:=ggZ hk
  have hn:((st.map qx).length:Int)=st.length:=by rw [List.length_map]
  have hm:((key.map T.str).length:Int)=key.length:=by rw [List.length_map]
  have hge0: ¬(k:Int)<0:=by omega
  have hgx:((qu st[k])[1]?.getD .nil)= .slice 1 (st[k].key.map I):=rfl
  have hgk1:(T.agg (qu st[k])).cells[1]?.getD .nil= .slice 1 (st[k].key.map I):=rfl
  have hk2:(k:Int)<((st.map qx).length:Int):=by omega
  generalize hxx:st[k]=x at *
  obtain ⟨xv,xk,xn,xa⟩:=x
  dsimp only at hlk hpos
  have hxl:((xk.map I).length:Int)=key.length:=by rw [List.length_map];omega
  refine Go.ST3.s9 ?_
  repeat' ((conv=>whnf);first|exact trivial|refine WC.toM (qf mixed Try.func20 Go.ST5.l20 rfl rfl (rs:=[.tmp 2]) rfl 3000 (nlZ rfl) ?_)|refine nT_ ?_|refine aE1 ?_|refine aE0 ?_|refine aN1 ?_|refine aN0 ?_|refine aD1 ?_|refine aD0 ?_|refine nE_ (fun hq=>?_) (fun hq=>?_)|refine nN_ (fun hq=>?_) (fun hq=>?_)|refine nD_ (fun hq=>?_) (fun hq=>?_)|refine rb1 ?_|refine rb0 ?_|refine rbx ?_|refine rix ?_|refine aS ?_|fail)
  repeat' ((conv=>whnf);first|exact trivial|refine qk _ (hF) ?_|refine qk _ (hG) ?_|refine qg rfl hN ?_|refine nT_ ?_|refine aE1 ?_|refine aE0 ?_|refine aN1 ?_|refine aN0 ?_|refine aD1 ?_|refine aD0 ?_|refine nE_ (fun hq=>?_) (fun hq=>?_)|refine nN_ (fun hq=>?_) (fun hq=>?_)|refine nD_ (fun hq=>?_) (fun hq=>?_)|refine rb1 ?_|refine rb0 ?_|refine rbx ?_|refine rix ?_|refine aS ?_|fail)
  refine pX 0 (α:=Nat×H10) (β:=H10) (fun q=>{sl:=[(1,.ptr 3001 0),(6,.t (I k)),(40,.t (.slice 1 (key.map .str))),(41,.t (I key.length)),(42,.t (I q.1))],bx:=[(8,.d 10 [I x0,I x1,I x2,I x3,I x4,I x5,I x6,I x7,I x8,I x9]),(10,.d 10 z10),(3001,.v [.ptr 37 0]),(37,.d 24 (dL l ⟨5,var,key,field,n,m⟩ st q.2.x0 q.2.x1 q.2.x2 q.2.x3 q.2.x4 q.2.x5 q.2.x6 q.2.x7 q.2.x8 q.2.x9 tick e is))],gh:=[(0,[(8,.ptr 8 0),(10,.ptr 10 0),(16,.ptr 37 0)])],off:=3000})
   (fun q=>q.1≤key.length∧q.2.ls=rI l (key.take q.1) (xk.take q.1) [x0,x1,x2,x3,x4,x5,x6,x7,x8,x9]) (fun q=>key.length - q.1)
   (fun q=>{sl:=[],bx:=[(8,.d 10 [I x0,I x1,I x2,I x3,I x4,I x5,I x6,I x7,I x8,I x9]),(10,.d 10 z10),(37,.d 24 (dL l ⟨5,var,key,field,n,m⟩ st q.x0 q.x1 q.x2 q.x3 q.x4 q.x5 q.x6 q.x7 q.x8 q.x9 tick e is))],gh:=[(0,[(8,.ptr 8 0),(10,.ptr 10 0),(16,.ptr 37 0)])],off:=3000})
   (fun q=>q.ls=rI l key xk [x0,x1,x2,x3,x4,x5,x6,x7,x8,x9]) (0,⟨x0,x1,x2,x3,x4,x5,x6,x7,x8,x9⟩) ⟨Nat.zero_le _,rfl⟩ ?_ ?_ ?_
  ·repeat' (first|(exact leI hm.symm)|exact trivial|exact LeV.same _|exact LeB.same _|exact rfl|exact fun _ _ _=>trivial|exact lI|exact LeV.nil _ _ _|exact lB|refine qq ?_|refine qo ?_|refine And.intro ?_ ?_)
  ·rintro ⟨i,q⟩ ⟨hi,hq⟩
   dsimp only at hi hq
   rcases Nat.lt_or_ge i key.length with h|h
   ·have hlt:(i:Int)<(key.length:Int):=by omega
    have hnx:((i+1:Nat):Int)=IntKind.wrap .i64 ((i:Int)+1):=by rw [lS] <;> omega
    have hi2:i<xk.length:=by omega
    have hHq:HOk q.ls:=by rw [hq];exact tT hl hh fun v hv=>hpos v (List.mem_of_mem_take hv)
    have hp0:0≤xk[i]:=hpos _ (List.getElem_mem hi2)
    have hW:=vS hl key[i] hHq hp0
    have hsn:rI l (key.take (i+1)) (xk.take (i+1)) [x0,x1,x2,x3,x4,x5,x6,x7,x8,x9]=wrF l q.ls key[i] xk[i]:=by
     rw [List.take_succ_eq_append_getElem h,List.take_succ_eq_append_getElem hi2,um _ _ _ _ _ _ (by rw [List.length_take,List.length_take];omega),hq]
    have hst:(key.map T.str)[((i:Int)).toNat]?.getD .nil= .str key[i]:=by simp [h]
    have hsv:(xk.map I)[((i:Int)).toNat]?.getD .nil=I xk[i]:=by simp [hi2]
    obtain ⟨y0,y1,y2,y3,y4,y5,y6,y7,y8,y9,hy⟩:=ten (tD hl hHq (name:=key[i]) hp0)
    rw [hy] at hW hsn
    obtain ⟨hF2,hM2,hS2,hno2⟩:=hW
    have hir:0≤(i:Int)∧(i:Int)<((xk.map I).length:Int):=by omega
    have hkr:0≤(k:Int)∧(k:Int)<((st.map qx).length:Int):=by omega
    generalize key[i]=nm at *
    generalize xk[i]=vl at *
    obtain ⟨z0,z1,z2,z3,z4,z5,z6,z7,z8,z9⟩:=q
    cases hfo2:qD l nm with
    |true=>
     rw [hfo2] at hF2
     have hM2:=hM2 hfo2
     have hS2:=hS2 hfo2
     repeat' ((conv=>whnf);first|exact trivial|refine pt hlt ?_|(refine nv_ (.str nm) (by first|exact hst|fail) ?_)|(refine nv_ (.slice 1 (xk.map I)) (by first|(simp [hget,qx,qu,T.cells];done)|fail) ?_)|(refine nv_ (I vl) (by first|exact hsv|fail) ?_)|refine qf mixed Try.func42 Go.ST4.l42 rfl rfl (rs:=[]) rfl 3200 (nlZ rfl) ?_|refine nT_ ?_|refine aE1 ?_|refine aE0 ?_|refine aN1 ?_|refine aN0 ?_|refine aD1 ?_|refine aD0 ?_|refine nE_ (fun hq=>?_) (fun hq=>?_)|refine nN_ (fun hq=>?_) (fun hq=>?_)|refine nD_ (fun hq=>?_) (fun hq=>?_)|refine rb1 ?_|refine rb0 ?_|refine rbx ?_|refine rix ?_|(refine And.intro (by first|exact hir|exact hkr|((simp [hget,qx,qu,T.cells]);done)|fail) ?_)|refine aS ?_|fail)
     repeat' ((conv=>whnf);first|exact trivial|refine qk _ (hF2) ?_|refine qk _ (hM2) ?_|refine qk _ (hS2) ?_|refine nT_ ?_|refine aE1 ?_|refine aE0 ?_|refine aN1 ?_|refine aN0 ?_|refine aD1 ?_|refine aD0 ?_|refine nE_ (fun hq=>?_) (fun hq=>?_)|refine nN_ (fun hq=>?_) (fun hq=>?_)|refine nD_ (fun hq=>?_) (fun hq=>?_)|refine rb1 ?_|refine rb0 ?_|refine rbx ?_|refine rix ?_|refine aS ?_|fail)
     refine ⟨_,rfl,?_⟩
     repeat' ((conv=>whnf);first|exact trivial|(exact ⟨(i+1,⟨y0,y1,y2,y3,y4,y5,y6,y7,y8,y9⟩),⟨h,hsn.symm⟩,(by dsimp only;omega),by (repeat' (first|(exact leI hnx)|exact trivial|exact LeV.same _|exact LeB.same _|exact rfl|exact fun _ _ _=>trivial|exact lI|exact LeV.nil _ _ _|exact lB|refine qq ?_|refine qo ?_|refine And.intro ?_ ?_));done⟩)|refine nT_ ?_|refine aE1 ?_|refine aE0 ?_|refine aN1 ?_|refine aN0 ?_|refine aD1 ?_|refine aD0 ?_|refine nE_ (fun hq=>?_) (fun hq=>?_)|refine nN_ (fun hq=>?_) (fun hq=>?_)|refine nD_ (fun hq=>?_) (fun hq=>?_)|refine rb1 ?_|refine rb0 ?_|refine rbx ?_|refine rix ?_|refine aS ?_|fail)
    |false=>
     rw [hfo2] at hF2
     have hno2:=hno2 hfo2
     cases hno2
     repeat' ((conv=>whnf);first|exact trivial|refine pt hlt ?_|(refine nv_ (.str nm) (by first|exact hst|fail) ?_)|(refine nv_ (.slice 1 (xk.map I)) (by first|(simp [hget,qx,qu,T.cells];done)|fail) ?_)|(refine nv_ (I vl) (by first|exact hsv|fail) ?_)|refine qf mixed Try.func42 Go.ST4.l42 rfl rfl (rs:=[]) rfl 3200 (nlZ rfl) ?_|refine nT_ ?_|refine aE1 ?_|refine aE0 ?_|refine aN1 ?_|refine aN0 ?_|refine aD1 ?_|refine aD0 ?_|refine nE_ (fun hq=>?_) (fun hq=>?_)|refine nN_ (fun hq=>?_) (fun hq=>?_)|refine nD_ (fun hq=>?_) (fun hq=>?_)|refine rb1 ?_|refine rb0 ?_|refine rbx ?_|refine rix ?_|(refine And.intro (by first|exact hir|exact hkr|((simp [hget,qx,qu,T.cells]);done)|fail) ?_)|refine aS ?_|fail)
     repeat' ((conv=>whnf);first|exact trivial|refine qk _ (hF2) ?_|refine nT_ ?_|refine aE1 ?_|refine aE0 ?_|refine aN1 ?_|refine aN0 ?_|refine aD1 ?_|refine aD0 ?_|refine nE_ (fun hq=>?_) (fun hq=>?_)|refine nN_ (fun hq=>?_) (fun hq=>?_)|refine nD_ (fun hq=>?_) (fun hq=>?_)|refine rb1 ?_|refine rb0 ?_|refine rbx ?_|refine rix ?_|refine aS ?_|fail)
     refine ⟨_,rfl,?_⟩
     repeat' ((conv=>whnf);first|exact trivial|(exact ⟨(i+1,⟨_,_,_,_,_,_,_,_,_,_⟩),⟨h,hsn.symm⟩,(by dsimp only;omega),by (repeat' (first|(exact leI hnx)|exact trivial|exact LeV.same _|exact LeB.same _|exact rfl|exact fun _ _ _=>trivial|exact lI|exact LeV.nil _ _ _|exact lB|refine qq ?_|refine qo ?_|refine And.intro ?_ ?_));done⟩)|refine nT_ ?_|refine aE1 ?_|refine aE0 ?_|refine aN1 ?_|refine aN0 ?_|refine aD1 ?_|refine aD0 ?_|refine nE_ (fun hq=>?_) (fun hq=>?_)|refine nN_ (fun hq=>?_) (fun hq=>?_)|refine nD_ (fun hq=>?_) (fun hq=>?_)|refine rb1 ?_|refine rb0 ?_|refine rbx ?_|refine rix ?_|refine aS ?_|fail)
   ·have hlt: ¬(i:Int)<(key.length:Int):=by omega
    have hq2:q.ls=rI l key xk [x0,x1,x2,x3,x4,x5,x6,x7,x8,x9]:=by rw [hq,List.take_of_length_le h,List.take_of_length_le (by omega)]
    repeat' ((conv=>whnf);first|exact trivial|refine pq hlt ?_|(exact ⟨q,hq2,by (repeat' (first|exact trivial|exact LeV.same _|exact LeB.same _|exact rfl|exact fun _ _ _=>trivial|exact lI|exact LeV.nil _ _ _|exact lB|refine qq ?_|refine qo ?_|refine And.intro ?_ ?_));done⟩)|refine nT_ ?_|refine aE1 ?_|refine aE0 ?_|refine aN1 ?_|refine aN0 ?_|refine aD1 ?_|refine aD0 ?_|refine nE_ (fun hq=>?_) (fun hq=>?_)|refine nN_ (fun hq=>?_) (fun hq=>?_)|refine nD_ (fun hq=>?_) (fun hq=>?_)|refine rb1 ?_|refine rb0 ?_|refine rbx ?_|refine rix ?_|refine aS ?_|fail)
  ·rintro q hq
   repeat' ((conv=>whnf);first|exact trivial|refine nT_ ?_|refine aE1 ?_|refine aE0 ?_|refine aN1 ?_|refine aN0 ?_|refine aD1 ?_|refine aD0 ?_|refine nE_ (fun hq=>?_) (fun hq=>?_)|refine nN_ (fun hq=>?_) (fun hq=>?_)|refine nD_ (fun hq=>?_) (fun hq=>?_)|refine rb1 ?_|refine rb0 ?_|refine rbx ?_|refine rix ?_|refine aS ?_|fail)
   refine ⟨_,rfl,?_⟩
   repeat' ((conv=>whnf);first|exact trivial|(exact ⟨rfl,Or.inr ⟨_,q,hfnd,hq,by (repeat' (first|exact trivial|exact LeV.same _|exact LeB.same _|exact rfl|exact fun _ _ _=>trivial|exact lI|exact LeV.nil _ _ _|exact lB|refine qq ?_|refine qo ?_|refine And.intro ?_ ?_));done⟩⟩)|refine nT_ ?_|refine aE1 ?_|refine aE0 ?_|refine aN1 ?_|refine aN0 ?_|refine aD1 ?_|refine aD0 ?_|refine nE_ (fun hq=>?_) (fun hq=>?_)|refine nN_ (fun hq=>?_) (fun hq=>?_)|refine nD_ (fun hq=>?_) (fun hq=>?_)|refine rb1 ?_|refine rb0 ?_|refine rbx ?_|refine rix ?_|refine aS ?_|fail)
end Go.ST
end
section
namespace Go.ST
open Go Go.DL Go.MM Go.Proofs
open Go.TY hiding Fd
def esU (ns:List Int):List (T×T):=ns.map fun n=>(I n,T.bool true)
def se (n:Int):List Int→List Int
 |[]=>[n]
 |x::xs=>if x=n then n::xs else x::se n xs
theorem u9 (a b:Int):eqL (I a).cells (I b).cells=decide (a=b):=by
 show ((a==b)&&true)=_
 rw [Bool.and_true]
 by_cases h:a=b <;> simp [h]
theorem wu (n:Int): ∀ns:List Int,bp (I n) (.bool true) (esU ns)=esU (se n ns)
 |[]=>rfl
 |x::xs=>by
  have ih:=wu n xs
  show cond (eqL (I n).cells (I x).cells) _ _=esU (se n (x::xs))
  rw [u9]
  unfold se
  by_cases h:x=n
  ·rw [decide_eq_true h.symm,if_pos h];rfl
  ·rw [decide_eq_false (fun e=>h e.symm),if_neg h,cond_false]
   show (I x,T.bool true)::bp (I n) (.bool true) (esU xs)=_
   rw [ih];rfl
theorem uK {n m:Int}: ∀{ns:List Int},m∈se n ns↔m=n∨m∈ns
 |[]=>by simp [se]
 |x::xs=>by
  unfold se
  by_cases h:x=n
  ·rw [if_pos h];subst h;simp
  ·rw [if_neg h,List.mem_cons,uK (ns:=xs),List.mem_cons]
   constructor
   ·rintro (h1|h1|h1) <;> simp [h1]
   ·rintro (h1|h1|h1) <;> simp [h1]
theorem vh (n:Int): ∀ns:List Int,mf (.bool false) false (dJ (I n).cells (esU ns))= .bool (decide (n∈ns))
 |[]=>by simp;rfl
 |x::xs=>by
  have ih:=vh n xs
  show mf (.bool false) false (cond (eqL (I n).cells (I x).cells) (some (T.bool true)) (dJ (I n).cells (esU xs)))=_
  rw [u9]
  by_cases h:n=x
  ·rw [decide_eq_true h,cond_true,decide_eq_true (by simp [h])];rfl
  ·rw [decide_eq_false h,cond_false,ih]
   congr 1
   simp [h]
def rq (o:List RE):List Int:=o.foldl (fun ns e=>se e.n ns) []
theorem uf {m:Int}: ∀{o:List RE} {ns:List Int},m∈o.foldl (fun ns e=>se e.n ns) ns↔m∈ns∨qT o m=true
 |[],ns=>by simp [qT]
 |e::o,ns=>by
  rw [List.foldl_cons,uf (o:=o),uK]
  unfold qT
  rw [List.any_cons,Bool.or_eq_true,decide_eq_true_eq]
  constructor
  ·rintro ((h|h)|h)
   ·exact Or.inr (Or.inl h.symm)
   ·exact Or.inl h
   ·exact Or.inr (Or.inr h)
  ·rintro (h|h|h)
   ·exact Or.inl (Or.inr h)
   ·exact Or.inl (Or.inl h.symm)
   ·exact Or.inr h
theorem vK (o:List RE) (m:Int):decide (m∈rq o)=qT o m:=by
 have:=uf (m:=m) (o:=o) (ns:=[])
 unfold rq
 cases h:qT o m with
 |true=>exact decide_eq_true (this.2 (Or.inr h))
 |false=>
  refine decide_eq_false fun hm=>?_
  rcases this.1 hm with h2|h2
  ·cases h2
  ·rw [h] at h2;cases h2
theorem vJ (o:List RE) {i:Nat} (h:i<o.length):rq (o.take (i+1))=se o[i].n (rq (o.take i)):=by
 unfold rq
 rw [List.take_succ_eq_append_getElem h,List.foldl_append];rfl
end Go.ST
end
section
namespace Go.ST
open Go Go.DL Go.MM Go.Proofs
open Go.TY hiding Fd
theorem vH {ks:List Nat} {bx:Nat→Option BX} {ag:Bool} {sh:List Sh} {es es':List (T×T)} (h:es=es'):LeB ks bx (.m ag sh es none) (some (.m ag sh es' none)):=by rw [h];exact .same _
variable {l:List Fd} {s:RS} {st st' o:List RE} {x0 x1 x2 x3 x4 x5 x6 x7 x8 x9 y0 y1 y2 y3 y4 y5 y6 y7 y8 y9 tick:Int} {e:RE} {is:Bool}
attribute [local irreducible] bJ WCM YC
theorem uZ (hk:s.kind=4) (hol:o.length<2^40) (hs:0≤s.n∧s.n≤65535) (hOf:DCalls Try.prog 43 [esT st,.str s.var] (esT o)) (N:Int) (hN:N=if is then e.n else qW o o.length s.n)
  (hput:DCalls Try.prog 64 [esT st,qx ⟨e.var,e.key,N,tick⟩] (esT st')) (full:Bool) (hf:full=(!is&&decide (100≤o.length))) (big:Bool) (hb:big=(!is&&decide (N>s.m)))
  (hw:Wr l s.field [x0,x1,x2,x3,x4,x5,x6,x7,x8,x9] [y0,y1,y2,y3,y4,y5,y6,y7,y8,y9] N):
  bJ Try.prog 84 Go.ST3.rO (S0 l s st x0 x1 x2 x3 x4 x5 x6 x7 x8 x9 tick e is).mk' (fun ex s'=>ex= .normal∧(((full||big)=true∧bK (S1 l s x0 x1 x2 x3 x4 x5 x6 x7 x8 x9 tick is st x0 x1 x2 x3 x4 x5 x6 x7 x8 x9 ⟨e.var,e.key,N,tick⟩ false) s')∨((full||big)=false∧bK (S1 l s x0 x1 x2 x3 x4 x5 x6 x7 x8 x9 tick is st' y0 y1 y2 y3 y4 y5 y6 y7 y8 y9 ⟨e.var,e.key,N,tick⟩ true) s'))):=by
 obtain ⟨kk,var,key,field,n,m⟩:=s
 dsimp only at hk hOf hw hs hN hb
 subst hk
 have hoL:((o.map qx).length:Int)=o.length:=by rw [List.length_map]
 obtain ⟨hF,hM,hS,hno⟩:=hw
 refine Go.ST3.s9 ?_
 cases is with
 |true=>
  obtain rfl:full=false:=by rw [hf];rfl
  obtain rfl:big=false:=by rw [hb];rfl
  obtain rfl:N=e.n:=hN
  cases hfo:qD l field with
  |true=>
   have hM:=hM hfo
   have hS:=hS hfo
   rw [hfo] at hF
   repeat' ((conv=>whnf);first|exact trivial|refine WC.toM (qf mixed Try.func19 Go.ST4.l19 rfl rfl (rs:=[.tmp 2]) rfl 3000 (nlZ rfl) ?_)|refine nT_ ?_|refine aE1 ?_|refine aE0 ?_|refine aN1 ?_|refine aN0 ?_|refine aD1 ?_|refine aD0 ?_|refine nE_ (fun hq=>?_) (fun hq=>?_)|refine nN_ (fun hq=>?_) (fun hq=>?_)|refine nD_ (fun hq=>?_) (fun hq=>?_)|refine rb1 ?_|refine rb0 ?_|refine rbx ?_|refine rix ?_|refine aS ?_|fail)
   repeat' ((conv=>whnf);first|exact trivial|refine qf mixed Try.func41 Go.ST4.l41 rfl rfl (rs:=[.tmp 2]) rfl 3100 (nlZ rfl) ?_|refine nT_ ?_|refine aE1 ?_|refine aE0 ?_|refine aN1 ?_|refine aN0 ?_|refine aD1 ?_|refine aD0 ?_|refine nE_ (fun hq=>?_) (fun hq=>?_)|refine nN_ (fun hq=>?_) (fun hq=>?_)|refine nD_ (fun hq=>?_) (fun hq=>?_)|refine rb1 ?_|refine rb0 ?_|refine rbx ?_|refine rix ?_|refine aS ?_|fail)
   repeat' ((conv=>whnf);first|exact trivial|refine qk _ (hput) ?_|refine nT_ ?_|refine aE1 ?_|refine aE0 ?_|refine aN1 ?_|refine aN0 ?_|refine aD1 ?_|refine aD0 ?_|refine nE_ (fun hq=>?_) (fun hq=>?_)|refine nN_ (fun hq=>?_) (fun hq=>?_)|refine nD_ (fun hq=>?_) (fun hq=>?_)|refine rb1 ?_|refine rb0 ?_|refine rbx ?_|refine rix ?_|refine aS ?_|fail)
   refine ⟨_,rfl,?_⟩
   repeat' ((conv=>whnf);first|exact trivial|refine qf mixed Try.func42 Go.ST4.l42 rfl rfl (rs:=[]) rfl 3200 (nlZ rfl) ?_|refine nT_ ?_|refine aE1 ?_|refine aE0 ?_|refine aN1 ?_|refine aN0 ?_|refine aD1 ?_|refine aD0 ?_|refine nE_ (fun hq=>?_) (fun hq=>?_)|refine nN_ (fun hq=>?_) (fun hq=>?_)|refine nD_ (fun hq=>?_) (fun hq=>?_)|refine rb1 ?_|refine rb0 ?_|refine rbx ?_|refine rix ?_|refine aS ?_|fail)
   repeat' ((conv=>whnf);first|exact trivial|refine qk _ (hF) ?_|refine qk _ (hM) ?_|refine qk _ (hS) ?_|refine nT_ ?_|refine aE1 ?_|refine aE0 ?_|refine aN1 ?_|refine aN0 ?_|refine aD1 ?_|refine aD0 ?_|refine nE_ (fun hq=>?_) (fun hq=>?_)|refine nN_ (fun hq=>?_) (fun hq=>?_)|refine nD_ (fun hq=>?_) (fun hq=>?_)|refine rb1 ?_|refine rb0 ?_|refine rbx ?_|refine rix ?_|refine aS ?_|fail)
   refine ⟨_,rfl,?_⟩
   repeat' ((conv=>whnf);first|exact trivial|refine nT_ ?_|refine aE1 ?_|refine aE0 ?_|refine aN1 ?_|refine aN0 ?_|refine aD1 ?_|refine aD0 ?_|refine nE_ (fun hq=>?_) (fun hq=>?_)|refine nN_ (fun hq=>?_) (fun hq=>?_)|refine nD_ (fun hq=>?_) (fun hq=>?_)|refine rb1 ?_|refine rb0 ?_|refine rbx ?_|refine rix ?_|refine aS ?_|fail)
   refine ⟨_,rfl,?_⟩
   repeat' ((conv=>whnf);first|exact trivial|(exact ⟨rfl,Or.inr ⟨rfl,by (repeat' (first|exact trivial|exact LeV.same _|exact LeB.same _|exact rfl|exact fun _ _ _=>trivial|exact lI|exact LeV.nil _ _ _|exact lB|refine qq ?_|refine qo ?_|refine And.intro ?_ ?_));done⟩⟩)|refine nT_ ?_|refine aE1 ?_|refine aE0 ?_|refine aN1 ?_|refine aN0 ?_|refine aD1 ?_|refine aD0 ?_|refine nE_ (fun hq=>?_) (fun hq=>?_)|refine nN_ (fun hq=>?_) (fun hq=>?_)|refine nD_ (fun hq=>?_) (fun hq=>?_)|refine rb1 ?_|refine rb0 ?_|refine rbx ?_|refine rix ?_|refine aS ?_|fail)
  |false=>
   have hno:=hno hfo
   cases hno
   rw [hfo] at hF
   repeat' ((conv=>whnf);first|exact trivial|refine WC.toM (qf mixed Try.func19 Go.ST4.l19 rfl rfl (rs:=[.tmp 2]) rfl 3000 (nlZ rfl) ?_)|refine nT_ ?_|refine aE1 ?_|refine aE0 ?_|refine aN1 ?_|refine aN0 ?_|refine aD1 ?_|refine aD0 ?_|refine nE_ (fun hq=>?_) (fun hq=>?_)|refine nN_ (fun hq=>?_) (fun hq=>?_)|refine nD_ (fun hq=>?_) (fun hq=>?_)|refine rb1 ?_|refine rb0 ?_|refine rbx ?_|refine rix ?_|refine aS ?_|fail)
   repeat' ((conv=>whnf);first|exact trivial|refine qf mixed Try.func41 Go.ST4.l41 rfl rfl (rs:=[.tmp 2]) rfl 3100 (nlZ rfl) ?_|refine nT_ ?_|refine aE1 ?_|refine aE0 ?_|refine aN1 ?_|refine aN0 ?_|refine aD1 ?_|refine aD0 ?_|refine nE_ (fun hq=>?_) (fun hq=>?_)|refine nN_ (fun hq=>?_) (fun hq=>?_)|refine nD_ (fun hq=>?_) (fun hq=>?_)|refine rb1 ?_|refine rb0 ?_|refine rbx ?_|refine rix ?_|refine aS ?_|fail)
   repeat' ((conv=>whnf);first|exact trivial|refine qk _ (hput) ?_|refine nT_ ?_|refine aE1 ?_|refine aE0 ?_|refine aN1 ?_|refine aN0 ?_|refine aD1 ?_|refine aD0 ?_|refine nE_ (fun hq=>?_) (fun hq=>?_)|refine nN_ (fun hq=>?_) (fun hq=>?_)|refine nD_ (fun hq=>?_) (fun hq=>?_)|refine rb1 ?_|refine rb0 ?_|refine rbx ?_|refine rix ?_|refine aS ?_|fail)
   refine ⟨_,rfl,?_⟩
   repeat' ((conv=>whnf);first|exact trivial|refine qf mixed Try.func42 Go.ST4.l42 rfl rfl (rs:=[]) rfl 3200 (nlZ rfl) ?_|refine nT_ ?_|refine aE1 ?_|refine aE0 ?_|refine aN1 ?_|refine aN0 ?_|refine aD1 ?_|refine aD0 ?_|refine nE_ (fun hq=>?_) (fun hq=>?_)|refine nN_ (fun hq=>?_) (fun hq=>?_)|refine nD_ (fun hq=>?_) (fun hq=>?_)|refine rb1 ?_|refine rb0 ?_|refine rbx ?_|refine rix ?_|refine aS ?_|fail)
   repeat' ((conv=>whnf);first|exact trivial|refine qk _ (hF) ?_|refine nT_ ?_|refine aE1 ?_|refine aE0 ?_|refine aN1 ?_|refine aN0 ?_|refine aD1 ?_|refine aD0 ?_|refine nE_ (fun hq=>?_) (fun hq=>?_)|refine nN_ (fun hq=>?_) (fun hq=>?_)|refine nD_ (fun hq=>?_) (fun hq=>?_)|refine rb1 ?_|refine rb0 ?_|refine rbx ?_|refine rix ?_|refine aS ?_|fail)
   refine ⟨_,rfl,?_⟩
   repeat' ((conv=>whnf);first|exact trivial|refine nT_ ?_|refine aE1 ?_|refine aE0 ?_|refine aN1 ?_|refine aN0 ?_|refine aD1 ?_|refine aD0 ?_|refine nE_ (fun hq=>?_) (fun hq=>?_)|refine nN_ (fun hq=>?_) (fun hq=>?_)|refine nD_ (fun hq=>?_) (fun hq=>?_)|refine rb1 ?_|refine rb0 ?_|refine rbx ?_|refine rix ?_|refine aS ?_|fail)
   refine ⟨_,rfl,?_⟩
   repeat' ((conv=>whnf);first|exact trivial|(exact ⟨rfl,Or.inr ⟨rfl,by (repeat' (first|exact trivial|exact LeV.same _|exact LeB.same _|exact rfl|exact fun _ _ _=>trivial|exact lI|exact LeV.nil _ _ _|exact lB|refine qq ?_|refine qo ?_|refine And.intro ?_ ?_));done⟩⟩)|refine nT_ ?_|refine aE1 ?_|refine aE0 ?_|refine aN1 ?_|refine aN0 ?_|refine aD1 ?_|refine aD0 ?_|refine nE_ (fun hq=>?_) (fun hq=>?_)|refine nN_ (fun hq=>?_) (fun hq=>?_)|refine nD_ (fun hq=>?_) (fun hq=>?_)|refine rb1 ?_|refine rb0 ?_|refine rbx ?_|refine rix ?_|refine aS ?_|fail)
 |false=>
  have hN:N=qW o o.length n:=hN
  have hdis:(qD l field=true∧DCalls Try.prog 44 [fds l,.str field] (.tup [fdc l field,.bool true])∧DCalls Try.prog 66 [fdc l field] (I ((2^(fld l field).w - 1:Nat):Int))∧DCalls Try.prog 65 [fdc l field,hd [x0,x1,x2,x3,x4,x5,x6,x7,x8,x9],I (vt (fld l field).w N)] (hd [y0,y1,y2,y3,y4,y5,y6,y7,y8,y9]))∨
    (DCalls Try.prog 44 [fds l,.str field] (.tup [fdc l field,.bool false])∧[y0,y1,y2,y3,y4,y5,y6,y7,y8,y9]=[x0,x1,x2,x3,x4,x5,x6,x7,x8,x9]):=by
   cases hfo:qD l field with
   |true=>rw [hfo] at hF;exact Or.inl ⟨rfl,hF,hM hfo,hS hfo⟩
   |false=>rw [hfo] at hF;exact Or.inr ⟨hF,hno hfo⟩
  have hbigd:(N>m∧big=true)∨(¬ N>m∧big=false):=by
   by_cases c:N>m
   ·exact Or.inl ⟨c,by rw [hb,decide_eq_true c];rfl⟩
   ·exact Or.inr ⟨c,by rw [hb,decide_eq_false c];rfl⟩
  have hfulld:(((o.map qx).length:Int)≥100∧full=true)∨(¬ ((o.map qx).length:Int)≥100∧full=false):=by
   by_cases c:100≤o.length
   ·exact Or.inl ⟨by omega,by rw [hf,decide_eq_true c];rfl⟩
   ·exact Or.inr ⟨by omega,by rw [hf,decide_eq_false c];rfl⟩
  have hfree:=vA o n
  rw [← hN] at hfree
  clear hF hM hS hno hb hf
  repeat' ((conv=>whnf);first|exact trivial|refine WC.toM (qf mixed Try.func19 Go.ST4.l19 rfl rfl (rs:=[.tmp 2]) rfl 3000 (nlZ rfl) ?_)|refine nT_ ?_|refine aE1 ?_|refine aE0 ?_|refine aN1 ?_|refine aN0 ?_|refine aD1 ?_|refine aD0 ?_|refine nE_ (fun hq=>?_) (fun hq=>?_)|refine nN_ (fun hq=>?_) (fun hq=>?_)|refine nD_ (fun hq=>?_) (fun hq=>?_)|refine rb1 ?_|refine rb0 ?_|refine rbx ?_|refine rix ?_|refine aS ?_|fail)
  repeat' ((conv=>whnf);first|exact trivial|refine qk _ (hOf) ?_|refine nT_ ?_|refine aE1 ?_|refine aE0 ?_|refine aN1 ?_|refine aN0 ?_|refine aD1 ?_|refine aD0 ?_|refine nE_ (fun hq=>?_) (fun hq=>?_)|refine nN_ (fun hq=>?_) (fun hq=>?_)|refine nD_ (fun hq=>?_) (fun hq=>?_)|refine rb1 ?_|refine rb0 ?_|refine rbx ?_|refine rix ?_|refine aS ?_|fail)
  refine pX 0 (α:=Nat) (β:=Unit) (fun i=>{sl:=[(0,.ptr 37 0),(3,.mp 3019),(29,.t (esT o)),(30,.t (I o.length)),(31,.t (I i))],bx:=[(8,.d 10 [I x0,I x1,I x2,I x3,I x4,I x5,I x6,I x7,I x8,I x9]),(10,.d 10 z10),(3019,.m false [.int .i64] (esU (rq (o.take i))) none),(37,.d 24 (dL l ⟨4,var,key,field,n,m⟩ st x0 x1 x2 x3 x4 x5 x6 x7 x8 x9 tick ⟨e.var,e.key,e.n,tick⟩ false))],gh:=[(0,[(8,.ptr 8 0),(10,.ptr 10 0),(16,.ptr 37 0)])],off:=3000})
   (fun i=>i≤o.length) (fun i=>o.length - i)
   (fun _=>{sl:=[(0,.ptr 37 0),(3,.mp 3019)],bx:=[(8,.d 10 [I x0,I x1,I x2,I x3,I x4,I x5,I x6,I x7,I x8,I x9]),(10,.d 10 z10),(3019,.m false [.int .i64] (esU (rq o)) none),(37,.d 24 (dL l ⟨4,var,key,field,n,m⟩ st x0 x1 x2 x3 x4 x5 x6 x7 x8 x9 tick ⟨e.var,e.key,e.n,tick⟩ false))],gh:=[(0,[(8,.ptr 8 0),(10,.ptr 10 0),(16,.ptr 37 0)])],off:=3000}) (fun _=>True) 0 (Nat.zero_le _) ?_ ?_ ?_
  ·repeat' (first|(exact leI hoL.symm)|(exact vH rfl)|exact trivial|exact LeV.same _|exact LeB.same _|exact rfl|exact fun _ _ _=>trivial|exact lI|exact LeV.nil _ _ _|exact lB|refine qq ?_|refine qo ?_|refine And.intro ?_ ?_)
  ·rintro i hi
   rcases Nat.lt_or_ge i o.length with h|h
   ·have hlt:(i:Int)<(o.length:Int):=by omega
    have hnx:((i+1:Nat):Int)=IntKind.wrap .i64 ((i:Int)+1):=by rw [lS] <;> omega
    have hg:=qU h
    have hsn:esU (rq (o.take (i+1)))=bp (I o[i].n) (.bool true) (esU (rq (o.take i))):=by rw [wu,vJ o h]
    have hir:0≤(i:Int)∧(i:Int)<((o.map qx).length:Int):=by omega
    have hst:(o.map qx)[((i:Int)).toNat]?.getD .nil= .agg (qu o[i]):=by rw [Int.toNat_natCast];exact hg
    generalize o[i]=x at *
    have hko:aO false [.int .i64] (I x.n):=⟨rfl,rfl,trivial⟩
    repeat' ((conv=>whnf);first|exact trivial|refine pt hlt ?_|(refine nv_ (.agg (qu x)) (by first|exact hst|fail) ?_)|(exact ⟨i+1,h,(by omega),by (repeat' (first|(exact leI hnx)|(exact vH hsn)|exact trivial|exact LeV.same _|exact LeB.same _|exact rfl|exact fun _ _ _=>trivial|exact lI|exact LeV.nil _ _ _|exact lB|refine qq ?_|refine qo ?_|refine And.intro ?_ ?_));done⟩)|refine nT_ ?_|refine aE1 ?_|refine aE0 ?_|refine aN1 ?_|refine aN0 ?_|refine aD1 ?_|refine aD0 ?_|refine nE_ (fun hq=>?_) (fun hq=>?_)|refine nN_ (fun hq=>?_) (fun hq=>?_)|refine nD_ (fun hq=>?_) (fun hq=>?_)|refine rb1 ?_|refine rb0 ?_|refine rbx ?_|refine rix ?_|(refine And.intro (by first|exact hir|exact qw _|exact hko|fail) ?_)|refine aS ?_|fail)
   ·have hlt: ¬(i:Int)<(o.length:Int):=by omega
    have e0:esU (rq o)=esU (rq (o.take i)):=by rw [List.take_of_length_le h]
    repeat' ((conv=>whnf);first|exact trivial|refine pq hlt ?_|(exact ⟨(),trivial,by (repeat' (first|(exact vH e0)|exact trivial|exact LeV.same _|exact LeB.same _|exact rfl|exact fun _ _ _=>trivial|exact lI|exact LeV.nil _ _ _|exact lB|refine qq ?_|refine qo ?_|refine And.intro ?_ ?_));done⟩)|refine nT_ ?_|refine aE1 ?_|refine aE0 ?_|refine aN1 ?_|refine aN0 ?_|refine aD1 ?_|refine aD0 ?_|refine nE_ (fun hq=>?_) (fun hq=>?_)|refine nN_ (fun hq=>?_) (fun hq=>?_)|refine nD_ (fun hq=>?_) (fun hq=>?_)|refine rb1 ?_|refine rb0 ?_|refine rbx ?_|refine rix ?_|refine aS ?_|fail)
  ·rintro - -
   repeat' ((conv=>whnf);first|exact trivial|refine nT_ ?_|refine aE1 ?_|refine aE0 ?_|refine aN1 ?_|refine aN0 ?_|refine aD1 ?_|refine aD0 ?_|refine nE_ (fun hq=>?_) (fun hq=>?_)|refine nN_ (fun hq=>?_) (fun hq=>?_)|refine nD_ (fun hq=>?_) (fun hq=>?_)|refine rb1 ?_|refine rb0 ?_|refine rbx ?_|refine rix ?_|refine aS ?_|fail)
   refine pX 2 (α:=Nat) (β:=Unit) (fun j=>{sl:=[(0,.ptr 37 0),(3,.mp 3019)],bx:=[(8,.d 10 [I x0,I x1,I x2,I x3,I x4,I x5,I x6,I x7,I x8,I x9]),(10,.d 10 z10),(3019,.m false [.int .i64] (esU (rq o)) none),(37,.d 24 (dL l ⟨4,var,key,field,n,m⟩ st x0 x1 x2 x3 x4 x5 x6 x7 x8 x9 tick ⟨e.var,e.key,n+(j:Int),tick⟩ false))],gh:=[(0,[(8,.ptr 8 0),(10,.ptr 10 0),(16,.ptr 37 0)])],off:=3000})
    (fun j=>j≤o.length∧qW o (o.length - j) (n+j)=N) (fun j=>o.length - j)
    (fun _=>{sl:=[(0,.ptr 37 0)],bx:=[(8,.d 10 [I x0,I x1,I x2,I x3,I x4,I x5,I x6,I x7,I x8,I x9]),(10,.d 10 z10),(37,.d 24 (dL l ⟨4,var,key,field,n,m⟩ st x0 x1 x2 x3 x4 x5 x6 x7 x8 x9 tick ⟨e.var,e.key,N,tick⟩ false))],gh:=[(0,[(8,.ptr 8 0),(10,.ptr 10 0),(16,.ptr 37 0)])],off:=3000}) (fun _=>True) 0 ⟨Nat.zero_le _,by rw [hN];simp⟩ ?_ ?_ ?_
   ·have h0:(dL l ⟨4,var,key,field,n,m⟩ st x0 x1 x2 x3 x4 x5 x6 x7 x8 x9 tick ⟨e.var,e.key,n+((0:Nat):Int),tick⟩ false)=(dL l ⟨4,var,key,field,n,m⟩ st x0 x1 x2 x3 x4 x5 x6 x7 x8 x9 tick ⟨e.var,e.key,n,tick⟩ false):=by rw [show n+((0:Nat):Int)=n by omega]
    repeat' (first|(exact qq h0)|exact trivial|exact LeV.same _|exact LeB.same _|exact rfl|exact fun _ _ _=>trivial|exact lI|exact LeV.nil _ _ _|exact lB|refine qq ?_|refine qo ?_|refine And.intro ?_ ?_)
   ·rintro j ⟨hj,hfr⟩
    have hlook:mf (.bool false) false (dJ (I (n+(j:Int))).cells (esU (rq o)))= .bool (qT o (n+j)):=by rw [vh,vK]
    have hko:aO false [.int .i64] (I (n+(j:Int))):=⟨rfl,rfl,trivial⟩
    cases hu:qT o (n+j) with
    |true=>
     rw [hu] at hlook
     have hjl:j<o.length:=by
      rcases Nat.lt_or_ge j o.length with h|h
      ·exact h
      ·rw [show o.length - j=0 by omega] at hfr
       have:n+(j:Int)=N:=hfr
       rw [this,hfree] at hu;cases hu
     have hnext:qW o (o.length - (j+1)) (n+((j+1:Nat):Int))=N:=by
      rw [← hfr,show o.length - j=(o.length - (j+1))+1 by omega]
      conv=>rhs;unfold qW
      rw [if_pos hu,show n+((j+1:Nat):Int)=n+j+1 by omega]
     have hwr:n+((j+1:Nat):Int)=IntKind.wrap .i64 (n+(j:Int)+1):=by rw [lS (by omega) (by omega)];omega
     have hdl:(dL l ⟨4,var,key,field,n,m⟩ st x0 x1 x2 x3 x4 x5 x6 x7 x8 x9 tick ⟨e.var,e.key,n+((j+1:Nat):Int),tick⟩ false)=(dL l ⟨4,var,key,field,n,m⟩ st x0 x1 x2 x3 x4 x5 x6 x7 x8 x9 tick ⟨e.var,e.key,IntKind.wrap .i64 (n+(j:Int)+1),tick⟩ false):=by rw [hwr]
     repeat' ((conv=>whnf);first|exact trivial|(refine nv_ (.bool true) (by first|exact hlook|fail) ?_)|(exact ⟨j+1,⟨hjl,hnext⟩,(by omega),by (repeat' (first|(exact qq hdl)|exact trivial|exact LeV.same _|exact LeB.same _|exact rfl|exact fun _ _ _=>trivial|exact lI|exact LeV.nil _ _ _|exact lB|refine qq ?_|refine qo ?_|refine And.intro ?_ ?_));done⟩)|refine nT_ ?_|refine aE1 ?_|refine aE0 ?_|refine aN1 ?_|refine aN0 ?_|refine aD1 ?_|refine aD0 ?_|refine nE_ (fun hq=>?_) (fun hq=>?_)|refine nN_ (fun hq=>?_) (fun hq=>?_)|refine nD_ (fun hq=>?_) (fun hq=>?_)|refine rb1 ?_|refine rb0 ?_|refine rbx ?_|refine rix ?_|(refine And.intro (by first|exact hko|fail) ?_)|refine aS ?_|fail)
    |false=>
     rw [hu] at hlook
     have hNj:N=n+(j:Int):=by
      rw [← hfr]
      cases hq:o.length - j with
      |zero=>rfl
      |succ q=>unfold qW;rw [if_neg (by rw [hu];simp)]
     have hdl:(dL l ⟨4,var,key,field,n,m⟩ st x0 x1 x2 x3 x4 x5 x6 x7 x8 x9 tick ⟨e.var,e.key,N,tick⟩ false)=(dL l ⟨4,var,key,field,n,m⟩ st x0 x1 x2 x3 x4 x5 x6 x7 x8 x9 tick ⟨e.var,e.key,n+(j:Int),tick⟩ false):=by rw [hNj]
     repeat' ((conv=>whnf);first|exact trivial|(refine nv_ (.bool false) (by first|exact hlook|fail) ?_)|(exact ⟨(),trivial,by (repeat' (first|(exact qq hdl)|exact trivial|exact LeV.same _|exact LeB.same _|exact rfl|exact fun _ _ _=>trivial|exact lI|exact LeV.nil _ _ _|exact lB|refine qq ?_|refine qo ?_|refine And.intro ?_ ?_));done⟩)|refine nT_ ?_|refine aE1 ?_|refine aE0 ?_|refine aN1 ?_|refine aN0 ?_|refine aD1 ?_|refine aD0 ?_|refine nE_ (fun hq=>?_) (fun hq=>?_)|refine nN_ (fun hq=>?_) (fun hq=>?_)|refine nD_ (fun hq=>?_) (fun hq=>?_)|refine rb1 ?_|refine rb0 ?_|refine rbx ?_|refine rix ?_|(refine And.intro (by first|exact hko|fail) ?_)|refine aS ?_|fail)
   ·rintro - -
    rcases hbigd with ⟨c1,rfl⟩|⟨c1,rfl⟩
    ·repeat' ((conv=>whnf);first|exact trivial|refine pt c1 ?_|refine nT_ ?_|refine aE1 ?_|refine aE0 ?_|refine aN1 ?_|refine aN0 ?_|refine aD1 ?_|refine aD0 ?_|refine nE_ (fun hq=>?_) (fun hq=>?_)|refine nN_ (fun hq=>?_) (fun hq=>?_)|refine nD_ (fun hq=>?_) (fun hq=>?_)|refine rb1 ?_|refine rb0 ?_|refine rbx ?_|refine rix ?_|refine aS ?_|fail)
     refine ⟨_,rfl,?_⟩
     repeat' ((conv=>whnf);first|exact trivial|(exact ⟨rfl,Or.inl ⟨Bool.or_true _,by (repeat' (first|exact trivial|exact LeV.same _|exact LeB.same _|exact rfl|exact fun _ _ _=>trivial|exact lI|exact LeV.nil _ _ _|exact lB|refine qq ?_|refine qo ?_|refine And.intro ?_ ?_));done⟩⟩)|refine nT_ ?_|refine aE1 ?_|refine aE0 ?_|refine aN1 ?_|refine aN0 ?_|refine aD1 ?_|refine aD0 ?_|refine nE_ (fun hq=>?_) (fun hq=>?_)|refine nN_ (fun hq=>?_) (fun hq=>?_)|refine nD_ (fun hq=>?_) (fun hq=>?_)|refine rb1 ?_|refine rb0 ?_|refine rbx ?_|refine rix ?_|refine aS ?_|fail)
    ·rcases hfulld with ⟨c3,rfl⟩|⟨c3,rfl⟩
     ·repeat' ((conv=>whnf);first|exact trivial|refine pq c1 ?_|refine qf mixed Try.func41 Go.ST4.l41 rfl rfl (rs:=[.tmp 2]) rfl 3100 (nlZ rfl) ?_|refine nT_ ?_|refine aE1 ?_|refine aE0 ?_|refine aN1 ?_|refine aN0 ?_|refine aD1 ?_|refine aD0 ?_|refine nE_ (fun hq=>?_) (fun hq=>?_)|refine nN_ (fun hq=>?_) (fun hq=>?_)|refine nD_ (fun hq=>?_) (fun hq=>?_)|refine rb1 ?_|refine rb0 ?_|refine rbx ?_|refine rix ?_|refine aS ?_|fail)
      repeat' ((conv=>whnf);first|exact trivial|refine qk _ (hOf) ?_|refine pt c3 ?_|refine nT_ ?_|refine aE1 ?_|refine aE0 ?_|refine aN1 ?_|refine aN0 ?_|refine aD1 ?_|refine aD0 ?_|refine nE_ (fun hq=>?_) (fun hq=>?_)|refine nN_ (fun hq=>?_) (fun hq=>?_)|refine nD_ (fun hq=>?_) (fun hq=>?_)|refine rb1 ?_|refine rb0 ?_|refine rbx ?_|refine rix ?_|refine aS ?_|fail)
      refine ⟨_,rfl,?_⟩
      repeat' ((conv=>whnf);first|exact trivial|refine nT_ ?_|refine aE1 ?_|refine aE0 ?_|refine aN1 ?_|refine aN0 ?_|refine aD1 ?_|refine aD0 ?_|refine nE_ (fun hq=>?_) (fun hq=>?_)|refine nN_ (fun hq=>?_) (fun hq=>?_)|refine nD_ (fun hq=>?_) (fun hq=>?_)|refine rb1 ?_|refine rb0 ?_|refine rbx ?_|refine rix ?_|refine aS ?_|fail)
      refine ⟨_,rfl,?_⟩
      repeat' ((conv=>whnf);first|exact trivial|(exact ⟨rfl,Or.inl ⟨rfl,by (repeat' (first|exact trivial|exact LeV.same _|exact LeB.same _|exact rfl|exact fun _ _ _=>trivial|exact lI|exact LeV.nil _ _ _|exact lB|refine qq ?_|refine qo ?_|refine And.intro ?_ ?_));done⟩⟩)|refine nT_ ?_|refine aE1 ?_|refine aE0 ?_|refine aN1 ?_|refine aN0 ?_|refine aD1 ?_|refine aD0 ?_|refine nE_ (fun hq=>?_) (fun hq=>?_)|refine nN_ (fun hq=>?_) (fun hq=>?_)|refine nD_ (fun hq=>?_) (fun hq=>?_)|refine rb1 ?_|refine rb0 ?_|refine rbx ?_|refine rix ?_|refine aS ?_|fail)
     ·rcases hdis with ⟨-,hF,hM,hS⟩|⟨hF,hno⟩
      ·repeat' ((conv=>whnf);first|exact trivial|refine pq c1 ?_|refine qf mixed Try.func41 Go.ST4.l41 rfl rfl (rs:=[.tmp 2]) rfl 3100 (nlZ rfl) ?_|refine nT_ ?_|refine aE1 ?_|refine aE0 ?_|refine aN1 ?_|refine aN0 ?_|refine aD1 ?_|refine aD0 ?_|refine nE_ (fun hq=>?_) (fun hq=>?_)|refine nN_ (fun hq=>?_) (fun hq=>?_)|refine nD_ (fun hq=>?_) (fun hq=>?_)|refine rb1 ?_|refine rb0 ?_|refine rbx ?_|refine rix ?_|refine aS ?_|fail)
       repeat' ((conv=>whnf);first|exact trivial|refine qk _ (hOf) ?_|refine pq c3 ?_|refine qk _ (hput) ?_|refine nT_ ?_|refine aE1 ?_|refine aE0 ?_|refine aN1 ?_|refine aN0 ?_|refine aD1 ?_|refine aD0 ?_|refine nE_ (fun hq=>?_) (fun hq=>?_)|refine nN_ (fun hq=>?_) (fun hq=>?_)|refine nD_ (fun hq=>?_) (fun hq=>?_)|refine rb1 ?_|refine rb0 ?_|refine rbx ?_|refine rix ?_|refine aS ?_|fail)
       refine ⟨_,rfl,?_⟩
       repeat' ((conv=>whnf);first|exact trivial|refine qf mixed Try.func42 Go.ST4.l42 rfl rfl (rs:=[]) rfl 3200 (nlZ rfl) ?_|refine nT_ ?_|refine aE1 ?_|refine aE0 ?_|refine aN1 ?_|refine aN0 ?_|refine aD1 ?_|refine aD0 ?_|refine nE_ (fun hq=>?_) (fun hq=>?_)|refine nN_ (fun hq=>?_) (fun hq=>?_)|refine nD_ (fun hq=>?_) (fun hq=>?_)|refine rb1 ?_|refine rb0 ?_|refine rbx ?_|refine rix ?_|refine aS ?_|fail)
       repeat' ((conv=>whnf);first|exact trivial|refine qk _ (hF) ?_|refine qk _ (hM) ?_|refine qk _ (hS) ?_|refine nT_ ?_|refine aE1 ?_|refine aE0 ?_|refine aN1 ?_|refine aN0 ?_|refine aD1 ?_|refine aD0 ?_|refine nE_ (fun hq=>?_) (fun hq=>?_)|refine nN_ (fun hq=>?_) (fun hq=>?_)|refine nD_ (fun hq=>?_) (fun hq=>?_)|refine rb1 ?_|refine rb0 ?_|refine rbx ?_|refine rix ?_|refine aS ?_|fail)
       refine ⟨_,rfl,?_⟩
       repeat' ((conv=>whnf);first|exact trivial|refine nT_ ?_|refine aE1 ?_|refine aE0 ?_|refine aN1 ?_|refine aN0 ?_|refine aD1 ?_|refine aD0 ?_|refine nE_ (fun hq=>?_) (fun hq=>?_)|refine nN_ (fun hq=>?_) (fun hq=>?_)|refine nD_ (fun hq=>?_) (fun hq=>?_)|refine rb1 ?_|refine rb0 ?_|refine rbx ?_|refine rix ?_|refine aS ?_|fail)
       refine ⟨_,rfl,?_⟩
       repeat' ((conv=>whnf);first|exact trivial|(exact ⟨rfl,Or.inr ⟨rfl,by (repeat' (first|exact trivial|exact LeV.same _|exact LeB.same _|exact rfl|exact fun _ _ _=>trivial|exact lI|exact LeV.nil _ _ _|exact lB|refine qq ?_|refine qo ?_|refine And.intro ?_ ?_));done⟩⟩)|refine nT_ ?_|refine aE1 ?_|refine aE0 ?_|refine aN1 ?_|refine aN0 ?_|refine aD1 ?_|refine aD0 ?_|refine nE_ (fun hq=>?_) (fun hq=>?_)|refine nN_ (fun hq=>?_) (fun hq=>?_)|refine nD_ (fun hq=>?_) (fun hq=>?_)|refine rb1 ?_|refine rb0 ?_|refine rbx ?_|refine rix ?_|refine aS ?_|fail)
      ·cases hno
       repeat' ((conv=>whnf);first|exact trivial|refine pq c1 ?_|refine qf mixed Try.func41 Go.ST4.l41 rfl rfl (rs:=[.tmp 2]) rfl 3100 (nlZ rfl) ?_|refine nT_ ?_|refine aE1 ?_|refine aE0 ?_|refine aN1 ?_|refine aN0 ?_|refine aD1 ?_|refine aD0 ?_|refine nE_ (fun hq=>?_) (fun hq=>?_)|refine nN_ (fun hq=>?_) (fun hq=>?_)|refine nD_ (fun hq=>?_) (fun hq=>?_)|refine rb1 ?_|refine rb0 ?_|refine rbx ?_|refine rix ?_|refine aS ?_|fail)
       repeat' ((conv=>whnf);first|exact trivial|refine qk _ (hOf) ?_|refine pq c3 ?_|refine qk _ (hput) ?_|refine nT_ ?_|refine aE1 ?_|refine aE0 ?_|refine aN1 ?_|refine aN0 ?_|refine aD1 ?_|refine aD0 ?_|refine nE_ (fun hq=>?_) (fun hq=>?_)|refine nN_ (fun hq=>?_) (fun hq=>?_)|refine nD_ (fun hq=>?_) (fun hq=>?_)|refine rb1 ?_|refine rb0 ?_|refine rbx ?_|refine rix ?_|refine aS ?_|fail)
       refine ⟨_,rfl,?_⟩
       repeat' ((conv=>whnf);first|exact trivial|refine qf mixed Try.func42 Go.ST4.l42 rfl rfl (rs:=[]) rfl 3200 (nlZ rfl) ?_|refine nT_ ?_|refine aE1 ?_|refine aE0 ?_|refine aN1 ?_|refine aN0 ?_|refine aD1 ?_|refine aD0 ?_|refine nE_ (fun hq=>?_) (fun hq=>?_)|refine nN_ (fun hq=>?_) (fun hq=>?_)|refine nD_ (fun hq=>?_) (fun hq=>?_)|refine rb1 ?_|refine rb0 ?_|refine rbx ?_|refine rix ?_|refine aS ?_|fail)
       repeat' ((conv=>whnf);first|exact trivial|refine qk _ (hF) ?_|refine nT_ ?_|refine aE1 ?_|refine aE0 ?_|refine aN1 ?_|refine aN0 ?_|refine aD1 ?_|refine aD0 ?_|refine nE_ (fun hq=>?_) (fun hq=>?_)|refine nN_ (fun hq=>?_) (fun hq=>?_)|refine nD_ (fun hq=>?_) (fun hq=>?_)|refine rb1 ?_|refine rb0 ?_|refine rbx ?_|refine rix ?_|refine aS ?_|fail)
       refine ⟨_,rfl,?_⟩
       repeat' ((conv=>whnf);first|exact trivial|refine nT_ ?_|refine aE1 ?_|refine aE0 ?_|refine aN1 ?_|refine aN0 ?_|refine aD1 ?_|refine aD0 ?_|refine nE_ (fun hq=>?_) (fun hq=>?_)|refine nN_ (fun hq=>?_) (fun hq=>?_)|refine nD_ (fun hq=>?_) (fun hq=>?_)|refine rb1 ?_|refine rb0 ?_|refine rbx ?_|refine rix ?_|refine aS ?_|fail)
       refine ⟨_,rfl,?_⟩
       repeat' ((conv=>whnf);first|exact trivial|(exact ⟨rfl,Or.inr ⟨rfl,by (repeat' (first|exact trivial|exact LeV.same _|exact LeB.same _|exact rfl|exact fun _ _ _=>trivial|exact lI|exact LeV.nil _ _ _|exact lB|refine qq ?_|refine qo ?_|refine And.intro ?_ ?_));done⟩⟩)|refine nT_ ?_|refine aE1 ?_|refine aE0 ?_|refine aN1 ?_|refine aN0 ?_|refine aD1 ?_|refine aD0 ?_|refine nE_ (fun hq=>?_) (fun hq=>?_)|refine nN_ (fun hq=>?_) (fun hq=>?_)|refine nD_ (fun hq=>?_) (fun hq=>?_)|refine rb1 ?_|refine rb0 ?_|refine rbx ?_|refine rix ?_|refine aS ?_|fail)
end Go.ST
end
section
namespace Go.ST
open Go Go.DL Go.MM Go.Proofs
open Go.TY hiding Fd
variable {l:List Fd} {s:RS} {st st':List RE} {x0 x1 x2 x3 x4 x5 x6 x7 x8 x9 y0 y1 y2 y3 y4 y5 y6 y7 y8 y9 tick:Int} {e e':RE} {is pass:Bool}
attribute [local irreducible] bJ WCM YC
theorem yG {s':St} (hw:bK (S1 l s x0 x1 x2 x3 x4 x5 x6 x7 x8 x9 tick is st' y0 y1 y2 y3 y4 y5 y6 y7 y8 y9 e' pass) s') (r:List T)
  (hr:r=[hd (if pass then [y0,y1,y2,y3,y4,y5,y6,y7,y8,y9] else [x0,x1,x2,x3,x4,x5,x6,x7,x8,x9]),.bool pass,esT st']):
  bJ Try.prog 84 Go.ST3.uQ s' (fun e s=>match e with
   |.normal=>bJ Try.prog 84 Go.ST3.uR s (pK Try.prog [.cell 10 33,.tmp 11,.tmp 12] r)
   |.exit id=>pK Try.prog [.cell 10 33,.tmp 11,.tmp 12] r (.exit id) s
   |.ret=>pK Try.prog [.cell 10 33,.tmp 11,.tmp 12] r .ret s):=by
 subst hr
 refine bJ.bK hw (Go.ST3.zY ?_)
 cases pass with
 |false=>
  repeat' ((conv=>whnf);first|exact trivial|refine nT_ ?_|refine aE1 ?_|refine aE0 ?_|refine aN1 ?_|refine aN0 ?_|refine aD1 ?_|refine aD0 ?_|refine nE_ (fun hq=>?_) (fun hq=>?_)|refine nN_ (fun hq=>?_) (fun hq=>?_)|refine nD_ (fun hq=>?_) (fun hq=>?_)|refine rb1 ?_|refine rb0 ?_|refine rbx ?_|refine rix ?_|refine aS ?_|fail)
  refine ⟨?_,fun _ _=>trivial⟩
  repeat' ((conv=>whnf);first|exact trivial|refine nT_ ?_|refine aE1 ?_|refine aE0 ?_|refine aN1 ?_|refine aN0 ?_|refine aD1 ?_|refine aD0 ?_|refine nE_ (fun hq=>?_) (fun hq=>?_)|refine nN_ (fun hq=>?_) (fun hq=>?_)|refine nD_ (fun hq=>?_) (fun hq=>?_)|refine rb1 ?_|refine rb0 ?_|refine rbx ?_|refine rix ?_|refine aS ?_|fail)
 |true=>
  repeat' ((conv=>whnf);first|exact trivial|refine nT_ ?_|refine aE1 ?_|refine aE0 ?_|refine aN1 ?_|refine aN0 ?_|refine aD1 ?_|refine aD0 ?_|refine nE_ (fun hq=>?_) (fun hq=>?_)|refine nN_ (fun hq=>?_) (fun hq=>?_)|refine nD_ (fun hq=>?_) (fun hq=>?_)|refine rb1 ?_|refine rb0 ?_|refine rbx ?_|refine rix ?_|refine aS ?_|fail)
  refine Go.ST3.zZ ?_
  repeat' ((conv=>whnf);first|exact trivial|refine nT_ ?_|refine aE1 ?_|refine aE0 ?_|refine aN1 ?_|refine aN0 ?_|refine aD1 ?_|refine aD0 ?_|refine nE_ (fun hq=>?_) (fun hq=>?_)|refine nN_ (fun hq=>?_) (fun hq=>?_)|refine nD_ (fun hq=>?_) (fun hq=>?_)|refine rb1 ?_|refine rb0 ?_|refine rbx ?_|refine rix ?_|refine aS ?_|fail)
  refine ⟨?_,fun _ _=>trivial⟩
  repeat' ((conv=>whnf);first|exact trivial|refine nT_ ?_|refine aE1 ?_|refine aE0 ?_|refine aN1 ?_|refine aN0 ?_|refine aD1 ?_|refine aD0 ?_|refine nE_ (fun hq=>?_) (fun hq=>?_)|refine nN_ (fun hq=>?_) (fun hq=>?_)|refine nD_ (fun hq=>?_) (fun hq=>?_)|refine rb1 ?_|refine rb0 ?_|refine rbx ?_|refine rix ?_|refine aS ?_|fail)
theorem zD (hlk:LOk l) {h:List Int} (hh:HOk h) (hkeys: ∀k∈s.key,qD l k=true) (hkl:s.key.length≤1000) (hinc:qH st) (hlen:st.length<2^40) (hko: ∀x∈st,kOk x) (hk0:s.kind≠0)
  (f:Option RE) (hf:f=qK st s.var (keyOf l s.key h)) (r:List T)
  (hk: ∀(x0 x1 x2 x3 x4 x5 x6 x7 x8 x9:Int),h=[x0,x1,x2,x3,x4,x5,x6,x7,x8,x9]→ ∃(st':List RE) (y0 y1 y2 y3 y4 y5 y6 y7 y8 y9:Int) (e':RE) (pass:Bool),
   bJ Try.prog 84 Go.ST3.rO (S0 l s st x0 x1 x2 x3 x4 x5 x6 x7 x8 x9 tick (f.getD ⟨s.var,keyOf l s.key h,0,0⟩) f.isSome).mk' (fun ex s'=>ex= .normal∧bK (S1 l s x0 x1 x2 x3 x4 x5 x6 x7 x8 x9 tick f.isSome st' y0 y1 y2 y3 y4 y5 y6 y7 y8 y9 e' pass) s')∧
   r=[hd (if pass then [y0,y1,y2,y3,y4,y5,y6,y7,y8,y9] else [x0,x1,x2,x3,x4,x5,x6,x7,x8,x9]),.bool pass,esT st']):
  DCalls Try.prog 6 [fds l,r6 s,esT st,hd h,I tick] (kL r):=by
 refine pO Try.func6 Go.ST3.hb6 rfl (r:=r) (nlZ rfl) ?_
 rw [show Try.f6.ntmps=84 from rfl,show Try.f6.results.toList=[.cell 10 33,.tmp 11,.tmp 12] from rfl,Go.ST3.k6]
 have hKey:=zF l hlk s.key hkeys (by omega) h hh
 have hkol:(keyOf l s.key h).length<2^60:=by unfold keyOf;rw [List.length_map];omega
 have hFind:=zf st hinc hlen hko s.var (keyOf l s.key h) hkol
 rw [← hf] at hFind
 obtain ⟨x0,x1,x2,x3,x4,x5,x6,x7,x8,x9,rfl⟩:=ten hh
 obtain ⟨st',y0,y1,y2,y3,y4,y5,y6,y7,y8,y9,e',pass,hrun,hr⟩:=hk x0 x1 x2 x3 x4 x5 x6 x7 x8 x9 rfl
 have hrun2: ∀s0:St,bK (S0 l s st x0 x1 x2 x3 x4 x5 x6 x7 x8 x9 tick (f.getD ⟨s.var,keyOf l s.key [x0,x1,x2,x3,x4,x5,x6,x7,x8,x9],0,0⟩) f.isSome) s0→bJ Try.prog 84 (.seq (.seq Go.ST3.rO Go.ST3.uQ) Go.ST3.uR) s0 (pK Try.prog [.cell 10 33,.tmp 11,.tmp 12] r):=by
  intro s0 hw
  refine bJ.bK hw (bJ.seq (bJ.seq (bJ.mono hrun ?_)))
  rintro ex s' ⟨rfl,hw'⟩
  exact yG hw' r hr
 clear hrun hk
 generalize keyOf l s.key [x0,x1,x2,x3,x4,x5,x6,x7,x8,x9]=ky at *
 obtain ⟨kk,var,key,field,n,m⟩:=s
 dsimp only at *
 refine bJ.seq (Go.ST3.yO ?_)
 repeat' ((conv=>whnf);first|exact trivial|refine nT_ ?_|refine aE1 ?_|refine aE0 ?_|refine aN1 ?_|refine aN0 ?_|refine aD1 ?_|refine aD0 ?_|refine nE_ (fun hq=>?_) (fun hq=>?_)|refine nN_ (fun hq=>?_) (fun hq=>?_)|refine nD_ (fun hq=>?_) (fun hq=>?_)|refine rb1 ?_|refine rb0 ?_|refine rbx ?_|refine rix ?_|refine aS ?_|fail)
 refine bJ.seq (Go.ST3.yP ?_)
 repeat' ((conv=>whnf);first|exact trivial|refine px hk0 ?_|refine nT_ ?_|refine aE1 ?_|refine aE0 ?_|refine aN1 ?_|refine aN0 ?_|refine aD1 ?_|refine aD0 ?_|refine nE_ (fun hq=>?_) (fun hq=>?_)|refine nN_ (fun hq=>?_) (fun hq=>?_)|refine nD_ (fun hq=>?_) (fun hq=>?_)|refine rb1 ?_|refine rb0 ?_|refine rbx ?_|refine rix ?_|refine aS ?_|fail)
 refine bJ.seq (Go.ST3.zT ?_)
 repeat' ((conv=>whnf);first|exact trivial|refine nT_ ?_|refine aE1 ?_|refine aE0 ?_|refine aN1 ?_|refine aN0 ?_|refine aD1 ?_|refine aD0 ?_|refine nE_ (fun hq=>?_) (fun hq=>?_)|refine nN_ (fun hq=>?_) (fun hq=>?_)|refine nD_ (fun hq=>?_) (fun hq=>?_)|refine rb1 ?_|refine rb0 ?_|refine rbx ?_|refine rix ?_|refine aS ?_|fail)
 refine bJ.seq (Go.ST3.zU ?_)
 repeat' ((conv=>whnf);first|exact trivial|refine qk _ (hKey) ?_|refine nT_ ?_|refine aE1 ?_|refine aE0 ?_|refine aN1 ?_|refine aN0 ?_|refine aD1 ?_|refine aD0 ?_|refine nE_ (fun hq=>?_) (fun hq=>?_)|refine nN_ (fun hq=>?_) (fun hq=>?_)|refine nD_ (fun hq=>?_) (fun hq=>?_)|refine rb1 ?_|refine rb0 ?_|refine rbx ?_|refine rix ?_|refine aS ?_|fail)
 refine bJ.seq (Go.ST3.zW ?_)
 repeat' ((conv=>whnf);first|exact trivial|refine nT_ ?_|refine aE1 ?_|refine aE0 ?_|refine aN1 ?_|refine aN0 ?_|refine aD1 ?_|refine aD0 ?_|refine nE_ (fun hq=>?_) (fun hq=>?_)|refine nN_ (fun hq=>?_) (fun hq=>?_)|refine nD_ (fun hq=>?_) (fun hq=>?_)|refine rb1 ?_|refine rb0 ?_|refine rbx ?_|refine rix ?_|refine aS ?_|fail)
 refine bJ.seq (Go.ST3.zX ?_)
 cases f with
 |none=>
  repeat' ((conv=>whnf);first|exact trivial|refine qk _ (hFind) ?_|refine nT_ ?_|refine aE1 ?_|refine aE0 ?_|refine aN1 ?_|refine aN0 ?_|refine aD1 ?_|refine aD0 ?_|refine nE_ (fun hq=>?_) (fun hq=>?_)|refine nN_ (fun hq=>?_) (fun hq=>?_)|refine nD_ (fun hq=>?_) (fun hq=>?_)|refine rb1 ?_|refine rb0 ?_|refine rbx ?_|refine rix ?_|refine aS ?_|fail)
  refine hrun2 _ ?_
  repeat' (first|exact trivial|exact LeV.same _|exact LeB.same _|exact rfl|exact fun _ _ _=>trivial|exact lI|exact LeV.nil _ _ _|exact lB|refine qq ?_|refine qo ?_|refine And.intro ?_ ?_)
 |some x=>
  repeat' ((conv=>whnf);first|exact trivial|refine qk _ (hFind) ?_|refine nT_ ?_|refine aE1 ?_|refine aE0 ?_|refine aN1 ?_|refine aN0 ?_|refine aD1 ?_|refine aD0 ?_|refine nE_ (fun hq=>?_) (fun hq=>?_)|refine nN_ (fun hq=>?_) (fun hq=>?_)|refine nD_ (fun hq=>?_) (fun hq=>?_)|refine rb1 ?_|refine rb0 ?_|refine rbx ?_|refine rix ?_|refine aS ?_|fail)
  refine hrun2 _ ?_
  repeat' (first|exact trivial|exact LeV.same _|exact LeB.same _|exact rfl|exact fun _ _ _=>trivial|exact lI|exact LeV.nil _ _ _|exact lB|refine qq ?_|refine qo ?_|refine And.intro ?_ ?_)
end Go.ST
end
section
namespace Go.ST
open Go Go.DL Go.MM Go.Proofs
open Go.TY hiding Fd
attribute [local irreducible] bJ WCM YC
abbrev dnT (d:Dn):T:=.tup [hd d.h,.bool d.pass,esT d.st]
theorem ti {α:Type} (f:Option α):f.isNone= !f.isSome:=by cases f <;> rfl
theorem zC {l:List Fd} {s:RS} {st:List RE} {h:List Int} {tick:Int} (hh:HOk h) (hk0:s.kind=0):DCalls Try.prog 6 [fds l,r6 s,esT st,hd h,I tick] (dnT (doE l s st h tick)):=by
 have hd0:doE l s st h tick=⟨h,true,st⟩:=by unfold doE tP doR;rw [if_pos hk0];rfl
 rw [hd0]
 refine pO Try.func6 Go.ST3.hb6 rfl (r:=[hd h,.bool true,esT st]) (nlZ rfl) ?_
 rw [show Try.f6.ntmps=84 from rfl,show Try.f6.results.toList=[.cell 10 33,.tmp 11,.tmp 12] from rfl,Go.ST3.k6]
 obtain ⟨x0,x1,x2,x3,x4,x5,x6,x7,x8,x9,rfl⟩:=ten hh
 obtain ⟨kk,var,key,field,n,m⟩:=s
 dsimp only at hk0
 refine bJ.seq (Go.ST3.yO ?_)
 repeat' ((conv=>whnf);first|exact trivial|refine nT_ ?_|refine aE1 ?_|refine aE0 ?_|refine aN1 ?_|refine aN0 ?_|refine aD1 ?_|refine aD0 ?_|refine nE_ (fun hq=>?_) (fun hq=>?_)|refine nN_ (fun hq=>?_) (fun hq=>?_)|refine nD_ (fun hq=>?_) (fun hq=>?_)|refine rb1 ?_|refine rb0 ?_|refine rbx ?_|refine rix ?_|refine aS ?_|fail)
 refine bJ.seq (Go.ST3.yP ?_)
 repeat' ((conv=>whnf);first|exact trivial|refine py hk0 ?_|refine nT_ ?_|refine aE1 ?_|refine aE0 ?_|refine aN1 ?_|refine aN0 ?_|refine aD1 ?_|refine aD0 ?_|refine nE_ (fun hq=>?_) (fun hq=>?_)|refine nN_ (fun hq=>?_) (fun hq=>?_)|refine nD_ (fun hq=>?_) (fun hq=>?_)|refine rb1 ?_|refine rb0 ?_|refine rbx ?_|refine rix ?_|refine aS ?_|fail)
 refine ⟨?_,fun _ _=>trivial⟩
 repeat' ((conv=>whnf);first|exact trivial|refine nT_ ?_|refine aE1 ?_|refine aE0 ?_|refine aN1 ?_|refine aN0 ?_|refine aD1 ?_|refine aD0 ?_|refine nE_ (fun hq=>?_) (fun hq=>?_)|refine nN_ (fun hq=>?_) (fun hq=>?_)|refine nD_ (fun hq=>?_) (fun hq=>?_)|refine rb1 ?_|refine rb0 ?_|refine rbx ?_|refine rix ?_|refine aS ?_|fail)
theorem yt (s:RS) (v:ByteArray) (ky:List Int) {tick en ea:Int} (_:1≤s.n∧s.n≤65535) (hm:1≤s.m∧s.m≤1073741824) (ht:0≤tick∧tick≤1073741824) (he:0≤en∧en≤65535) (ha:0≤ea∧ea≤1073741824):
  xC s.n s.m tick en ea=((rH s ⟨v,ky,en,ea⟩ tick).n,(rH s ⟨v,ky,en,ea⟩ tick).at_):=by
 obtain ⟨m,hmm⟩: ∃m,m=s.m:=⟨_,rfl⟩
 have h1:W64 (tick - ea)=tick - ea:=lS (by omega) (by omega)
 have h2:qR tick ea s.m=if tick>ea then (tick - ea).tdiv s.m else 0:=by
  unfold qR
  rw [h1]
  by_cases c:tick>ea
  ·rw [if_pos (show tick - ea>0 by omega),if_pos c]
   have b1:0≤(tick - ea).tdiv s.m:=Int.tdiv_nonneg (by omega) (by omega)
   have b2:(tick - ea).tdiv s.m≤tick - ea:=Int.tdiv_le_self _ (by omega)
   exact lS (by omega) (by omega)
  ·rw [if_neg (show ¬tick - ea>0 by omega),if_neg c,Int.zero_tdiv]
   exact lS (by omega) (by omega)
 have h3:0≤qR tick ea s.m∧qR tick ea s.m≤1073741824∧qR tick ea s.m * s.m≤1073741824∧0≤qR tick ea s.m * s.m:=by
  rw [h2]
  split
  ·have b1:0≤(tick - ea).tdiv s.m:=Int.tdiv_nonneg (by omega) (by omega)
   have b2:(tick - ea).tdiv s.m≤tick - ea:=Int.tdiv_le_self _ (by omega)
   have b3:(tick - ea).tdiv s.m * s.m≤tick - ea:=by
    rw [Int.tdiv_eq_ediv_of_nonneg (by omega)]
    exact Int.ediv_mul_le _ (by omega)
   have b4:0≤(tick - ea).tdiv s.m * s.m:=Int.mul_nonneg b1 (by omega)
   omega
  ·simp
 unfold xC
 generalize qR tick ea s.m=k at *
 have h4:W64 (en+k)=en+k:=lS (by omega) (by omega)
 have h5:W64 (k * s.m)=k * s.m:=lS (by omega) (by omega)
 have h6:W64 (ea+k * s.m)=ea+k * s.m:=lS (by omega) (by omega)
 unfold rH
 dsimp only
 rw [h4,h5,h6, ←h2]
 split <;> rfl
theorem ze {l:List Fd} {s:RS} {st:List RE} {h:List Int} {tick:Int} (p:uo l s st h tick) (hko: ∀x∈st,kOk x):DCalls Try.prog 6 [fds l,r6 s,esT st,hd h,I tick] (dnT (doE l s st h tick)):=by
 by_cases hk0:s.kind=0
 ·exact zC p.hok hk0
 obtain ⟨f,hf⟩: ∃f,f=qK st s.var (keyOf l s.key h):=⟨_,rfl⟩
 obtain ⟨o,ho⟩: ∃o,o=ofE st s.var:=⟨_,rfl⟩
 obtain ⟨e,he⟩: ∃e,e=f.getD ⟨s.var,keyOf l s.key h,0,0⟩:=⟨_,rfl⟩
 have hlen:=p.len
 have hol:o.length≤1000000:=by rw [ho];exact Nat.le_trans (List.length_filter_le _ _) hlen
 have hkol:(keyOf l s.key h).length≤1000:=by unfold keyOf;rw [List.length_map];exact p.klen
 have hOf:=Aq st s.var (by omega)
 rw [show ofE st s.var=o from ho.symm] at hOf
 have hev:e.var=s.var∧e.key=keyOf l s.key h∧0≤e.n∧e.n≤65535∧0≤e.at_∧e.at_≤1073741824:=by
  cases f with
  |none=>rw [he];exact ⟨rfl,rfl,Int.le_refl 0,(by show (0:Int)≤65535;omega),Int.le_refl 0,(by show (0:Int)≤1073741824;omega)⟩
  |some x=>
   rw [he]
   obtain ⟨h1,h2,h3⟩:=rP hf.symm
   exact ⟨h2,h3,p.num x h1⟩
 obtain ⟨he1,he2,he3,he4,he5,he6⟩:=hev
 have hput: ∀n a,DCalls Try.prog 64 [esT st,qx ⟨e.var,e.key,n,a⟩] (esT (qL ⟨s.var,keyOf l s.key h,n,a⟩ st)):=fun n a=>by
  rw [he1,he2]
  exact zI st p.inc (by omega) hko ⟨s.var,keyOf l s.key h,n,a⟩ (show (keyOf l s.key h).length<2^60 by omega)
 have hres:doE l s st h tick=⟨(doR l s f o h tick).1,(doR l s f o h tick).2.1,ct (doR l s f o h tick).2.2 st⟩:=by unfold doE tP;rw [← hf, ←ho]
 have hfn:(f.map (·.n)).getD 0=e.n:=by rw [he];cases f <;> rfl
 have hfull:q8 f o=(!f.isSome&&decide (100≤o.length)):=by unfold q8;rw [ti]
 have ht0:=p.t0;have ht1:=p.t1
 refine zD p.lok p.hok p.keys p.klen p.inc (by omega) hko hk0 f hf [hd (doE l s st h tick).h,.bool (doE l s st h tick).pass,esT (doE l s st h tick).st] ?_
 intro x0 x1 x2 x3 x4 x5 x6 x7 x8 x9 hx
 rw [← he]
 have hk:=p.k0;have hk':=p.k1
 have hcase:s.kind=1∨s.kind=2∨s.kind=3∨s.kind=4∨s.kind=5∨s.kind=6:=by omega
 rcases hcase with h1|h2|h3|h4|h5|h6
 ·have hN:(if (65535:Int)<IntKind.wrap .i64 (e.n+1) then 65535 else IntKind.wrap .i64 (e.n+1))=min (e.n+1) 65535:=by rw [lS (by omega) (by omega)];split <;> omega
  obtain ⟨y0,y1,y2,y3,y4,y5,y6,y7,y8,y9,hy⟩:=ten (tD p.lok p.hok (name:=s.field) (n:=min (e.n+1) 65535) (by omega))
  have hW:=vS p.lok s.field p.hok (n:=min (e.n+1) 65535) (by omega)
  rw [hy,hx] at hW
  have hc:=xX (x0:=x0) (x1:=x1) (x2:=x2) (x3:=x3) (x4:=x4) (x5:=x5) (x6:=x6) (x7:=x7) (x8:=x8) (x9:=x9) (tick:=tick) (is:=f.isSome) h1 hOf _ hN (hput _ tick) (q8 f o) hfull hW
  have hd1:doR l s f o h tick=do1 l s f o h tick (keyOf l s.key h):=by unfold doR;rw [if_neg hk0,if_pos h1]
  cases hfu:q8 f o with
  |true=>
   have hD:doE l s st h tick=⟨h,false,st⟩:=by rw [hres,hd1];unfold do1;rw [hfu];rfl
   rw [hD]
   rw [hfu] at hc
   refine ⟨st,x0,x1,x2,x3,x4,x5,x6,x7,x8,x9,⟨e.var,e.key,min (e.n+1) 65535,tick⟩,false,hc.mono ?_,?_⟩
   ·rintro ex s' ⟨h1,h2⟩
    rcases h2 with ⟨-,h2⟩|⟨h2, -⟩
    ·exact ⟨h1,h2⟩
    ·cases h2
   ·rw [hx];rfl
  |false=>
   have hD:doE l s st h tick=⟨wrF l h s.field (min (e.n+1) 65535),true,qL ⟨s.var,keyOf l s.key h,min (e.n+1) 65535,tick⟩ st⟩:=by rw [hres,hd1];unfold do1;rw [hfu,hfn];rfl
   rw [hD]
   rw [hfu] at hc
   refine ⟨qL ⟨s.var,keyOf l s.key h,min (e.n+1) 65535,tick⟩ st,y0,y1,y2,y3,y4,y5,y6,y7,y8,y9,⟨e.var,e.key,min (e.n+1) 65535,tick⟩,true,hc.mono ?_,?_⟩
   ·rintro ex s' ⟨h1,h2⟩
    rcases h2 with ⟨h2, -⟩|⟨-,h2⟩
    ·cases h2
    ·exact ⟨h1,h2⟩
   ·dsimp only;rw [hy];rfl
 ·have hd1:doR l s f o h tick=do2 s f o h tick (keyOf l s.key h):=by unfold doR;rw [if_neg hk0,if_neg (by omega),if_pos h2]
  have hc:=yJ (x0:=x0) (x1:=x1) (x2:=x2) (x3:=x3) (x4:=x4) (x5:=x5) (x6:=x6) (x7:=x7) (x8:=x8) (x9:=x9) (l:=l) (tick:=tick) (is:=f.isSome) h2 hOf (hput e.n tick) (q8 f o) hfull
  cases hfu:q8 f o with
  |true=>
   have hD:doE l s st h tick=⟨h,false,st⟩:=by rw [hres,hd1];unfold do2;rw [hfu];rfl
   rw [hD]
   rw [hfu] at hc
   exact ⟨st,x0,x1,x2,x3,x4,x5,x6,x7,x8,x9,⟨e.var,e.key,e.n,tick⟩,false,hc,by rw [hx];rfl⟩
  |false=>
   have hD:doE l s st h tick=⟨h,true,qL ⟨s.var,keyOf l s.key h,e.n,tick⟩ st⟩:=by rw [hres,hd1];unfold do2;rw [hfu,hfn];rfl
   rw [hD]
   rw [hfu] at hc
   exact ⟨qL ⟨s.var,keyOf l s.key h,e.n,tick⟩ st,x0,x1,x2,x3,x4,x5,x6,x7,x8,x9,⟨e.var,e.key,e.n,tick⟩,true,hc,by rw [hx];rfl⟩
 ·have hd1:doR l s f o h tick=do3 s f h tick:=by unfold doR;rw [if_neg hk0,if_neg (by omega),if_neg (by omega),if_pos h3]
  obtain ⟨b1,b2⟩:=p.k3 h3
  have hc:=xW (x0:=x0) (x1:=x1) (x2:=x2) (x3:=x3) (x4:=x4) (x5:=x5) (x6:=x6) (x7:=x7) (x8:=x8) (x9:=x9) (l:=l) (st:=st) (tick:=tick) (e:=e) (is:=f.isSome) h3 _ rfl ⟨by omega,by omega⟩ ⟨by omega,by omega⟩
  have hD:doE l s st h tick=⟨h,f.isSome&&decide (e.at_≥tick - s.n),st⟩:=by
   rw [hres,hd1]
   unfold do3
   cases f with
   |none=>rfl
   |some x=>
    have:e=x:=he
    subst this
    rfl
  rw [hD]
  refine ⟨st,x0,x1,x2,x3,x4,x5,x6,x7,x8,x9,e,_,hc,?_⟩
  rw [hx]
  dsimp only
  rw [ite_self]
 ·have hd1:doR l s f o h tick=do4 l s f o h tick (keyOf l s.key h):=by unfold doR;rw [if_neg hk0,if_neg (by omega),if_neg (by omega),if_neg (by omega),if_pos h4]
  obtain ⟨b1,b2,b3,b4⟩:=p.k4 h4
  have hN:rN s f o=if f.isSome then e.n else qW o o.length s.n:=by
   rw [he];cases f <;> rfl
  have hN0:0≤rN s f o:=by
   rw [hN]
   split
   ·exact he3
   ·have:=(tg o o.length s.n).1;omega
  obtain ⟨y0,y1,y2,y3,y4,y5,y6,y7,y8,y9,hy⟩:=ten (tD p.lok p.hok (name:=s.field) hN0)
  have hW:=vS p.lok s.field p.hok hN0
  rw [hy,hx] at hW
  have hc:=uZ (x0:=x0) (x1:=x1) (x2:=x2) (x3:=x3) (x4:=x4) (x5:=x5) (x6:=x6) (x7:=x7) (x8:=x8) (x9:=x9) (l:=l) (tick:=tick) (is:=f.isSome) h4 (by omega) ⟨b1,b2⟩ hOf _ hN (hput _ tick) (q8 f o) hfull (f.isNone&&decide (rN s f o>s.m)) (by rw [ti]) hW
  cases hfu:(q8 f o||(f.isNone&&decide (rN s f o>s.m))) with
  |true=>
   have hD:doE l s st h tick=⟨h,false,st⟩:=by rw [hres,hd1];unfold do4;rw [hfu];rfl
   rw [hD]
   rw [hfu] at hc
   refine ⟨st,x0,x1,x2,x3,x4,x5,x6,x7,x8,x9,⟨e.var,e.key,rN s f o,tick⟩,false,hc.mono ?_,?_⟩
   ·rintro ex s' ⟨h1,h2⟩
    rcases h2 with ⟨-,h2⟩|⟨h2, -⟩
    ·exact ⟨h1,h2⟩
    ·cases h2
   ·rw [hx];rfl
  |false=>
   have hD:doE l s st h tick=⟨wrF l h s.field (rN s f o),true,qL ⟨s.var,keyOf l s.key h,rN s f o,tick⟩ st⟩:=by rw [hres,hd1];unfold do4;rw [hfu];rfl
   rw [hD]
   rw [hfu] at hc
   refine ⟨qL ⟨s.var,keyOf l s.key h,rN s f o,tick⟩ st,y0,y1,y2,y3,y4,y5,y6,y7,y8,y9,⟨e.var,e.key,rN s f o,tick⟩,true,hc.mono ?_,?_⟩
   ·rintro ex s' ⟨h1,h2⟩
    rcases h2 with ⟨h2, -⟩|⟨-,h2⟩
    ·cases h2
    ·exact ⟨h1,h2⟩
   ·dsimp only;rw [hy];rfl
 ·have hd1:doR l s f o h tick=do5 l s o h:=by unfold doR;rw [if_neg hk0,if_neg (by omega),if_neg (by omega),if_neg (by omega),if_neg (by omega),if_pos h5]
  obtain ⟨b1,b2⟩:=p.k5 h5
  have hhx:=p.hok
  rw [hx] at hhx
  have hfd:(o.find? fun x=>decide (x.n=(re (fld l s.field) h:Int)))=st.find? fun x=>decide (x.var=s.var)&&decide (x.n=(re (fld l s.field) [x0,x1,x2,x3,x4,x5,x6,x7,x8,x9]:Int)):=by
   rw [ho,hx]
   unfold ofE
   rw [List.find?_filter]
   congr 1
   funext a
   simp
  have hc:=yI (x0:=x0) (x1:=x1) (x2:=x2) (x3:=x3) (x4:=x4) (x5:=x5) (x6:=x6) (x7:=x7) (x8:=x8) (x9:=x9) (l:=l) (tick:=tick) (e:=e) (is:=f.isSome) h5 p.lok (by omega) (by have:=p.klen;omega) hhx b1 (fun x hx hv=>b2 x hx hv) _ hfd
  cases hfu:(o.find? fun x=>decide (x.n=(re (fld l s.field) h:Int))) with
  |none=>
   have hD:doE l s st h tick=⟨h,false,st⟩:=by rw [hres,hd1];unfold do5;rw [hfu];rfl
   rw [hD]
   rw [hfu] at hc
   refine ⟨st,x0,x1,x2,x3,x4,x5,x6,x7,x8,x9,e,false,hc.mono ?_,?_⟩
   ·rintro ex s' ⟨h1,h2⟩
    rcases h2 with ⟨-,h2⟩|⟨x,q,h2, -⟩
    ·exact ⟨h1,h2⟩
    ·cases h2
   ·rw [hx];rfl
  |some x=>
   have hD:doE l s st h tick=⟨rI l s.key x.key h,true,st⟩:=by rw [hres,hd1];unfold do5;rw [hfu];rfl
   rw [hD]
   rw [hfu] at hc
   have hxm:x∈st∧x.var=s.var:=by
    have h1:=List.mem_of_find?_eq_some hfu
    rw [ho] at h1
    have h2:=List.mem_filter.1 h1
    exact ⟨h2.1,of_decide_eq_true h2.2⟩
   obtain ⟨y0,y1,y2,y3,y4,y5,y6,y7,y8,y9,hy⟩:=ten (tT p.lok (ks:=s.key) p.hok (b2 x hxm.1 hxm.2).2)
   refine ⟨st,y0,y1,y2,y3,y4,y5,y6,y7,y8,y9,e,true,hc.mono ?_,?_⟩
   ·rintro ex s' ⟨h1,h2⟩
    rcases h2 with ⟨h2, -⟩|⟨x',q,h2,h3,h4⟩
    ·cases h2
    ·cases h2
     rw [← hx,hy] at h3
     obtain ⟨z0,z1,z2,z3,z4,z5,z6,z7,z8,z9⟩:=q
     simp only [H10.ls,List.cons.injEq,and_true] at h3
     obtain ⟨rfl,rfl,rfl,rfl,rfl,rfl,rfl,rfl,rfl,rfl⟩:=h3
     exact ⟨h1,h4⟩
   ·dsimp only
    rw [hy];rfl
 ·have hd1:doR l s f o h tick=do6 s f o h tick (keyOf l s.key h):=by unfold doR;rw [if_neg hk0,if_neg (by omega),if_neg (by omega),if_neg (by omega),if_neg (by omega),if_neg (by omega)]
  obtain ⟨b1,b2,b3,b4⟩:=p.k6 h6
  obtain ⟨en,hen⟩: ∃en,en=if f.isSome then e.n else s.n:=⟨_,rfl⟩
  obtain ⟨ea,hea⟩: ∃ea,ea=if f.isSome then e.at_ else tick:=⟨_,rfl⟩
  have hen0:0≤en∧en≤65535:=by rw [hen];split <;> omega
  have hea0:0≤ea∧ea≤1073741824:=by rw [hea];split <;> omega
  have htk:rZ s f (keyOf l s.key h) tick=rH s ⟨s.var,keyOf l s.key h,en,ea⟩ tick:=by
   unfold rZ
   cases f with
   |none=>rw [hen,hea];rfl
   |some x=>
    have hex:e=x:=he
    obtain ⟨g1,g2,g3⟩:=rP hf.symm
    rw [hen,hea]
    show rH s x tick=rH s ⟨s.var,keyOf l s.key h,e.n,e.at_⟩ tick
    rw [hex, ←g2, ←g3]
  have hW:=yt s s.var (keyOf l s.key h) ⟨b1,b2⟩ ⟨b3,b4⟩ ⟨ht0,ht1⟩ hen0 hea0
  obtain ⟨tn,htn⟩: ∃tn,tn=rH s ⟨s.var,keyOf l s.key h,en,ea⟩ tick:=⟨_,rfl⟩
  rw [← htn] at htk hW
  have htb:0≤tn.n∧tn.n≤65535 * 65536:=by
   rw [htn]
   have hk0:0≤(if tick>ea then (tick - ea).tdiv s.m else 0):=by
    split
    ·exact Int.tdiv_nonneg (by omega) (by omega)
    ·exact Int.le_refl 0
   unfold rH
   dsimp only
   generalize (if tick>ea then (tick - ea).tdiv s.m else 0)=k at *
   split
   ·exact ⟨by dsimp only;omega,by dsimp only;omega⟩
   ·exact ⟨by dsimp only;omega,by dsimp only;omega⟩
  have hc:=xY (x0:=x0) (x1:=x1) (x2:=x2) (x3:=x3) (x4:=x4) (x5:=x5) (x6:=x6) (x7:=x7) (x8:=x8) (x9:=x9) (l:=l) (tick:=tick) (is:=f.isSome) h6 (by omega) en ea tn.n tn.at_ hen hea hW (if tn.n>0 then tn.n - 1 else tn.n) (by
   split
   ·exact (lS (by omega) (by omega)).symm
   ·rfl) hOf (hput _ _) (q8 f o) hfull
  cases hfu:q8 f o with
  |true=>
   have hD:doE l s st h tick=⟨h,false,st⟩:=by rw [hres,hd1];unfold do6;rw [hfu];rfl
   rw [hD]
   rw [hfu] at hc
   exact ⟨st,x0,x1,x2,x3,x4,x5,x6,x7,x8,x9,_,false,hc,by rw [hx];rfl⟩
  |false=>
   rw [hfu] at hc
   by_cases c:tn.n>0
   ·have hD:doE l s st h tick=⟨h,true,qL ⟨s.var,keyOf l s.key h,tn.n - 1,tn.at_⟩ st⟩:=by rw [hres,hd1];unfold do6;rw [htk,hfu,if_neg (by simp),if_pos c];rfl
    rw [hD]
    rw [if_pos c,decide_eq_true c] at hc
    exact ⟨qL ⟨s.var,keyOf l s.key h,tn.n - 1,tn.at_⟩ st,x0,x1,x2,x3,x4,x5,x6,x7,x8,x9,⟨e.var,e.key,tn.n - 1,tn.at_⟩,true,hc,by rw [hx];rfl⟩
   ·have hD:doE l s st h tick=⟨h,false,qL ⟨s.var,keyOf l s.key h,tn.n,tn.at_⟩ st⟩:=by rw [hres,hd1];unfold do6;rw [htk,hfu,if_neg (by simp),if_neg c];rfl
    rw [hD]
    rw [if_neg c,decide_eq_false c] at hc
    exact ⟨qL ⟨s.var,keyOf l s.key h,tn.n,tn.at_⟩ st,x0,x1,x2,x3,x4,x5,x6,x7,x8,x9,⟨e.var,e.key,tn.n,tn.at_⟩,false,hc,by rw [hx];rfl⟩
end Go.ST
end
section
end
section
end
section
end
section
end
section
end
section
end
section
namespace Go.MM
open Go Go.DL Go.Proofs
def tE:ByteArray:=⟨#[100,115,116]⟩
def su:ByteArray:=⟨#[115,114,99]⟩
def ur:ByteArray:=⟨#[107,105,110,100]⟩
end Go.MM
end
section
end
section
end
section
end
section
end
section
end
section
end
section
end
section
end
section
end
section
end
section
end
section
end
section
end
section
end
section
end
section
end
section
end
section
end
section
end
section
end
section
end
section
end
section
end
section
end
section
end
section
end
section
end
section
end
section
namespace Go.TY
open Go Go.DL Go.MM Go.Proofs
theorem wk {ks:List Nat} {bx:Nat→Option BX} {n e w:Nat} {us xs:List T} (h:us=xs):LeV ks bx (.t (.slice w us)) (.own n e w xs):=by rw [h];exact LeV.data _ _ _ _
end Go.TY
end
section
end
section
end
section
end
section
end
section
end
section
end
section
end
section
end
section
end
section
end
section
end
section
end
section
end
section
end
section
end
section
end
section
end
section
end
section
end
section
end
section
end
section
end
section
end
section
end
section
end
section
end
section
end
section
end
section
end
section
namespace Go.ST
open Go Go.DL Go.MM
open Go.TY hiding Fd
def preB (l:List Fd) (s:RS) (st:List RE) (h:List Int) (tick:Int):Bool:=
 !qD l ⟨#[]⟩&&(h.length==10)&&rX h&&rl st&&decide (st.length≤1000000)&&st.all tL&&decide (0≤tick)&&decide (tick≤1073741824)&&decide (0≤s.kind)&&decide (s.kind≤6)
  &&s.key.all (qD l)&&decide (s.key.length≤1000)&&(!decide (s.kind=3)||(decide (0≤s.n)&&decide (s.n≤1073741824)))
  &&(!decide (s.kind=4)||(decide (0≤s.n)&&decide (s.n≤65535)&&decide (s.n≤s.m)&&decide (s.m≤65535)))
  &&(!decide (s.kind=5)||(qD l s.field&&st.all fun e=> !decide (e.var=s.var)||(decide (e.key.length=s.key.length)&&e.key.all fun x=>decide (0≤x))))
  &&(!decide (s.kind=6)||(decide (1≤s.n)&&decide (s.n≤65535)&&decide (1≤s.m)&&decide (s.m≤1073741824)))
  &&st.all fun e=>decide (e.key.length<2^60)
theorem yc {l:List Fd} (hl:LOk l) {s:RS} {st:List RE} {h:List Int} {tick:Int} (hp:preB l s st h tick=true):uo l s st h tick∧ ∀e∈st,e.key.length<2^60:=by
 unfold preB at hp
 simp only [Bool.and_eq_true,decide_eq_true_eq,List.all_eq_true,Bool.not_eq_true',beq_iff_eq,Bool.or_eq_true,decide_eq_false_iff_not] at hp
 obtain ⟨⟨⟨⟨⟨⟨⟨⟨⟨⟨⟨⟨⟨⟨⟨⟨a1,a2⟩,a3⟩,a4⟩,a5⟩,a6⟩,a7⟩,a8⟩,a9⟩,b1⟩,b2⟩,b3⟩,b4⟩,b5⟩,b6⟩,b7⟩,b8⟩:=hp
 refine ⟨⟨hl,a1,⟨a2,a3⟩,rG.1 a4,a5,fun e he=>?_,a7,a8,a9,b1,b2,b3,fun h3=>?_,fun h4=>?_,fun h5=>?_,fun h6=>?_⟩,b8⟩
 ·have:=a6 e he
  unfold tL at this
  simp only [Bool.and_eq_true,decide_eq_true_eq] at this
  omega
 ·rcases b4 with h|h
  ·exact absurd h3 h
  ·exact h
 ·rcases b5 with h|h
  ·exact absurd h4 h
  ·omega
 ·rcases b6 with h|h
  ·exact absurd h5 h
  ·refine ⟨h.1,fun e he hv=>?_⟩
   rcases h.2 e he with h'|h'
   ·exact absurd hv h'
   ·exact h'
 ·rcases b7 with h|h
  ·exact absurd h6 h
  ·omega
abbrev ru (t:Int×Int×Int):List Int:=[0,t.2.1 * 256+t.1,0,0,0,0,0,0,0,0]
def vQ (l:List Fd) (s:RS) (name:ByteArray) (t:Int×Int×Int) (st:List RE):Int:=if (doE l s st (ru t) t.2.2).pass then (re (fld l name) (doE l s st (ru t) t.2.2).h:Int) else -1
def qY (l:List Fd) (s:RS) (name:ByteArray):List (Int×Int×Int)→List Int×List RE→List Int×List RE
 |[],r=>r
 |t::ts,r=>qY l s name ts (r.1++[vQ l s name t r.2],(doE l s r.2 (ru t) t.2.2).st)
def tR (l:List Fd) (s:RS) (name:ByteArray):List (Int×Int×Int)→List RE→Bool
 |[],_=>true
 |t::ts,st=>decide (0≤t.1)&&decide (t.1<256)&&decide (0≤t.2.1)&&decide (t.2.1<256)&&preB l s st (ru t) t.2.2&&rX (doE l s st (ru t) t.2.2).h&&((doE l s st (ru t) t.2.2).h.length==10)&&tR l s name ts (doE l s st (ru t) t.2.2).st
end Go.ST
end
noncomputable section
namespace Go.ST7
open Go Go.DL Go.Proofs
def c5:ba:=(.seq (.region [⟨some 8,.alloc [Z0,S0,.nil,S0,Z0,Z0],none,[]⟩] []) (.seq (.region [mv 9 0,⟨some 10,.buildS 9 1 1 [S0] [(0,(.const (.str ⟨#[115,114,99]⟩)))],none,[]⟩,mv 11 1,mv 12 2,mv 13 3,⟨some 14,.build [Z0,S0,.nil,S0,Z0,Z0] [(0,1,(tm 9)),(1,1,(.const (.str ⟨#[118]⟩))),(2,1,(tm 10)),(3,1,(tm 11)),(4,1,(tm 12)),(5,1,(tm 13))],none,[]⟩,o0 (.store 6 (tm 8) (tm 14))] []) .ret))
theorem l5:(Try.f5.body.bind (bo Try.prog 15 []))=some c5:=by kernel_rfl
def c7:ba:=(.seq (.region [oo 0 (.mov (.const .nil))] []) (.seq (.region [⟨some 1,.build [S0,Z0,Z0] [(0,1,(.const (.str ⟨#[100,115,116]⟩))),(1,1,(Kc 16)),(2,1,(Kc 8))],none,[]⟩,⟨some 2,.build [S0,Z0,Z0] [(0,1,(.const (.str ⟨#[115,114,99]⟩))),(1,1,(Kc 24)),(2,1,(Kc 8))],none,[]⟩,⟨some 3,.build [S0,Z0,Z0] [(0,1,(.const (.str ⟨#[107,105,110,100]⟩))),(1,1,(Kc 33)),(2,1,(Kc 3))],none,[]⟩,⟨some 4,.buildS 65 3 3 [S0,Z0,Z0] [(0,(tm 1)),(1,(tm 2)),(2,(tm 3))],none,[]⟩,mv 0 4] []) .ret))
theorem l7:(Try.f7.body.bind (bo Try.prog 5 []))=some c7:=by kernel_rfl
end Go.ST7
end
section
namespace Go.STA
open Go Go.DL Go.Proofs
noncomputable def c8:ba:=(.seq (.region [oo 4 (.box 6 (tm 0)),oo 8 (.mov (.const .nil)),oo 9 (.mov (.const .nil))] []) (.seq (.region [oo 10 (.mov (.const .nil))] []) (.seq (.seq (.region [oo 11 (.mov (Kc 0))] []) (.block 0 (.loop (.seq (.seq (.region [mv 18 11,mv 19 3,ln 20 19,oo 21 (.bin .lss (tm 18) (tm 20))] []) (.cond (tm 21) .skip (.exit 0))) (.seq (.block 1 (.seq (.region [mv 24 3,mv 25 11,ix 26 3 24 25,oo 27 (.idxA 3 1 (tm 26) (Kc 1)),ld 28 27,oo 29 (.bin .mul (tm 28) (Kc 256)),mv 30 3,mv 31 11,ix 32 3 30 31,oo 33 (.idxA 3 1 (tm 32) (Kc 0)),ld 34 33,oo 35 (.bin .add (tm 29) (tm 34)),oo 36 (.build [Z0,Z0,Z0,Z0,Z0,Z0,Z0,Z0,Z0,Z0] [(0,1,(Kc 0)),(1,1,(tm 35))]),oo 12 (.alloc [Z0,Z0,Z0,Z0,Z0,Z0,Z0,Z0,Z0,Z0]),o0 (.store 10 (tm 12) (tm 36))] []) (.seq (.cut (.region [oo 38 (.call 7 []),lA 39 6 4,mv 40 1,lA 41 10 12,mv 42 3,mv 43 11,ix 44 3 42 43,oo 45 (.idxA 3 1 (tm 44) (Kc 2)),ld 46 45,oo 47 (.call 6 [(tm 38),(tm 39),(tm 40),(tm 41),(tm 46)]),mv 37 47,oo 48 (.ext (tm 37) 0),oo 49 (.ext (tm 37) 1),oo 50 (.ext (tm 37) 2),oo 13 (.alloc [Z0,Z0,Z0,Z0,Z0,Z0,Z0,Z0,Z0,Z0]),o0 (.store 10 (tm 13) (tm 48)),mv 14 49,mv 15 50] [])) (.seq (.region [mv 51 15,mv 1 51] []) (.seq (.cut (.region [oo 53 (.call 7 []),mv 54 2,oo 55 (.call 24 [(tm 53),(tm 54)]),mv 52 55,oo 56 (.ext (tm 52) 0),oo 57 (.ext (tm 52) 1),⟨some 16,.alloc [S0,Z0,Z0],none,[]⟩,o0 (.store 3 (tm 16) (tm 56)),mv 17 57] [])) (.seq (.region [mv 58 14] []) (.cond (tm 58) (.region [mv 59 10,lA 60 3 16,lA 61 10 13,oo 62 (.call 25 [(tm 60),(tm 61)]),oo 63 (.buildF 1 1 [Z0] [(0,(tm 62))]),oo 64 (.append 29 3 1 8 (tm 59) (tm 63)),mv 10 64] []) (.region [mv 65 10,oo 66 (.buildF 1 1 [Z0] [(0,(.const (.int .i64 (-1))))]),oo 67 (.append 29 3 1 8 (tm 65) (tm 66)),mv 10 67] [])))))))) (.region [mv 22 11,oo 23 (.bin .add (tm 22) (Kc 1)),mv 11 23] [])))))) (.seq (.region [mv 68 10,mv 69 1,mv 8 68,mv 9 69] []) .ret))))
theorem l8:(Try.f8.body.bind (bo Try.prog 70 [6000006,6000008,8000063,8000066]))=some c8:=by kernel_rfl
end Go.STA
end
section
namespace Go.ST
open Go Go.DL Go.MM Go.Proofs
open Go.TY hiding Fd
def vN:ByteArray:=⟨#[118]⟩
abbrev stp (k:Int) (f:ByteArray) (n m:Int):RS:=⟨k,vN,[su],f,n,m⟩
theorem rJ (k:Int) (f:ByteArray) (n m:Int):DCalls Try.prog 5 [I k,.str f,I n,I m] (r6 (stp k f n m)):=by
 refine pN (rs:=[.cell 8 26]) mixed Try.func5 Go.ST7.l5 rfl rfl rfl (r:=[.agg (rh (stp k f n m))]) (nlZ rfl) ?_
 repeat' ((conv=>whnf);first|exact trivial|refine nT_ ?_|refine aE1 ?_|refine aE0 ?_|refine aN1 ?_|refine aN0 ?_|refine aD1 ?_|refine aD0 ?_|refine nE_ (fun hq=>?_) (fun hq=>?_)|refine nN_ (fun hq=>?_) (fun hq=>?_)|refine nD_ (fun hq=>?_) (fun hq=>?_)|refine rb1 ?_|refine rb0 ?_|refine rbx ?_|refine rix ?_|refine aS ?_|fail)
def L17:List Fd:=[⟨tE,16,8⟩,⟨su,24,8⟩,⟨ur,33,3⟩]
theorem vL:LOk L17:=⟨by decide,fun f hf=>by
 simp only [L17,List.mem_cons,List.not_mem_nil,or_false] at hf
 rcases hf with rfl|rfl|rfl <;> exact ⟨by decide,by decide,by decide⟩⟩
theorem ue:DCalls Try.prog 7 [] (fds L17):=by
 refine pN (rs:=[.tmp 0]) mixed Try.func7 Go.ST7.l7 rfl rfl rfl (r:=[fds L17]) (nlZ rfl) ?_
 repeat' ((conv=>whnf);first|exact trivial|refine nT_ ?_|refine aE1 ?_|refine aE0 ?_|refine aN1 ?_|refine aN0 ?_|refine aD1 ?_|refine aD0 ?_|refine nE_ (fun hq=>?_) (fun hq=>?_)|refine nN_ (fun hq=>?_) (fun hq=>?_)|refine nD_ (fun hq=>?_) (fun hq=>?_)|refine rb1 ?_|refine rb0 ?_|refine rbx ?_|refine rix ?_|refine aS ?_|fail)
abbrev tri (t:Int×Int×Int):T:=.agg [I t.1,I t.2.1,I t.2.2]
abbrev s8 (ts:List (Int×Int×Int)):T:=.slice 3 (ts.map tri)
theorem uS (l:List Fd) (s:RS) (name:ByteArray): ∀(a b:List (Int×Int×Int)) (r:List Int×List RE),qY l s name (a++b) r=qY l s name b (qY l s name a r)
 |[],_,_=>rfl
 |_::a,b,_=>uS l s name a b _
theorem uj (l:List Fd) (s:RS) (name:ByteArray) {ts:List (Int×Int×Int)} {i:Nat} (h:i<ts.length) (r:List Int×List RE):
  qY l s name (ts.take (i+1)) r=((qY l s name (ts.take i) r).1++[vQ l s name ts[i] (qY l s name (ts.take i) r).2],(doE l s (qY l s name (ts.take i) r).2 (ru ts[i]) ts[i].2.2).st):=by
 rw [List.take_succ_eq_append_getElem h,uS];rfl
structure zM (l:List Fd) (s:RS) (t:Int×Int×Int) (st:List RE):Prop where
 a0:0≤t.1
 a1:t.1<256
 b0:0≤t.2.1
 b1:t.2.1<256
 pre:uo l s st (ru t) t.2.2
 k: ∀e∈st,kOk e
 ok:HOk (doE l s st (ru t) t.2.2).h
theorem vo {l:List Fd} (hl:LOk l) {s:RS} {name:ByteArray}: ∀{ts:List (Int×Int×Int)} {r:List Int×List RE},tR l s name ts r.2=true→ ∀i (h:i<ts.length),zM l s ts[i] (qY l s name (ts.take i) r).2
 |[],_,_,i,h=>by simp at h
 |t::ts,r,hb,i,h=>by
  unfold tR at hb
  simp only [Bool.and_eq_true,decide_eq_true_eq,beq_iff_eq] at hb
  obtain ⟨⟨⟨⟨⟨⟨⟨h1,h2⟩,h3⟩,h4⟩,h5⟩,h6⟩,h7⟩,h8⟩:=hb
  cases i with
  |zero=>
   obtain ⟨p,q⟩:=yc hl h5
   exact ⟨h1,h2,h3,h4,p,q,⟨h7,h6⟩⟩
  |succ i=>exact vo hl (ts:=ts) (r:=(r.1++[vQ l s name t r.2],(doE l s r.2 (ru t) t.2.2).st)) h8 i (by simpa using h)
theorem Ar {ts:List (Int×Int×Int)} {i:Nat} (h:i<ts.length):(ts.map tri)[i]?.getD .nil=tri ts[i]:=by simp [h]
theorem xA (s:RS) (st:List RE) (name:ByteArray) (ts:List (Int×Int×Int)) (hl:ts.length<2^20) (hb:tR L17 s name ts st=true) (hf:qD L17 name=true):
  DCalls Try.prog 8 [r6 s,esT st,.str name,s8 ts] (.tup [.slice 1 ((qY L17 s name ts ([],st)).1.map I),esT (qY L17 s name ts ([],st)).2]):=by
 refine pN (rs:=[.tmp 8,.tmp 9]) mixed Try.func8 Go.STA.l8 rfl rfl rfl (r:=[.slice 1 _,esT _]) (nlZ rfl) ?_
 have hn:((ts.map tri).length:Int)=ts.length:=by rw [List.length_map]
 have hA:=vo (name:=name) (r:=([],st)) vL hb
 have hEx:=ue
 have hlen: ∀i,i≤ts.length→(qY L17 s name (ts.take i) ([],st)).1.length=i:=by
  intro i
  induction i with
  |zero=>intro _;simp [qY]
  |succ i ih=>intro h;rw [uj L17 s name h,List.length_append,ih (by omega)];rfl
 have hFd:=yh L17 vL name
 rw [hf] at hFd
 have hFo:FOk (MM.fld L17 name):=yM vL hf
 repeat' ((conv=>whnf);first|exact trivial|refine nT_ ?_|refine aE1 ?_|refine aE0 ?_|refine aN1 ?_|refine aN0 ?_|refine aD1 ?_|refine aD0 ?_|refine nE_ (fun hq=>?_) (fun hq=>?_)|refine nN_ (fun hq=>?_) (fun hq=>?_)|refine nD_ (fun hq=>?_) (fun hq=>?_)|refine rb1 ?_|refine rb0 ?_|refine rbx ?_|refine rix ?_|refine aS ?_|fail)
 refine pX 0 (α:=Nat×Nat) (β:=Unit) (fun p=>{sl:=[(1,.t (esT (qY L17 s name (ts.take p.1) ([],st)).2)),(2,.t (.str name)),(3,.t (s8 ts)),(4,.ptr 4 0),(10,.own p.2 3 1 ((qY L17 s name (ts.take p.1) ([],st)).1.map I)),(11,.t (I p.1))],bx:=[(4,.d 6 (rh s))]})
  (fun p=>p.1≤ts.length∧(p.2=64∨p.2=67)) (fun p=>ts.length - p.1)
  (fun _=>{sl:=[(1,.t (esT (qY L17 s name ts ([],st)).2)),(10,.t (.slice 1 ((qY L17 s name ts ([],st)).1.map I)))],bx:=[]}) (fun _=>True) (0,64) ⟨by simp,Or.inl rfl⟩ ?_ ?_ ?_
 ·repeat' (first|exact trivial|exact LeV.same _|exact LeB.same _|exact rfl|exact fun _ _ _=>trivial|exact lI|exact LeV.nil _ _ _|exact lB|refine qq ?_|refine qo ?_|refine And.intro ?_ ?_)
 ·rintro ⟨i,r⟩ ⟨hi,hr⟩
  dsimp only at hi hr
  rcases Nat.lt_or_ge i ts.length with h|h
  ·have hlt:(i:Int)<((ts.map tri).length:Int):=by omega
   have hg:=Ar h
   have a:=hA i h
   have e1:=uj L17 s name h ([],st)
   have hol:=hlen i (by omega)
   have hdo:=ze a.pre a.k
   have hget:=t57 (MM.fld L17 name) hFo _ a.ok
   obtain ⟨t,ht⟩: ∃t,ts[i]=t:=⟨_,rfl⟩
   rw [ht] at hg e1 hdo hget
   have b0:=ht▸a.a0;have b1:=ht▸a.a1;have b2:=ht▸a.b0;have b3:=ht▸a.b1
   have hx:=ten (ht▸a.ok)
   generalize qY L17 s name (ts.take i) ([],st)=q at *
   have e2:vQ L17 s name t q.2=if (doE L17 s q.2 (ru t) t.2.2).pass then (re (fld L17 name) (doE L17 s q.2 (ru t) t.2.2).h:Int) else -1:=rfl
   rw [e2] at e1
   obtain ⟨t0,t1,t2⟩:=t
   dsimp only at *
   have hmul:IntKind.wrap .i64 (IntKind.wrap .i64 (t1 * 256)+t0)=t1 * 256+t0:=by rw [lS (n:=t1 * 256) (by omega) (by omega),lS (by omega) (by omega)]
   have hnx:((i+1:Nat):Int)=IntKind.wrap .i64 ((i:Int)+1):=by rw [lS] <;> omega
   have hH:hd (ru (t0,t1,t2))= .agg [I 0,I (t1 * 256+t0),I 0,I 0,I 0,I 0,I 0,I 0,I 0,I 0]:=rfl
   rw [hH] at hdo
   generalize doE L17 s q.2 (ru (t0,t1,t2)) t2=d at *
   obtain ⟨dh,dp,ds⟩:=d
   dsimp only at *
   obtain ⟨y0,y1,y2,y3,y4,y5,y6,y7,y8,y9,rfl⟩:=hx
   have hdo:DCalls Try.prog 6 [fds L17,r6 s,esT q.2,.agg [I 0,I (t1 * 256+t0),I 0,I 0,I 0,I 0,I 0,I 0,I 0,I 0],I t2] (.tup [hd [y0,y1,y2,y3,y4,y5,y6,y7,y8,y9],.bool dp,esT ds]):=hdo
   rw [← hmul] at hdo
   have hmu:ts.length - (i+1)<ts.length - i:=by omega
   have ha:=a
   clear hb hA hlen a
   repeat' ((conv=>whnf);first|exact trivial|refine pt hlt ?_|(refine nv_ (.agg [I t0,I t1,I t2]) (by first|exact hg|fail) ?_)|refine nT_ ?_|refine aE1 ?_|refine aE0 ?_|refine aN1 ?_|refine aN0 ?_|refine aD1 ?_|refine aD0 ?_|refine nE_ (fun hq=>?_) (fun hq=>?_)|refine nN_ (fun hq=>?_) (fun hq=>?_)|refine nD_ (fun hq=>?_) (fun hq=>?_)|refine rb1 ?_|refine rb0 ?_|refine rbx ?_|refine rix ?_|refine aS ?_|fail)
   refine qe (β:=Unit) (fun _=>{sl:=[(2,.t (.str name)),(3,.t (s8 ts)),(4,.ptr 4 0),(10,.own r 3 1 (q.1.map I)),(11,.t (I i)),(13,.ptr 13 0),(14,.t (.bool dp)),(15,.t (esT ds))],bx:=[(4,.d 6 (rh s)),(13,.d 10 [I y0,I y1,I y2,I y3,I y4,I y5,I y6,I y7,I y8,I y9])]}) (fun _=>True) ?_ ?_
   ·repeat' ((conv=>whnf);first|exact trivial|(refine nv_ (.agg [I t0,I t1,I t2]) (by first|exact hg|fail) ?_)|refine qk _ (hEx) ?_|refine qk _ (hdo) ?_|(exact ⟨(),trivial,by (repeat' (first|exact trivial|exact LeV.same _|exact LeB.same _|exact rfl|exact fun _ _ _=>trivial|exact lI|exact LeV.nil _ _ _|exact lB|refine qq ?_|refine qo ?_|refine And.intro ?_ ?_));done⟩)|refine nT_ ?_|refine aE1 ?_|refine aE0 ?_|refine aN1 ?_|refine aN0 ?_|refine aD1 ?_|refine aD0 ?_|refine nE_ (fun hq=>?_) (fun hq=>?_)|refine nN_ (fun hq=>?_) (fun hq=>?_)|refine nD_ (fun hq=>?_) (fun hq=>?_)|refine rb1 ?_|refine rb0 ?_|refine rbx ?_|refine rix ?_|refine aS ?_|fail)
   rintro _ _
   clear hdo
   repeat' ((conv=>whnf);first|exact trivial|refine nT_ ?_|refine aE1 ?_|refine aE0 ?_|refine aN1 ?_|refine aN0 ?_|refine aD1 ?_|refine aD0 ?_|refine nE_ (fun hq=>?_) (fun hq=>?_)|refine nN_ (fun hq=>?_) (fun hq=>?_)|refine nD_ (fun hq=>?_) (fun hq=>?_)|refine rb1 ?_|refine rb0 ?_|refine rbx ?_|refine rix ?_|refine aS ?_|fail)
   refine qe (β:=Unit) (fun _=>{sl:=[(1,.t (esT ds)),(2,.t (.str name)),(3,.t (s8 ts)),(4,.ptr 4 0),(10,.own r 3 1 (q.1.map I)),(11,.t (I i)),(13,.ptr 13 0),(14,.t (.bool dp)),(16,.ptr 16 0)],bx:=[(4,.d 6 (rh s)),(13,.d 10 [I y0,I y1,I y2,I y3,I y4,I y5,I y6,I y7,I y8,I y9]),(16,.d 3 [.str (MM.fld L17 name).name,I (MM.fld L17 name).a,I (MM.fld L17 name).w])]}) (fun _=>True) ?_ ?_
   ·repeat' ((conv=>whnf);first|exact trivial|refine qk _ (hEx) ?_|refine qk _ (hFd) ?_|(exact ⟨(),trivial,by (repeat' (first|exact trivial|exact LeV.same _|exact LeB.same _|exact rfl|exact fun _ _ _=>trivial|exact lI|exact LeV.nil _ _ _|exact lB|refine qq ?_|refine qo ?_|refine And.intro ?_ ?_));done⟩)|refine nT_ ?_|refine aE1 ?_|refine aE0 ?_|refine aN1 ?_|refine aN0 ?_|refine aD1 ?_|refine aD0 ?_|refine nE_ (fun hq=>?_) (fun hq=>?_)|refine nN_ (fun hq=>?_) (fun hq=>?_)|refine nD_ (fun hq=>?_) (fun hq=>?_)|refine rb1 ?_|refine rb0 ?_|refine rbx ?_|refine rix ?_|refine aS ?_|fail)
   rintro _ _
   have hsn: ∀z:Int,(q.1++[z]).map I=q.1.map I++[I z]:=fun z=>by rw [List.map_append];rfl
   have hrm:((q.1.map I).length+1) * 8≤140737488355328:=by rw [List.length_map];omega
   clear hEx hFd
   cases dp with
   |true=>
    rw [if_pos rfl] at e1
    generalize (re (MM.fld L17 name) [y0,y1,y2,y3,y4,y5,y6,y7,y8,y9]:Int)=z at *
    have hw1:(qY L17 s name (ts.take (i+1)) ([],st)).1.map I=q.1.map I++[I z]:=by rw [e1];exact hsn z
    have hw2:(qY L17 s name (ts.take (i+1)) ([],st)).2=ds:=by rw [e1]
    rcases hr with rfl|rfl
    all_goals
     repeat' ((conv=>whnf);first|exact trivial|refine qk _ (hget) ?_|(exact ⟨(i+1,64),⟨h,Or.inl rfl⟩,hmu,by (repeat' (first|(exact leI hnx)|(exact qo hw1)|((refine leT ?_;rw [hw2]))|exact trivial|exact LeV.same _|exact LeB.same _|exact rfl|exact fun _ _ _=>trivial|exact lI|exact LeV.nil _ _ _|exact lB|refine qq ?_|refine qo ?_|refine And.intro ?_ ?_));done⟩)|refine nT_ ?_|refine aE1 ?_|refine aE0 ?_|refine aN1 ?_|refine aN0 ?_|refine aD1 ?_|refine aD0 ?_|refine nE_ (fun hq=>?_) (fun hq=>?_)|refine nN_ (fun hq=>?_) (fun hq=>?_)|refine nD_ (fun hq=>?_) (fun hq=>?_)|refine rb1 ?_|refine rb0 ?_|refine rbx ?_|refine rix ?_|(refine And.intro (by first|exact hrm|fail) ?_)|refine aS ?_|fail)
   |false=>
    rw [if_neg (by simp)] at e1
    have hw1:(qY L17 s name (ts.take (i+1)) ([],st)).1.map I=q.1.map I++[I (-1)]:=by rw [e1];exact hsn _
    have hw2:(qY L17 s name (ts.take (i+1)) ([],st)).2=ds:=by rw [e1]
    rcases hr with rfl|rfl
    all_goals
     repeat' ((conv=>whnf);first|exact trivial|(exact ⟨(i+1,67),⟨h,Or.inr rfl⟩,hmu,by (repeat' (first|(exact leI hnx)|(exact qo hw1)|((refine leT ?_;rw [hw2]))|exact trivial|exact LeV.same _|exact LeB.same _|exact rfl|exact fun _ _ _=>trivial|exact lI|exact LeV.nil _ _ _|exact lB|refine qq ?_|refine qo ?_|refine And.intro ?_ ?_));done⟩)|refine nT_ ?_|refine aE1 ?_|refine aE0 ?_|refine aN1 ?_|refine aN0 ?_|refine aD1 ?_|refine aD0 ?_|refine nE_ (fun hq=>?_) (fun hq=>?_)|refine nN_ (fun hq=>?_) (fun hq=>?_)|refine nD_ (fun hq=>?_) (fun hq=>?_)|refine rb1 ?_|refine rb0 ?_|refine rbx ?_|refine rix ?_|(refine And.intro (by first|exact hrm|fail) ?_)|refine aS ?_|fail)
  ·have hlt: ¬(i:Int)<((ts.map tri).length:Int):=by omega
   obtain rfl:i=ts.length:=by omega
   rw [List.take_length]
   rcases hr with rfl|rfl <;> repeat' ((conv=>whnf);first|exact trivial|refine pq hlt ?_|(exact ⟨(),trivial,by (repeat' (first|(exact wk rfl)|exact trivial|exact LeV.same _|exact LeB.same _|exact rfl|exact fun _ _ _=>trivial|exact lI|exact LeV.nil _ _ _|exact lB|refine qq ?_|refine qo ?_|refine And.intro ?_ ?_));done⟩)|refine nT_ ?_|refine aE1 ?_|refine aE0 ?_|refine aN1 ?_|refine aN0 ?_|refine aD1 ?_|refine aD0 ?_|refine nE_ (fun hq=>?_) (fun hq=>?_)|refine nN_ (fun hq=>?_) (fun hq=>?_)|refine nD_ (fun hq=>?_) (fun hq=>?_)|refine rb1 ?_|refine rb0 ?_|refine rbx ?_|refine rix ?_|refine aS ?_|fail)
 ·rintro _ _
  repeat' ((conv=>whnf);first|exact trivial|refine nT_ ?_|refine aE1 ?_|refine aE0 ?_|refine aN1 ?_|refine aN0 ?_|refine aD1 ?_|refine aD0 ?_|refine nE_ (fun hq=>?_) (fun hq=>?_)|refine nN_ (fun hq=>?_) (fun hq=>?_)|refine nD_ (fun hq=>?_) (fun hq=>?_)|refine rb1 ?_|refine rb0 ?_|refine rbx ?_|refine rix ?_|refine aS ?_|fail)
end Go.ST
end
section
end
section
end
section
end
noncomputable section
namespace Go.ST6
open Go Go.DL Go.Proofs
def c14:ba:=(.seq (.region [oo 4 (.mov kF)] []) (.seq (.region [mv 5 0,mv 6 1,oo 7 (.call 36 [(tm 5),(tm 6),(.const (.clos 37 []))]),mv 4 7] []) .ret))
theorem l14:(Try.f14.body.bind (bo Try.prog 8 []))=some c14:=by kernel_rfl
def c37:ba:=(.seq (.region [oo 2 (.box 4 (tm 0)),oo 3 (.box 4 (tm 1)),oo 4 (.mov kF)] []) (.seq (.region [lA 5 4 2,lA 6 4 3,oo 7 (.call 35 [(tm 5),(tm 6)]),oo 8 (.bin .eql (tm 7) (Kc 0)),mv 9 8,oT 10 9 (.offA 2 (tm 2)),oT 11 9 (.load 1 false (tm 10)),oT 12 9 (.offA 2 (tm 3)),oT 13 9 (.load 1 false (tm 12)),oT 14 9 (.bin .eql (tm 11) (tm 13)),oo 15 (.pick (tm 9) (tm 14) kF),mv 16 15,oT 17 16 (.offA 3 (tm 2)),oT 18 16 (.load 1 false (tm 17)),oT 19 16 (.offA 3 (tm 3)),oT 20 16 (.load 1 false (tm 19)),oT 21 16 (.bin .eql (tm 18) (tm 20)),oo 22 (.pick (tm 16) (tm 21) kF),mv 4 22] []) .ret))
theorem l37:(Try.f37.body.bind (bo Try.prog 23 []))=some c37:=by kernel_rfl
def c36:ba:=(.seq (.region [oo 6 (.mov kF)] []) (.seq (.seq (.region [mv 10 0,ln 11 10,mv 12 1,ln 13 12,oo 14 (.bin .neq (tm 11) (tm 13))] []) (.cond (tm 14) (.seq (.region [oo 6 (.mov kF)] []) .ret) .skip)) (.seq (.seq (.region [mv 15 0,ln 16 15,oo 17 (.mov (Kc 0))] []) (.block 0 (.loop (.seq (.region [oo 18 (.bin .lss (tm 17) (tm 16))] []) (.seq (.cond (tm 18) .skip (.exit 0)) (.seq (.block 1 (.seq (.region [mv 19 17,ix 20 4 15 17,lA 21 4 20,⟨some 8,.alloc [S0,.nil,Z0,Z0],none,[]⟩,mv 7 19,o0 (.store 4 (tm 8) (tm 21))] []) (.seq (.region [mv 22 1,mv 23 7,ix 24 4 22 23,lA 25 4 24,⟨some 9,.alloc [S0,.nil,Z0,Z0],none,[]⟩,o0 (.store 4 (tm 9) (tm 25))] []) (.seq (.region [mv 26 2,lA 27 4 8,lA 28 4 9,oo 29 (.bO (tm 26) [(tm 27),(tm 28)]),oo 30 (.not (tm 29))] []) (.cond (tm 30) (.seq (.region [oo 6 (.mov kF)] []) .ret) .skip))))) (.region [oo 31 (.bin .add (tm 17) (Kc 1)),mv 17 31] []))))))) (.seq (.region [oo 6 (.mov kT)] []) .ret))))
theorem l36:(Try.f36.body.bind (bo Try.prog 32 []))=some c36:=by kernel_rfl
def c27:ba:=(.seq (.region [⟨some 2,.mov (.const S0),none,[]⟩,oo 3 (.mov (Kc 0)),oo 4 (.mov (Kc 0))] []) (.seq (.region [mv 9 0,oo 10 (.call 52 [(tm 9),(Kc 1)]),mv 8 10,oo 11 (.ext (tm 8) 0),oo 12 (.ext (tm 8) 1),oo 13 (.ext (tm 8) 2),mv 5 11,mv 6 12,mv 7 13] []) (.seq (.seq (.region [mv 14 7,oo 15 (.bin .neq (tm 14) (Kc 0))] []) (.cond (tm 15) (.seq (.region [mv 16 7,⟨some 2,.mov (.const S0),none,[]⟩,oo 3 (.mov (Kc 0)),mv 4 16] []) .ret) .skip)) (.seq (.region [mv 17 0,mv 18 6,mv 19 6,mv 20 5,oo 21 (.bin .add (tm 19) (tm 20)),oo 22 (.slice 1 (tm 17) (some (tm 18)) (some (tm 21))),oo 23 (.prim .strB (tm 22)),mv 24 6,mv 25 5,oo 26 (.bin .add (tm 24) (tm 25)),mv 2 23,mv 3 26,oo 4 (.mov (Kc 0))] []) .ret))))
theorem l27:(Try.f27.body.bind (bo Try.prog 27 []))=some c27:=by kernel_rfl
def c12:ba:=(.seq (.region [oo 2 (.mov (.const .nil))] []) (.seq (.region [mv 6 0,ln 7 6,oo 8 (.call 29 [tm 7]),mv 3 8] []) (.seq (.seq (.region [mv 9 0,ln 10 9,oo 11 (.mov (Kc 0))] []) (.block 0 (.loop (.seq (.region [oo 12 (.bin .lss (tm 11) (tm 10))] []) (.seq (.cond (tm 12) .skip (.exit 0)) (.seq (.block 1 (.seq (.region [ix 13 4 9 11,lA 14 4 13,⟨some 5,.alloc [S0,.nil,Z0,Z0],none,[]⟩,o0 (.store 4 (tm 5) (tm 14))] []) (.region [mv 15 3,fa 16 0 5,ld 17 16,oo 18 (.call 31 [tm 17]),fa 19 1 5,ld 20 19,oo 21 (.call 32 [tm 20]),fa 22 2 5,ld 23 22,fa 24 3 5,ld 25 24,oo 26 (.buildT 1 2 [Z0] [(0,(tm 23)),(1,(tm 25))]),oo 27 (.call 32 [tm 26]),oo 28 (.buildT 1 4 [.nil] [(0,(tm 15)),(1,(tm 18)),(2,(tm 21)),(3,(tm 27))]),oo 29 (.call 30 [tm 28]),mv 3 29] []))) (.region [oo 30 (.bin .add (tm 11) (Kc 1)),mv 11 30] []))))))) (.seq (.region [mv 31 3,mv 2 31] []) .ret))))
theorem l12:(Try.f12.body.bind (bo Try.prog 32 []))=some c12:=by kernel_rfl
def c30:ba:=(.seq (.region [oo 2 (.mov (.const .nil))] []) (.seq (.region [oo 3 (.mov (Kc 0))] []) (.seq (.seq (.region [mv 9 0,ln 10 9,oo 11 (.mov (Kc 0))] []) (.block 0 (.loop (.seq (.region [oo 12 (.bin .lss (tm 11) (tm 10))] []) (.seq (.cond (tm 12) .skip (.exit 0)) (.seq (.block 1 (.seq (.region [ix 13 1 9 11,ld 14 13,mv 5 14] []) (.seq (.region [mv 15 3,mv 16 5,ln 17 16,oo 18 (.bin .add (tm 15) (tm 17)),mv 3 18] []) (.seq (.region [mv 19 3,oo 20 (.bin .lss (tm 19) (Kc 0))] []) (.cond (tm 20) (.region [oo 21 (.bad),o0 (.bad)] []) .skip))))) (.region [oo 22 (.bin .add (tm 11) (Kc 1)),mv 11 22] []))))))) (.seq (.region [mv 23 3,oo 24 (.inl 54 [(.const .nil),(tm 23)]),mv 6 24] []) (.seq (.seq (.region [mv 25 0,ln 26 25,oo 27 (.mov (Kc 0))] []) (.block 2 (.loop (.seq (.region [oo 28 (.bin .lss (tm 27) (tm 26))] []) (.seq (.cond (tm 28) .skip (.exit 2)) (.seq (.block 3 (.seq (.region [ix 29 1 25 27,ld 30 29,mv 8 30] []) (.region [mv 31 6,mv 32 8,oo 33 (.append 50 5 1 1 (tm 31) (tm 32)),mv 6 33] []))) (.region [oo 34 (.bin .add (tm 27) (Kc 1)),mv 27 34] []))))))) (.seq (.region [mv 35 6,mv 2 35] []) .ret))))))
theorem l30:(Try.f30.body.bind (bo Try.prog 36 [54]))=some c30:=by kernel_rfl
def c9:ba:=(.seq (.region [oo 2 (.mov kF)] []) (.seq (.seq (.region [oo 3 (.mov (Kc 0))] []) (.block 0 (.loop (.seq (.seq (.region [mv 4 3,mv 5 0,ln 6 5,oo 7 (.bin .lss (tm 4) (tm 6))] []) (.cond (tm 7) .skip (.exit 0))) (.seq (.block 1 (.seq (.region [mv 10 0,mv 11 3,ix 12 1 10 11,ld 13 12,mv 14 3,oo 15 (.bin .add (tm 14) (Kc 1)),oo 16 (.minI (tm 15) (Kc 7)),oo 17 (.bin .neq (tm 13) (tm 16))] []) (.cond (tm 17) (.seq (.region [oo 2 (.mov kF)] []) .ret) .skip))) (.region [mv 8 3,oo 9 (.bin .add (tm 8) (Kc 1)),mv 3 9] [])))))) (.seq (.region [mv 18 0,ln 19 18,oo 20 (.bin .eql (tm 19) (Kc 10)),mv 2 20] []) .ret)))
theorem l9:(Try.f9.body.bind (bo Try.prog 21 []))=some c9:=by kernel_rfl
end Go.ST6
end
section
namespace Go.ST
open Go Go.DL Go.MM Go.Proofs
open Go.TY hiding Fd
theorem zA (a b:RE):a=b↔qB a b=0∧a.n=b.n∧a.at_=b.at_:=by
 rw [rz]
 obtain ⟨v,k,n,t⟩:=a
 obtain ⟨v',k',n',t'⟩:=b
 simp [and_assoc]
theorem yp (a b:RE) (ha:kOk a) (hb:kOk b):DCalls Try.prog 37 [.agg (qu a),.agg (qu b)] (.bool (decide (a=b))):=by
 have hC:=rB a b ha hb
 have hiff:=zA a b
 refine pN (rs:=[.tmp 4]) mixed Try.func37 Go.ST6.l37 rfl rfl rfl (r:=[.bool _]) (nlZ rfl) ?_
 by_cases c1:qB a b=0
 ·by_cases c2:a.n=b.n
  ·by_cases c3:a.at_=b.at_
   ·rw [decide_eq_true (hiff.2 ⟨c1,c2,c3⟩)]
    repeat' ((conv=>whnf);first|exact trivial|refine qk _ (hC) ?_|refine py c1 ?_|refine py c2 ?_|refine py c3 ?_|refine nT_ ?_|refine aE1 ?_|refine aE0 ?_|refine aN1 ?_|refine aN0 ?_|refine aD1 ?_|refine aD0 ?_|refine nE_ (fun hq=>?_) (fun hq=>?_)|refine nN_ (fun hq=>?_) (fun hq=>?_)|refine nD_ (fun hq=>?_) (fun hq=>?_)|refine rb1 ?_|refine rb0 ?_|refine rbx ?_|refine rix ?_|(refine And.intro (by first|exact qw _|fail) ?_)|refine aS ?_|fail)
   ·rw [decide_eq_false fun e=>c3 (hiff.1 e).2.2]
    repeat' ((conv=>whnf);first|exact trivial|refine qk _ (hC) ?_|refine py c1 ?_|refine py c2 ?_|refine px c3 ?_|refine nT_ ?_|refine aE1 ?_|refine aE0 ?_|refine aN1 ?_|refine aN0 ?_|refine aD1 ?_|refine aD0 ?_|refine nE_ (fun hq=>?_) (fun hq=>?_)|refine nN_ (fun hq=>?_) (fun hq=>?_)|refine nD_ (fun hq=>?_) (fun hq=>?_)|refine rb1 ?_|refine rb0 ?_|refine rbx ?_|refine rix ?_|(refine And.intro (by first|exact qw _|fail) ?_)|refine aS ?_|fail)
  ·rw [decide_eq_false fun e=>c2 (hiff.1 e).2.1]
   repeat' ((conv=>whnf);first|exact trivial|refine qk _ (hC) ?_|refine py c1 ?_|refine px c2 ?_|refine nT_ ?_|refine aE1 ?_|refine aE0 ?_|refine aN1 ?_|refine aN0 ?_|refine aD1 ?_|refine aD0 ?_|refine nE_ (fun hq=>?_) (fun hq=>?_)|refine nN_ (fun hq=>?_) (fun hq=>?_)|refine nD_ (fun hq=>?_) (fun hq=>?_)|refine rb1 ?_|refine rb0 ?_|refine rbx ?_|refine rix ?_|(refine And.intro (by first|exact qw _|fail) ?_)|refine aS ?_|fail)
 ·rw [decide_eq_false fun e=>c1 (hiff.1 e).1]
  repeat' ((conv=>whnf);first|exact trivial|refine qk _ (hC) ?_|refine px c1 ?_|refine nT_ ?_|refine aE1 ?_|refine aE0 ?_|refine aN1 ?_|refine aN0 ?_|refine aD1 ?_|refine aD0 ?_|refine nE_ (fun hq=>?_) (fun hq=>?_)|refine nN_ (fun hq=>?_) (fun hq=>?_)|refine nD_ (fun hq=>?_) (fun hq=>?_)|refine rb1 ?_|refine rb0 ?_|refine rbx ?_|refine rix ?_|(refine And.intro (by first|exact qw _|fail) ?_)|refine aS ?_|fail)
theorem wU {a b:List RE} (hl:a.length=b.length):decide (a=b)=true↔ ∀j (h:j<a.length) (h':j<b.length),a[j]=b[j]:=by
 rw [decide_eq_true_eq]
 constructor
 ·intro e;subst e;intros;rfl
 ·intro h;exact List.ext_getElem hl h
theorem xt (a b:List RE) (_:a.length<2^40) (hlb:b.length<2^40) (hka: ∀x∈a,kOk x) (hkb: ∀x∈b,kOk x):DCalls Try.prog 36 [esT a,esT b,.clos 37 []] (.bool (decide (a=b))):=by
 have hn:((a.map qx).length:Int)=a.length:=by rw [List.length_map]
 have hm:((b.map qx).length:Int)=b.length:=by rw [List.length_map]
 refine pN (rs:=[.tmp 6]) mixed Try.func36 Go.ST6.l36 rfl rfl rfl (r:=[.bool _]) (nlZ rfl) ?_
 by_cases hab:a.length=b.length
 case neg=>
  rw [decide_eq_false fun e=>hab (by rw [e])]
  have hne:((a.map qx).length:Int)≠((b.map qx).length:Int):=by omega
  repeat' ((conv=>whnf);first|exact trivial|refine ql hne ?_|refine nT_ ?_|refine aE1 ?_|refine aE0 ?_|refine aN1 ?_|refine aN0 ?_|refine aD1 ?_|refine aD0 ?_|refine nE_ (fun hq=>?_) (fun hq=>?_)|refine nN_ (fun hq=>?_) (fun hq=>?_)|refine nD_ (fun hq=>?_) (fun hq=>?_)|refine rb1 ?_|refine rb0 ?_|refine rbx ?_|refine rix ?_|refine aS ?_|fail)
 have heq:((a.map qx).length:Int)=((b.map qx).length:Int):=by omega
 repeat' ((conv=>whnf);first|exact trivial|refine pz heq ?_|refine nT_ ?_|refine aE1 ?_|refine aE0 ?_|refine aN1 ?_|refine aN0 ?_|refine aD1 ?_|refine aD0 ?_|refine nE_ (fun hq=>?_) (fun hq=>?_)|refine nN_ (fun hq=>?_) (fun hq=>?_)|refine nD_ (fun hq=>?_) (fun hq=>?_)|refine rb1 ?_|refine rb0 ?_|refine rbx ?_|refine rix ?_|refine aS ?_|fail)
 refine qc (α:=Nat) (fun i=>{sl:=[(1,.t (esT b)),(2,.t (.clos 37 [])),(15,.t (esT a)),(16,.t (I a.length)),(17,.t (I i))],bx:=[]})
  (fun i=>i≤a.length∧ ∀j (h:j<a.length) (h':j<b.length),j<i→a[j]=b[j]) (fun i=>a.length - i) 0 ⟨Nat.zero_le _,fun j _ _ h=>by omega⟩ ?_ ?_
 ·repeat' (first|(exact leI hn.symm)|exact trivial|exact LeV.same _|exact LeB.same _|exact rfl|exact fun _ _ _=>trivial|exact lI|exact LeV.nil _ _ _|exact lB|refine qq ?_|refine qo ?_|refine And.intro ?_ ?_)
 rintro i ⟨hi,hp⟩
 rcases Nat.lt_or_ge i a.length with h|h
 ·have h':i<b.length:=by omega
  have hlt:(i:Int)<(a.length:Int):=by omega
  have hS:=yp a[i] b[i] (hka _ (List.getElem_mem h)) (hkb _ (List.getElem_mem h'))
  have hnx:((i+1:Nat):Int)=IntKind.wrap .i64 ((i:Int)+1):=by rw [lS] <;> omega
  have g1:(a.map qx)[((i:Int)).toNat]?.getD .nil= .agg (qu a[i]):=by rw [Int.toNat_natCast];exact qU h
  have g2:(b.map qx)[((i:Int)).toNat]?.getD .nil= .agg (qu b[i]):=by rw [Int.toNat_natCast];exact qU h'
  have b1:0≤(i:Int)∧(i:Int)<((a.map qx).length:Int):=by omega
  have b2:0≤(i:Int)∧(i:Int)<((b.map qx).length:Int):=by omega
  by_cases e:a[i]=b[i]
  ·rw [decide_eq_true e] at hS
   have hp': ∀j (h:j<a.length) (h':j<b.length),j<i+1→a[j]=b[j]:=fun j h1 h2 h3=>by
    rcases Nat.lt_or_ge j i with h4|h4
    ·exact hp j h1 h2 h4
    ·obtain rfl:j=i:=by omega
     exact e
   have hmu:a.length - (i+1)<a.length - i:=by omega
   repeat' ((conv=>whnf);first|exact trivial|refine pt hlt ?_|(refine nv_ (.agg (qu a[i])) (by first|exact g1|fail) ?_)|(refine nv_ (.agg (qu b[i])) (by first|exact g2|fail) ?_)|refine qk _ (hS) ?_|(exact ⟨i+1,⟨h,hp'⟩,hmu,by (repeat' (first|(exact leI hnx)|exact trivial|exact LeV.same _|exact LeB.same _|exact rfl|exact fun _ _ _=>trivial|exact lI|exact LeV.nil _ _ _|exact lB|refine qq ?_|refine qo ?_|refine And.intro ?_ ?_));done⟩)|refine nT_ ?_|refine aE1 ?_|refine aE0 ?_|refine aN1 ?_|refine aN0 ?_|refine aD1 ?_|refine aD0 ?_|refine nE_ (fun hq=>?_) (fun hq=>?_)|refine nN_ (fun hq=>?_) (fun hq=>?_)|refine nD_ (fun hq=>?_) (fun hq=>?_)|refine rb1 ?_|refine rb0 ?_|refine rbx ?_|refine rix ?_|(refine And.intro (by first|exact b1|exact b2|exact qw _|fail) ?_)|refine aS ?_|fail)
  ·rw [decide_eq_false e] at hS
   rw [decide_eq_false fun ee=>e (by subst ee;rfl)]
   repeat' ((conv=>whnf);first|exact trivial|refine pt hlt ?_|(refine nv_ (.agg (qu a[i])) (by first|exact g1|fail) ?_)|(refine nv_ (.agg (qu b[i])) (by first|exact g2|fail) ?_)|refine qk _ (hS) ?_|refine nT_ ?_|refine aE1 ?_|refine aE0 ?_|refine aN1 ?_|refine aN0 ?_|refine aD1 ?_|refine aD0 ?_|refine nE_ (fun hq=>?_) (fun hq=>?_)|refine nN_ (fun hq=>?_) (fun hq=>?_)|refine nD_ (fun hq=>?_) (fun hq=>?_)|refine rb1 ?_|refine rb0 ?_|refine rbx ?_|refine rix ?_|(refine And.intro (by first|exact b1|exact b2|exact qw _|fail) ?_)|refine aS ?_|fail)
 ·have hlt: ¬(i:Int)<(a.length:Int):=by omega
  rw [(wU hab).2 fun j h1 h2=>hp j h1 h2 (by omega)]
  repeat' ((conv=>whnf);first|exact trivial|refine pq hlt ?_|refine nT_ ?_|refine aE1 ?_|refine aE0 ?_|refine aN1 ?_|refine aN0 ?_|refine aD1 ?_|refine aD0 ?_|refine nE_ (fun hq=>?_) (fun hq=>?_)|refine nN_ (fun hq=>?_) (fun hq=>?_)|refine nD_ (fun hq=>?_) (fun hq=>?_)|refine rb1 ?_|refine rb0 ?_|refine rbx ?_|refine rix ?_|refine aS ?_|fail)
theorem zh (a b:List RE) (hla:a.length<2^40) (hlb:b.length<2^40) (hka: ∀x∈a,kOk x) (hkb: ∀x∈b,kOk x):DCalls Try.prog 14 [esT a,esT b] (.bool (decide (a=b))):=by
 have h:=xt a b hla hlb hka hkb
 refine pN (rs:=[.tmp 4]) mixed Try.func14 Go.ST6.l14 rfl rfl rfl (r:=[.bool _]) (nlZ rfl) ?_
 repeat' ((conv=>whnf);first|exact trivial|refine qk _ (h) ?_|refine nT_ ?_|refine aE1 ?_|refine aE0 ?_|refine aN1 ?_|refine aN0 ?_|refine aD1 ?_|refine aD0 ?_|refine nE_ (fun hq=>?_) (fun hq=>?_)|refine nN_ (fun hq=>?_) (fun hq=>?_)|refine nD_ (fun hq=>?_) (fun hq=>?_)|refine rb1 ?_|refine rb0 ?_|refine rbx ?_|refine rix ?_|refine aS ?_|fail)
def si (xs:List Int):Bool:=decide (xs.length=10)&&(List.range xs.length).all fun i=>decide (xs.getD i 0=min ((i:Int)+1) 7)
theorem uO (xs:List Int) (hl:xs.length<2^40):DCalls Try.prog 9 [.slice 1 (xs.map I)] (.bool (si xs)):=by
 have hn:((xs.map I).length:Int)=xs.length:=by rw [List.length_map]
 refine pN (rs:=[.tmp 2]) mixed Try.func9 Go.ST6.l9 rfl rfl rfl (r:=[.bool _]) (nlZ rfl) ?_
 repeat' ((conv=>whnf);first|exact trivial|refine nT_ ?_|refine aE1 ?_|refine aE0 ?_|refine aN1 ?_|refine aN0 ?_|refine aD1 ?_|refine aD0 ?_|refine nE_ (fun hq=>?_) (fun hq=>?_)|refine nN_ (fun hq=>?_) (fun hq=>?_)|refine nD_ (fun hq=>?_) (fun hq=>?_)|refine rb1 ?_|refine rb0 ?_|refine rbx ?_|refine rix ?_|refine aS ?_|fail)
 refine pX 0 (α:=Nat) (β:=Unit) (fun i=>{sl:=[(0,.t (.slice 1 (xs.map I))),(3,.t (I i))],bx:=[]})
  (fun i=>i≤xs.length∧ ∀j,j<i→xs.getD j 0=min ((j:Int)+1) 7) (fun i=>xs.length - i) (fun _=>{sl:=[(0,.t (.slice 1 (xs.map I)))],bx:=[]}) (fun _=> ∀j,j<xs.length→xs.getD j 0=min ((j:Int)+1) 7) 0 ⟨Nat.zero_le _,fun j h=>by omega⟩ ?_ ?_ ?_
 ·repeat' (first|exact trivial|exact LeV.same _|exact LeB.same _|exact rfl|exact fun _ _ _=>trivial|exact lI|exact LeV.nil _ _ _|exact lB|refine qq ?_|refine qo ?_|refine And.intro ?_ ?_)
 ·rintro i ⟨hi,hp⟩
  rcases Nat.lt_or_ge i xs.length with h|h
  ·have hlt:(i:Int)<((xs.map I).length:Int):=by omega
   have hnx:((i+1:Nat):Int)=IntKind.wrap .i64 ((i:Int)+1):=by rw [lS] <;> omega
   have hg:(xs.map I)[((i:Int)).toNat]?.getD .nil=I xs[i]:=by simp [h]
   have hgd:xs.getD i 0=xs[i]:=by simp [h]
   have hmn:(if (7:Int)<IntKind.wrap .i64 ((i:Int)+1) then 7 else IntKind.wrap .i64 ((i:Int)+1))=min ((i:Int)+1) 7:=by rw [lS (by omega) (by omega)];split <;> omega
   have hmu:xs.length - (i+1)<xs.length - i:=by omega
   by_cases c:xs[i]=(if (7:Int)<IntKind.wrap .i64 ((i:Int)+1) then 7 else IntKind.wrap .i64 ((i:Int)+1))
   ·have hp': ∀j,j<i+1→xs.getD j 0=min ((j:Int)+1) 7:=fun j hj=>by
     rcases Nat.lt_or_ge j i with h4|h4
     ·exact hp j h4
     ·obtain rfl:j=i:=by omega
      rw [hgd,c,hmn]
    repeat' ((conv=>whnf);first|exact trivial|refine pt hlt ?_|(refine nv_ (I xs[i]) (by first|exact hg|fail) ?_)|refine pz c ?_|(exact ⟨i+1,⟨h,hp'⟩,hmu,by (repeat' (first|(exact leI hnx)|exact trivial|exact LeV.same _|exact LeB.same _|exact rfl|exact fun _ _ _=>trivial|exact lI|exact LeV.nil _ _ _|exact lB|refine qq ?_|refine qo ?_|refine And.intro ?_ ?_));done⟩)|refine nT_ ?_|refine aE1 ?_|refine aE0 ?_|refine aN1 ?_|refine aN0 ?_|refine aD1 ?_|refine aD0 ?_|refine nE_ (fun hq=>?_) (fun hq=>?_)|refine nN_ (fun hq=>?_) (fun hq=>?_)|refine nD_ (fun hq=>?_) (fun hq=>?_)|refine rb1 ?_|refine rb0 ?_|refine rbx ?_|refine rix ?_|refine aS ?_|fail)
   ·have hf:si xs=false:=by
     unfold si
     rw [Bool.and_eq_false_iff]
     refine Or.inr ?_
     rw [List.all_eq_false]
     refine ⟨i,List.mem_range.2 h,?_⟩
     rw [hgd, ←hmn]
     simpa using c
    rw [hf]
    repeat' ((conv=>whnf);first|exact trivial|refine pt hlt ?_|(refine nv_ (I xs[i]) (by first|exact hg|fail) ?_)|refine ql c ?_|refine nT_ ?_|refine aE1 ?_|refine aE0 ?_|refine aN1 ?_|refine aN0 ?_|refine aD1 ?_|refine aD0 ?_|refine nE_ (fun hq=>?_) (fun hq=>?_)|refine nN_ (fun hq=>?_) (fun hq=>?_)|refine nD_ (fun hq=>?_) (fun hq=>?_)|refine rb1 ?_|refine rb0 ?_|refine rbx ?_|refine rix ?_|refine aS ?_|fail)
  ·have hlt: ¬(i:Int)<((xs.map I).length:Int):=by omega
   have hp2: ∀j,j<xs.length→xs.getD j 0=min ((j:Int)+1) 7:=fun j hj=>hp j (by omega)
   repeat' ((conv=>whnf);first|exact trivial|refine pq hlt ?_|(exact ⟨(),hp2,by (repeat' (first|exact trivial|exact LeV.same _|exact LeB.same _|exact rfl|exact fun _ _ _=>trivial|exact lI|exact LeV.nil _ _ _|exact lB|refine qq ?_|refine qo ?_|refine And.intro ?_ ?_));done⟩)|refine nT_ ?_|refine aE1 ?_|refine aE0 ?_|refine aN1 ?_|refine aN0 ?_|refine aD1 ?_|refine aD0 ?_|refine nE_ (fun hq=>?_) (fun hq=>?_)|refine nN_ (fun hq=>?_) (fun hq=>?_)|refine nD_ (fun hq=>?_) (fun hq=>?_)|refine rb1 ?_|refine rb0 ?_|refine rbx ?_|refine rix ?_|refine aS ?_|fail)
 ·rintro - hp
  have hall:((List.range xs.length).all fun i=>decide (xs.getD i 0=min ((i:Int)+1) 7))=true:=by
   rw [List.all_eq_true]
   intro j hj
   exact decide_eq_true (hp j (List.mem_range.1 hj))
  unfold si
  rw [hall,Bool.and_true]
  by_cases c:xs.length=10
  ·have hc:((xs.map I).length:Int)=10:=by omega
   rw [decide_eq_true c]
   repeat' ((conv=>whnf);first|exact trivial|refine py hc ?_|refine nT_ ?_|refine aE1 ?_|refine aE0 ?_|refine aN1 ?_|refine aN0 ?_|refine aD1 ?_|refine aD0 ?_|refine nE_ (fun hq=>?_) (fun hq=>?_)|refine nN_ (fun hq=>?_) (fun hq=>?_)|refine nD_ (fun hq=>?_) (fun hq=>?_)|refine rb1 ?_|refine rb0 ?_|refine rbx ?_|refine rix ?_|refine aS ?_|fail)
  ·have hc: ¬((xs.map I).length:Int)=10:=by omega
   rw [decide_eq_false c]
   repeat' ((conv=>whnf);first|exact trivial|refine px hc ?_|refine nT_ ?_|refine aE1 ?_|refine aE0 ?_|refine aN1 ?_|refine aN0 ?_|refine aD1 ?_|refine aD0 ?_|refine nE_ (fun hq=>?_) (fun hq=>?_)|refine nN_ (fun hq=>?_) (fun hq=>?_)|refine nD_ (fun hq=>?_) (fun hq=>?_)|refine rb1 ?_|refine rb0 ?_|refine rbx ?_|refine rix ?_|refine aS ?_|fail)
end Go.ST
end
section
end
section
namespace Go.RC
open Go Go.DL Go.Proofs
theorem mixed:Try.prog.follows .mixedOrders=true:=by kernel_rfl
abbrev I (n:Int):T:=.int .i64 n
abbrev Y (n:Int):T:=.int .u8 n
abbrev Q (n:Int):T:=.int .u64 n
theorem w8 {n:Int} (h0:0≤n) (h1:n<256):IntKind.wrap .u8 n=n:=by
 unfold IntKind.wrap;simp [IntKind.bits,IntKind.signed];omega
theorem w64 {n:Int} (h0:0≤n) (h1:n<18446744073709551616):IntKind.wrap .u64 n=n:=by
 unfold IntKind.wrap;simp [IntKind.bits,IntKind.signed];omega
end Go.RC
end
section
namespace Go.RC
open Go Go.DL Go.Proofs
theorem or_comm (k:IntKind) (a b:Int):gK .or k a b=gK .or k b a:=by
 unfold gK
 simp only [BitVec.or_comm]
end Go.RC
end
section
end
section
end
section
end
section
end
section
namespace Go.RC
open Go Go.DL Go.Proofs
def qI (bs:List Int):Prop:= ∀b∈bs,0≤b∧b<256
end Go.RC
end
section
namespace Go.RC
open Go Go.DL Go.Proofs
def sB (x:ByteArray):List Int:=x.data.toList.map fun b=>(b.toNat:Int)
theorem tU (x:ByteArray):bN x=(sB x).map Y:=by
 unfold bN sB
 rw [List.map_map];rfl
theorem sN (x:ByteArray):(sB x).length=x.size:=by
 unfold sB
 rw [List.length_map,Array.length_toList]
 rfl
theorem tQ (x:ByteArray):qI (sB x):=fun b hb=>by
 obtain ⟨u,_,rfl⟩:=List.mem_map.1 hb
 have:=u.toNat_lt
 omega
end Go.RC
end
section
namespace Go.RC
open Go Go.DL Go.Proofs
theorem vm (l:List Int) (h:qI l):sB (mj (l.map Y))=l:=by
 unfold sB mj
 simp only [List.map_map]
 refine (List.map_congr_left (g:=id) fun b hb=>?_).trans (List.map_id l)
 obtain ⟨h0,h1⟩:=h b hb
 show (((UInt8.ofNat b.toNat).toNat:Nat):Int)=b
 rw [UInt8.toNat_ofNat',Nat.mod_eq_of_lt (by omega)]
 omega
end Go.RC
end
noncomputable section
namespace Go.RC
open Go Go.DL Go.Proofs
def c29:ba:=(.seq (.region [oo 2 (.mov (.const .nil))] []) (.seq (.region [mv 5 0,oo 6 (.conv .u64 (tm 5)),oo 7 (.bin .shl (tm 6) (.const (.int .u64 1))),mv 8 0,oo 9 (.bin .shr (tm 8) (.const (.int .u64 63))),oo 10 (.conv .u64 (tm 9)),oo 11 (.bin .xor (tm 7) (tm 10)),mv 3 11] []) (.seq (.region [oo 4 (.mov (.const .nil))] []) (.seq (.block 0 (.loop (.seq (.seq (.region [mv 12 3,oo 13 (.bin .gtr (tm 12) (.const (.int .u64 127)))] []) (.cond (tm 13) .skip (.exit 0))) (.seq (.block 1 (.region [mv 16 4,mv 17 3,oo 18 (.conv .u8 (tm 17)),oo 19 (.bin .or (tm 18) (.const (Ui 128))),oo 20 (.buildF 1 1 [(Ui 0)] [(0,(tm 19))]),oo 21 (.append 50 5 1 1 (tm 16) (tm 20)),mv 4 21] [])) (.region [mv 14 3,oo 15 (.bin .shr (tm 14) (.const (.int .u64 7))),mv 3 15] []))))) (.seq (.region [mv 22 4,mv 23 3,oo 24 (.conv .u8 (tm 23)),oo 25 (.buildF 1 1 [(Ui 0)] [(0,(tm 24))]),oo 26 (.append 50 5 1 1 (tm 22) (tm 25)),mv 2 26] []) .ret)))))
theorem l29:(Try.f29.body.bind (bo Try.prog 27 [8000020,8000025]))=some c29:=by kernel_rfl
def c31:ba:=(.seq (.region [oo 2 (.mov (.const .nil))] []) (.seq (.region [mv 3 0,oo 4 (.lenS (tm 3)),oo 5 (.inl 29 [tm 4]),mv 6 0,oo 7 (.append 50 5 1 1 (tm 5) (tm 6)),mv 2 7] []) .ret))
theorem l31:(Try.f31.body.bind (bo Try.prog 8 [29]))=some c31:=by kernel_rfl
def c55:ba:=(.seq (.region [oo 4 (.mov (.const .nil))] []) (.seq (.region [mv 8 0,ln 9 8,oo 10 (.inl 29 [tm 9]),mv 5 10] []) (.seq (.seq (.region [mv 11 0,ln 12 11,oo 13 (.mov (Kc 0))] []) (.block 0 (.loop (.seq (.region [oo 14 (.bin .lss (tm 13) (tm 12))] []) (.seq (.cond (tm 14) .skip (.exit 0)) (.seq (.block 1 (.seq (.region [ix 15 1 11 13,ld 16 15,mv 7 16] []) (.region [mv 17 5,mv 18 1,mv 19 7,oo 20 (.bO (tm 18) [tm 19]),oo 21 (.append 50 5 1 1 (tm 17) (tm 20)),mv 5 21] []))) (.region [oo 22 (.bin .add (tm 13) (Kc 1)),mv 13 22] []))))))) (.seq (.region [mv 23 5,mv 4 23] []) .ret))))
theorem l55:(Try.f55.body.bind (bo Try.prog 24 [29]))=some c55:=by kernel_rfl
def c32:ba:=(.seq (.region [oo 2 (.mov (.const .nil))] []) (.seq (.region [mv 3 0,oo 4 (.inl 55 [(tm 3),(.const (.clos 29 []))]),mv 2 4] []) .ret))
theorem l32:(Try.f32.body.bind (bo Try.prog 5 [55]))=some c32:=by kernel_rfl
def c26:ba:=(.seq (.region [oo 2 (.mov (Kc 0)),oo 3 (.mov (Kc 0)),oo 4 (.mov (Kc 0))] []) (.seq (.region [oo 5 (.mov (.const (.int .u64 0)))] []) (.seq (.region [oo 6 (.mov (Kc 0))] []) (.seq .skip (.seq (.seq (.region [mv 9 0,ln 10 9,oo 11 (.mov (Kc 0))] []) (.block 0 (.loop (.seq (.region [oo 12 (.bin .lss (tm 11) (tm 10))] []) (.seq (.cond (tm 12) .skip (.exit 0)) (.seq (.block 1 (.seq (.region [mv 13 11,ix 14 1 9 11,ld 15 14,mv 7 13,mv 8 15] []) (.seq (.block 2 (.seq (.seq (.region [mv 25 7,oo 26 (.bin .eql (tm 25) (Kc 9)),mv 27 26,mT 28 8 27,oT 29 27 (.bin .gtr (tm 28) (.const (Ui 1))),oo 30 (.pick (tm 27) (tm 29) kF),mv 24 30] []) (.cond (tm 24) .skip (.region [mv 31 7,oo 32 (.bin .gtr (tm 31) (Kc 0)),mv 33 32,mT 34 8 33,oT 35 33 (.bin .eql (tm 34) (.const (Ui 0))),oo 36 (.pick (tm 33) (tm 35) kF),mv 24 36] []))) (.cond (tm 24) (.seq (.region [oo 2 (.mov (Kc 0)),oo 3 (.mov (Kc 0)),oo 4 (.mov (Kc 6))] []) .ret) (.region [mv 16 5,mv 17 8,oo 18 (.bin .and (tm 17) (.const (Ui 127))),oo 19 (.conv .u64 (tm 18)),mv 20 7,oo 21 (.bin .mul (Kc 7) (tm 20)),oo 22 (.bin .shl (tm 19) (tm 21)),oo 23 (.bin .or (tm 16) (tm 22)),mv 5 23] [])))) (.seq (.region [mv 37 8,oo 38 (.bin .lss (tm 37) (.const (Ui 128)))] []) (.cond (tm 38) (.seq (.region [mv 39 7,oo 40 (.bin .add (tm 39) (Kc 1)),mv 6 40] []) (.exit 0)) .skip))))) (.region [oo 41 (.bin .add (tm 11) (Kc 1)),mv 11 41] []))))))) (.seq (.seq (.region [mv 42 6,oo 43 (.bin .eql (tm 42) (Kc 0))] []) (.cond (tm 43) (.seq (.region [oo 2 (.mov (Kc 0)),oo 3 (.mov (Kc 0)),oo 4 (.mov (Kc 5))] []) .ret) .skip)) (.seq (.region [mv 44 5,oo 45 (.bin .shr (tm 44) (.const (.int .u64 1))),oo 46 (.conv .i64 (tm 45)),mv 47 5,oo 48 (.bin .and (tm 47) (.const (.int .u64 1))),oo 49 (.conv .i64 (tm 48)),oo 50 (.neg (tm 49)),oo 51 (.bin .xor (tm 46) (tm 50)),mv 52 6,mv 2 51,mv 3 52,oo 4 (.mov (Kc 0))] []) .ret)))))))
theorem l26:(Try.f26.body.bind (bo Try.prog 53 []))=some c26:=by kernel_rfl
def c52:ba:=(.seq (.region [oo 4 (.mov (Kc 0)),oo 5 (.mov (Kc 0)),oo 6 (.mov (Kc 0))] []) (.seq (.region [mv 11 0,oo 12 (.call 26 [tm 11]),mv 10 12,oo 13 (.ext (tm 10) 0),oo 14 (.ext (tm 10) 1),oo 15 (.ext (tm 10) 2),mv 7 13,mv 8 14,mv 9 15] []) (.seq (.block 0 (.seq (.region [mv 17 9,oo 18 (.bin .neq (tm 17) (Kc 0)),mv 16 18] []) (.cond (tm 16) (.seq (.region [mv 19 9,oo 4 (.mov (Kc 0)),oo 5 (.mov (Kc 0)),mv 6 19] []) .ret) (.seq (.region [mv 21 7,oo 22 (.bin .lss (tm 21) (Kc 0)),mv 20 22] []) (.cond (tm 20) (.seq (.region [oo 4 (.mov (Kc 0)),oo 5 (.mov (Kc 0)),oo 6 (.mov (Kc 6))] []) .ret) (.seq (.region [mv 24 7,mv 25 0,ln 26 25,mv 27 8,oo 28 (.bin .sub (tm 26) (tm 27)),mv 29 1,oo 30 (.bin .quo (tm 28) (tm 29)),oo 31 (.bin .gtr (tm 24) (tm 30)),mv 23 31] []) (.cond (tm 23) (.seq (.region [oo 4 (.mov (Kc 0)),oo 5 (.mov (Kc 0)),oo 6 (.mov (Kc 5))] []) .ret) .skip))))))) (.seq (.region [mv 32 7,mv 33 8,mv 4 32,mv 5 33,oo 6 (.mov (Kc 0))] []) .ret))))
theorem l52:(Try.f52.body.bind (bo Try.prog 34 []))=some c52:=by kernel_rfl
def c53:ba:=(.seq (.region [oo 6 (.mov (.const .nil)),oo 7 (.mov (Kc 0)),oo 8 (.mov (Kc 0))] []) (.seq (.region [mv 17 0,mv 18 1,oo 19 (.call 52 [(tm 17),(tm 18)]),mv 16 19,oo 20 (.ext (tm 16) 0),oo 21 (.ext (tm 16) 1),oo 22 (.ext (tm 16) 2),mv 9 20,mv 10 21,mv 11 22] []) (.seq (.seq (.region [mv 23 11,oo 24 (.bin .neq (tm 23) (Kc 0))] []) (.cond (tm 24) (.seq (.region [mv 25 11,oo 6 (.mov (.const .nil)),oo 7 (.mov (Kc 0)),mv 8 25] []) .ret) .skip)) (.seq (.region [oo 12 (.mov (.const .nil))] []) (.seq (.seq (.region [mv 26 9,oo 27 (.mov (Kc 0))] []) (.block 0 (.loop (.seq (.region [oo 28 (.bin .lss (tm 27) (tm 26))] []) (.seq (.cond (tm 28) .skip (.exit 0)) (.seq (.block 1 (.seq (.region [mv 30 2,mv 31 0,mv 32 10,oo 33 (.slice 1 (tm 31) (some (tm 32)) none),oo 34 (.bO (tm 30) [tm 33]),mv 29 34,oo 35 (.ext (tm 29) 0),oo 36 (.ext (tm 29) 1),oo 37 (.ext (tm 29) 2),mv 13 35,mv 14 36,mv 15 37] []) (.seq (.seq (.region [mv 38 15,oo 39 (.bin .neq (tm 38) (Kc 0))] []) (.cond (tm 39) (.seq (.region [mv 40 15,oo 6 (.mov (.const .nil)),oo 7 (.mov (Kc 0)),mv 8 40] []) .ret) .skip)) (.region [mv 41 12,mv 42 13,oo 43 (.buildF 1 1 [Z0] [(0,(tm 42))]),oo 44 (.append 29 3 1 8 (tm 41) (tm 43)),mv 45 10,mv 46 14,oo 47 (.bin .add (tm 45) (tm 46)),mv 12 44,mv 10 47] [])))) (.region [oo 48 (.bin .add (tm 27) (Kc 1)),mv 27 48] []))))))) (.seq (.region [mv 49 12,mv 50 10,mv 6 49,mv 7 50,oo 8 (.mov (Kc 0))] []) .ret))))))
theorem l53:(Try.f53.body.bind (bo Try.prog 51 [8000043]))=some c53:=by kernel_rfl
def c28:ba:=(.seq (.region [oo 2 (.mov (.const .nil)),oo 3 (.mov (Kc 0)),oo 4 (.mov (Kc 0))] []) (.seq (.region [mv 5 0,oo 6 (.call 53 [(tm 5),(Kc 1),(.const (.clos 26 []))]),oo 7 (.ext (tm 6) 0),oo 8 (.ext (tm 6) 1),oo 9 (.ext (tm 6) 2),mv 2 7,mv 3 8,mv 4 9] []) .ret))
theorem l28:(Try.f28.body.bind (bo Try.prog 10 []))=some c28:=by kernel_rfl
end Go.RC
end
section
namespace Go.RC
open Go Go.DL Go.Proofs
def vb (z:Nat):List Int:=if h:z<128 then [(z:Int)] else ((z % 128+128:Nat):Int)::vb (z / 128)
termination_by z
decreasing_by omega
theorem sd {z:Nat} (h:z<128):vb z=[(z:Int)]:=by rw [vb,dif_pos h]
theorem sE {z:Nat} (h: ¬z<128):vb z=((z % 128+128:Nat):Int)::vb (z / 128):=by rw [vb,dif_neg h]
theorem yu (z:Nat):qI (vb z):=by
 induction z using Nat.strongRecOn with
 |ind z ih=>
  intro b hb
  by_cases h:z<128
  ·rw [sd h] at hb
   rw [List.mem_singleton.1 hb];omega
  ·rw [sE h] at hb
   rcases List.mem_cons.1 hb with rfl|hb
   ·omega
   ·exact ih (z / 128) (by omega) b hb
theorem wJ: ∀(k z:Nat),z<128^(k+1)→(vb z).length≤k+1
 |0,z,h=>by rw [sd (by simpa using h)];simp
 |k+1,z,h=>by
  by_cases h1:z<128
  ·rw [sd h1];simp
  ·rw [sE h1,List.length_cons]
   have:=wJ k (z / 128) (Nat.div_lt_of_lt_mul (by rw [← Nat.pow_succ'];exact h))
   omega
def zz (n:Int):Nat:=if 0≤n then (2 * n).toNat else (2 * (-1 - n)+1).toNat
def i64 (n:Int):Prop:= -9223372036854775808≤n∧n<9223372036854775808
theorem vT {n:Int} (h:i64 n):zz n<18446744073709551616:=by
 unfold zz;obtain ⟨h1,h2⟩:=h;split <;> omega
def vi (n:Int):List Int:=vb (zz n)
theorem rU (n:Int):qI (vi n):=yu _
theorem sP {n:Int} (h:i64 n):(vi n).length≤10:=wJ 9 _ (Nat.lt_of_lt_of_le (vT h) (by decide))
theorem xG {a:Int} (h0:0≤a) (h1:a<18446744073709551616):gK .xor .u64 a 18446744073709551615=18446744073709551615 - a:=by
 obtain ⟨a,rfl⟩:=Int.eq_ofNat_of_zero_le h0
 have ha:a<2^64:=by omega
 have e1:(BitVec.ofInt 64 18446744073709551615)=BitVec.allOnes 64:=by decide
 have e2:(BitVec.ofInt 64 ((a:Nat):Int)).toNat=a:=by
  rw [BitVec.ofInt_natCast,BitVec.toNat_ofNat,Nat.mod_eq_of_lt ha]
 show IntKind.u64.wrap ((BitVec.ofInt 64 ((a:Nat):Int) ^^^ BitVec.ofInt 64 18446744073709551615).toNat:Int)=_
 rw [e1,BitVec.xor_allOnes,BitVec.toNat_not,e2,w64 (by omega) (by omega)]
 omega
theorem xor_zero {a:Int} (h0:0≤a) (h1:a<18446744073709551616):gK .xor .u64 a 0=a:=by
 obtain ⟨a,rfl⟩:=Int.eq_ofNat_of_zero_le h0
 have ha:a<2^64:=by omega
 have e2:(BitVec.ofInt 64 ((a:Nat):Int)).toNat=a:=by
  rw [BitVec.ofInt_natCast,BitVec.toNat_ofNat,Nat.mod_eq_of_lt ha]
 show IntKind.u64.wrap ((BitVec.ofInt 64 ((a:Nat):Int) ^^^ BitVec.ofInt 64 0).toNat:Int)=_
 rw [show BitVec.ofInt 64 0=0#64 from rfl,BitVec.xor_zero,e2,w64 (by omega) (by omega)]
theorem sV (n:Int):IntKind.u64.wrap n=n % 18446744073709551616:=by
 unfold IntKind.wrap
 simp [IntKind.bits,IntKind.signed]
theorem zig {n:Int} (h:i64 n):gK .xor .u64 (IntKind.u64.wrap (IntKind.u64.wrap n * 2^1)) (IntKind.u64.wrap (n.fdiv (2^63)))=zz n:=by
 obtain ⟨h1,h2⟩:=h
 unfold zz
 rw [show (2:Int)^1=2 from rfl,show (2:Int)^63=9223372036854775808 from rfl]
 rw [Int.fdiv_eq_ediv_of_nonneg _ (by decide)]
 by_cases h0:0≤n
 ·rw [if_pos h0,show n / 9223372036854775808=0 by omega,w64 (n:=n) h0 (by omega),w64 (n:=n * 2) (by omega) (by omega),w64 (n:=0) (by omega) (by omega),xor_zero (by omega) (by omega)]
  omega
 ·rw [if_neg h0,show n / 9223372036854775808= -1 by omega]
  rw [show IntKind.u64.wrap (-1)=18446744073709551615 from rfl,xG (by rw [sV];omega) (by rw [sV];omega),sV,sV]
  omega
theorem zy: ∀b:Fin 256,gK .or .u8 (b.val:Int) 128=((b.val % 128+128:Nat):Int):=by decide+kernel
theorem yB (z:Nat):gK .or .u8 (IntKind.u8.wrap (z:Int)) 128=((z % 128+128:Nat):Int):=by
 have e:IntKind.u8.wrap (z:Int)=((z % 256:Nat):Int):=by
  unfold IntKind.wrap
  simp [IntKind.bits,IntKind.signed]
 have:=zy ⟨z % 256,Nat.mod_lt _ (by decide)⟩
 dsimp only at this
 rw [e,this]
 omega
theorem flY (xs:List Int): ∀t∈(xs.map Y).flatMap T.cells,t.flat=true:=fun t ht=>by
 obtain ⟨x,hx,ht⟩:=List.mem_flatMap.1 ht
 obtain ⟨n,_,rfl⟩:=List.mem_map.1 hx
 rw [List.mem_singleton.1 ht];rfl
theorem tc (n:Int) (h:i64 n):dM Try.prog 29 [I n] 5 1 ((vi n).map Y) []:=by
 refine pS (rs:=[.tmp 2]) mixed Try.func29 l29 rfl rfl rfl (nlZ rfl) ?_
 have hz:=vT h
 have hl:=sP h
 have hzig:=zig h
 unfold vi at hl ⊢
 generalize zz n=z0 at hz hl hzig
 repeat' ((conv=>whnf);first|exact trivial|refine nT_ ?_|refine aE1 ?_|refine aE0 ?_|refine aN1 ?_|refine aN0 ?_|refine aD1 ?_|refine aD0 ?_|refine nE_ (fun hq=>?_) (fun hq=>?_)|refine nN_ (fun hq=>?_) (fun hq=>?_)|refine nD_ (fun hq=>?_) (fun hq=>?_)|refine rb1 ?_|refine rb0 ?_|refine rbx ?_|refine rix ?_|refine aS ?_|fail)
 refine pX 0 (α:=Nat×Nat×List Int) (β:=Nat×Nat×List Int) (fun q=>{sl:=[(3,.t (Q q.2.1)),(4,.own q.1 5 1 (q.2.2.map Y))],bx:=[]})
  (fun q=>q.2.1<18446744073709551616∧q.2.2++vb q.2.1=vb z0) (fun q=>q.2.1) (fun q=>{sl:=[(3,.t (Q q.2.1)),(4,.own q.1 5 1 (q.2.2.map Y))],bx:=[]}) (fun q=>q.2.1<128∧q.2.2++vb q.2.1=vb z0) (21,z0,[]) (by dsimp only;exact ⟨hz,rfl⟩) ?_ ?_ ?_
 ·repeat' (first|((refine leT (congrArg Q ?_);rw [← hzig];rfl))|exact trivial|exact LeV.same _|exact LeB.same _|exact rfl|exact fun _ _ _=>trivial|exact lI|exact LeV.nil _ _ _|exact lB|refine qq ?_|refine qo ?_|refine And.intro ?_ ?_)
 ·rintro ⟨q,z,out⟩ ⟨h1,h2⟩
  dsimp only at h1 h2
  rcases Nat.lt_or_ge z 128 with h|h
  ·repeat' ((conv=>whnf);first|exact trivial|refine pq (by omega) ?_|refine nT_ ?_|refine aE1 ?_|refine aE0 ?_|refine aN1 ?_|refine aN0 ?_|refine aD1 ?_|refine aD0 ?_|refine nE_ (fun hq=>?_) (fun hq=>?_)|refine nN_ (fun hq=>?_) (fun hq=>?_)|refine nD_ (fun hq=>?_) (fun hq=>?_)|refine rb1 ?_|refine rb0 ?_|refine rbx ?_|refine rix ?_|refine aS ?_|fail)
   exact ⟨(q,z,out),⟨h,h2⟩,by repeat' (first|exact trivial|exact LeV.same _|exact LeB.same _|exact rfl|exact fun _ _ _=>trivial|exact lI|exact LeV.nil _ _ _|exact lB|refine qq ?_|refine qo ?_|refine And.intro ?_ ?_)⟩
  ·have e:=sE (z:=z) (by omega)
   rw [e] at h2
   have hol:=congrArg List.length h2
   rw [List.length_append,List.length_cons] at hol
   have hdiv:(z:Int).fdiv (2^7)=(z / 128:Nat):=by
    rw [Int.fdiv_eq_ediv_of_nonneg _ (by decide)];rfl
   repeat' ((conv=>whnf);first|exact trivial|refine pt (by omega) ?_|refine nT_ ?_|refine aE1 ?_|refine aE0 ?_|refine aN1 ?_|refine aN0 ?_|refine aD1 ?_|refine aD0 ?_|refine nE_ (fun hq=>?_) (fun hq=>?_)|refine nN_ (fun hq=>?_) (fun hq=>?_)|refine nD_ (fun hq=>?_) (fun hq=>?_)|refine rb1 ?_|refine rb0 ?_|refine rbx ?_|refine rix ?_|(refine And.intro (by first|((simp;omega);done)|fail) ?_)|refine aS ?_|fail)
   refine ⟨(21,z / 128,out++[((z % 128+128:Nat):Int)]),⟨by dsimp only;omega,by simpa using h2⟩,by dsimp only;omega,?_⟩
   repeat' (first|((refine leT (congrArg Q ?_);exact hdiv.symm))|exact trivial|exact LeV.same _|exact LeB.same _|exact rfl|exact fun _ _ _=>trivial|exact lI|exact LeV.nil _ _ _|exact lB|refine qq ?_|refine qo ?_|refine And.intro ?_ ?_)
   rw [List.map_append,List.map_singleton, ←yB]
   rfl
 rintro ⟨q,z,out⟩ ⟨h1,h2⟩
 dsimp only at h1 h2
 rw [sd h1] at h2
 have hol:=congrArg List.length h2
 rw [List.length_append,List.length_singleton] at hol
 have e1:IntKind.u8.wrap (z:Int)=z:=w8 (by omega) (by omega)
 rw [← h2]
 repeat' ((conv=>whnf);first|exact trivial|refine nT_ ?_|refine aE1 ?_|refine aE0 ?_|refine aN1 ?_|refine aN0 ?_|refine aD1 ?_|refine aD0 ?_|refine nE_ (fun hq=>?_) (fun hq=>?_)|refine nN_ (fun hq=>?_) (fun hq=>?_)|refine nD_ (fun hq=>?_) (fun hq=>?_)|refine rb1 ?_|refine rb0 ?_|refine rbx ?_|refine rix ?_|(refine And.intro (by first|exact flY _|((simp;omega);done)|fail) ?_)|refine aS ?_|fail)
 refine ⟨_,rfl,.inl ⟨26,congrArg (V.own 26 5 1) ?_⟩⟩
 dsimp only
 rw [e1,List.map_append]
 rfl
end Go.RC
end
section
namespace Go.RC
open Go Go.DL Go.Proofs
def vs (s:ByteArray):List Int:=vi s.size++sB s
theorem rp {n:Nat} (h:n<2^62):i64 (n:Int):=by unfold i64;omega
theorem vd (s:ByteArray) (h:s.size<2^40):dM Try.prog 31 [.str s] 5 1 ((vs s).map Y) []:=by
 refine pS (rs:=[.tmp 2]) mixed Try.func31 l31 rfl rfl rfl (nlZ rfl) ?_
 have hi:=rp (n:=s.size) (by omega)
 have hl:=sP hi
 have hb:(bN s).length=s.size:=by rw [tU,List.length_map,sN]
 repeat' ((conv=>whnf);first|exact trivial|refine qh rfl (tc s.size hi) ?_|refine nT_ ?_|refine aE1 ?_|refine aE0 ?_|refine aN1 ?_|refine aN0 ?_|refine aD1 ?_|refine aD0 ?_|refine nE_ (fun hq=>?_) (fun hq=>?_)|refine nN_ (fun hq=>?_) (fun hq=>?_)|refine nD_ (fun hq=>?_) (fun hq=>?_)|refine rb1 ?_|refine rb0 ?_|refine rbx ?_|refine rix ?_|(refine And.intro (by first|exact flY _|((simp [hb];omega);done)|fail) ?_)|refine aS ?_|fail)
 refine ⟨_,rfl,.inl ⟨7,congrArg (V.own 7 5 1) ?_⟩⟩
 unfold vs
 rw [List.map_append,tU]
def vis (l:List Int):List Int:=vi l.length++l.flatMap vi
theorem wa {α:Type} (f:α→List Int) {l:List α} {i:Nat} (h:i<l.length):(l.take (i+1)).flatMap f=(l.take i).flatMap f++f l[i]:=by
 rw [List.take_succ_eq_append_getElem h,List.flatMap_append];simp
theorem ve {α:Type} (f:α→List Int) (k:Nat): ∀{l:List α},(∀ x∈l,(f x).length≤k)→(l.flatMap f).length≤k * l.length
 |[],_=>by simp
 |x::l,h=>by
  have h1:=ve f k (l:=l) (fun y hy=>h y (by simp [hy]))
  have h2:=h x (by simp)
  rw [List.flatMap_cons,List.length_append,List.length_cons,Nat.mul_add]
  omega
theorem yE (l:List Int) (h:l.length<2^40) (hi: ∀x∈l,i64 x):dM Try.prog 55 [.slice 1 (l.map I),.clos 29 []] 5 1 ((vis l).map Y) []:=by
 refine pS (rs:=[.tmp 4]) mixed Try.func55 l55 rfl rfl rfl (nlZ rfl) ?_
 have h0:=rp (n:=l.length) (by omega)
 have hl0:=sP h0
 repeat' ((conv=>whnf);first|exact trivial|(refine qh (ts:=[I l.length]) (by simp;rfl) (tc l.length h0) ?_)|refine nT_ ?_|refine aE1 ?_|refine aE0 ?_|refine aN1 ?_|refine aN0 ?_|refine aD1 ?_|refine aD0 ?_|refine nE_ (fun hq=>?_) (fun hq=>?_)|refine nN_ (fun hq=>?_) (fun hq=>?_)|refine nD_ (fun hq=>?_) (fun hq=>?_)|refine rb1 ?_|refine rb0 ?_|refine rbx ?_|refine rix ?_|refine aS ?_|fail)
 refine pX 0 (α:=Nat×Nat) (β:=Nat) (fun q=>{sl:=[(1,.t (.clos 29 [])),(5,.own q.1 5 1 ((vi l.length++(l.take q.2).flatMap vi).map Y)),(11,.t (.slice 1 (l.map I))),(12,.t (I l.length)),(13,.t (I q.2))],bx:=[]})
  (fun q=>q.2≤l.length) (fun q=>l.length - q.2) (fun q=>{sl:=[(5,.own q 5 1 ((vis l).map Y))],bx:=[]}) (fun _=>True) (10,0) (by simp) ?_ ?_ ?_
 ·repeat' (first|((refine leI ?_;simp;done))|exact trivial|exact LeV.same _|exact LeB.same _|exact rfl|exact fun _ _ _=>trivial|exact lI|exact LeV.nil _ _ _|exact lB|refine qq ?_|refine qo ?_|refine And.intro ?_ ?_)
  simp
 ·rintro ⟨q,i⟩ hq
  dsimp only at hq
  rcases Nat.lt_or_ge i l.length with h1|h1
  ·have hx:=hi l[i] (List.getElem_mem h1)
   have hxl:=sP hx
   have hfl:=ve vi 10 (l:=l.take i) (fun x hx=>sP (hi x (List.mem_of_mem_take hx)))
   rw [List.length_take] at hfl
   repeat' ((conv=>whnf);first|exact trivial|(refine nv_ (I l[i]) (by first|((simp [h1]);done)|fail) ?_)|refine qk _ ((tc l[i] hx).qj) ?_|refine nT_ ?_|refine aE1 ?_|refine aE0 ?_|refine aN1 ?_|refine aN0 ?_|refine aD1 ?_|refine aD0 ?_|refine nE_ (fun hq=>?_) (fun hq=>?_)|refine nN_ (fun hq=>?_) (fun hq=>?_)|refine nD_ (fun hq=>?_) (fun hq=>?_)|refine rb1 ?_|refine rb0 ?_|refine rbx ?_|refine rix ?_|(refine And.intro (by first|((simp;omega);done)|((simp only [List.length_map,List.length_append];omega);done)|fail) ?_)|refine aS ?_|fail)
   refine ⟨(21,i+1),by dsimp only;omega,by dsimp only;omega,?_⟩
   repeat' (first|exact trivial|exact LeV.same _|exact LeB.same _|exact rfl|exact fun _ _ _=>trivial|exact lI|exact LeV.nil _ _ _|exact lB|refine qq ?_|refine qo ?_|refine And.intro ?_ ?_)
   rw [wa vi h1]
   simp
  ·have:i=l.length:=by omega
   subst this
   repeat' ((conv=>whnf);first|exact trivial|refine nT_ ?_|refine aE1 ?_|refine aE0 ?_|refine aN1 ?_|refine aN0 ?_|refine aD1 ?_|refine aD0 ?_|refine nE_ (fun hq=>?_) (fun hq=>?_)|refine nN_ (fun hq=>?_) (fun hq=>?_)|refine nD_ (fun hq=>?_) (fun hq=>?_)|refine rb1 ?_|refine rb0 ?_|refine rbx ?_|refine rix ?_|refine aS ?_|fail)
   exact ⟨q,trivial,by repeat' (first|((refine qo ?_;rw [List.take_length];rfl))|exact trivial|exact LeV.same _|exact LeB.same _|exact rfl|exact fun _ _ _=>trivial|exact lI|exact LeV.nil _ _ _|exact lB|refine qq ?_|refine qo ?_|refine And.intro ?_ ?_)⟩
 rintro q -
 repeat' ((conv=>whnf);first|exact trivial|refine nT_ ?_|refine aE1 ?_|refine aE0 ?_|refine aN1 ?_|refine aN0 ?_|refine aD1 ?_|refine aD0 ?_|refine nE_ (fun hq=>?_) (fun hq=>?_)|refine nN_ (fun hq=>?_) (fun hq=>?_)|refine nD_ (fun hq=>?_) (fun hq=>?_)|refine rb1 ?_|refine rb0 ?_|refine rbx ?_|refine rix ?_|(refine And.intro (by first|exact flY _|fail) ?_)|refine aS ?_|fail)
 exact ⟨_,rfl,.inl ⟨q,rfl⟩⟩
theorem uD (l:List Int) (h:l.length<2^40) (hi: ∀x∈l,i64 x):dM Try.prog 32 [.slice 1 (l.map I)] 5 1 ((vis l).map Y) []:=by
 refine pS (rs:=[.tmp 2]) mixed Try.func32 l32 rfl rfl rfl (nlZ rfl) ?_
 repeat' ((conv=>whnf);first|exact trivial|refine qh rfl (yE l h hi) ?_|refine nT_ ?_|refine aE1 ?_|refine aE0 ?_|refine aN1 ?_|refine aN0 ?_|refine aD1 ?_|refine aD0 ?_|refine nE_ (fun hq=>?_) (fun hq=>?_)|refine nN_ (fun hq=>?_) (fun hq=>?_)|refine nD_ (fun hq=>?_) (fun hq=>?_)|refine rb1 ?_|refine rb0 ?_|refine rbx ?_|refine rix ?_|(refine And.intro (by first|exact flY _|fail) ?_)|refine aS ?_|fail)
 exact ⟨_,rfl,.inl ⟨_,rfl⟩⟩
theorem vq (s:ByteArray):qI (vs s):=fun b hb=>by
 rcases List.mem_append.1 hb with h|h
 ·exact rU _ b h
 ·exact tQ _ b h
end Go.RC
end
section
end
section
end
section
end
section
end
section
end
section
end
section
end
section
end
section
end
section
end
section
end
section
end
section
end
section
namespace Go.RC
open Go Go.DL Go.Proofs
def un (z:Int):Int:=if z % 2=1 then -1 - z / 2 else z / 2
def gz:Nat→Int→List Int→Int×Int×Int
 |_,_,[]=>(0,0,5)
 |k,z,c::r=>if (k=9∧c>1)∨(k>0∧c=0) then (0,0,6) else if c<128 then (un (z+c % 128 * 128^k),(k:Int)+1,0) else gz (k+1) (z+c % 128 * 128^k) r
def gi (b:List Int):Int×Int×Int:=gz 0 0 b
theorem xT {b:List Int} {k:Nat} {z:Int} (h:k<b.length):gz k z (b.drop k)=if (k=9∧b[k]>1)∨(k>0∧b[k]=0) then (0,0,6) else if b[k]<128 then (un (z+b[k] % 128 * 128^k),(k:Int)+1,0) else gz (k+1) (z+b[k] % 128 * 128^k) (b.drop (k+1)):=by
 rw [List.drop_eq_getElem_cons h];rfl
theorem yv: ∀c:Fin 256,gK .and .u8 (c.val:Int) 127=(c.val:Int) % 128:=by decide+kernel
theorem xL {c:Int} (h0:0≤c) (h1:c<256):gK .and .u8 c 127=c % 128:=by
 obtain ⟨c,rfl⟩:=Int.eq_ofNat_of_zero_le h0
 exact yv ⟨c,by omega⟩
theorem yb {a b:Int} (k:Nat) (ha:0≤a) (ha2:a<18446744073709551616) (hd:a % 2^k=0) (hb:0≤b) (hb2:b<2^k) (hk:k≤64):gK .or .u64 a b=a+b:=by
 obtain ⟨a,rfl⟩:=Int.eq_ofNat_of_zero_le ha
 obtain ⟨b,rfl⟩:=Int.eq_ofNat_of_zero_le hb
 have hk2:(2:Nat)^k≤2^64:=Nat.pow_le_pow_right (by decide) hk
 have hb3:b<2^k:=by exact_mod_cast hb2
 have hd2:a % 2^k=0:=by exact_mod_cast hd
 have ha3:a<2^64:=by omega
 have hb4:b<2^64:=by omega
 have e:a ||| b=a+b:=by
  have:=Nat.two_pow_add_eq_or_of_lt hb3 (a / 2^k)
  have h2:2^k * (a / 2^k)=a:=Nat.mul_div_cancel' (Nat.dvd_of_mod_eq_zero hd2)
  rw [h2] at this
  exact this.symm
 have hor:a ||| b<2^64:=Nat.or_lt_two_pow ha3 hb4
 have e1:(BitVec.ofInt 64 ((a:Nat):Int)).toNat=a:=by
  rw [BitVec.ofInt_natCast,BitVec.toNat_ofNat,Nat.mod_eq_of_lt ha3]
 have e2:(BitVec.ofInt 64 ((b:Nat):Int)).toNat=b:=by
  rw [BitVec.ofInt_natCast,BitVec.toNat_ofNat,Nat.mod_eq_of_lt hb4]
 show IntKind.u64.wrap ((BitVec.ofInt 64 ((a:Nat):Int) ||| BitVec.ofInt 64 ((b:Nat):Int)).toNat:Int)=_
 rw [BitVec.toNat_or,e1,e2,e,w64 (by omega) (by omega)]
 rfl
theorem w9 (k:Nat):(2:Int)^(7 * k)=128^k:=by rw [Int.pow_mul];rfl
theorem digit {z c:Int} {k:Nat} (hz:0≤z) (hz2:z<128^k) (hk:k≤9) (c0:0≤c) (c1:c<256) (h9:k=9→c≤1):
  gK .or .u64 z (IntKind.u64.wrap (c % 128 * 2^(7 * k)))=z+c % 128 * 128^k∧0≤z+c % 128 * 128^k∧z+c % 128 * 128^k<128^(k+1)∧z+c % 128 * 128^k<18446744073709551616:=by
 have m0:0≤c % 128:=Int.emod_nonneg _ (by decide)
 have m1:c % 128≤127:=by omega
 have hp:(0:Int)<128^k:=Int.pow_pos (by decide)
 have hlt:c % 128 * 128^k<18446744073709551616∧z+c % 128 * 128^k<18446744073709551616:=by
  by_cases h:k=9
  ·subst h
   have:c≤1:=h9 rfl
   have e:(128:Int)^9=9223372036854775808:=by decide
   rw [e] at hz2 ⊢
   omega
  ·have h8:(128:Int)^k≤128^8:=by have:=Nat.pow_le_pow_right (show 0<128 by decide) (show k≤8 by omega);exact_mod_cast this
   have e:(128:Int)^8=72057594037927936:=by decide
   have:c % 128 * 128^k≤127 * 128^k:=Int.mul_le_mul_of_nonneg_right m1 (Int.le_of_lt hp)
   rw [e] at h8
   omega
 have h0:0≤c % 128 * 128^k:=Int.mul_nonneg m0 (Int.le_of_lt hp)
 refine ⟨?_,by omega,?_,hlt.2⟩
 ·rw [w9,w64 h0 hlt.1,or_comm,yb (7 * k) h0 hlt.1 (by rw [w9];exact Int.mul_emod_left _ _) hz (by rw [w9];exact hz2) (by omega),Int.add_comm]
 ·rw [Int.pow_succ]
  have:c % 128 * 128^k≤127 * 128^k:=Int.mul_le_mul_of_nonneg_right m1 (Int.le_of_lt hp)
  omega
theorem wK {a:Int} (h0:0≤a) (h1:a<9223372036854775808):gK .xor .i64 a (-1)= -1 - a:=by
 obtain ⟨a,rfl⟩:=Int.eq_ofNat_of_zero_le h0
 have ha:a<2^64:=by omega
 have e1:(BitVec.ofInt 64 (-1))=BitVec.allOnes 64:=by decide
 have e2:(BitVec.ofInt 64 ((a:Nat):Int)).toNat=a:=by
  rw [BitVec.ofInt_natCast,BitVec.toNat_ofNat,Nat.mod_eq_of_lt ha]
 show IntKind.i64.wrap ((BitVec.ofInt 64 ((a:Nat):Int) ^^^ BitVec.ofInt 64 (-1)).toNat:Int)=_
 rw [e1,BitVec.xor_allOnes,BitVec.toNat_not,e2]
 unfold IntKind.wrap;simp [IntKind.bits,IntKind.signed];omega
theorem wL {a:Int} (h0:0≤a) (h1:a<9223372036854775808):gK .xor .i64 a 0=a:=by
 obtain ⟨a,rfl⟩:=Int.eq_ofNat_of_zero_le h0
 have ha:a<2^64:=by omega
 have e2:(BitVec.ofInt 64 ((a:Nat):Int)).toNat=a:=by
  rw [BitVec.ofInt_natCast,BitVec.toNat_ofNat,Nat.mod_eq_of_lt ha]
 show IntKind.i64.wrap ((BitVec.ofInt 64 ((a:Nat):Int) ^^^ BitVec.ofInt 64 0).toNat:Int)=_
 have e1:(BitVec.ofInt 64 0)=0#64:=by decide
 rw [e1,BitVec.xor_zero,e2]
 exact lS (by omega) (by omega)
theorem zN {z:Int} (h0:0≤z) (h1:z<18446744073709551616):gK .and .u64 z 1=z % 2:=by
 obtain ⟨a,rfl⟩:=Int.eq_ofNat_of_zero_le h0
 have ha:a<2^64:=by omega
 have e2:(BitVec.ofInt 64 ((a:Nat):Int)).toNat=a:=by
  rw [BitVec.ofInt_natCast,BitVec.toNat_ofNat,Nat.mod_eq_of_lt ha]
 show IntKind.u64.wrap ((BitVec.ofInt 64 ((a:Nat):Int) &&& BitVec.ofInt 64 1).toNat:Int)=_
 have e1:(BitVec.ofInt 64 1).toNat=1:=by decide
 rw [BitVec.toNat_and,e2,e1,Nat.and_one_is_mod,w64 (by omega) (by omega)]
 rfl
theorem zK {z:Int} (h0:0≤z) (h1:z<18446744073709551616):gK .xor .i64 (IntKind.i64.wrap (z.fdiv (2^1))) (IntKind.i64.wrap (-(IntKind.i64.wrap (gK .and .u64 z 1))))=un z:=by
 rw [zN h0 h1]
 have e:z.fdiv (2^1)=z / 2:=by rw [Int.fdiv_eq_ediv_of_nonneg _ (by decide)];rfl
 rw [e,lS (by omega) (by omega),lS (n:=z % 2) (by omega) (by omega)]
 unfold un
 rcases Int.emod_two_eq z with h|h
 ·rw [h,if_neg (by decide),show IntKind.i64.wrap (-0)=0 by decide,wL (by omega) (by omega)]
 ·rw [h,if_pos rfl,show IntKind.i64.wrap (-1)= -1 by decide,wK (by omega) (by omega)]
end Go.RC
end
section
namespace Go.RC
open Go Go.DL Go.Proofs
theorem zo {z:Int} (h0:0≤z) (h1:z<18446744073709551616):gK .xor .i64 (IntKind.i64.wrap (z.fdiv (2^min (Int.toNat 1) IntKind.u64.bits))) (IntKind.i64.wrap (0 - IntKind.i64.wrap (gK .and .u64 z 1)))=un z:=by
 rw [show min (Int.toNat 1) IntKind.u64.bits=1 from by decide,Int.zero_sub];exact zK h0 h1
abbrev gT (x:Int×Int×Int):T:=.tup [I x.1,I x.2.1,I x.2.2]
theorem rY (b:List Int) (hb:qI b) (hl:b.length<2^60):DCalls Try.prog 26 [.slice 1 (b.map Y)] (gT (gi b)):=by
 refine pN (rs:=[.tmp 2,.tmp 3,.tmp 4]) mixed Try.func26 l26 rfl rfl rfl (r:=[I _,I _,I _]) (nlZ rfl) ?_
 repeat' ((conv=>whnf);first|exact trivial|refine nT_ ?_|refine aE1 ?_|refine aE0 ?_|refine aN1 ?_|refine aN0 ?_|refine aD1 ?_|refine aD0 ?_|refine nE_ (fun hq=>?_) (fun hq=>?_)|refine nN_ (fun hq=>?_) (fun hq=>?_)|refine nD_ (fun hq=>?_) (fun hq=>?_)|refine rb1 ?_|refine rb0 ?_|refine rbx ?_|refine rix ?_|refine aS ?_|fail)
 refine pX 0 (α:=Nat×Int) (β:=Int×Int) (fun q=>{sl:=[(5,.t (Q q.2)),(6,.t (I 0)),(9,.t (.slice 1 (b.map Y))),(10,.t (I b.length)),(11,.t (I q.1))],bx:=[]})
  (fun q=>q.1≤b.length∧q.1≤9∧0≤q.2∧q.2<128^q.1∧gz q.1 q.2 (b.drop q.1)=gi b) (fun q=>b.length - q.1)
  (fun z=>{sl:=[(5,.t (Q z.1)),(6,.t (I z.2))],bx:=[]}) (fun z=>(z.2=0∧gi b=(0,0,5))∨(0<z.2∧0≤z.1∧z.1<18446744073709551616∧gi b=(un z.1,z.2,0))) (0,0) ⟨by simp,by simp,by simp,by simp,rfl⟩ ?_ ?_ ?_
 ·repeat' (first|((refine leI ?_;simp;done))|exact trivial|exact LeV.same _|exact LeB.same _|exact rfl|exact fun _ _ _=>trivial|exact lI|exact LeV.nil _ _ _|exact lB|refine qq ?_|refine qo ?_|refine And.intro ?_ ?_)
 ·rintro ⟨k,z⟩ ⟨hk,h9,hz,hz2,ho⟩
  dsimp only at hk h9 hz hz2 ho
  rcases Nat.lt_or_ge k b.length with h2|h2
  ·rw [xT h2] at ho
   obtain ⟨c0,c1⟩:=hb b[k] (List.getElem_mem h2)
   have hxe:b[k]? =some b[k]:=ggZ h2
   generalize b[k]=c at ho c0 c1 hxe
   have hg:((b.map Y)[k]?.getD .nil)=Y c:=by rw [List.getElem?_map,hxe];rfl
   by_cases hE:(k=9∧c>1)∨(k>0∧c=0)
   ·rw [if_pos hE] at ho
    by_cases k9:k=9
    ·by_cases c1':c>1
     ·repeat' ((conv=>whnf);first|exact trivial|(refine nv_ (Y c) (by first|((simp only [Int.toNat_natCast];exact hg);done)|fail) ?_)|refine nT_ ?_|refine aE1 ?_|refine aE0 ?_|refine aN1 ?_|refine aN0 ?_|refine aD1 ?_|refine aD0 ?_|refine nE_ (fun hq=>?_) (fun hq=>?_)|refine nN_ (fun hq=>?_) (fun hq=>?_)|refine nD_ (fun hq=>?_) (fun hq=>?_)|refine rb1 ?_|refine rb0 ?_|refine rbx ?_|refine rix ?_|(refine And.intro (by first|((simp;omega);done)|fail) ?_)|refine aS ?_|(exact ri (by rw [← ho]) (ri (by rw [← ho]) (ri (by rw [← ho]) trivial)))|fail)
     ·have c0':c=0:=by omega
      repeat' ((conv=>whnf);first|exact trivial|(refine nv_ (Y c) (by first|((simp only [Int.toNat_natCast];exact hg);done)|fail) ?_)|refine nT_ ?_|refine aE1 ?_|refine aE0 ?_|refine aN1 ?_|refine aN0 ?_|refine aD1 ?_|refine aD0 ?_|refine nE_ (fun hq=>?_) (fun hq=>?_)|refine nN_ (fun hq=>?_) (fun hq=>?_)|refine nD_ (fun hq=>?_) (fun hq=>?_)|refine rb1 ?_|refine rb0 ?_|refine rbx ?_|refine rix ?_|(refine And.intro (by first|((simp;omega);done)|fail) ?_)|refine aS ?_|(exact ri (by rw [← ho]) (ri (by rw [← ho]) (ri (by rw [← ho]) trivial)))|fail)
    ·have c0':c=0:=by omega
     have k0:k>0:=by omega
     repeat' ((conv=>whnf);first|exact trivial|(refine nv_ (Y c) (by first|((simp only [Int.toNat_natCast];exact hg);done)|fail) ?_)|refine nT_ ?_|refine aE1 ?_|refine aE0 ?_|refine aN1 ?_|refine aN0 ?_|refine aD1 ?_|refine aD0 ?_|refine nE_ (fun hq=>?_) (fun hq=>?_)|refine nN_ (fun hq=>?_) (fun hq=>?_)|refine nD_ (fun hq=>?_) (fun hq=>?_)|refine rb1 ?_|refine rb0 ?_|refine rbx ?_|refine rix ?_|(refine And.intro (by first|((simp;omega);done)|fail) ?_)|refine aS ?_|(exact ri (by rw [← ho]) (ri (by rw [← ho]) (ri (by rw [← ho]) trivial)))|fail)
   rw [if_neg hE] at ho
   have hd:=digit hz hz2 h9 c0 c1 (fun h=>by omega)
   have hw:IntKind.i64.wrap (7 * (k:Int))=((7 * k:Nat):Int):=by rw [lS (by omega) (by omega)];simp
   have hv:z+c % 128 * 128^k=gK .or .u64 z (IntKind.u64.wrap (IntKind.u64.wrap (gK .and .u8 c 127) * 2^min (IntKind.i64.wrap (7 * (k:Int))).toNat IntKind.u64.bits)):=by
    rw [xL c0 c1,w64 (n:=c % 128) (by omega) (by omega),hw,Int.toNat_natCast,show min (7 * k) IntKind.u64.bits=7 * k from Nat.min_eq_left (Nat.le_trans (by omega) (nlZ (n:=63) rfl)),hd.1]
   have hk1:(k:Int)+1=IntKind.i64.wrap ((k:Int)+1):=(lS (by omega) (by omega)).symm
   by_cases c8:c<128
   ·rw [if_pos c8] at ho
    by_cases k9:k=9
    ·repeat' ((conv=>whnf);first|exact trivial|(refine nv_ (Y c) (by first|((simp only [Int.toNat_natCast];exact hg);done)|fail) ?_)|refine nT_ ?_|refine aE1 ?_|refine aE0 ?_|refine aN1 ?_|refine aN0 ?_|refine aD1 ?_|refine aD0 ?_|refine nE_ (fun hq=>?_) (fun hq=>?_)|refine nN_ (fun hq=>?_) (fun hq=>?_)|refine nD_ (fun hq=>?_) (fun hq=>?_)|refine rb1 ?_|refine rb0 ?_|refine rbx ?_|refine rix ?_|(refine And.intro (by first|((simp;omega);done)|fail) ?_)|refine aS ?_|fail)
     refine ⟨(z+c % 128 * 128^k,(k:Int)+1),.inr ⟨by dsimp only;omega,hd.2.1,hd.2.2.2,ho.symm⟩,?_⟩
     repeat' (first|((refine leT ?_;exact congrArg Q hv))|((refine leI ?_;exact hk1))|exact trivial|exact LeV.same _|exact LeB.same _|exact rfl|exact fun _ _ _=>trivial|exact lI|exact LeV.nil _ _ _|exact lB|refine qq ?_|refine qo ?_|refine And.intro ?_ ?_)
    by_cases k0:k=0
    ·repeat' ((conv=>whnf);first|exact trivial|(refine nv_ (Y c) (by first|((simp only [Int.toNat_natCast];exact hg);done)|fail) ?_)|refine nT_ ?_|refine aE1 ?_|refine aE0 ?_|refine aN1 ?_|refine aN0 ?_|refine aD1 ?_|refine aD0 ?_|refine nE_ (fun hq=>?_) (fun hq=>?_)|refine nN_ (fun hq=>?_) (fun hq=>?_)|refine nD_ (fun hq=>?_) (fun hq=>?_)|refine rb1 ?_|refine rb0 ?_|refine rbx ?_|refine rix ?_|(refine And.intro (by first|((simp;omega);done)|fail) ?_)|refine aS ?_|fail)
     refine ⟨(z+c % 128 * 128^k,(k:Int)+1),.inr ⟨by dsimp only;omega,hd.2.1,hd.2.2.2,ho.symm⟩,?_⟩
     repeat' (first|((refine leT ?_;exact congrArg Q hv))|((refine leI ?_;exact hk1))|exact trivial|exact LeV.same _|exact LeB.same _|exact rfl|exact fun _ _ _=>trivial|exact lI|exact LeV.nil _ _ _|exact lB|refine qq ?_|refine qo ?_|refine And.intro ?_ ?_)
    ·have c0':c≠0:=by omega
     repeat' ((conv=>whnf);first|exact trivial|(refine nv_ (Y c) (by first|((simp only [Int.toNat_natCast];exact hg);done)|fail) ?_)|refine nT_ ?_|refine aE1 ?_|refine aE0 ?_|refine aN1 ?_|refine aN0 ?_|refine aD1 ?_|refine aD0 ?_|refine nE_ (fun hq=>?_) (fun hq=>?_)|refine nN_ (fun hq=>?_) (fun hq=>?_)|refine nD_ (fun hq=>?_) (fun hq=>?_)|refine rb1 ?_|refine rb0 ?_|refine rbx ?_|refine rix ?_|(refine And.intro (by first|((simp;omega);done)|fail) ?_)|refine aS ?_|fail)
     refine ⟨(z+c % 128 * 128^k,(k:Int)+1),.inr ⟨by dsimp only;omega,hd.2.1,hd.2.2.2,ho.symm⟩,?_⟩
     repeat' (first|((refine leT ?_;exact congrArg Q hv))|((refine leI ?_;exact hk1))|exact trivial|exact LeV.same _|exact LeB.same _|exact rfl|exact fun _ _ _=>trivial|exact lI|exact LeV.nil _ _ _|exact lB|refine qq ?_|refine qo ?_|refine And.intro ?_ ?_)
   ·rw [if_neg c8] at ho
    have k9:k≠9:=by omega
    by_cases k0:k=0
    ·repeat' ((conv=>whnf);first|exact trivial|(refine nv_ (Y c) (by first|((simp only [Int.toNat_natCast];exact hg);done)|fail) ?_)|refine nT_ ?_|refine aE1 ?_|refine aE0 ?_|refine aN1 ?_|refine aN0 ?_|refine aD1 ?_|refine aD0 ?_|refine nE_ (fun hq=>?_) (fun hq=>?_)|refine nN_ (fun hq=>?_) (fun hq=>?_)|refine nD_ (fun hq=>?_) (fun hq=>?_)|refine rb1 ?_|refine rb0 ?_|refine rbx ?_|refine rix ?_|(refine And.intro (by first|((simp;omega);done)|fail) ?_)|refine aS ?_|fail)
     refine ⟨(k+1,z+c % 128 * 128^k),⟨by dsimp only;omega,by dsimp only;omega,hd.2.1,hd.2.2.1,ho⟩,by dsimp only;omega,?_⟩
     repeat' (first|((refine leT ?_;exact congrArg Q hv))|((refine leI ?_;exact hk1))|exact trivial|exact LeV.same _|exact LeB.same _|exact rfl|exact fun _ _ _=>trivial|exact lI|exact LeV.nil _ _ _|exact lB|refine qq ?_|refine qo ?_|refine And.intro ?_ ?_)
    ·have c0':c≠0:=by omega
     repeat' ((conv=>whnf);first|exact trivial|(refine nv_ (Y c) (by first|((simp only [Int.toNat_natCast];exact hg);done)|fail) ?_)|refine nT_ ?_|refine aE1 ?_|refine aE0 ?_|refine aN1 ?_|refine aN0 ?_|refine aD1 ?_|refine aD0 ?_|refine nE_ (fun hq=>?_) (fun hq=>?_)|refine nN_ (fun hq=>?_) (fun hq=>?_)|refine nD_ (fun hq=>?_) (fun hq=>?_)|refine rb1 ?_|refine rb0 ?_|refine rbx ?_|refine rix ?_|(refine And.intro (by first|((simp;omega);done)|fail) ?_)|refine aS ?_|fail)
     refine ⟨(k+1,z+c % 128 * 128^k),⟨by dsimp only;omega,by dsimp only;omega,hd.2.1,hd.2.2.1,ho⟩,by dsimp only;omega,?_⟩
     repeat' (first|((refine leT ?_;exact congrArg Q hv))|((refine leI ?_;exact hk1))|exact trivial|exact LeV.same _|exact LeB.same _|exact rfl|exact fun _ _ _=>trivial|exact lI|exact LeV.nil _ _ _|exact lB|refine qq ?_|refine qo ?_|refine And.intro ?_ ?_)
  ·have:k=b.length:=by omega
   subst this
   rw [List.drop_length] at ho
   repeat' ((conv=>whnf);first|exact trivial|refine nT_ ?_|refine aE1 ?_|refine aE0 ?_|refine aN1 ?_|refine aN0 ?_|refine aD1 ?_|refine aD0 ?_|refine nE_ (fun hq=>?_) (fun hq=>?_)|refine nN_ (fun hq=>?_) (fun hq=>?_)|refine nD_ (fun hq=>?_) (fun hq=>?_)|refine rb1 ?_|refine rb0 ?_|refine rbx ?_|refine rix ?_|refine aS ?_|fail)
   exact ⟨(z,0),.inl ⟨rfl,ho.symm⟩,by repeat' (first|exact trivial|exact LeV.same _|exact LeB.same _|exact rfl|exact fun _ _ _=>trivial|exact lI|exact LeV.nil _ _ _|exact lB|refine qq ?_|refine qo ?_|refine And.intro ?_ ?_)⟩
 rintro ⟨z,u⟩ h
 dsimp only at h
 rcases h with ⟨h1,h2⟩|⟨h1,h2,h3,h4⟩
 ·subst h1
  rw [h2]
  repeat' ((conv=>whnf);first|exact trivial|refine nT_ ?_|refine aE1 ?_|refine aE0 ?_|refine aN1 ?_|refine aN0 ?_|refine aD1 ?_|refine aD0 ?_|refine nE_ (fun hq=>?_) (fun hq=>?_)|refine nN_ (fun hq=>?_) (fun hq=>?_)|refine nD_ (fun hq=>?_) (fun hq=>?_)|refine rb1 ?_|refine rb0 ?_|refine rbx ?_|refine rix ?_|refine aS ?_|fail)
 ·rw [h4]
  have hu:=zo h2 h3
  repeat' ((conv=>whnf);first|exact trivial|refine px (by omega) ?_|refine nT_ ?_|refine aE1 ?_|refine aE0 ?_|refine aN1 ?_|refine aN0 ?_|refine aD1 ?_|refine aD0 ?_|refine nE_ (fun hq=>?_) (fun hq=>?_)|refine nN_ (fun hq=>?_) (fun hq=>?_)|refine nD_ (fun hq=>?_) (fun hq=>?_)|refine rb1 ?_|refine rb0 ?_|refine rbx ?_|refine rix ?_|refine aS ?_|(exact ri hu (ri rfl (ri rfl trivial)))|fail)
end Go.RC
end
section
end
section
namespace Go.RC
open Go Go.DL Go.Proofs
theorem zn {z:Int} (h0:0≤z) (h1:z<18446744073709551616):i64 (un z):=by
 unfold un i64;split <;> omega
theorem xI: ∀{l:List Int} {k:Nat} {z:Int},qI l→k≤9→0≤z→z<128^k→i64 (gz k z l).1∧0≤(gz k z l).2.1∧(gz k z l).2.1≤k+l.length∧0≤(gz k z l).2.2∧(gz k z l).2.2≤6∧((gz k z l).2.2=0→(k:Int)+1≤(gz k z l).2.1)
 |[],k,z,_,_,_,_=>by
  rw [gz];refine ⟨by unfold i64;omega,by simp,by simp,by simp,by simp,by simp⟩
 |c::l,k,z,hb,h9,hz,hz2=>by
  obtain ⟨c0,c1⟩:=hb c (by simp)
  rw [gz]
  by_cases hE:(k=9∧c>1)∨(k>0∧c=0)
  ·rw [if_pos hE];refine ⟨by unfold i64;omega,by simp,by simp;omega,by simp,by simp,by simp⟩
  rw [if_neg hE]
  obtain ⟨-,d1,d2,d3⟩:=digit hz hz2 h9 c0 c1 (fun h=>by omega)
  by_cases c8:c<128
  ·rw [if_pos c8]
   exact ⟨zn d1 d3,by dsimp only;omega,by dsimp only;simp only [List.length_cons];omega,by simp,by simp,by simp⟩
  ·rw [if_neg c8]
   obtain ⟨q1,q2,q3,q4,q5,q6⟩:=xI (l:=l) (k:=k+1) (z:=z+c % 128 * 128^k) (fun x hx=>hb x (by simp [hx])) (by omega) d1 d2
   refine ⟨q1,q2,?_,q4,q5,fun h=>by have:=q6 h;omega⟩
   simp only [List.length_cons];omega
theorem rR {b:List Int} (hb:qI b):i64 (gi b).1∧0≤(gi b).2.1∧(gi b).2.1≤b.length∧0≤(gi b).2.2∧(gi b).2.2≤6∧((gi b).2.2=0→1≤(gi b).2.1):=by
 obtain ⟨q1,q2,q3,q4,q5,q6⟩:=xI (k:=0) (z:=0) hb (by omega) (by omega) (by decide)
 have e:gi b=gz 0 0 b:=rfl
 rw [e]
 exact ⟨q1,q2,by omega,q4,q5,fun h=>by have:=q6 h;omega⟩
def gl (b:List Int) (least:Int):Int×Int×Int:=if (gi b).2.2≠0 then (0,0,(gi b).2.2) else if (gi b).1<0 then (0,0,6) else if (gi b).1>(b.length - (gi b).2.1) / least then (0,0,5) else ((gi b).1,(gi b).2.1,0)
theorem sC (b:List Int) (least:Int) (hb:qI b) (hl:b.length<2^60) (h0:0<least) (h1:least<100):DCalls Try.prog 52 [.slice 1 (b.map Y),I least] (gT (gl b least)):=by
 refine pN (rs:=[.tmp 4,.tmp 5,.tmp 6]) mixed Try.func52 l52 rfl rfl rfl (r:=[I _,I _,I _]) (nlZ rfl) ?_
 have hG:=rY b hb hl
 obtain ⟨q1,q2,q3,q4,q5,q6⟩:=rR hb
 unfold gl
 generalize gi b=g at *
 obtain ⟨n,u,e⟩:=g
 dsimp only at *
 by_cases e0:e=0
 case neg=>
  rw [if_pos e0]
  repeat' ((conv=>whnf);first|exact trivial|refine qk _ (hG) ?_|refine ql e0 ?_|refine nT_ ?_|refine aE1 ?_|refine aE0 ?_|refine aN1 ?_|refine aN0 ?_|refine aD1 ?_|refine aD0 ?_|refine nE_ (fun hq=>?_) (fun hq=>?_)|refine nN_ (fun hq=>?_) (fun hq=>?_)|refine nD_ (fun hq=>?_) (fun hq=>?_)|refine rb1 ?_|refine rb0 ?_|refine rbx ?_|refine rix ?_|refine aS ?_|fail)
 rw [if_neg (by simpa using e0)]
 by_cases n0:n<0
 ·rw [if_pos n0]
  repeat' ((conv=>whnf);first|exact trivial|refine qk _ (hG) ?_|refine pz e0 ?_|refine pt n0 ?_|refine nT_ ?_|refine aE1 ?_|refine aE0 ?_|refine aN1 ?_|refine aN0 ?_|refine aD1 ?_|refine aD0 ?_|refine nE_ (fun hq=>?_) (fun hq=>?_)|refine nN_ (fun hq=>?_) (fun hq=>?_)|refine nD_ (fun hq=>?_) (fun hq=>?_)|refine rb1 ?_|refine rb0 ?_|refine rbx ?_|refine rix ?_|refine aS ?_|fail)
 rw [if_neg n0]
 have hq:IntKind.i64.wrap ((IntKind.i64.wrap (((b.map Y).length:Int) - u)).tdiv least)=(b.length - u) / least:=by
  rw [List.length_map,lS (n:=(b.length:Int) - u) (by omega) (by omega),Int.tdiv_eq_ediv_of_nonneg (by omega)]
  have h3:0≤((b.length:Int) - u) / least:=Int.ediv_nonneg (by omega) (by omega)
  have h4:((b.length:Int) - u) / least≤(b.length:Int) - u:=Int.ediv_le_self _ (by omega)
  exact lS (by omega) (by omega)
 by_cases c:n>(b.length - u) / least
 ·rw [if_pos c]
  repeat' ((conv=>whnf);first|exact trivial|refine qk _ (hG) ?_|refine pz e0 ?_|refine pq n0 ?_|(refine pt (by rw [hq];exact c) ?_)|refine nT_ ?_|refine aE1 ?_|refine aE0 ?_|refine aN1 ?_|refine aN0 ?_|refine aD1 ?_|refine aD0 ?_|refine nE_ (fun hq=>?_) (fun hq=>?_)|refine nN_ (fun hq=>?_) (fun hq=>?_)|refine nD_ (fun hq=>?_) (fun hq=>?_)|refine rb1 ?_|refine rb0 ?_|refine rbx ?_|refine rix ?_|(refine And.intro (by first|(omega;done)|fail) ?_)|refine aS ?_|fail)
 ·rw [if_neg c]
  repeat' ((conv=>whnf);first|exact trivial|refine qk _ (hG) ?_|refine pz e0 ?_|refine pq n0 ?_|(refine pq (by rw [hq];exact c) ?_)|refine nT_ ?_|refine aE1 ?_|refine aE0 ?_|refine aN1 ?_|refine aN0 ?_|refine aD1 ?_|refine aD0 ?_|refine nE_ (fun hq=>?_) (fun hq=>?_)|refine nN_ (fun hq=>?_) (fun hq=>?_)|refine nD_ (fun hq=>?_) (fun hq=>?_)|refine rb1 ?_|refine rb0 ?_|refine rbx ?_|refine rix ?_|(refine And.intro (by first|(omega;done)|fail) ?_)|refine aS ?_|fail)
end Go.RC
end
section
namespace Go.RC
open Go Go.DL Go.Proofs
def gis:Nat→List Int→Int→List Int→List Int×Int×Int
 |0,_,at',acc=>(acc,at',0)
 |n+1,b,at',acc=>if (gi (b.drop at'.toNat)).2.2≠0 then ([],0,(gi (b.drop at'.toNat)).2.2) else gis n b (at'+(gi (b.drop at'.toNat)).2.1) (acc++[(gi (b.drop at'.toNat)).1])
def qE (b:List Int):List Int×Int×Int:=if (gl b 1).2.2≠0 then ([],0,(gl b 1).2.2) else gis (gl b 1).1.toNat b (gl b 1).2.1 []
abbrev gsT (x:List Int×Int×Int):T:=.tup [if x.2.2≠0 then .nil else .slice 1 (x.1.map I),I x.2.1,I x.2.2]
theorem qQ {b:List Int} (h:qI b) (k:Nat):qI (b.drop k):=fun x hx=>h x (List.mem_of_mem_drop hx)
theorem sR {b:List Int} {least:Int} (hb:qI b) (h0:0<least):0≤(gl b least).1∧0≤(gl b least).2.1∧(gl b least).2.1≤b.length∧(gl b least).1 * least≤b.length - (gl b least).2.1:=by
 obtain ⟨q1,q2,q3,q4,q5,q6⟩:=rR hb
 unfold gl
 generalize gi b=g at *
 obtain ⟨n,u,e⟩:=g
 dsimp only at *
 by_cases e0:e≠0
 ·rw [if_pos e0];refine ⟨by simp,by simp,by simp,by simp⟩
 rw [if_neg e0]
 by_cases n0:n<0
 ·rw [if_pos n0];refine ⟨by simp,by simp,by simp,by simp⟩
 rw [if_neg n0]
 by_cases c:n>(b.length - u) / least
 ·rw [if_pos c];refine ⟨by simp,by simp,by simp,by simp⟩
 rw [if_neg c]
 refine ⟨by dsimp only;omega,by dsimp only;omega,by dsimp only;omega,?_⟩
 dsimp only
 have h1:n * least≤(b.length - u) / least * least:=Int.mul_le_mul_of_nonneg_right (by omega) (by omega)
 have h2:((b.length:Int) - u) / least * least≤(b.length:Int) - u:=Int.ediv_mul_le _ (by omega)
 omega
theorem wW {n:Nat} {b:List Int} {a:Int} {acc:List Int} (k:Nat) (hk:k<n):gis (n - k) b a acc=if (gi (b.drop a.toNat)).2.2≠0 then ([],0,(gi (b.drop a.toNat)).2.2) else gis (n - (k+1)) b (a+(gi (b.drop a.toNat)).2.1) (acc++[(gi (b.drop a.toNat)).1]):=by
 obtain ⟨m,hm⟩: ∃m,n - k=m+1:=⟨n - k - 1,by omega⟩
 rw [hm,show n - (k+1)=m by omega];rfl
end Go.RC
end
section
namespace Go.RC
open Go Go.DL Go.Proofs
theorem wF (b:List Int) (hb:qI b) (hl:b.length<2^40):DCalls Try.prog 53 [.slice 1 (b.map Y),I 1,.clos 26 []] (gsT (qE b)):=by
 refine pN (rs:=[.tmp 6,.tmp 7,.tmp 8]) mixed Try.func53 l53 rfl rfl rfl (r:=[_,I _,I _]) (nlZ rfl) ?_
 have hL:=sC b 1 hb (by omega) (by omega) (by omega)
 obtain ⟨g1,g2,g3,g4⟩:=sR (least:=1) hb (by omega)
 have hgi:qE b=if (gl b 1).2.2≠0 then ([],0,(gl b 1).2.2) else gis (gl b 1).1.toNat b (gl b 1).2.1 []:=rfl
 generalize gl b 1=g at *
 obtain ⟨n,u,e⟩:=g
 dsimp only at *
 by_cases e0:e=0
 case neg=>
  rw [if_pos e0] at hgi
  rw [hgi]
  show wpC _ _ _ (nn _ _ [if e≠0 then .nil else .slice 1 ([].map I),I 0,I e])
  rw [if_pos e0]
  repeat' ((conv=>whnf);first|exact trivial|refine qk _ (hL) ?_|refine ql e0 ?_|refine nT_ ?_|refine aE1 ?_|refine aE0 ?_|refine aN1 ?_|refine aN0 ?_|refine aD1 ?_|refine aD0 ?_|refine nE_ (fun hq=>?_) (fun hq=>?_)|refine nN_ (fun hq=>?_) (fun hq=>?_)|refine nD_ (fun hq=>?_) (fun hq=>?_)|refine rb1 ?_|refine rb0 ?_|refine rbx ?_|refine rix ?_|refine aS ?_|fail)
 rw [if_neg (fun h=>h e0)] at hgi
 rw [hgi]
 repeat' ((conv=>whnf);first|exact trivial|refine qk _ (hL) ?_|refine pz e0 ?_|refine nT_ ?_|refine aE1 ?_|refine aE0 ?_|refine aN1 ?_|refine aN0 ?_|refine aD1 ?_|refine aD0 ?_|refine nE_ (fun hq=>?_) (fun hq=>?_)|refine nN_ (fun hq=>?_) (fun hq=>?_)|refine nD_ (fun hq=>?_) (fun hq=>?_)|refine rb1 ?_|refine rb0 ?_|refine rbx ?_|refine rix ?_|refine aS ?_|fail)
 have hr:gsT (gis n.toNat b u [])= .tup [if (gis n.toNat b u []).2.2≠0 then .nil else .slice 1 ((gis n.toNat b u []).1.map I),I (gis n.toNat b u []).2.1,I (gis n.toNat b u []).2.2]:=rfl
 refine pX 0 (α:=Nat×Nat×Int×List Int) (β:=Nat×Int×List Int) (fun q=>{sl:=[(0,.t (.slice 1 (b.map Y))),(2,.t (.clos 26 [])),(10,.t (I q.2.2.1)),(12,.own q.1 3 1 (q.2.2.2.map I)),(26,.t (I n)),(27,.t (I q.2.1))],bx:=[]})
  (fun q=>q.2.1≤n.toNat∧q.2.2.2.length=q.2.1∧0≤q.2.2.1∧q.2.2.1≤b.length∧gis (n.toNat - q.2.1) b q.2.2.1 q.2.2.2=gis n.toNat b u []) (fun q=>n.toNat - q.2.1)
  (fun q=>{sl:=[(10,.t (I q.2.1)),(12,.own q.1 3 1 (q.2.2.map I))],bx:=[]}) (fun q=>gis n.toNat b u []=(q.2.2,q.2.1,0)) (44,0,u,[]) ⟨by simp,rfl,g2,g3,rfl⟩ ?_ ?_ ?_
 ·repeat' (first|exact trivial|exact LeV.same _|exact LeB.same _|exact rfl|exact fun _ _ _=>trivial|exact lI|exact LeV.nil _ _ _|exact lB|refine qq ?_|refine qo ?_|refine And.intro ?_ ?_)
 ·rintro ⟨q,k,a,acc⟩ ⟨hk,hla,ha0,ha1,ho⟩
  dsimp only at hk hla ha0 ha1 ho
  rcases Nat.lt_or_ge k n.toNat with h2|h2
  ·rw [wW k h2] at ho
   have hG:=rY (b.drop a.toNat) (qQ hb _) (by simp;omega)
   obtain ⟨q1,q2,q3,q4,q5,q6⟩:=rR (qQ hb a.toNat)
   rw [List.length_drop] at q3
   rw [List.map_drop,show (b.map Y).drop a.toNat=List.drop a.toNat (List.take ((((b.map Y).length:Nat):Int)).toNat (b.map Y)) by rw [Int.toNat_natCast,List.take_length]] at hG
   generalize gi (b.drop a.toNat)=g at *
   obtain ⟨v,w,f⟩:=g
   dsimp only at *
   by_cases f0:f=0
   ·rw [if_neg (fun h=>h f0)] at ho
    repeat' ((conv=>whnf);first|exact trivial|(refine pt (by simp;omega) ?_)|refine qk _ (hG) ?_|refine pz f0 ?_|refine nT_ ?_|refine aE1 ?_|refine aE0 ?_|refine aN1 ?_|refine aN0 ?_|refine aD1 ?_|refine aD0 ?_|refine nE_ (fun hq=>?_) (fun hq=>?_)|refine nN_ (fun hq=>?_) (fun hq=>?_)|refine nD_ (fun hq=>?_) (fun hq=>?_)|refine rb1 ?_|refine rb0 ?_|refine rbx ?_|refine rix ?_|(refine And.intro (by first|((simp;omega);done)|fail) ?_)|refine aS ?_|fail)
    have hw1:a+w=IntKind.i64.wrap (a+w):=(lS (by omega) (by omega)).symm
    have hw2:((k+1:Nat):Int)=IntKind.i64.wrap ((k:Int)+1):=by rw [lS (by omega) (by omega)];rfl
    refine ⟨(44,k+1,a+w,acc++[v]),⟨by dsimp only;omega,by simp [hla],by dsimp only;omega,by dsimp only;omega,ho⟩,by dsimp only;omega,?_⟩
    repeat' (first|((refine leI ?_;first|exact hw1|exact hw2))|((refine qo ?_;simp;done))|exact trivial|exact LeV.same _|exact LeB.same _|exact rfl|exact fun _ _ _=>trivial|exact lI|exact LeV.nil _ _ _|exact lB|refine qq ?_|refine qo ?_|refine And.intro ?_ ?_)
   ·rw [if_pos f0] at ho
    repeat' ((conv=>whnf);first|exact trivial|(refine pt (by simp;omega) ?_)|refine qk _ (hG) ?_|refine ql f0 ?_|refine nT_ ?_|refine aE1 ?_|refine aE0 ?_|refine aN1 ?_|refine aN0 ?_|refine aD1 ?_|refine aD0 ?_|refine nE_ (fun hq=>?_) (fun hq=>?_)|refine nN_ (fun hq=>?_) (fun hq=>?_)|refine nD_ (fun hq=>?_) (fun hq=>?_)|refine rb1 ?_|refine rb0 ?_|refine rbx ?_|refine rix ?_|(refine And.intro (by first|((simp;omega);done)|fail) ?_)|refine aS ?_|refine rt ?_ (ri ?_ (ri ?_ trivial))|fail)
    all_goals rw [← ho]
    exact (if_pos f0).symm
  ·have:k=n.toNat:=by omega
   subst this
   rw [Nat.sub_self] at ho
   repeat' ((conv=>whnf);first|exact trivial|(refine pq (by simp;omega) ?_)|refine nT_ ?_|refine aE1 ?_|refine aE0 ?_|refine aN1 ?_|refine aN0 ?_|refine aD1 ?_|refine aD0 ?_|refine nE_ (fun hq=>?_) (fun hq=>?_)|refine nN_ (fun hq=>?_) (fun hq=>?_)|refine nD_ (fun hq=>?_) (fun hq=>?_)|refine rb1 ?_|refine rb0 ?_|refine rbx ?_|refine rix ?_|refine aS ?_|fail)
   exact ⟨(q,a,acc),ho.symm,by repeat' (first|exact trivial|exact LeV.same _|exact LeB.same _|exact rfl|exact fun _ _ _=>trivial|exact lI|exact LeV.nil _ _ _|exact lB|refine qq ?_|refine qo ?_|refine And.intro ?_ ?_)⟩
 rintro ⟨q,a,acc⟩ h
 rw [h]
 repeat' ((conv=>whnf);first|exact trivial|refine nT_ ?_|refine aE1 ?_|refine aE0 ?_|refine aN1 ?_|refine aN0 ?_|refine aD1 ?_|refine aD0 ?_|refine nE_ (fun hq=>?_) (fun hq=>?_)|refine nN_ (fun hq=>?_) (fun hq=>?_)|refine nD_ (fun hq=>?_) (fun hq=>?_)|refine rb1 ?_|refine rb0 ?_|refine rbx ?_|refine rix ?_|refine aS ?_|fail)
theorem sa (b:List Int) (hb:qI b) (hl:b.length<2^40):DCalls Try.prog 28 [.slice 1 (b.map Y)] (gsT (qE b)):=by
 refine pN (rs:=[.tmp 2,.tmp 3,.tmp 4]) mixed Try.func28 l28 rfl rfl rfl (r:=[_,I _,I _]) (nlZ rfl) ?_
 have h:=wF b hb hl
 repeat' ((conv=>whnf);first|exact trivial|refine qk _ (h) ?_|refine nT_ ?_|refine aE1 ?_|refine aE0 ?_|refine aN1 ?_|refine aN0 ?_|refine aD1 ?_|refine aD0 ?_|refine nE_ (fun hq=>?_) (fun hq=>?_)|refine nN_ (fun hq=>?_) (fun hq=>?_)|refine nD_ (fun hq=>?_) (fun hq=>?_)|refine rb1 ?_|refine rb0 ?_|refine rbx ?_|refine rix ?_|refine aS ?_|fail)
end Go.RC
end
section
end
section
end
section
namespace Go.RC
open Go Go.DL Go.Proofs
theorem zJ (n:Int):un (zz n:Nat)=n:=by unfold un zz;split <;> split <;> omega
theorem zL {m:Nat}:zz (un (m:Int))=m:=by unfold un zz;split <;> split <;> omega
theorem zp (m:Nat):1≤(vb m).length:=by
 by_cases h:m<128
 ·rw [sd h];simp
 ·rw [sE h];simp
theorem tC (n:Int):1≤(vi n).length:=zp _
theorem Aa:(128:Int)^9=9223372036854775808:=by decide
theorem zw: ∀(m k:Nat) (z:Int) (r:List Int),0≤z→z+(m:Int) * 128^k<18446744073709551616→(k>0→m>0)→gz k z (vb m++r)=(un (z+(m:Int) * 128^k),(k:Int)+(vb m).length,0):=by
 intro m
 induction m using Nat.strongRecOn with
 |ind m ih=>
  intro k z r hz hlt hk
  have hp:(0:Int)<128^k:=Int.pow_pos (by decide)
  have h9:k=9→m<2:=fun h=>by subst h;rw [Aa] at hlt;omega
  by_cases h:m<128
  ·rw [sd h]
   show gz k z ((m:Int)::r)=_
   rw [gz,if_neg (by rintro (⟨a,b⟩|⟨a,b⟩);(have:=h9 a;omega);(have:=hk a;omega)),if_pos (by omega)]
   rw [show (m:Int) % 128=m by omega]
   rfl
  ·rw [sE h]
   show gz k z (((m % 128+128:Nat):Int)::(vb (m / 128)++r))=_
   rw [gz,if_neg (by rintro (⟨a,b⟩|⟨a,b⟩);(have:=h9 a;omega);(omega)),if_neg (by omega)]
   rw [show ((m % 128+128:Nat):Int) % 128=((m % 128:Nat):Int) by omega]
   have e:z+((m % 128:Nat):Int) * 128^k+((m / 128:Nat):Int) * 128^(k+1)=z+(m:Int) * 128^k:=by
    rw [Int.pow_succ,Int.mul_comm (128^k) 128, ←Int.mul_assoc,Int.add_assoc, ←Int.add_mul]
    congr 2;omega
   have h1:(0:Int)≤((m % 128:Nat):Int) * 128^k:=Int.mul_nonneg (by omega) (Int.le_of_lt hp)
   rw [ih (m / 128) (by omega) (k+1) _ r (by omega) (by rw [e];exact hlt) (fun _=>by omega),e,List.length_cons]
   congr 2
   omega
theorem uq {n:Int} (h:i64 n) (r:List Int):gi (vi n++r)=(n,(((vi n).length:Nat):Int),0):=by
 have:=zw (zz n) 0 0 r (by omega) (by have:=vT h;omega) (fun h=>by omega)
 unfold gi vi
 rw [this]
 have e:(0:Int)+((zz n:Nat):Int) * 128^0=((zz n:Nat):Int):=by simp
 rw [e,zJ]
 simp
theorem we: ∀{b:List Int} {k:Nat} {z:Int},qI b→k≤9→0≤z→z<128^k→(gz k z b).2.2=0→ ∃m:Nat,(gz k z b).2.1=k+(vb m).length∧b=vb m++b.drop (vb m).length∧(gz k z b).1=un (z+(m:Int) * 128^k)∧(k>0→m>0)
 |[],k,z,_,_,_,_,h=>by rw [gz] at h;simp at h
 |c::r,k,z,hb,hk,hz,hz2,h=>by
  obtain ⟨c0,c1⟩:=hb c (by simp)
  obtain ⟨c,rfl⟩:=Int.eq_ofNat_of_zero_le c0
  have hr:qI r:=fun x hx=>hb x (by simp [hx])
  rw [gz] at h ⊢
  by_cases hE:(k=9∧(c:Int)>1)∨(k>0∧(c:Int)=0)
  ·rw [if_pos hE] at h;simp at h
  rw [if_neg hE] at h ⊢
  obtain ⟨-,d1,d2,d3⟩:=digit hz hz2 hk c0 c1 (fun h=>by omega)
  by_cases c8:(c:Int)<128
  ·rw [if_pos c8]
   refine ⟨c,?_,?_,?_,fun hk0=>by omega⟩
   ·rw [sd (by omega)];rfl
   ·rw [sd (by omega)];rfl
   ·rw [show (c:Int) % 128=c by omega]
  ·rw [if_neg c8] at h ⊢
   obtain ⟨m,q1,q2,q3,q4⟩:=we (b:=r) (k:=k+1) hr (by omega) d1 d2 h
   have hm:=q4 (by omega)
   refine ⟨c % 128+128 * m,?_,?_,?_,fun _=>by omega⟩
   ·rw [q1,sE (z:=c % 128+128 * m) (by omega),show (c % 128+128 * m) / 128=m by omega,List.length_cons];omega
   ·rw [sE (z:=c % 128+128 * m) (by omega),show (c % 128+128 * m) / 128=m by omega,show (c % 128+128 * m) % 128+128=c by omega,List.length_cons,List.drop_succ_cons,List.cons_append, ←q2]
   ·rw [q3]
    congr 1
    rw [Int.pow_succ,Int.mul_comm (128^k) 128, ←Int.mul_assoc,Int.add_assoc, ←Int.add_mul]
    congr 2;omega
theorem uH {b:List Int} (hb:qI b) (h:(gi b).2.2=0):(gi b).2.1=(vi (gi b).1).length∧b=vi (gi b).1++b.drop (gi b).2.1.toNat:=by
 obtain ⟨m,q1,q2,q3,q4⟩:=we (b:=b) (k:=0) (z:=0) hb (by omega) (by omega) (by decide) h
 have e:(gi b).1=un (m:Int):=by
  rw [show (gi b).1=un (0+(m:Int) * 128^0) from q3];simp
 have q1:(gi b).2.1=((vb m).length:Int):=by rw [show (gi b).2.1=((0:Nat):Int)+(vb m).length from q1];simp
 rw [e]
 unfold vi
 rw [zL,q1]
 exact ⟨rfl,by simpa using q2⟩
theorem vB {k:Nat} {r:List Int} {least:Int} (h0:0<least) (hk:k<2^62) (h:(k:Int) * least≤r.length):gl (vi k++r) least=((k:Int),(((vi k).length:Nat):Int),0):=by
 unfold gl
 rw [uq (rp hk)]
 dsimp only
 rw [if_neg (by simp),if_neg (by omega),if_neg]
 have e:(((vi k++r).length:Nat):Int) - ((vi k).length:Int)=r.length:=by rw [List.length_append];omega
 rw [e]
 have:=(Int.le_ediv_iff_mul_le h0).2 h
 omega
theorem wc {b:List Int} {least:Int} (hb:qI b) (h:(gl b least).2.2=0):0≤(gl b least).1∧i64 (gl b least).1∧(gl b least).2.1=(vi (gl b least).1).length∧b=vi (gl b least).1++b.drop (gl b least).2.1.toNat:=by
 have h1:=uH hb
 obtain ⟨h2, -⟩:=rR hb
 unfold gl at h ⊢
 by_cases c1:(gi b).2.2≠0
 ·rw [if_pos c1] at h;exact absurd h c1
 rw [if_neg c1] at h ⊢
 by_cases c2:(gi b).1<0
 ·rw [if_pos c2] at h;simp at h
 rw [if_neg c2] at h ⊢
 by_cases c3:(gi b).1>(b.length - (gi b).2.1) / least
 ·rw [if_pos c3] at h;simp at h
 rw [if_neg c3]
 obtain ⟨q1,q2⟩:=h1 (by simpa using c1)
 exact ⟨by dsimp only;omega,h2,q1,q2⟩
theorem uG: ∀(l:List Int),l.length≤(l.flatMap vi).length
 |[]=>by simp
 |x::l=>by
  have:=uG l
  have:=tC x
  simp only [List.flatMap_cons,List.length_append,List.length_cons];omega
theorem uJ {b r:List Int}: ∀{l acc:List Int} {a:Int},0≤a→b.drop a.toNat=l.flatMap vi++r→(∀ x∈l,i64 x)→gis l.length b a acc=(acc++l,a+(l.flatMap vi).length,0)
 |[],acc,a,h0,h,_=>by simp [gis]
 |x::l,acc,a,h0,h,hx=>by
  have h1:gi (b.drop a.toNat)=(x,(((vi x).length:Nat):Int),0):=by rw [h,List.flatMap_cons,List.append_assoc];exact uq (hx x (by simp)) _
  show gis (l.length+1) b a acc=_
  rw [gis,h1,if_neg (by simp)]
  dsimp only
  rw [uJ (l:=l) (by omega) (by
   rw [show (a+((vi x).length:Int)).toNat=a.toNat+(vi x).length by omega, ←List.drop_drop,h,List.flatMap_cons,List.append_assoc,List.drop_left]) (fun y hy=>hx y (by simp [hy]))]
  simp only [List.append_assoc,List.singleton_append,List.flatMap_cons,List.length_append]
  congr 2
  omega
theorem sK {l r:List Int} (hl:l.length<2^62) (hx: ∀x∈l,i64 x):qE (vis l++r)=(l,(((vis l).length:Nat):Int),0):=by
 unfold qE vis
 rw [List.append_assoc,vB (by decide) hl (by have:=uG l;rw [List.length_append];omega)]
 dsimp only
 rw [if_neg (by simp),Int.toNat_natCast,uJ (r:=r) (by omega) (by rw [Int.toNat_natCast,List.drop_left]) hx]
 simp
theorem vf {b:List Int} (hb:qI b): ∀{n:Nat} {acc:List Int} {a:Int},0≤a→(gis n b a acc).2.2=0→ ∃l,(gis n b a acc).1=acc++l∧l.length=n∧(∀ x∈l,i64 x)∧(gis n b a acc).2.1=a+(l.flatMap vi).length∧b.drop a.toNat=l.flatMap vi++b.drop (gis n b a acc).2.1.toNat
 |0,acc,a,h0,h=>⟨[],by simp [gis],rfl,by simp,by simp [gis],by simp [gis]⟩
 |n+1,acc,a,h0,h=>by
  have hd:=qQ hb a.toNat
  rw [gis] at h ⊢
  by_cases c:(gi (b.drop a.toNat)).2.2≠0
  ·rw [if_pos c] at h;exact absurd h c
  rw [if_neg c] at h ⊢
  obtain ⟨q1,q2⟩:=uH hd (by simpa using c)
  obtain ⟨i1, -⟩:=rR hd
  generalize gi (b.drop a.toNat)=g at *
  obtain ⟨v,u,e⟩:=g
  dsimp only at *
  obtain ⟨l,p1,p2,p3,p4,p5⟩:=vf hb (n:=n) (acc:=acc++[v]) (a:=a+u) (by omega) h
  refine ⟨v::l,?_,by simp [p2],?_,?_,?_⟩
  ·rw [p1];simp
  ·intro x hx
   rcases List.mem_cons.1 hx with rfl|hx
   ·exact i1
   ·exact p3 x hx
  ·rw [p4,List.flatMap_cons,List.length_append];omega
  ·rw [q2,List.drop_drop,show a.toNat+u.toNat=(a+u).toNat by omega,p5,List.flatMap_cons,List.append_assoc]
theorem sJ {b:List Int} (hb:qI b) (h:(qE b).2.2=0):(∀ x∈(qE b).1,i64 x)∧(qE b).2.1=(vis (qE b).1).length∧b=vis (qE b).1++b.drop (qE b).2.1.toNat:=by
 have hG:=@wc b 1 hb
 unfold qE at h ⊢
 by_cases c:(gl b 1).2.2≠0
 ·rw [if_pos c] at h;exact absurd h c
 rw [if_neg c] at h ⊢
 obtain ⟨q0, -,q1,q2⟩:=hG (by simpa using c)
 generalize gl b 1=g at *
 obtain ⟨n,u,e⟩:=g
 dsimp only at *
 obtain ⟨l,p1,p2,p3,p4,p5⟩:=vf hb (n:=n.toNat) (acc:=[]) (a:=u) (by omega) h
 rw [List.nil_append] at p1
 rw [p1]
 have hn:((l.length:Nat):Int)=n:=by omega
 refine ⟨p3,?_,?_⟩
 ·rw [p4,vis,hn,List.length_append,q1];omega
 ·rw [vis,hn,List.append_assoc, ←p5];exact q2
end Go.RC
end
section
namespace Go.ST
open Go Go.DL Go.TY
open Go.RC (vi vis vs gi gl qE i64 qI qQ sB Y uq vB sK rR sR uH wc sJ rp tQ vm sN rU tC)
def qV (e:RE):List Int:=vs e.var++(vis e.key++vis [e.n,e.at_])
def rE (st:List RE):List Int:=vi st.length++st.flatMap qV
def gb (b:List Int):ByteArray×Int×Int:=if (gl b 1).2.2≠0 then (⟨#[]⟩,0,(gl b 1).2.2) else (mj (((b.drop (gl b 1).2.1.toNat).take (gl b 1).1.toNat).map Y),(gl b 1).2.1+(gl b 1).1,0)
def sZ (b:List Int):RE×List Int×Int:=
 if (gb b).2.2≠0 then (⟨⟨#[]⟩,[],0,0⟩,[],(gb b).2.2) else
 if (qE (b.drop (gb b).2.1.toNat)).2.2≠0 then (⟨⟨#[]⟩,[],0,0⟩,[],(qE (b.drop (gb b).2.1.toNat)).2.2) else
 let b2:=(b.drop (gb b).2.1.toNat).drop (qE (b.drop (gb b).2.1.toNat)).2.1.toNat
 if (qE b2).2.2≠0 then (⟨⟨#[]⟩,[],0,0⟩,[],(qE b2).2.2) else
 if (qE b2).1.length≠2 then (⟨⟨#[]⟩,[],0,0⟩,[],6) else
 (⟨(gb b).1,(qE (b.drop (gb b).2.1.toNat)).1,(qE b2).1.getD 0 0,(qE b2).1.getD 1 0⟩,b2.drop (qE b2).2.1.toNat,0)
def rD:Nat→List Int→List RE→List RE×List Int×Int
 |0,b,acc=>(acc,b,0)
 |n+1,b,acc=>if (sZ b).2.2≠0 then ([],[],(sZ b).2.2) else rD n (sZ b).2.1 (acc++[(sZ b).1])
def rW (b:List Int):List RE×Int:=
 if (gi b).2.2≠0 then ([],(gi b).2.2) else if (gi b).1<0 then ([],6) else
 if (rD (gi b).1.toNat (b.drop (gi b).2.1.toNat) []).2.2≠0 then ([],(rD (gi b).1.toNat (b.drop (gi b).2.1.toNat) []).2.2)
 else if (rD (gi b).1.toNat (b.drop (gi b).2.1.toNat) []).2.1≠[] then ([],6) else ((rD (gi b).1.toNat (b.drop (gi b).2.1.toNat) []).1,0)
structure SzE (e:RE):Prop where
 var:e.var.size<2^40
 key:e.key.length<2^40
 keys: ∀x∈e.key,i64 x
 n:i64 e.n
 at_:i64 e.at_
theorem zc {a b:ByteArray} (h:sB a=sB b):a=b:=by
 have key: ∀(x y:List UInt8),x.map (fun b=>(b.toNat:Int))=y.map (fun b=>(b.toNat:Int))→x=y:=by
  intro x
  induction x with
  |nil=>intro y h;cases y with
   |nil=>rfl
   |cons _ _=>simp at h
  |cons a r ih=>intro y h;cases y with
   |nil=>simp at h
   |cons c s=>
    simp only [List.map_cons,List.cons.injEq] at h
    have:a=c:=UInt8.toNat_inj.1 (by have:=h.1;omega)
    rw [this,ih s h.2]
 exact ByteArray.ext (Array.ext' (key _ _ h))
theorem yn (s:ByteArray):mj ((sB s).map Y)=s:=zc (vm _ (tQ s))
theorem zr {s:ByteArray} (h:s.size<2^40) (r:List Int):gb (vs s++r)=(s,(((vs s).length:Nat):Int),0):=by
 unfold gb vs
 rw [List.append_assoc,vB (by decide) (by omega) (by rw [List.length_append,sN];omega)]
 dsimp only
 rw [if_neg (by simp),Int.toNat_natCast,Int.toNat_natCast,List.drop_left, ←sN,List.take_left,yn]
 simp only [List.length_append,sN,Int.natCast_add]
theorem wQ {e:RE} (h:SzE e) (r:List Int):sZ (qV e++r)=(e,r,0):=by
 unfold sZ qV
 rw [List.append_assoc,List.append_assoc,zr h.var]
 dsimp only
 rw [if_neg (by simp),Int.toNat_natCast,List.drop_left,sK (by have:=h.key;omega) h.keys]
 dsimp only
 rw [if_neg (by simp),Int.toNat_natCast,List.drop_left,sK (by simp) (by simp;exact ⟨h.n,h.at_⟩)]
 dsimp only
 rw [if_neg (by simp),if_neg (by simp),Int.toNat_natCast,List.drop_left]
 rfl
theorem uB: ∀{st acc:List RE} {r:List Int},(∀ e∈st,SzE e)→rD st.length (st.flatMap qV++r) acc=(acc++st,r,0)
 |[],acc,r,_=>by simp [rD]
 |e::st,acc,r,h=>by
  show rD (st.length+1) _ _=_
  rw [rD,List.flatMap_cons,List.append_assoc,wQ (h e (by simp)),if_neg (by simp)]
  dsimp only
  rw [uB fun x hx=>h x (by simp [hx])]
  simp
theorem wS {st:List RE} (h: ∀e∈st,SzE e) (hl:st.length<2^40):rW (rE st)=(st,0):=by
 unfold rW rE
 rw [uq (rp (by omega))]
 dsimp only
 have:=uB (acc:=[]) (r:=[]) h
 rw [List.append_nil,List.nil_append] at this
 rw [if_neg (by simp),if_neg (by omega),Int.toNat_natCast,Int.toNat_natCast,List.drop_left,this]
 dsimp only
 rw [if_neg (by simp),if_neg (by simp)]
end Go.ST
end
section
namespace Go.Proofs
open Go.Shelf
def Try.tI:Go.Shelf.Ren:=⟨fun|4=>54|n=>n,fun|22=>50|25=>5|3=>3|4=>4|9=>9|20=>20|0=>0|n=>n,fun|n=>n⟩
theorem Try.vF:Go.Proofs.Lays8.n4 Try.prog Try.tI:={
 mixed:=by kernel_rfl
 f4:=⟨Try.f54.name,by decide,Try.func54.trans (congrArg some (by kernel_rfl))⟩
 t0:=Try.underlying0
 a0:=Try.isAgg0
 z0:=Try.sizeOf0
 v0:=Try.zeroValue0
 t3:=Try.underlying3
 a3:=Try.isAgg3
 z3:=Try.sizeOf3
 v3:=Try.zeroValue3
 t4:=Try.underlying4
 a4:=Try.isAgg4
 z4:=Try.sizeOf4
 v4:=Try.zeroValue4
 t9:=Try.underlying9
 a9:=Try.isAgg9
 z9:=Try.sizeOf9
 v9:=Try.zeroValue9
 t20:=Try.underlying20
 a20:=Try.isAgg20
 z20:=Try.sizeOf20
 v20:=Try.zeroValue20
 t22:=Try.underlying50
 a22:=Try.isAgg50
 z22:=Try.sizeOf50
 v22:=Try.zeroValue50 }
end Go.Proofs
end
section
namespace Go.ST
open Go Go.DL Go.MM Go.Proofs
open Go.TY hiding Fd
open Go.RC (vi vis vs gi gl qE i64 qI Y)
theorem zx:(Try.prog.info? 5).map (fun i=>(i.zero.map (fun z=>z.cells.size),i.size,i.bytes))=some (some 1,1,1):=by kernel_rfl
theorem xS (n:Nat) (h:n<2^40):dM Try.prog 54 [.nil,I n] 5 1 [] []:=by
 have hi:=zx
 cases hj:Try.prog.info? 5 with
 |none=>rw [hj] at hi;cases hi
 |some j=>
  rw [hj] at hi
  simp only [Option.map_some,Option.some.injEq,Prod.mk.injEq] at hi
  obtain ⟨h1,h2,h3⟩:=hi
  cases hz:j.zero with
  |none=>rw [hz] at h1;cases h1
  |some z=>
   rw [hz] at h1
   have h1:z.cells.size=1:=by simpa using h1
   have:=pG Try.vF (i0:=j) (z:=z) hj hz (by omega) (by omega) n (by rw [h3];omega) (by omega) (dD Try.func54 rfl rfl)
   rw [h2] at this
   exact this
abbrev bT (l:List Int):T:=.slice 1 (l.map Y)
def q9 (ls:List (List Int)):Nat:=(ls.map List.length).sum
theorem tq {ls:List (List Int)} {k:Nat} (h:k<ls.length):q9 (ls.take (k+1))=q9 (ls.take k)+ls[k].length:=by
 unfold q9
 rw [List.take_succ_eq_append_getElem h,List.map_append,List.sum_append];simp
theorem s5 (ls:List (List Int)) (k:Nat):q9 (ls.take k)≤q9 ls:=by
 conv=>rhs;rw [← List.take_append_drop k ls]
 unfold q9
 rw [List.map_append,List.sum_append];omega
theorem vI (ls:List (List Int)):ls.flatten.length=q9 ls:=by unfold q9;rw [List.length_flatten]
theorem yD {ls:List (List Int)} {j:Nat} {l:List Int} (h:ls[j]? =some l):((ls.map bT)[j]?.getD .nil)=bT l:=by
 rw [List.getElem?_map,h];rfl
theorem wE (ls:List (List Int)) (hl:ls.length<2^20) (hn:q9 ls<2^30):DCalls Try.prog 30 [.slice 1 (ls.map bT)] (bT ls.flatten):=by
 refine pN (rs:=[.tmp 2]) mixed Try.func30 Go.ST6.l30 rfl rfl rfl (r:=[bT _]) (nlZ rfl) ?_
 repeat' ((conv=>whnf);first|exact trivial|refine nT_ ?_|refine aE1 ?_|refine aE0 ?_|refine aN1 ?_|refine aN0 ?_|refine aD1 ?_|refine aD0 ?_|refine nE_ (fun hq=>?_) (fun hq=>?_)|refine nN_ (fun hq=>?_) (fun hq=>?_)|refine nD_ (fun hq=>?_) (fun hq=>?_)|refine rb1 ?_|refine rb0 ?_|refine rbx ?_|refine rix ?_|refine aS ?_|fail)
 refine pX 0 (α:=Nat) (β:=Unit) (fun k=>{sl:=[(0,.t (.slice 1 (ls.map bT))),(2,.t .nil),(3,.t (I (q9 (ls.take k)))),(9,.t (.slice 1 (ls.map bT))),(10,.t (I ls.length)),(11,.t (I k))],bx:=[]})
  (fun k=>k≤ls.length) (fun k=>ls.length - k) (fun _=>{sl:=[(0,.t (.slice 1 (ls.map bT))),(2,.t .nil),(3,.t (I (q9 ls)))],bx:=[]}) (fun _=>True) 0 (by omega) ?_ ?_ ?_
 ·repeat' (first|((refine leI ?_;simp;done))|exact trivial|exact LeV.same _|exact LeB.same _|exact rfl|exact fun _ _ _=>trivial|exact lI|exact LeV.nil _ _ _|exact lB|refine qq ?_|refine qo ?_|refine And.intro ?_ ?_)
 ·rintro k hk
  rcases Nat.lt_or_ge k ls.length with h2|h2
  ·have hke:ls[k]? =some ls[k]:=ggZ h2
   have hst:=tq h2
   have hle:=s5 ls k
   have hle2:=s5 ls (k+1)
   generalize ls[k]=l at hke hst
   have hib:0≤(k:Int)∧(k:Int)<((ls.map bT).length:Int):=by rw [List.length_map];omega
   have hel:(ls.map bT)[((k:Int)).toNat]?.getD .nil=bT l:=yD (by rw [Int.toNat_natCast];exact hke)
   have hw:IntKind.i64.wrap ((q9 (ls.take k):Int)+(((l.map Y).length:Nat):Int))=(q9 (ls.take (k+1)):Int):=by
    rw [List.length_map,hst,lS (by omega) (by omega)];push_cast;rfl
   have hw2:=hw.symm
   have hneg: ¬IntKind.i64.wrap ((q9 (ls.take k):Int)+(((l.map Y).length:Nat):Int))<0:=by rw [hw];omega
   repeat' ((conv=>whnf);first|exact trivial|refine pt (by omega) ?_|(refine nv_ (bT l) (by first|exact hel|fail) ?_)|refine pq hneg ?_|refine nT_ ?_|refine aE1 ?_|refine aE0 ?_|refine aN1 ?_|refine aN0 ?_|refine aD1 ?_|refine aD0 ?_|refine nE_ (fun hq=>?_) (fun hq=>?_)|refine nN_ (fun hq=>?_) (fun hq=>?_)|refine nD_ (fun hq=>?_) (fun hq=>?_)|refine rb1 ?_|refine rb0 ?_|refine rbx ?_|refine rix ?_|(refine And.intro (by first|exact hib|fail) ?_)|refine aS ?_|fail)
   exact ⟨k+1,by omega,by omega,by repeat' (first|(exact leI hw2)|exact trivial|exact LeV.same _|exact LeB.same _|exact rfl|exact fun _ _ _=>trivial|exact lI|exact LeV.nil _ _ _|exact lB|refine qq ?_|refine qo ?_|refine And.intro ?_ ?_)⟩
  ·have:k=ls.length:=by omega
   subst this
   repeat' ((conv=>whnf);first|exact trivial|refine pq (by omega) ?_|refine nT_ ?_|refine aE1 ?_|refine aE0 ?_|refine aN1 ?_|refine aN0 ?_|refine aD1 ?_|refine aD0 ?_|refine nE_ (fun hq=>?_) (fun hq=>?_)|refine nN_ (fun hq=>?_) (fun hq=>?_)|refine nD_ (fun hq=>?_) (fun hq=>?_)|refine rb1 ?_|refine rb0 ?_|refine rbx ?_|refine rix ?_|refine aS ?_|fail)
   exact ⟨(),trivial,by repeat' (first|((refine leI ?_;rw [List.take_length]))|exact trivial|exact LeV.same _|exact LeB.same _|exact rfl|exact fun _ _ _=>trivial|exact lI|exact LeV.nil _ _ _|exact lB|refine qq ?_|refine qo ?_|refine And.intro ?_ ?_)⟩
 rintro - -
 have hG:=xS (q9 ls) (by omega)
 repeat' ((conv=>whnf);first|exact trivial|refine qh rfl hG ?_|refine nT_ ?_|refine aE1 ?_|refine aE0 ?_|refine aN1 ?_|refine aN0 ?_|refine aD1 ?_|refine aD0 ?_|refine nE_ (fun hq=>?_) (fun hq=>?_)|refine nN_ (fun hq=>?_) (fun hq=>?_)|refine nD_ (fun hq=>?_) (fun hq=>?_)|refine rb1 ?_|refine rb0 ?_|refine rbx ?_|refine rix ?_|refine aS ?_|fail)
 refine pX 2 (α:=Nat×Nat) (β:=Nat) (fun q=>{sl:=[(2,.t .nil),(6,.own q.1 5 1 ((ls.take q.2).flatten.map Y)),(25,.t (.slice 1 (ls.map bT))),(26,.t (I ls.length)),(27,.t (I q.2))],bx:=[]})
  (fun q=>q.2≤ls.length∧(q.1=24∨q.1=33)) (fun q=>ls.length - q.2) (fun q=>{sl:=[(2,.t .nil),(6,.own q 5 1 (ls.flatten.map Y))],bx:=[]}) (fun q=>q=24∨q=33) (24,0) (by simp) ?_ ?_ ?_
 ·repeat' (first|((refine leI ?_;simp;done))|exact trivial|exact LeV.same _|exact LeB.same _|exact rfl|exact fun _ _ _=>trivial|exact lI|exact LeV.nil _ _ _|exact lB|refine qq ?_|refine qo ?_|refine And.intro ?_ ?_)
 ·rintro ⟨q,k⟩ ⟨hk,hq⟩
  dsimp only at hk hq
  rcases Nat.lt_or_ge k ls.length with h2|h2
  ·have hke:ls[k]? =some ls[k]:=ggZ h2
   have hst:=tq h2
   have hfl:(ls.take (k+1)).flatten=(ls.take k).flatten++ls[k]:=by rw [List.take_succ_eq_append_getElem h2,List.flatten_append];simp
   have hle:=s5 ls (k+1)
   have hfn:=vI (ls.take k)
   generalize ls[k]=l at hke hst hfl
   have hib:0≤(k:Int)∧(k:Int)<((ls.map bT).length:Int):=by rw [List.length_map];omega
   have hel:(ls.map bT)[((k:Int)).toNat]?.getD .nil=bT l:=yD (by rw [Int.toNat_natCast];exact hke)
   have hroom:(((ls.take k).flatten.map Y).length+(l.map Y).length) * 1≤140737488355328:=by simp only [List.length_map];omega
   rcases hq with rfl|rfl
   all_goals repeat' ((conv=>whnf);first|exact trivial|refine pt (by omega) ?_|(refine nv_ (bT l) (by first|exact hel|fail) ?_)|refine nT_ ?_|refine aE1 ?_|refine aE0 ?_|refine aN1 ?_|refine aN0 ?_|refine aD1 ?_|refine aD0 ?_|refine nE_ (fun hq=>?_) (fun hq=>?_)|refine nN_ (fun hq=>?_) (fun hq=>?_)|refine nD_ (fun hq=>?_) (fun hq=>?_)|refine rb1 ?_|refine rb0 ?_|refine rbx ?_|refine rix ?_|(refine And.intro (by first|exact hib|exact hroom|fail) ?_)|refine aS ?_|fail)
   all_goals refine ⟨(33,k+1),⟨by dsimp only;omega,.inr rfl⟩,by dsimp only;omega,?_⟩
   all_goals repeat' (first|((refine qo ?_;rw [hfl,List.map_append]))|exact trivial|exact LeV.same _|exact LeB.same _|exact rfl|exact fun _ _ _=>trivial|exact lI|exact LeV.nil _ _ _|exact lB|refine qq ?_|refine qo ?_|refine And.intro ?_ ?_)
  ·have:k=ls.length:=by omega
   subst this
   repeat' ((conv=>whnf);first|exact trivial|refine pq (by omega) ?_|refine nT_ ?_|refine aE1 ?_|refine aE0 ?_|refine aN1 ?_|refine aN0 ?_|refine aD1 ?_|refine aD0 ?_|refine nE_ (fun hq=>?_) (fun hq=>?_)|refine nN_ (fun hq=>?_) (fun hq=>?_)|refine nD_ (fun hq=>?_) (fun hq=>?_)|refine rb1 ?_|refine rb0 ?_|refine rbx ?_|refine rix ?_|refine aS ?_|fail)
   exact ⟨q,hq,by repeat' (first|((refine qo ?_;rw [List.take_length]))|exact trivial|exact LeV.same _|exact LeB.same _|exact rfl|exact fun _ _ _=>trivial|exact lI|exact LeV.nil _ _ _|exact lB|refine qq ?_|refine qo ?_|refine And.intro ?_ ?_)⟩
 rintro q hq
 repeat' ((conv=>whnf);first|exact trivial|refine nT_ ?_|refine aE1 ?_|refine aE0 ?_|refine aN1 ?_|refine aN0 ?_|refine aD1 ?_|refine aD0 ?_|refine nE_ (fun hq=>?_) (fun hq=>?_)|refine nN_ (fun hq=>?_) (fun hq=>?_)|refine nD_ (fun hq=>?_) (fun hq=>?_)|refine rb1 ?_|refine rb0 ?_|refine rbx ?_|refine rix ?_|refine aS ?_|fail)
end Go.ST
end
section
namespace Go.ST
open Go Go.DL Go.MM Go.Proofs
open Go.TY hiding Fd
open Go.RC (vi vis vs gi gl qE i64 qI Y rp tc vd uD)
theorem uC (st:List RE) (i:Nat):((st.take i).flatMap qV).length≤(st.flatMap qV).length:=by
 conv=>rhs;rw [← List.take_append_drop i st,List.flatMap_append,List.length_append]
 omega
theorem xr (st:List RE) (hz: ∀e∈st,SzE e) (hlen:st.length<2^28) (hl:(rE st).length<2^28):DCalls Try.prog 12 [esT st] (bT (rE st)):=by
 refine pN (rs:=[.tmp 2]) mixed Try.func12 Go.ST6.l12 rfl rfl rfl (r:=[bT _]) (nlZ rfl) ?_
 have hn:((st.map qx).length:Int)=st.length:=by rw [List.length_map]
 have hI:=(tc ((st.map qx).length:Int) (by rw [hn];exact rp (by omega))).qj
 rw [hn] at hI
 have hIx:I ((st.map qx).length:Int)=I (st.length:Int):=by rw [hn]
 rw [← hn] at hI
 repeat' ((conv=>whnf);first|exact trivial|refine qk _ (hI) ?_|refine nT_ ?_|refine aE1 ?_|refine aE0 ?_|refine aN1 ?_|refine aN0 ?_|refine aD1 ?_|refine aD0 ?_|refine nE_ (fun hq=>?_) (fun hq=>?_)|refine nN_ (fun hq=>?_) (fun hq=>?_)|refine nD_ (fun hq=>?_) (fun hq=>?_)|refine rb1 ?_|refine rb0 ?_|refine rbx ?_|refine rix ?_|refine aS ?_|fail)
 have e1:bT (vi ((st.map qx).length:Int))=bT (vi (st.length:Int)++(st.take 0).flatMap qV):=by rw [hn];simp
 refine pX 0 (α:=Nat) (β:=Unit) (fun i=>{sl:=[(3,.t (bT (vi (st.length:Int)++(st.take i).flatMap qV))),(9,.t (esT st)),(10,.t (I st.length)),(11,.t (I i))],bx:=[]})
  (fun i=>i≤st.length) (fun i=>st.length - i) (fun _=>{sl:=[(3,.t (bT (rE st)))],bx:=[]}) (fun _=>True) 0 (Nat.zero_le _) ?_ ?_ ?_
 ·repeat' (first|(exact leI hn.symm)|(exact leT e1.symm)|exact trivial|exact LeV.same _|exact LeB.same _|exact rfl|exact fun _ _ _=>trivial|exact lI|exact LeV.nil _ _ _|exact lB|refine qq ?_|refine qo ?_|refine And.intro ?_ ?_)
 ·rintro i hi
  rcases Nat.lt_or_ge i st.length with h|h
  ·have hlt:(i:Int)<(st.length:Int):=by omega
   have hnx:((i+1:Nat):Int)=IntKind.wrap .i64 ((i:Int)+1):=by rw [lS] <;> omega
   have hg:(st.map qx)[((i:Int)).toNat]?.getD .nil= .agg (qu st[i]):=by rw [Int.toNat_natCast];exact qU h
   have hb0:0≤(i:Int)∧(i:Int)<((st.map qx).length:Int):=by omega
   have hsz:=hz _ (List.getElem_mem h)
   have hle:=uC st (i+1)
   have hfl:(st.take (i+1)).flatMap qV=(st.take i).flatMap qV++qV st[i]:=by rw [List.take_succ_eq_append_getElem h,List.flatMap_append];simp
   have hlen2:(rE st).length=(vi (st.length:Int)).length+(st.flatMap qV).length:=by unfold rE;rw [List.length_append]
   rw [hfl,List.length_append] at hle
   generalize st[i]=x at *
   obtain ⟨xv,xk,xn,xa⟩:=x
   have hS:=(vd xv hsz.var).qj
   have hK:=(uD xk hsz.key hsz.keys).qj
   have h2: ∀y∈[xn,xa],i64 y:=fun y hy=>by
    simp only [List.mem_cons,List.not_mem_nil,or_false] at hy
    rcases hy with hy|hy
    ·rw [hy];exact hsz.n
    ·rw [hy];exact hsz.at_
   have hT:=(uD [xn,xa] (by simp) h2).qj
   have hC:=wE [vi (st.length:Int)++(st.take i).flatMap qV,vs xv,vis xk,vis [xn,xa]] (by simp) (by
    rw [show qV ⟨xv,xk,xn,xa⟩=vs xv++(vis xk++vis [xn,xa]) from rfl,List.length_append,List.length_append] at hle
    simp only [q9,List.map_cons,List.map_nil,List.sum_cons,List.sum_nil,List.length_append]
    omega)
   have e2:bT (vi (st.length:Int)++(st.take (i+1)).flatMap qV)=bT [vi (st.length:Int)++(st.take i).flatMap qV,vs xv,vis xk,vis [xn,xa]].flatten:=by
    rw [hfl]
    unfold qV
    simp [List.flatten_cons,List.append_assoc]
   have hmu:st.length - (i+1)<st.length - i:=by omega
   clear hfl hlen2 hle
   repeat' ((conv=>whnf);first|exact trivial|refine pt hlt ?_|(refine nv_ (.agg (qu ⟨xv,xk,xn,xa⟩)) (by first|exact hg|fail) ?_)|refine qk _ (hS) ?_|refine qk _ (hK) ?_|refine qk _ (hT) ?_|refine qk _ (hC) ?_|(exact ⟨i+1,h,hmu,by (repeat' (first|(exact leI hnx)|(exact leT e2)|exact trivial|exact LeV.same _|exact LeB.same _|exact rfl|exact fun _ _ _=>trivial|exact lI|exact LeV.nil _ _ _|exact lB|refine qq ?_|refine qo ?_|refine And.intro ?_ ?_));done⟩)|refine nT_ ?_|refine aE1 ?_|refine aE0 ?_|refine aN1 ?_|refine aN0 ?_|refine aD1 ?_|refine aD0 ?_|refine nE_ (fun hq=>?_) (fun hq=>?_)|refine nN_ (fun hq=>?_) (fun hq=>?_)|refine nD_ (fun hq=>?_) (fun hq=>?_)|refine rb1 ?_|refine rb0 ?_|refine rbx ?_|refine rix ?_|(refine And.intro (by first|exact hb0|exact qw _|fail) ?_)|refine aS ?_|fail)
  ·have hlt: ¬(i:Int)<(st.length:Int):=by omega
   have e2:bT (rE st)=bT (vi (st.length:Int)++(st.take i).flatMap qV):=by rw [List.take_of_length_le h];rfl
   repeat' ((conv=>whnf);first|exact trivial|refine pq hlt ?_|(exact ⟨(),trivial,by (repeat' (first|(exact leT e2)|exact trivial|exact LeV.same _|exact LeB.same _|exact rfl|exact fun _ _ _=>trivial|exact lI|exact LeV.nil _ _ _|exact lB|refine qq ?_|refine qo ?_|refine And.intro ?_ ?_));done⟩)|refine nT_ ?_|refine aE1 ?_|refine aE0 ?_|refine aN1 ?_|refine aN0 ?_|refine aD1 ?_|refine aD0 ?_|refine nE_ (fun hq=>?_) (fun hq=>?_)|refine nN_ (fun hq=>?_) (fun hq=>?_)|refine nD_ (fun hq=>?_) (fun hq=>?_)|refine rb1 ?_|refine rb0 ?_|refine rbx ?_|refine rix ?_|refine aS ?_|fail)
 ·rintro - -
  repeat' ((conv=>whnf);first|exact trivial|refine nT_ ?_|refine aE1 ?_|refine aE0 ?_|refine aN1 ?_|refine aN0 ?_|refine aD1 ?_|refine aD0 ?_|refine nE_ (fun hq=>?_) (fun hq=>?_)|refine nN_ (fun hq=>?_) (fun hq=>?_)|refine nD_ (fun hq=>?_) (fun hq=>?_)|refine rb1 ?_|refine rb0 ?_|refine rbx ?_|refine rix ?_|refine aS ?_|fail)
end Go.ST
end
section
namespace Go.ST
open Go Go.DL Go.MM Go.Proofs
open Go.TY hiding Fd
open Go.RC (vi vis vs gi gl qE i64 qI Y rp gT gsT sC sa rY rR sR qQ)
theorem u5: ∀l:List Int,iN (l.map Y)
 |[]=>trivial
 |_::l=>u5 l
theorem Ap (b:List Int) (u n:Nat):((b.map Y).take (u+n)).drop u=((b.drop u).take n).map Y:=by
 rw [← List.map_take, ←List.map_drop,List.drop_take,show u+n - u=n by omega]
theorem vR (b:List Int) (hb:qI b) (hl:b.length<2^40):DCalls Try.prog 27 [bT b] (.tup [.str (gb b).1,I (gb b).2.1,I (gb b).2.2]):=by
 refine pN (rs:=[.tmp 2,.tmp 3,.tmp 4]) mixed Try.func27 Go.ST6.l27 rfl rfl rfl (r:=[.str _,I _,I _]) (nlZ rfl) ?_
 have hL:=sC b 1 hb (by omega) (by decide) (by decide)
 obtain ⟨g1,g2,g3,g4⟩:=sR hb (least:=1) (by decide)
 unfold gb
 generalize gl b 1=q at *
 obtain ⟨n,u,e⟩:=q
 dsimp only at g1 g2 g3 g4 ⊢
 by_cases c:e≠0
 ·rw [if_pos c]
  repeat' ((conv=>whnf);first|exact trivial|refine qk _ (hL) ?_|refine ql c ?_|refine nT_ ?_|refine aE1 ?_|refine aE0 ?_|refine aN1 ?_|refine aN0 ?_|refine aD1 ?_|refine aD0 ?_|refine nE_ (fun hq=>?_) (fun hq=>?_)|refine nN_ (fun hq=>?_) (fun hq=>?_)|refine nD_ (fun hq=>?_) (fun hq=>?_)|refine rb1 ?_|refine rb0 ?_|refine rbx ?_|refine rix ?_|refine aS ?_|fail)
 ·rw [if_neg c]
  have c0:e=0:=by omega
  subst c0
  obtain ⟨n,rfl⟩:=Int.eq_ofNat_of_zero_le g1
  obtain ⟨u,rfl⟩:=Int.eq_ofNat_of_zero_le g2
  have hw:IntKind.wrap .i64 ((u:Int)+(n:Int))=((u+n:Nat):Int):=by rw [lS (by omega) (by omega)];omega
  have hsl:T.slice 1 (((b.map Y).take (IntKind.wrap .i64 ((u:Int)+(n:Int))).toNat).drop ((u:Int)).toNat)=T.slice 1 (((b.drop u).take n).map Y):=by
   rw [hw,Int.toNat_natCast,Int.toNat_natCast,Ap]
  have hbd:0≤(u:Int)∧(u:Int)≤IntKind.wrap .i64 ((u:Int)+(n:Int))∧IntKind.wrap .i64 ((u:Int)+(n:Int))≤((b.map Y).length:Int):=by rw [hw,List.length_map];omega
  have hu8:=u5 ((b.drop u).take n)
  have hr:I ((u:Int)+(n:Int))=I (IntKind.wrap .i64 ((u:Int)+(n:Int))):=by rw [hw];congr 1
  rw [Int.toNat_natCast,Int.toNat_natCast,hr]
  repeat' ((conv=>whnf);first|exact trivial|refine qk _ (hL) ?_|(refine nv_ (.slice 1 (((b.drop u).take n).map Y)) (by first|exact hsl|fail) ?_)|refine nT_ ?_|refine aE1 ?_|refine aE0 ?_|refine aN1 ?_|refine aN0 ?_|refine aD1 ?_|refine aD0 ?_|refine nE_ (fun hq=>?_) (fun hq=>?_)|refine nN_ (fun hq=>?_) (fun hq=>?_)|refine nD_ (fun hq=>?_) (fun hq=>?_)|refine rb1 ?_|refine rb0 ?_|refine rbx ?_|refine rix ?_|(refine And.intro (by first|exact hbd|exact hu8|fail) ?_)|refine aS ?_|fail)
end Go.ST
end
section
namespace Go.ST9
open Go Go.DL Go.Proofs
noncomputable def c11:ba:=(.seq (.region [oo 2 (.mov (.const .nil)),oo 3 (.mov (Kc 0))] []) (.seq (.region [mv 16 0,oo 17 (.call 26 [tm 16]),mv 15 17,oo 18 (.ext (tm 15) 0),oo 19 (.ext (tm 15) 1),oo 20 (.ext (tm 15) 2),mv 4 18,mv 5 19,mv 6 20] []) (.seq (.block 0 (.seq (.region [mv 22 6,oo 23 (.bin .neq (tm 22) (Kc 0)),mv 21 23] []) (.cond (tm 21) (.seq (.region [mv 24 6,oo 2 (.mov (.const .nil)),mv 3 24] []) .ret) (.seq (.region [mv 26 4,oo 27 (.bin .lss (tm 26) (Kc 0)),mv 25 27] []) (.cond (tm 25) (.seq (.region [oo 2 (.mov (.const .nil)),oo 3 (.mov (Kc 6))] []) .ret) .skip))))) (.seq (.region [mv 28 0,mv 29 5,oo 30 (.slice 1 (tm 28) (some (tm 29)) none),mv 0 30] []) (.seq (.region [oo 7 (.mov (.const .nil))] []) (.seq (.seq (.region [mv 31 4,oo 32 (.mov (Kc 0))] []) (.block 1 (.loop (.seq (.region [oo 33 (.bin .lss (tm 32) (tm 31))] []) (.seq (.cond (tm 33) .skip (.exit 1)) (.seq (.block 2 (.seq (.cut (.region [mv 35 0,oo 36 (.call 27 [tm 35]),mv 34 36,oo 37 (.ext (tm 34) 0),oo 38 (.ext (tm 34) 1),oo 39 (.ext (tm 34) 2),mv 8 37,mv 9 38,mv 10 39] [])) (.seq (.seq (.region [mv 40 10,oo 41 (.bin .neq (tm 40) (Kc 0))] []) (.cond (tm 41) (.seq (.region [mv 42 10,oo 2 (.mov (.const .nil)),mv 3 42] []) .ret) .skip)) (.seq (.cut (.region [mv 44 0,mv 45 9,oo 46 (.slice 1 (tm 44) (some (tm 45)) none),oo 47 (.call 28 [tm 46]),mv 43 47,oo 48 (.ext (tm 43) 0),oo 49 (.ext (tm 43) 1),oo 50 (.ext (tm 43) 2),mv 11 48,mv 12 49,mv 10 50] [])) (.seq (.seq (.region [mv 51 10,oo 52 (.bin .neq (tm 51) (Kc 0))] []) (.cond (tm 52) (.seq (.region [mv 53 10,oo 2 (.mov (.const .nil)),mv 3 53] []) .ret) .skip)) (.seq (.cut (.region [mv 55 0,mv 56 9,mv 57 12,oo 58 (.bin .add (tm 56) (tm 57)),oo 59 (.slice 1 (tm 55) (some (tm 58)) none),oo 60 (.call 28 [tm 59]),mv 54 60,oo 61 (.ext (tm 54) 0),oo 62 (.ext (tm 54) 1),oo 63 (.ext (tm 54) 2),mv 13 61,mv 14 62,mv 10 63] [])) (.seq (.block 3 (.seq (.region [mv 65 10,oo 66 (.bin .neq (tm 65) (Kc 0)),mv 64 66] []) (.cond (tm 64) (.seq (.region [mv 67 10,oo 2 (.mov (.const .nil)),mv 3 67] []) .ret) (.seq (.region [mv 69 13,ln 70 69,oo 71 (.bin .neq (tm 70) (Kc 2)),mv 68 71] []) (.cond (tm 68) (.seq (.region [oo 2 (.mov (.const .nil)),oo 3 (.mov (Kc 6))] []) .ret) .skip))))) (.seq (.region [mv 72 7,mv 73 8,mv 74 11,mv 75 13,oo 76 (.idxL 1 (tm 75) (Kc 0)),ld 77 76,mv 78 13,oo 79 (.idxL 1 (tm 78) (Kc 1)),ld 80 79,⟨some 81,.build [S0,.nil,Z0,Z0] [(0,1,(tm 73)),(1,1,(tm 74)),(2,1,(tm 77)),(3,1,(tm 80))],none,[]⟩,⟨some 82,.buildT 4 1 [S0,.nil,Z0,Z0] [(0,(tm 81))],none,[]⟩,oo 83 (.append 28 39 4 56 (tm 72) (tm 82)),mv 7 83] []) (.region [mv 84 0,mv 85 9,mv 86 12,oo 87 (.bin .add (tm 85) (tm 86)),mv 88 14,oo 89 (.bin .add (tm 87) (tm 88)),oo 90 (.slice 1 (tm 84) (some (tm 89)) none),mv 0 90] []))))))))) (.region [oo 91 (.bin .add (tm 32) (Kc 1)),mv 32 91] []))))))) (.seq (.seq (.region [mv 92 0,ln 93 92,oo 94 (.bin .gtr (tm 93) (Kc 0))] []) (.cond (tm 94) (.seq (.region [oo 2 (.mov (.const .nil)),oo 3 (.mov (Kc 6))] []) .ret) .skip)) (.seq (.region [mv 95 7,mv 2 95,oo 3 (.mov (Kc 0))] []) .ret))))))))
theorem l11:(Try.f11.body.bind (bo Try.prog 96 [6000010,6000013,6000016]))=some c11:=by kernel_rfl
end Go.ST9
end
