/- Joined by program: parts of a data level over the model, of the program's functions over it, and of the statement's proof. -/
import Derived.Test.YtnfonfjleonbdaaGreatDoorGd
import Derived.Test.YtnfonfjleonbdaaGreatDoorProg
import Derived.Test.YtnfonfjleonbdaaGreatDoorGc
import Derived.KernelRfl
import Derived.Shelf.Lays8
set_option maxRecDepth 100000
set_option maxHeartbeats 8000000
section
namespace Go.ST
open Go Go.DL Go.MM Go.Proofs
open Go.TY hiding Fd
abbrev fdc(l:List Fd)(k:ByteArray):T:=.agg [.str (fld l k).name,I (fld l k).a,I (fld l k).w]
theorem xK(l:List Fd)(hl:LOk l)(k:ByteArray):DCalls Tryz.prog 82 [fds l,.str k] (.tup [fdc l k,.bool (tx l k)]):=by
 have h:=t74 l k hl.len;unfold wB at h;unfold fdc fld tx;cases hF:findF l k with
 |none=>rw [hF] at h;exact h
 |some F=>rw [hF] at h;exact h
theorem Dz(l:List Fd)(hl:LOk l)(k:ByteArray):DCalls Tryz.prog 40 [fds l,.str k] (.tup [fdc l k,.bool (tx l k)]):=by
 have h:=t51 l k hl.len;unfold wB at h;unfold fdc fld tx;cases hF:findF l k with
 |none=>rw [hF] at h;exact h
 |some F=>rw [hF] at h;exact h
theorem wZ{l:List Fd}(hl:LOk l){k:ByteArray}(h:tx l k=true):FOk (fld l k):=by
 unfold tx at h;obtain ⟨F,hF⟩:=Option.isSome_iff_exists.1 h;rw [A5 hF];exact hl.find hF
theorem ten{h:List Int}(hh:HOk h): ∃a b c d e f g i j k,h=[a,b,c,d,e,f,g,i,j,k]:=by
 have hl:=hh.len
 match h,hl with
 |[a,b,c,d,e,f,g,i,j,k],_=>exact ⟨a,b,c,d,e,f,g,i,j,k,rfl⟩
theorem Ak(l:List Fd)(ks:List ByteArray)(h:List Int){i:Nat}(hi:i<ks.length):(keyOf l (ks.take (i+1)) h).map I=(keyOf l (ks.take i) h).map I++[I (uh (fld l ks[i]) h)]:=by
 unfold keyOf;rw [List.take_succ_eq_append_getElem hi,List.map_append,List.map_append];rfl
theorem Ft(l:List Fd)(hl:LOk l)(ks:List ByteArray)(hk: ∀k∈ks,tx l k=true)(hkl:ks.length<2^40)(h:List Int)(hh:HOk h):DCalls Tryz.prog 65 [fds l,.slice 1 (ks.map .str),hd h] (.tup [.slice 1 ((keyOf l ks h).map I),.bool true]):=by
 refine dl2 mixed [.tmp 6,.tmp 7] [.slice 1 _,.bool true] Tryz.func65 Go.ST4.l65 ?_;have hl1:((ks.map T.str).length:Int)=ks.length:=by rw [List.length_map]
 have hG: ∀f,FOk f->DCalls Tryz.prog 83 [fd f,hd h] (I (uh f h)):=fun f hf=>t78 f hf h hh
 obtain ⟨x0,x1,x2,x3,x4,x5,x6,x7,x8,x9,rfl⟩:=ten hh
 repeat' ((conv=>whnf);first|refine aS ?_|fail)
 refine sa 0 (α:=Nat×Nat) (β:=Nat) (fun q=>{sl:=[(0,.t (fds l)),(5,.ptr 5 0),(8,.own q.2 3 1 ((keyOf l (ks.take q.1) [x0,x1,x2,x3,x4,x5,x6,x7,x8,x9]).map I)),(13,.t (.slice 1 (ks.map .str))),(14,.t (I ks.length)),(15,.t (I q.1))],bx:=[(5,.d 10 ([x0,x1,x2,x3,x4,x5,x6,x7,x8,x9].map I))]})
  (fun q=>q.1<=ks.length/\(q.2=8\/q.2=32)) (fun q=>ks.length - q.1) (fun q=>{sl:=[(8,.own q 3 1 ((keyOf l ks [x0,x1,x2,x3,x4,x5,x6,x7,x8,x9]).map I))],bx:=[]}) (fun q=>q=8\/q=32) (0,8) ⟨Nat.zero_le _,Or.inl rfl⟩ ?_ ?_ ?_
 ·repeat' (first|(exact leI hl1.symm)|exact wJ|refine And.intro ?_ ?_)
 ·rintro ⟨i,q⟩ ⟨hi,hq⟩;dsimp only at hi hq;rcases Nat.lt_or_ge i ks.length with h|h
  ·have hlt:(i:Int)<(ks.length:Int):=by omega
   have hf:=hk ks[i] (List.getElem_mem h);have hF:=xK l hl ks[i];rw [hf] at hF;have hGf:=hG _ (wZ hl hf);have hnx:((i+1:Nat):Int)=IntKind.wrap .i64 ((i:Int)+1):=by rw [np] <;> omega
   have hsn:=Ak l ks [x0,x1,x2,x3,x4,x5,x6,x7,x8,x9] h;have hln:((keyOf l (ks.take i) [x0,x1,x2,x3,x4,x5,x6,x7,x8,x9]).map I).length<=2^40:=by unfold keyOf;simp only [List.length_map,List.length_take];omega
   have hst:(ks.map T.str)[((i:Int)).toNat]?.getD .nil= .str ks[i]:=by simp [h]
   generalize (keyOf l (ks.take i) [x0,x1,x2,x3,x4,x5,x6,x7,x8,x9]).map I=out at *
   generalize uh (fld l ks[i]) [x0,x1,x2,x3,x4,x5,x6,x7,x8,x9]=g at *
   rcases hq with rfl|rfl <;> repeat' ((conv=>whnf);first|refine ru hlt ?_|(refine nv_ (.str ks[i]) (by first|exact hst) ?_)|refine sV _ (hF) ?_|refine sV _ (hGf) ?_|(exact ⟨(i+1,32),⟨h,Or.inr rfl⟩,(by dsimp only;omega),by (repeat' (first|(exact leI hnx)|(exact s6 hsn)|exact wJ|refine And.intro ?_ ?_));done⟩)|(refine And.intro (by first|((simp only [List.length_cons,List.length_nil];omega);done)|fail) ?_)|refine aS ?_|refine nT_ ?_)
  ·have hlt: ¬(i:Int)<(ks.length:Int):=by omega
   have hi2:i=ks.length:=by omega
   have e0:(keyOf l ks [x0,x1,x2,x3,x4,x5,x6,x7,x8,x9]).map I=(keyOf l (ks.take i) [x0,x1,x2,x3,x4,x5,x6,x7,x8,x9]).map I:=by rw [hi2,List.take_length]
   repeat' ((conv=>whnf);first|refine rq hlt ?_|(exact ⟨q,hq,by (repeat' (first|(exact s6 e0)|exact wJ|refine And.intro ?_ ?_));done⟩)|refine aS ?_|fail)
 ·rintro q hq
  repeat' ((conv=>whnf);first|refine rb1 ?_|refine aS ?_|exact trivial)
end Go.ST
end
noncomputable section
namespace Go.ST3
open Go Go.DL Go.Proofs
theorem mx:Tryz.prog.follows .mixedOrders=true:=by kernel_rfl
def b38:Code:=(Tryz.f38.body).getD .skip
theorem D7:Tryz.f38.body=some b38:=by kernel_rfl
def Az:Code:=iA [0] b38
def CS:aV:=(rg [oo 6 (.box 6 (tm 1)),oo 8 (.box 10 (tm 3)),oo 10 (.alloc [Z0,Z0,Z0,Z0,Z0,Z0,Z0,Z0,Z0,Z0]),oo 11 (.mov kF),oo 12 (.mov (.const .nil))])
theorem Fc:bp Tryz.prog 84 [] Az=some CS:=by kernel_rfl
theorem CQ[Glb]{st:St}{Q:aG->St->Prop}(hw:wpC Tryz.prog CS st Q):bO Tryz.prog 84 Az st Q:=bO.low mx Fc (by kernel_rfl) (by kernel_rfl) hw
def AA:Code:=iA [1,0] b38
def CT:aV:=(sr [fa 17 0 6,ld 18 17,oo 19 (.bin .eql (tm 18) (Kc 0))] (.cond (tm 19) (sr [lA 20 10 8,mv 21 2,o0 (.store 10 (tm 10) (tm 20)),oo 11 (.mov kT),mv 12 21] .ret) .skip))
theorem Fe:bp Tryz.prog 84 [] AA=some CT:=by kernel_rfl
theorem CR[Glb]{st:St}{Q:aG->St->Prop}(hw:wpC Tryz.prog CT st Q):bO Tryz.prog 84 AA st Q:=bO.low mx Fe (by kernel_rfl) (by kernel_rfl) hw
def AE:Code:=iA [1,1,0] b38
def CU:aV:=(rg [oo 22 (.build [.nilfn,.nilfn,.nilfn,.nilfn,.nilfn,.nilfn,.nilfn] [(0,1,(.const .nilfn)),(1,1,(.const (.clos 59 []))),(2,1,(.const (.clos 60 []))),(3,1,(.const (.clos 61 []))),(4,1,(.const (.clos 62 []))),(5,1,(.const (.clos 63 []))),(6,1,(.const (.clos 64 [])))]),oo 13 (.alloc [.nilfn,.nilfn,.nilfn,.nilfn,.nilfn,.nilfn,.nilfn]),o0 (.store 7 (tm 13) (tm 22))])
theorem Ff:bp Tryz.prog 84 [] AE=some CU:=by kernel_rfl
theorem EZ[Glb]{st:St}{Q:aG->St->Prop}(hw:wpC Tryz.prog CU st Q):bO Tryz.prog 84 AE st Q:=bO.low mx Ff (by kernel_rfl) (by kernel_rfl) hw
def AF:Code:=iA [1,1,1,0] b38
def CV:aV:=(rg [mv 24 0,fa 25 2 6,ld 26 25,lA 27 10 8,oo 28 (.call 65 [(tm 24),(tm 26),(tm 27)]),mv 23 28,oo 29 (.ext (tm 23) 0),oo 30 (.ext (tm 23) 1),mv 14 29,mv 15 30])
theorem Fg:bp Tryz.prog 84 [] AF=some CV:=by kernel_rfl
theorem E0[Glb]{st:St}{Q:aG->St->Prop}(hw:wpC Tryz.prog CV st Q):bO Tryz.prog 84 AF st Q:=bO.low mx Fg (by kernel_rfl) (by kernel_rfl) hw
def AG:Code:=iA [1,1,1,1,0] b38
def CW:aV:=(rg [mv 31 0,lA 32 6 6,mv 33 2,lA 34 10 8,mv 35 4,⟨some 36,.build [.nil,Z0,S0,.nil,S0,Z0,Z0,.nil,Z0,Z0,Z0,Z0,Z0,Z0,Z0,Z0,Z0,Z0,Z0,S0,.nil,Z0,Z0,(.bool false)] [(0,1,(tm 31)),(1,6,(tm 32)),(7,1,(tm 33)),(8,10,(tm 34)),(18,1,(tm 35))],none,[]⟩,oo 37 (.box 24 (tm 36)),mv 16 37])
theorem Fh:bp Tryz.prog 84 [] AG=some CW:=by kernel_rfl
theorem E4[Glb]{st:St}{Q:aG->St->Prop}(hw:wpC Tryz.prog CW st Q):bO Tryz.prog 84 AG st Q:=bO.low mx Fh (by kernel_rfl) (by kernel_rfl) hw
def AH:Code:=iA [1,1,1,1,1,0] b38
def CX:aV:=(sr [mv 39 16,mv 40 16,mv 41 2,fa 42 1 6,ld 43 42,mv 44 14,oo 45 (.call 66 [(tm 41),(tm 43),(tm 44)]),mv 38 45,oo 46 (.ext (tm 38) 0),oo 47 (.ext (tm 38) 1),oo 48 (.nilck (tm 39)),fa 49 19 48,o0 (.store 4 (tm 49) (tm 46)),oo 50 (.nilck (tm 40)),fa 51 23 50,o0 (.store 1 (tm 51) (tm 47))] (sr [mv 52 16,oo 53 (.nilck (tm 52)),fa 54 23 53,ld 55 54,oo 56 (.not (tm 55))] (.cond (tm 56) (rg [mv 57 16,fa 58 1 6,ld 59 58,mv 60 14,⟨some 61,.build [S0,.nil,Z0,Z0] [(0,1,(tm 59)),(1,1,(tm 60))],none,[]⟩,oo 62 (.nilck (tm 57)),fa 63 19 62,o0 (.store 4 (tm 63) (tm 61))]) .skip)))
theorem Fi:bp Tryz.prog 84 [] AH=some CX:=by kernel_rfl
theorem E5[Glb]{st:St}{Q:aG->St->Prop}(hw:wpC Tryz.prog CX st Q):bO Tryz.prog 84 AH st Q:=bO.low mx Fi (by kernel_rfl) (by kernel_rfl) hw
def uB:Code:=iA [1,1,1,1,1,1,0,0] b38
theorem EK:uB= .region 9 (s9 uB) false:=by kernel_rfl
theorem vZ[Glb]{st:St}{Q:aG->St->Prop}(hw:cR Tryz.prog [⟨some 64,.offA 0 (.tmp 6),none,[]⟩,⟨some 65,.load 1 false (.tmp 64),none,[]⟩,⟨some 66,.idxA 7 1 (.tmp 13) (.tmp 65),none,[]⟩,⟨some 67,.load 1 false (.tmp 66),none,[]⟩,⟨some 68,.mov (.tmp 16),none,[]⟩] st fun s0=>kh Tryz.prog (ev s0.sl (.tmp 67)) (List.map (ev s0.sl) [(.tmp 68)]) (some 69) s0 fun s1=>cR Tryz.prog [⟨some 70,.not (.tmp 69),none,[]⟩] s1 (Q .normal)):bO Tryz.prog 84 uB st Q:=by
 rw [EK];exact bO.sS (k1:=[0,1,2,3,4]) (k:=5) (k2:=[6]) (by kernel_rfl) (by kernel_rfl) (by kernel_rfl) (by kernel_rfl) (by kernel_rfl) (X:=.tmp 67) (az:= #[.tmp 68]) (ats:= #[105]) (d:=69) (by kernel_rfl) rfl rfl (by decide) hw
def xi:Code:=iA [1,1,1,1,1,1,0,1] b38
def CY:aV:=(.cond (tm 70) (.seq (.region [lA 71 10 8,mv 72 16,oo 73 (.nilck (tm 72)),fa 74 7 73,ld 75 74,o0 (.store 10 (tm 10) (tm 71)),oo 11 (.mov kF),mv 12 75] [[],[],[],[],[],[4],[],[]]) .ret) .skip)
theorem Fj:bp Tryz.prog 84 [] xi=some CY:=by kernel_rfl
theorem E7[Glb]{st:St}{Q:aG->St->Prop}(hw:wpC Tryz.prog CY st Q):bO Tryz.prog 84 xi st Q:=bO.low mx Fj (by kernel_rfl) (by kernel_rfl) hw
def xj:Code:=iA [1,1,1,1,1,1,1] b38
def CZ:aV:=(.seq (.region [mv 76 16,oo 77 (.nilck (tm 76)),fa 78 8 77,lA 79 10 78,mv 80 16,oo 81 (.nilck (tm 80)),fa 82 7 81,ld 83 82,o0 (.store 10 (tm 10) (tm 79)),oo 11 (.mov kT),mv 12 83] [[],[],[],[],[],[],[],[],[7],[],[]]) .ret)
theorem Fk:bp Tryz.prog 84 [] xj=some CZ:=by kernel_rfl
theorem E8[Glb]{st:St}{Q:aG->St->Prop}(hw:wpC Tryz.prog CZ st Q):bO Tryz.prog 84 xj st Q:=bO.low mx Fk (by kernel_rfl) (by kernel_rfl) hw
theorem k38:b38=(.seq Az (.seq AA (.seq AE (.seq AF (.seq AG (.seq AH (.seq (.seq uB xi) xj))))))):=by kernel_rfl
end Go.ST3
end
section
namespace Go.ST
open Go Go.DL Go.MM Go.Proofs
open Go.TY hiding Fd
theorem WC.toM{P:Program}{f:FuncId}{us:List V}{d:Option Nat}{st:St}{K:St->Prop}(h:WC P f us d st K):WCM P f us d st K:=by
 refine ⟨h.1,fun N w0 S0 E a vs hs hlen hv hd=>(h.2 N w0 S0 E a vs hs hlen hv hd).mono ?_⟩;rintro e w' ⟨v,rfl,E',st',h1,h2,h3⟩;exact ⟨v,rfl,S0,E',st',Ext.refl _,h1,h2,h3⟩
abbrev dL(l:List Fd)(s:RS)(st:List RE)(x0 x1 x2 x3 x4 x5 x6 x7 x8 x9 tick:Int)(e:RE)(is:Bool):List T:=
 [fds l,I s.kind,.str s.var,.slice 1 (s.key.map .str),.str s.field,I s.n,I s.m,esT st,I x0,I x1,I x2,I x3,I x4,I x5,I x6,I x7,I x8,I x9,I tick,.str e.var,.slice 1 (e.key.map I),I e.n,I e.at_,.bool is]
abbrev Ei:List T:=[.nilfn,.clos 59 [],.clos 60 [],.clos 61 [],.clos 62 [],.clos 63 [],.clos 64 []]
abbrev z10:List T:=[I 0,I 0,I 0,I 0,I 0,I 0,I 0,I 0,I 0,I 0]
section
variable (l:List Fd)(s:RS)(st:List RE)(x0 x1 x2 x3 x4 x5 x6 x7 x8 x9 tick:Int)(e:RE)(is:Bool)
abbrev S0:Wk:={sl:=[(6,.ptr 6 0),(8,.ptr 8 0),(10,.ptr 10 0),(13,.ptr 13 0),(16,.ptr 37 0)],bx:=[(6,.d 6 (vF s)),(8,.d 10 [I x0,I x1,I x2,I x3,I x4,I x5,I x6,I x7,I x8,I x9]),(10,.d 10 z10),(13,.d 7 Ei),(37,.d 24 (dL l s st x0 x1 x2 x3 x4 x5 x6 x7 x8 x9 tick e is))]}
abbrev S1(st':List RE)(y0 y1 y2 y3 y4 y5 y6 y7 y8 y9:Int)(e':RE)(pass:Bool):Wk:={sl:=[(8,.ptr 8 0),(10,.ptr 10 0),(16,.ptr 37 0),(70,.t (.bool (!pass)))],bx:=[(8,.d 10 [I x0,I x1,I x2,I x3,I x4,I x5,I x6,I x7,I x8,I x9]),(10,.d 10 z10),(37,.d 24 (dL l s st' y0 y1 y2 y3 y4 y5 y6 y7 y8 y9 tick e' is))]}
end
variable {l:List Fd}{s:RS}{st:List RE}{x0 x1 x2 x3 x4 x5 x6 x7 x8 x9 tick:Int}{e:RE}{is:Bool}
attribute [local irreducible] bO WCM YC
theorem Dj(hk:s.kind=3)(b:Bool)(hb:b=(is&&decide (e.at_>=tick - s.n)))(h1: -2^40<tick/\tick<2^40)(h2: -2^40<s.n/\s.n<2^40):
  bO Tryz.prog 84 Go.ST3.uB (S0 l s st x0 x1 x2 x3 x4 x5 x6 x7 x8 x9 tick e is).mk' (fun ex s'=>ex= .normal/\bQ (S1 l s x0 x1 x2 x3 x4 x5 x6 x7 x8 x9 tick is st x0 x1 x2 x3 x4 x5 x6 x7 x8 x9 e b) s'):=by
 obtain ⟨kk,var,key,field,n,m⟩:=s;dsimp only at hk h2 hb;subst hk;have hw:IntKind.wrap .i64 (tick - n)=tick - n:=np (by omega) (by omega);refine Go.ST3.vZ ?_;cases is with
 |false=>
  subst hb
  repeat' ((conv=>whnf);first|refine WC.toM (sP mixed Tryz.func61 Go.ST4.l61 rfl rfl (rs:=[.tmp 2]) rfl 3000 (nlZ rfl) ?_)|refine aS ?_|refine nT_ ?_)
  refine ⟨_,rfl,?_⟩
  repeat' ((conv=>whnf);first|(exact ⟨rfl,by (repeat' (first|exact wJ|refine And.intro ?_ ?_));done⟩)|fail)
 |true=>
  by_cases c:e.at_>=tick - n
  ·have hc:e.at_>=IntKind.wrap .i64 (tick - n):=by rw [hw];exact c
   obtain rfl:b=true:=by rw [hb,decide_eq_true c];rfl
   repeat' ((conv=>whnf);first|refine WC.toM (sP mixed Tryz.func61 Go.ST4.l61 rfl rfl (rs:=[.tmp 2]) rfl 3000 (nlZ rfl) ?_)|refine ru hc ?_|refine aS ?_|refine nT_ ?_)
   refine ⟨_,rfl,?_⟩
   repeat' ((conv=>whnf);first|(exact ⟨rfl,by (repeat' (first|exact wJ|refine And.intro ?_ ?_));done⟩)|fail)
  ·have hc: ¬e.at_>=IntKind.wrap .i64 (tick - n):=by rw [hw];exact c
   obtain rfl:b=false:=by rw [hb,decide_eq_false c];rfl
   repeat' ((conv=>whnf);first|refine WC.toM (sP mixed Tryz.func61 Go.ST4.l61 rfl rfl (rs:=[.tmp 2]) rfl 3000 (nlZ rfl) ?_)|refine rq hc ?_|refine aS ?_|refine nT_ ?_)
   refine ⟨_,rfl,?_⟩
   repeat' ((conv=>whnf);first|(exact ⟨rfl,by (repeat' (first|exact wJ|refine And.intro ?_ ?_));done⟩)|fail)
end Go.ST
end
section
namespace Go.ST
open Go Go.DL Go.MM Go.Proofs
open Go.TY hiding Fd
variable {l:List Fd}{s:RS}{st st' o:List RE}{x0 x1 x2 x3 x4 x5 x6 x7 x8 x9 tick:Int}{e:RE}{is:Bool}
attribute [local irreducible] bO WCM YC
theorem Eh(hk:s.kind=2)(hOf:DCalls Tryz.prog 81 [esT st,.str s.var] (esT o))(eW:DCalls Tryz.prog 103 [esT st,tc ⟨e.var,e.key,e.n,tick⟩] (esT st'))(full:Bool)(hf:full=(!is&&decide (100<=o.length))):
  bO Tryz.prog 84 Go.ST3.uB (S0 l s st x0 x1 x2 x3 x4 x5 x6 x7 x8 x9 tick e is).mk' (fun ex s'=>ex= .normal/\bQ (S1 l s x0 x1 x2 x3 x4 x5 x6 x7 x8 x9 tick is (if full then st else st') x0 x1 x2 x3 x4 x5 x6 x7 x8 x9 ⟨e.var,e.key,e.n,tick⟩ (!full)) s'):=by
 obtain ⟨kk,var,key,field,n,m⟩:=s;dsimp only at hk hOf;subst hk;have hol:((o.map tc).length:Int)=o.length:=by rw [List.length_map]
 refine Go.ST3.vZ ?_;cases is with
 |true=>
  obtain rfl:full=false:=by rw [hf];rfl
  repeat' ((conv=>whnf);first|refine WC.toM (sP mixed Tryz.func60 Go.ST4.l60 rfl rfl (rs:=[.tmp 2]) rfl 3000 (nlZ rfl) ?_)|refine aS ?_|refine nT_ ?_)
  repeat' ((conv=>whnf);first|refine sP mixed Tryz.func79 Go.ST4.l79 rfl rfl (rs:=[.tmp 2]) rfl 3100 (nlZ rfl) ?_|refine aS ?_|refine nT_ ?_)
  repeat' ((conv=>whnf);first|refine sV _ (eW) ?_|refine aS ?_|fail)
  refine ⟨_,rfl,?_⟩
  skip
  refine ⟨_,rfl,?_⟩
  repeat' ((conv=>whnf);first|(exact ⟨rfl,by (repeat' (first|exact wJ|refine And.intro ?_ ?_));done⟩)|fail)
 |false=>
  by_cases c:100<=o.length
  ·obtain rfl:full=true:=by rw [hf,decide_eq_true c];rfl
   have hc:((o.map tc).length:Int)>=100:=by omega
   repeat' ((conv=>whnf);first|refine WC.toM (sP mixed Tryz.func60 Go.ST4.l60 rfl rfl (rs:=[.tmp 2]) rfl 3000 (nlZ rfl) ?_)|refine aS ?_|refine nT_ ?_)
   repeat' ((conv=>whnf);first|refine sP mixed Tryz.func79 Go.ST4.l79 rfl rfl (rs:=[.tmp 2]) rfl 3100 (nlZ rfl) ?_|refine aS ?_|refine nT_ ?_)
   repeat' ((conv=>whnf);first|refine sV _ (hOf) ?_|refine ru hc ?_|refine aS ?_|fail)
   refine ⟨_,rfl,?_⟩
   skip
   refine ⟨_,rfl,?_⟩
   repeat' ((conv=>whnf);first|(exact ⟨rfl,by (repeat' (first|exact wJ|refine And.intro ?_ ?_));done⟩)|fail)
  ·obtain rfl:full=false:=by rw [hf,decide_eq_false c];rfl
   have hc: ¬((o.map tc).length:Int)>=100:=by omega
   repeat' ((conv=>whnf);first|refine WC.toM (sP mixed Tryz.func60 Go.ST4.l60 rfl rfl (rs:=[.tmp 2]) rfl 3000 (nlZ rfl) ?_)|refine aS ?_|refine nT_ ?_)
   repeat' ((conv=>whnf);first|refine sP mixed Tryz.func79 Go.ST4.l79 rfl rfl (rs:=[.tmp 2]) rfl 3100 (nlZ rfl) ?_|refine aS ?_|refine nT_ ?_)
   repeat' ((conv=>whnf);first|refine sV _ (hOf) ?_|refine rq hc ?_|refine sV _ (eW) ?_|refine aS ?_|refine nT_ ?_)
   refine ⟨_,rfl,?_⟩
   skip
   refine ⟨_,rfl,?_⟩
   repeat' ((conv=>whnf);first|(exact ⟨rfl,by (repeat' (first|exact wJ|refine And.intro ?_ ?_));done⟩)|fail)
end Go.ST
end
section
namespace Go.ST
open Go Go.DL Go.MM Go.Proofs
open Go.TY hiding Fd
variable {l:List Fd}{s:RS}{st st' o:List RE}{x0 x1 x2 x3 x4 x5 x6 x7 x8 x9 y0 y1 y2 y3 y4 y5 y6 y7 y8 y9 tick:Int}{e:RE}{is:Bool}
attribute [local irreducible] bO WCM YC
abbrev zS(w:Nat)(n:Int):Int:=if ((2^w - 1:Nat):Int)<n then ((2^w - 1:Nat):Int) else n
theorem BF(w:Nat)(n:Int):zS w n=min n ((2^w - 1:Nat):Int):=by
 unfold zS;split <;> omega
structure Wr (l:List Fd) (field:ByteArray) (h h':List Int) (n:Int):Prop where
 find:DCalls Tryz.prog 82 [fds l,.str field] (.tup [fdc l field,.bool (tx l field)])
 max:tx l field=true->DCalls Tryz.prog 105 [fdc l field] (I ((2^(fld l field).w - 1:Nat):Int))
 set:tx l field=true->DCalls Tryz.prog 104 [fdc l field,hd h,I (zS (fld l field).w n)] (hd h')
 no:tx l field=false->h'=h
theorem AS{l:List Fd}(hl:LOk l)(field:ByteArray){h:List Int}(hh:HOk h){n:Int}(h0:0<=n):Wr l field h (wrF l h field n) n:=by
 refine ⟨xK l hl field,fun hf=>t97 _ (wZ hl hf),fun hf=>?_,fun hf=>?_⟩
 ·have hp:=Nat.two_pow_pos (fld l field).w;have hS:=t98 _ (wZ hl hf) h hh (min n ((2^(fld l field).w - 1:Nat):Int)).toNat (by omega);unfold wrF;rw [if_pos hf,BF];rwa [Int.toNat_of_nonneg (by omega)] at hS
 ·unfold wrF;rw [hf];rfl
theorem Dk(hk:s.kind=1)(hOf:DCalls Tryz.prog 81 [esT st,.str s.var] (esT o))(N:Int)(hN:(if (65535:Int)<IntKind.wrap .i64 (e.n+1) then 65535 else IntKind.wrap .i64 (e.n+1))=N)(eW:DCalls Tryz.prog 103 [esT st,tc ⟨e.var,e.key,N,tick⟩] (esT st'))(full:Bool)(hf:full=(!is&&decide (100<=o.length)))
  (hw:Wr l s.field [x0,x1,x2,x3,x4,x5,x6,x7,x8,x9] [y0,y1,y2,y3,y4,y5,y6,y7,y8,y9] N):
  bO Tryz.prog 84 Go.ST3.uB (S0 l s st x0 x1 x2 x3 x4 x5 x6 x7 x8 x9 tick e is).mk' (fun ex s'=>ex= .normal/\((full=true/\bQ (S1 l s x0 x1 x2 x3 x4 x5 x6 x7 x8 x9 tick is st x0 x1 x2 x3 x4 x5 x6 x7 x8 x9 ⟨e.var,e.key,N,tick⟩ false) s')\/(full=false/\bQ (S1 l s x0 x1 x2 x3 x4 x5 x6 x7 x8 x9 tick is st' y0 y1 y2 y3 y4 y5 y6 y7 y8 y9 ⟨e.var,e.key,N,tick⟩ true) s'))):=by
 obtain ⟨kk,var,key,field,n,m⟩:=s;dsimp only at hk hOf hw;subst hk;subst hN;have hol:((o.map tc).length:Int)=o.length:=by rw [List.length_map]
 obtain ⟨hF,hM,hS,hno⟩:=hw;refine Go.ST3.vZ ?_
 by_cases c:full=true
 ·subst c;cases is with
  |true=>cases hf
  |false=>
   have c:100<=o.length:=by
    by_cases c:100<=o.length
    ·exact c
    ·rw [decide_eq_false c] at hf;cases hf
   have hc:((o.map tc).length:Int)>=100:=by omega
   repeat' ((conv=>whnf);first|refine WC.toM (sP mixed Tryz.func59 Go.ST4.l59 rfl rfl (rs:=[.tmp 2]) rfl 3000 (nlZ rfl) ?_)|refine aS ?_|refine nT_ ?_)
   repeat' ((conv=>whnf);first|refine sP mixed Tryz.func79 Go.ST4.l79 rfl rfl (rs:=[.tmp 2]) rfl 3100 (nlZ rfl) ?_|refine aS ?_|refine nT_ ?_)
   repeat' ((conv=>whnf);first|refine sV _ (hOf) ?_|refine ru hc ?_|refine aS ?_|fail)
   refine ⟨_,rfl,?_⟩
   skip
   refine ⟨_,rfl,?_⟩
   repeat' ((conv=>whnf);first|(exact ⟨rfl,Or.inl ⟨rfl,by (repeat' (first|exact wJ|refine And.intro ?_ ?_));done⟩⟩)|fail)
 ·have c:full=false:=by simpa using c
  subst c;have hgo:(is=true)\/(is=false/\ ¬((o.map tc).length:Int)>=100):=by
   cases is with
   |true=>exact Or.inl rfl
   |false=>
    refine Or.inr ⟨rfl,fun hc=>?_⟩;rw [decide_eq_true (by omega)] at hf;cases hf
  cases hfo:tx l field with
  |true=>
   have hM:=hM hfo;have hS:=hS hfo;rw [hfo] at hF;rcases hgo with rfl|⟨rfl,hc⟩
   ·repeat' ((conv=>whnf);first|refine WC.toM (sP mixed Tryz.func59 Go.ST4.l59 rfl rfl (rs:=[.tmp 2]) rfl 3000 (nlZ rfl) ?_)|refine aS ?_|refine nT_ ?_)
    repeat' ((conv=>whnf);first|refine sP mixed Tryz.func79 Go.ST4.l79 rfl rfl (rs:=[.tmp 2]) rfl 3100 (nlZ rfl) ?_|refine aS ?_|refine nT_ ?_)
    repeat' ((conv=>whnf);first|refine sV _ (eW) ?_|refine aS ?_|fail)
    refine ⟨_,rfl,?_⟩
    repeat' ((conv=>whnf);first|refine sP mixed Tryz.func80 Go.ST4.l80 rfl rfl (rs:=[]) rfl 3200 (nlZ rfl) ?_|refine aS ?_|refine nT_ ?_)
    repeat' ((conv=>whnf);first|refine sV _ (hF) ?_|refine sV _ (hM) ?_|refine sV _ (hS) ?_|refine aS ?_|refine nT_ ?_)
    refine ⟨_,rfl,?_⟩
    skip
    refine ⟨_,rfl,?_⟩
    repeat' ((conv=>whnf);first|(exact ⟨rfl,Or.inr ⟨rfl,by (repeat' (first|exact wJ|refine And.intro ?_ ?_));done⟩⟩)|fail)
   ·repeat' ((conv=>whnf);first|refine WC.toM (sP mixed Tryz.func59 Go.ST4.l59 rfl rfl (rs:=[.tmp 2]) rfl 3000 (nlZ rfl) ?_)|refine aS ?_|refine nT_ ?_)
    repeat' ((conv=>whnf);first|refine sP mixed Tryz.func79 Go.ST4.l79 rfl rfl (rs:=[.tmp 2]) rfl 3100 (nlZ rfl) ?_|refine aS ?_|refine nT_ ?_)
    repeat' ((conv=>whnf);first|refine sV _ (hOf) ?_|refine rq hc ?_|refine sV _ (eW) ?_|refine aS ?_|refine nT_ ?_)
    refine ⟨_,rfl,?_⟩
    repeat' ((conv=>whnf);first|refine sP mixed Tryz.func80 Go.ST4.l80 rfl rfl (rs:=[]) rfl 3200 (nlZ rfl) ?_|refine aS ?_|refine nT_ ?_)
    repeat' ((conv=>whnf);first|refine sV _ (hF) ?_|refine sV _ (hM) ?_|refine sV _ (hS) ?_|refine aS ?_|refine nT_ ?_)
    refine ⟨_,rfl,?_⟩
    skip
    refine ⟨_,rfl,?_⟩
    repeat' ((conv=>whnf);first|(exact ⟨rfl,Or.inr ⟨rfl,by (repeat' (first|exact wJ|refine And.intro ?_ ?_));done⟩⟩)|fail)
  |false=>
   have hno:=hno hfo;cases hno;rw [hfo] at hF;rcases hgo with rfl|⟨rfl,hc⟩
   ·repeat' ((conv=>whnf);first|refine WC.toM (sP mixed Tryz.func59 Go.ST4.l59 rfl rfl (rs:=[.tmp 2]) rfl 3000 (nlZ rfl) ?_)|refine aS ?_|refine nT_ ?_)
    repeat' ((conv=>whnf);first|refine sP mixed Tryz.func79 Go.ST4.l79 rfl rfl (rs:=[.tmp 2]) rfl 3100 (nlZ rfl) ?_|refine aS ?_|refine nT_ ?_)
    repeat' ((conv=>whnf);first|refine sV _ (eW) ?_|refine aS ?_|fail)
    refine ⟨_,rfl,?_⟩
    repeat' ((conv=>whnf);first|refine sP mixed Tryz.func80 Go.ST4.l80 rfl rfl (rs:=[]) rfl 3200 (nlZ rfl) ?_|refine aS ?_|refine nT_ ?_)
    repeat' ((conv=>whnf);first|refine sV _ (hF) ?_|refine aS ?_|fail)
    refine ⟨_,rfl,?_⟩
    skip
    refine ⟨_,rfl,?_⟩
    repeat' ((conv=>whnf);first|(exact ⟨rfl,Or.inr ⟨rfl,by (repeat' (first|exact wJ|refine And.intro ?_ ?_));done⟩⟩)|fail)
   ·repeat' ((conv=>whnf);first|refine WC.toM (sP mixed Tryz.func59 Go.ST4.l59 rfl rfl (rs:=[.tmp 2]) rfl 3000 (nlZ rfl) ?_)|refine aS ?_|refine nT_ ?_)
    repeat' ((conv=>whnf);first|refine sP mixed Tryz.func79 Go.ST4.l79 rfl rfl (rs:=[.tmp 2]) rfl 3100 (nlZ rfl) ?_|refine aS ?_|refine nT_ ?_)
    repeat' ((conv=>whnf);first|refine sV _ (hOf) ?_|refine rq hc ?_|refine sV _ (eW) ?_|refine aS ?_|refine nT_ ?_)
    refine ⟨_,rfl,?_⟩
    repeat' ((conv=>whnf);first|refine sP mixed Tryz.func80 Go.ST4.l80 rfl rfl (rs:=[]) rfl 3200 (nlZ rfl) ?_|refine aS ?_|refine nT_ ?_)
    repeat' ((conv=>whnf);first|refine sV _ (hF) ?_|refine aS ?_|fail)
    refine ⟨_,rfl,?_⟩
    skip
    refine ⟨_,rfl,?_⟩
    repeat' ((conv=>whnf);first|(exact ⟨rfl,Or.inr ⟨rfl,by (repeat' (first|exact wJ|refine And.intro ?_ ?_));done⟩⟩)|fail)
end Go.ST
end
section
namespace Go.ST
open Go Go.DL Go.MM Go.Proofs
open Go.TY hiding Fd
variable {l:List Fd}{s:RS}{st st' o:List RE}{x0 x1 x2 x3 x4 x5 x6 x7 x8 x9 tick:Int}{e:RE}{is:Bool}
attribute [local irreducible] bO WCM YC
abbrev W64(n:Int):Int:=IntKind.wrap .i64 n
abbrev tO(tick a m:Int):Int:=W64 ((if W64 (tick - a)>0 then W64 (tick - a) else 0).tdiv m)
abbrev Cv(n m tick en ea:Int):Int×Int:=if W64 (en+tO tick ea m)>=n then (n,tick) else (W64 (en+tO tick ea m),W64 (ea+W64 (tO tick ea m * m)))
theorem Dl(hk:s.kind=6)(hm:s.m≠0)(en ea n2 a2:Int)(h1:en=if is then e.n else s.n)(h1':ea=if is then e.at_ else tick)(h2:Cv s.n s.m tick en ea=(n2,a2))(n3:Int)(h3:n3=if n2>0 then W64 (n2 - 1) else n2)
  (hOf:DCalls Tryz.prog 81 [esT st,.str s.var] (esT o)) (eW:DCalls Tryz.prog 103 [esT st,tc ⟨e.var,e.key,n3,a2⟩] (esT st')) (full:Bool) (hf:full=(!is&&decide (100<=o.length))):
  bO Tryz.prog 84 Go.ST3.uB (S0 l s st x0 x1 x2 x3 x4 x5 x6 x7 x8 x9 tick e is).mk' (fun ex s'=>ex= .normal/\bQ (S1 l s x0 x1 x2 x3 x4 x5 x6 x7 x8 x9 tick is (if full then st else st') x0 x1 x2 x3 x4 x5 x6 x7 x8 x9 ⟨e.var,e.key,n3,a2⟩ (!full&&decide (n2>0))) s'):=by
 obtain ⟨kk,var,key,field,n,m⟩:=s;dsimp only at hk hOf hm h1 h1' h2;subst hk;have hol:((o.map tc).length:Int)=o.length:=by rw [List.length_map]
 refine Go.ST3.vZ ?_;cases is with
 |true=>
  obtain rfl:full=false:=by rw [hf];rfl
  obtain rfl:en=e.n:=h1;obtain rfl:ea=e.at_:=h1'
  by_cases c1:W64 (e.n+tO tick e.at_ m)>=n
  ·have h2:(n,tick)=(n2,a2):=by rw [<- h2];exact (if_pos c1).symm
   obtain ⟨rfl,rfl⟩:=Prod.mk.injEq .. ▸h2
   by_cases c2:n>0
   ·rw [if_pos c2] at h3;subst h3;rw [decide_eq_true c2]
    repeat' ((conv=>whnf);first|refine WC.toM (sP mixed Tryz.func64 Go.ST4.l64 rfl rfl (rs:=[.tmp 2]) rfl 3000 (nlZ rfl) ?_)|refine aD1 ?_|refine aS ?_|refine nT_ ?_)
    repeat' ((conv=>whnf);first|refine sP mixed Tryz.func79 Go.ST4.l79 rfl rfl (rs:=[.tmp 2]) rfl 3100 (nlZ rfl) ?_|refine aS ?_|refine nT_ ?_)
    repeat' ((conv=>whnf);first|refine sV _ (eW) ?_|refine aS ?_|fail)
    refine ⟨_,rfl,?_⟩
    skip
    refine ⟨_,rfl,?_⟩
    repeat' ((conv=>whnf);first|(exact ⟨rfl,by (repeat' (first|exact wJ|refine And.intro ?_ ?_));done⟩)|fail)
   ·rw [if_neg c2] at h3;subst h3;rw [decide_eq_false c2]
    repeat' ((conv=>whnf);first|refine WC.toM (sP mixed Tryz.func64 Go.ST4.l64 rfl rfl (rs:=[.tmp 2]) rfl 3000 (nlZ rfl) ?_)|refine aD1 ?_|refine aD0 ?_|refine aS ?_|refine nT_ ?_)
    repeat' ((conv=>whnf);first|refine sP mixed Tryz.func79 Go.ST4.l79 rfl rfl (rs:=[.tmp 2]) rfl 3100 (nlZ rfl) ?_|refine aS ?_|refine nT_ ?_)
    repeat' ((conv=>whnf);first|refine sV _ (eW) ?_|refine aS ?_|fail)
    refine ⟨_,rfl,?_⟩
    skip
    refine ⟨_,rfl,?_⟩
    repeat' ((conv=>whnf);first|(exact ⟨rfl,by (repeat' (first|exact wJ|refine And.intro ?_ ?_));done⟩)|fail)
  ·have h2:(W64 (e.n+tO tick e.at_ m),W64 (e.at_+W64 (tO tick e.at_ m * m)))=(n2,a2):=by rw [<- h2];exact (if_neg c1).symm
   obtain ⟨rfl,rfl⟩:=Prod.mk.injEq .. ▸h2
   by_cases c2:W64 (e.n+tO tick e.at_ m)>0
   ·rw [if_pos c2] at h3;subst h3;rw [decide_eq_true c2]
    repeat' ((conv=>whnf);first|refine WC.toM (sP mixed Tryz.func64 Go.ST4.l64 rfl rfl (rs:=[.tmp 2]) rfl 3000 (nlZ rfl) ?_)|refine aD1 ?_|refine aD0 ?_|refine aS ?_|refine nT_ ?_)
    repeat' ((conv=>whnf);first|refine sP mixed Tryz.func79 Go.ST4.l79 rfl rfl (rs:=[.tmp 2]) rfl 3100 (nlZ rfl) ?_|refine aS ?_|refine nT_ ?_)
    repeat' ((conv=>whnf);first|refine sV _ (eW) ?_|refine aS ?_|fail)
    refine ⟨_,rfl,?_⟩
    skip
    refine ⟨_,rfl,?_⟩
    repeat' ((conv=>whnf);first|(exact ⟨rfl,by (repeat' (first|exact wJ|refine And.intro ?_ ?_));done⟩)|fail)
   ·rw [if_neg c2] at h3;subst h3;rw [decide_eq_false c2]
    repeat' ((conv=>whnf);first|refine WC.toM (sP mixed Tryz.func64 Go.ST4.l64 rfl rfl (rs:=[.tmp 2]) rfl 3000 (nlZ rfl) ?_)|refine aD0 ?_|refine aS ?_|refine nT_ ?_)
    repeat' ((conv=>whnf);first|refine sP mixed Tryz.func79 Go.ST4.l79 rfl rfl (rs:=[.tmp 2]) rfl 3100 (nlZ rfl) ?_|refine aS ?_|refine nT_ ?_)
    repeat' ((conv=>whnf);first|refine sV _ (eW) ?_|refine aS ?_|fail)
    refine ⟨_,rfl,?_⟩
    skip
    refine ⟨_,rfl,?_⟩
    repeat' ((conv=>whnf);first|(exact ⟨rfl,by (repeat' (first|exact wJ|refine And.intro ?_ ?_));done⟩)|fail)
 |false=>
  obtain rfl:n=en:=h1.symm;obtain rfl:tick=ea:=h1'.symm
  by_cases c:100<=o.length
  ·have c3:((o.map tc).length:Int)>=100:=by omega
   obtain rfl:full=true:=by rw [hf,decide_eq_true c];rfl
   by_cases c1:W64 (n+tO tick tick m)>=n
   ·have h2:(n,tick)=(n2,a2):=by rw [<- h2];exact (if_pos c1).symm
    obtain ⟨rfl,rfl⟩:=Prod.mk.injEq .. ▸h2
    by_cases c2:n>0
    ·rw [if_pos c2] at h3;subst h3;rw [decide_eq_true c2]
     repeat' ((conv=>whnf);first|refine WC.toM (sP mixed Tryz.func64 Go.ST4.l64 rfl rfl (rs:=[.tmp 2]) rfl 3000 (nlZ rfl) ?_)|refine aD1 ?_|refine aS ?_|refine nT_ ?_)
     repeat' ((conv=>whnf);first|refine sP mixed Tryz.func79 Go.ST4.l79 rfl rfl (rs:=[.tmp 2]) rfl 3100 (nlZ rfl) ?_|refine aS ?_|refine nT_ ?_)
     repeat' ((conv=>whnf);first|refine sV _ (hOf) ?_|refine ru c3 ?_|refine aS ?_|fail)
     refine ⟨_,rfl,?_⟩
     skip
     refine ⟨_,rfl,?_⟩
     repeat' ((conv=>whnf);first|(exact ⟨rfl,by (repeat' (first|exact wJ|refine And.intro ?_ ?_));done⟩)|fail)
    ·rw [if_neg c2] at h3;subst h3;rw [decide_eq_false c2]
     repeat' ((conv=>whnf);first|refine WC.toM (sP mixed Tryz.func64 Go.ST4.l64 rfl rfl (rs:=[.tmp 2]) rfl 3000 (nlZ rfl) ?_)|refine aD1 ?_|refine aD0 ?_|refine aS ?_|refine nT_ ?_)
     repeat' ((conv=>whnf);first|refine sP mixed Tryz.func79 Go.ST4.l79 rfl rfl (rs:=[.tmp 2]) rfl 3100 (nlZ rfl) ?_|refine aS ?_|refine nT_ ?_)
     repeat' ((conv=>whnf);first|refine sV _ (hOf) ?_|refine ru c3 ?_|refine aS ?_|fail)
     refine ⟨_,rfl,?_⟩
     skip
     refine ⟨_,rfl,?_⟩
     repeat' ((conv=>whnf);first|(exact ⟨rfl,by (repeat' (first|exact wJ|refine And.intro ?_ ?_));done⟩)|fail)
   ·have h2:(W64 (n+tO tick tick m),W64 (tick+W64 (tO tick tick m * m)))=(n2,a2):=by rw [<- h2];exact (if_neg c1).symm
    obtain ⟨rfl,rfl⟩:=Prod.mk.injEq .. ▸h2
    by_cases c2:W64 (n+tO tick tick m)>0
    ·rw [if_pos c2] at h3;subst h3;rw [decide_eq_true c2]
     repeat' ((conv=>whnf);first|refine WC.toM (sP mixed Tryz.func64 Go.ST4.l64 rfl rfl (rs:=[.tmp 2]) rfl 3000 (nlZ rfl) ?_)|refine aD1 ?_|refine aD0 ?_|refine aS ?_|refine nT_ ?_)
     repeat' ((conv=>whnf);first|refine sP mixed Tryz.func79 Go.ST4.l79 rfl rfl (rs:=[.tmp 2]) rfl 3100 (nlZ rfl) ?_|refine aS ?_|refine nT_ ?_)
     repeat' ((conv=>whnf);first|refine sV _ (hOf) ?_|refine ru c3 ?_|refine aS ?_|fail)
     refine ⟨_,rfl,?_⟩
     skip
     refine ⟨_,rfl,?_⟩
     repeat' ((conv=>whnf);first|(exact ⟨rfl,by (repeat' (first|exact wJ|refine And.intro ?_ ?_));done⟩)|fail)
    ·rw [if_neg c2] at h3;subst h3;rw [decide_eq_false c2]
     repeat' ((conv=>whnf);first|refine WC.toM (sP mixed Tryz.func64 Go.ST4.l64 rfl rfl (rs:=[.tmp 2]) rfl 3000 (nlZ rfl) ?_)|refine aD0 ?_|refine aS ?_|refine nT_ ?_)
     repeat' ((conv=>whnf);first|refine sP mixed Tryz.func79 Go.ST4.l79 rfl rfl (rs:=[.tmp 2]) rfl 3100 (nlZ rfl) ?_|refine aS ?_|refine nT_ ?_)
     repeat' ((conv=>whnf);first|refine sV _ (hOf) ?_|refine ru c3 ?_|refine aS ?_|fail)
     refine ⟨_,rfl,?_⟩
     skip
     refine ⟨_,rfl,?_⟩
     repeat' ((conv=>whnf);first|(exact ⟨rfl,by (repeat' (first|exact wJ|refine And.intro ?_ ?_));done⟩)|fail)
  ·have c3: ¬((o.map tc).length:Int)>=100:=by omega
   obtain rfl:full=false:=by rw [hf,decide_eq_false c];rfl
   by_cases c1:W64 (n+tO tick tick m)>=n
   ·have h2:(n,tick)=(n2,a2):=by rw [<- h2];exact (if_pos c1).symm
    obtain ⟨rfl,rfl⟩:=Prod.mk.injEq .. ▸h2
    by_cases c2:n>0
    ·rw [if_pos c2] at h3;subst h3;rw [decide_eq_true c2]
     repeat' ((conv=>whnf);first|refine WC.toM (sP mixed Tryz.func64 Go.ST4.l64 rfl rfl (rs:=[.tmp 2]) rfl 3000 (nlZ rfl) ?_)|refine aD1 ?_|refine aS ?_|refine nT_ ?_)
     repeat' ((conv=>whnf);first|refine sP mixed Tryz.func79 Go.ST4.l79 rfl rfl (rs:=[.tmp 2]) rfl 3100 (nlZ rfl) ?_|refine aS ?_|refine nT_ ?_)
     repeat' ((conv=>whnf);first|refine sV _ (hOf) ?_|refine rq c3 ?_|refine sV _ (eW) ?_|refine aS ?_|refine nT_ ?_)
     refine ⟨_,rfl,?_⟩
     skip
     refine ⟨_,rfl,?_⟩
     repeat' ((conv=>whnf);first|(exact ⟨rfl,by (repeat' (first|exact wJ|refine And.intro ?_ ?_));done⟩)|fail)
    ·rw [if_neg c2] at h3;subst h3;rw [decide_eq_false c2]
     repeat' ((conv=>whnf);first|refine WC.toM (sP mixed Tryz.func64 Go.ST4.l64 rfl rfl (rs:=[.tmp 2]) rfl 3000 (nlZ rfl) ?_)|refine aD1 ?_|refine aD0 ?_|refine aS ?_|refine nT_ ?_)
     repeat' ((conv=>whnf);first|refine sP mixed Tryz.func79 Go.ST4.l79 rfl rfl (rs:=[.tmp 2]) rfl 3100 (nlZ rfl) ?_|refine aS ?_|refine nT_ ?_)
     repeat' ((conv=>whnf);first|refine sV _ (hOf) ?_|refine rq c3 ?_|refine sV _ (eW) ?_|refine aS ?_|refine nT_ ?_)
     refine ⟨_,rfl,?_⟩
     skip
     refine ⟨_,rfl,?_⟩
     repeat' ((conv=>whnf);first|(exact ⟨rfl,by (repeat' (first|exact wJ|refine And.intro ?_ ?_));done⟩)|fail)
   ·have h2:(W64 (n+tO tick tick m),W64 (tick+W64 (tO tick tick m * m)))=(n2,a2):=by rw [<- h2];exact (if_neg c1).symm
    obtain ⟨rfl,rfl⟩:=Prod.mk.injEq .. ▸h2
    by_cases c2:W64 (n+tO tick tick m)>0
    ·rw [if_pos c2] at h3;subst h3;rw [decide_eq_true c2]
     repeat' ((conv=>whnf);first|refine WC.toM (sP mixed Tryz.func64 Go.ST4.l64 rfl rfl (rs:=[.tmp 2]) rfl 3000 (nlZ rfl) ?_)|refine aD1 ?_|refine aD0 ?_|refine aS ?_|refine nT_ ?_)
     repeat' ((conv=>whnf);first|refine sP mixed Tryz.func79 Go.ST4.l79 rfl rfl (rs:=[.tmp 2]) rfl 3100 (nlZ rfl) ?_|refine aS ?_|refine nT_ ?_)
     repeat' ((conv=>whnf);first|refine sV _ (hOf) ?_|refine rq c3 ?_|refine sV _ (eW) ?_|refine aS ?_|refine nT_ ?_)
     refine ⟨_,rfl,?_⟩
     skip
     refine ⟨_,rfl,?_⟩
     repeat' ((conv=>whnf);first|(exact ⟨rfl,by (repeat' (first|exact wJ|refine And.intro ?_ ?_));done⟩)|fail)
    ·rw [if_neg c2] at h3;subst h3;rw [decide_eq_false c2]
     repeat' ((conv=>whnf);first|refine WC.toM (sP mixed Tryz.func64 Go.ST4.l64 rfl rfl (rs:=[.tmp 2]) rfl 3000 (nlZ rfl) ?_)|refine aD0 ?_|refine aS ?_|refine nT_ ?_)
     repeat' ((conv=>whnf);first|refine sP mixed Tryz.func79 Go.ST4.l79 rfl rfl (rs:=[.tmp 2]) rfl 3100 (nlZ rfl) ?_|refine aS ?_|refine nT_ ?_)
     repeat' ((conv=>whnf);first|refine sV _ (hOf) ?_|refine rq c3 ?_|refine sV _ (eW) ?_|refine aS ?_|refine nT_ ?_)
     refine ⟨_,rfl,?_⟩
     skip
     refine ⟨_,rfl,?_⟩
     repeat' ((conv=>whnf);first|(exact ⟨rfl,by (repeat' (first|exact wJ|refine And.intro ?_ ?_));done⟩)|fail)
end Go.ST
end
section
namespace Go.ST5
open Go Go.DL Go.Proofs
noncomputable def c63:aV:=(sr [oo 1 (.box 1 (tm 0)),oo 2 (.mov kF)] (sr [ld 10 1,oo 11 (.nilck (tm 10)),fa 12 0 11,ld 13 12,ld 14 1,oo 15 (.nilck (tm 14)),fa 16 1 15,fa 17 3 16,ld 18 17,oo 19 (.call 82 [(tm 13),(tm 18)]),mv 9 19,oo 20 (.ext (tm 9) 0),oo 21 (.ext (tm 9) 1),⟨some 3,.alloc [S0,Z0,Z0],none,[]⟩,o0 (.store 3 (tm 3) (tm 20)),mv 4 21] (sr [lA 22 3 3,ld 23 1,oo 24 (.nilck (tm 23)),fa 25 8 24,lA 26 10 25,oo 27 (.call 83 [(tm 22),(tm 26)]),oo 5 (.alloc [Z0]),o0 (.store 1 (tm 5) (tm 27))] (sr [ld 28 1,oo 29 (.nilck (tm 28)),fa 30 7 29,ld 31 30,oo 32 (.mkfn 85 [(tm 1),(tm 5)]),oo 33 (.inl 84 [(tm 31),(tm 32)]),mv 6 33] (.seq (sr [mv 34 6,oo 35 (.bin .lss (tm 34) (Kc 0))] (.cond (tm 35) (sr [oo 2 (.mov kF)] .ret) .skip)) (.seq (sr [ld 36 1,oo 37 (.nilck (tm 36)),fa 38 1 37,fa 39 2 38,ld 40 39,ln 41 40,oo 42 (.mov (Kc 0))] (.block 0 (.loop (sr [oo 43 (.bin .lss (tm 42) (tm 41))] (.seq (.cond (tm 43) .skip (.exit 0)) (.seq (.block 1 (sr [mv 44 42,ix 45 1 40 42,ld 46 45,mv 7 44,mv 8 46] (rg [ld 47 1,mv 48 8,ld 49 1,oo 50 (.nilck (tm 49)),fa 51 7 50,ld 52 51,mv 53 6,ix 54 4 52 53,fa 55 1 54,ld 56 55,mv 57 7,ix 58 1 56 57,ld 59 58,oo 60 (.inl 80 [(tm 47),(tm 48),(tm 59)])]))) (rg [oo 61 (.bin .add (tm 42) (Kc 1)),mv 42 61]))))))) (sr [oo 2 (.mov kT)] .ret)))))))
theorem l63:(Tryz.f63.body.bind (bp Tryz.prog 62 [80,84]))=some c63:=by kernel_rfl
end Go.ST5
end
section
end
section
namespace Go.ST
open Go Go.DL Go.MM
open Go.TY hiding Fd
theorem Ek{l:List Fd}(h:LOk l){k:ByteArray}(hf:tx l k=true):FOk (MM.fld l k):=by
 unfold tx at hf;obtain ⟨f,hf⟩:=Option.isSome_iff_exists.1 hf;rw [A5 hf];exact h.find hf
theorem xm{l:List Fd}(hl:LOk l){h:List Int}(hh:HOk h){name:ByteArray}{n:Int}(_:0<=n):HOk (wrF l h name n):=by
 unfold wrF;cases hf:tx l name with
 |false=>simpa using hh
 |true=>
  rw [if_pos rfl]
  have:=Nat.two_pow_pos (fld l name).w
  exact hh.set (Ek hl hf) (by omega)
theorem xM{l:List Fd}(hl:LOk l): ∀{ks:List ByteArray} {vs:List Int} {h:List Int},HOk h->(∀ x∈vs,0<=x)->HOk (uO l ks vs h)
 |[],_,h,hh,_=>hh
 |_::_,[],h,hh,_=>hh
 |k::ks,v::vs,h,hh,hv=>show HOk (uO l ks vs (wrF l h k v)) from xM hl (xm hl hh (hv v (by simp))) fun x hx=>hv x (by simp [hx])
end Go.ST
end
section
namespace Go.ST
open Go Go.DL Go.MM Go.Proofs
open Go.TY hiding Fd
theorem DCalls.Bj{P:Program}{f:FuncId}{ts:List T}{r:T}(h:DCalls P f ts r)(hf:r.flat=true):qR P f ts r:=by
 refine ⟨h.1,fun w vs hG hl hr=>(h.2 (dW w) w vs (fun _ _ hs=>hs) hG hl hr).mono ?_⟩;rintro e w' ⟨v,rfl,hb,aq⟩;exact ⟨v,rfl,hb,aq.of_flat hf⟩
theorem zl(xs:List RE)(f:FuncId)(c1 c2:T)(p:RE->Bool)(hl:xs.length<2^60)(hc: ∀(i:Nat) (h:i<xs.length),DCalls Tryz.prog f [.agg (ta xs[i]),c1,c2] (.bool (p xs[i]))):
  DCalls Tryz.prog 84 [esT xs,.clos f [c1,c2]] (I (tZ p xs)):=by
 refine dl2 mixed [.tmp 4] [.int _ _] Tryz.func84 l84 ?_
 skip
 refine sM (α:=Nat) (fun i=>{sl:=[(0,.t (esT xs)),(1,.t (.clos f [c1,c2])),(6,.t (esT xs)),(7,.t (I xs.length)),(8,.t (I i))],bx:=[]})
  (fun i=>i<=xs.length/\ ∀j (h:j<xs.length),j<i->p xs[j]=false) (fun i=>xs.length - i) 0 (by simp) ?_ ?_
 ·repeat' (first|(exact leI (by simp))|exact wJ|refine And.intro ?_ ?_)
 rintro i ⟨hi,hp⟩;rcases Nat.lt_or_ge i xs.length with h|h
 ·have h0:=hc i h;cases hb:p xs[i] with
  |true=>
   rw [hb] at h0;rw [xz h hb hp]
   repeat' ((conv=>whnf);first|exact trivial|(refine nv_ (.agg (ta xs[i])) (by first|exact tS h) ?_)|refine sV _ (h0) ?_|refine aD1 ?_|refine rix ?_|(refine And.intro (by first|exact td _) ?_)|refine aS ?_|refine nT_ ?_)
  |false=>
   rw [hb] at h0
   repeat' ((conv=>whnf);first|(refine nv_ (.agg (ta xs[i])) (by first|exact tS h) ?_)|refine sV _ (h0) ?_|refine aD1 ?_|(refine And.intro (by first|exact td _) ?_)|refine aS ?_|refine nT_ ?_)
   refine ⟨i+1,⟨h,fun j hj hlt=>?_⟩,by omega,?_⟩
   ·rcases Nat.lt_or_ge j i with h4|h4
    ·exact hp j hj h4
    ·obtain rfl:j=i:=by omega
     exact hb
   ·repeat' (first|exact wJ|refine And.intro ?_ ?_)
 ·have:i=xs.length:=by omega
  subst this;rw [xA fun j hj=>hp j hj hj]
  repeat' ((conv=>whnf);first|refine aD0 ?_|refine rix ?_|refine aS ?_|exact trivial)
structure H10 where
 x0:Int
 x1:Int
 x2:Int
 x3:Int
 x4:Int
 x5:Int
 x6:Int
 x7:Int
 x8:Int
 x9:Int
abbrev H10.ls(q:H10):List Int:=[q.x0,q.x1,q.x2,q.x3,q.x4,q.x5,q.x6,q.x7,q.x8,q.x9]
theorem yj(l:List Fd)(k:ByteArray)(v:Int): ∀(a:List ByteArray) (b:List Int) (h:List Int),a.length=b.length->uO l (a++[k]) (b++[v]) h=wrF l (uO l a b h) k v
 |[],[],h,_=>rfl
 |x::a,y::b,h,e=>by
  show uO l (a++[k]) (b++[v]) (wrF l h x y)=_
  rw [yj l k v a b _ (by simpa using e)];rfl
 |[],_::_,_,e=>by simp at e
 |_::_,[],_,e=>by simp at e
variable {l:List Fd}{s:RS}{st st' o:List RE}{x0 x1 x2 x3 x4 x5 x6 x7 x8 x9 y0 y1 y2 y3 y4 y5 y6 y7 y8 y9 tick:Int}{e:RE}{is:Bool}
theorem DM(x:RE)(g:Int):DCalls Tryz.prog 85 [.agg (ta x),.cptr [.cptr (dL l s st x0 x1 x2 x3 x4 x5 x6 x7 x8 x9 tick e is) 0] 0,.cptr [I g] 0] (.bool (decide (x.var=s.var)&&decide (x.n=g))):=by
 refine dl2 mixed [.tmp 4] [.bool _] Tryz.func85 Go.ST4.l85 ?_;have h:=eqS x.var s.var
 by_cases c:x.var=s.var
 ·rw [decide_eq_true c] at h ⊢
  by_cases c2:x.n=g
  ·rw [decide_eq_true c2]
   repeat' ((conv=>whnf);first|exact trivial|refine nb_ _ h ?_|refine ry c2 ?_|refine rb1 ?_|(refine And.intro (by first|exact td _) ?_)|refine aS ?_|refine nT_ ?_)
  ·rw [decide_eq_false c2]
   repeat' ((conv=>whnf);first|exact trivial|refine nb_ _ h ?_|refine rv c2 ?_|refine rb0 ?_|(refine And.intro (by first|exact td _) ?_)|refine aS ?_|refine nT_ ?_)
 ·rw [decide_eq_false c] at h ⊢
  repeat' ((conv=>whnf);first|exact trivial|refine nb_ _ h ?_|refine rb0 ?_|(refine And.intro (by first|exact td _) ?_)|refine aS ?_|refine nT_ ?_)
attribute [local irreducible] bO WCM YC
theorem Eg(hk:s.kind=5)(hl:LOk l)(hlen:st.length<2^40)(hkl:s.key.length<2^40)(hh:HOk [x0,x1,x2,x3,x4,x5,x6,x7,x8,x9])(hfo:tx l s.field=true)
  (hvs: ∀x∈st,x.var=s.var->x.key.length=s.key.length/\ ∀v∈x.key,0<=v) (fnd:Option RE) (yX:fnd=st.find? fun x=>decide (x.var=s.var)&&decide (x.n=(uh (fld l s.field) [x0,x1,x2,x3,x4,x5,x6,x7,x8,x9]:Int))):
  bO Tryz.prog 84 Go.ST3.uB (S0 l s st x0 x1 x2 x3 x4 x5 x6 x7 x8 x9 tick e is).mk' (fun ex s'=>ex= .normal/\((fnd=none/\bQ (S1 l s x0 x1 x2 x3 x4 x5 x6 x7 x8 x9 tick is st x0 x1 x2 x3 x4 x5 x6 x7 x8 x9 e false) s')\/
   (∃ (x:RE) (q:H10),fnd=some x/\q.ls=uO l s.key x.key [x0,x1,x2,x3,x4,x5,x6,x7,x8,x9]/\bQ (S1 l s x0 x1 x2 x3 x4 x5 x6 x7 x8 x9 tick is st q.x0 q.x1 q.x2 q.x3 q.x4 q.x5 q.x6 q.x7 q.x8 q.x9 e true) s'))):=by
 have py:=zl st 85 (.cptr [.cptr (dL l s st x0 x1 x2 x3 x4 x5 x6 x7 x8 x9 tick e is) 0] 0) (.cptr [I (uh (fld l s.field) [x0,x1,x2,x3,x4,x5,x6,x7,x8,x9])] 0) (fun x=>decide (x.var=s.var)&&decide (x.n=(uh (fld l s.field) [x0,x1,x2,x3,x4,x5,x6,x7,x8,x9]:Int))) (by omega) (fun i h=>DM st[i] _);have hF:=xK l hl s.field;rw [hfo] at hF;have hG:=t78 _ (wZ hl hfo) _ hh;obtain ⟨kk,var,key,field,n,m⟩:=s;dsimp only at hk hF hG py hvs yX hkl hfo;subst hk;rcases wq (fun x=>decide (x.var=var)&&decide (x.n=(uh (fld l field) [x0,x1,x2,x3,x4,x5,x6,x7,x8,x9]:Int))) st with ⟨hx,hno⟩|⟨k,hk,hx,hfd⟩
 ·rw [hno] at yX;have hN:=DCalls.Bj py rfl;rw [hx] at hN;refine Go.ST3.vZ ?_
  repeat' ((conv=>whnf);first|refine WC.toM (sP mixed Tryz.func63 Go.ST5.l63 rfl rfl (rs:=[.tmp 2]) rfl 3000 (nlZ rfl) ?_)|refine aS ?_|refine nT_ ?_)
  repeat' ((conv=>whnf);first|refine sV _ (hF) ?_|refine sV _ (hG) ?_|refine sQ rfl hN ?_|refine aD1 ?_|refine aS ?_|refine nT_ ?_)
  refine ⟨_,rfl,?_⟩
  repeat' ((conv=>whnf);first|(exact ⟨rfl,Or.inl ⟨yX,by (repeat' (first|exact wJ|refine And.intro ?_ ?_));done⟩⟩)|fail)
 ·rw [hfd] at yX;have hN:=DCalls.Bj py rfl;rw [hx] at hN;have hxm:st[k]∈st:=List.getElem_mem hk;have hxv:st[k].var=var:=by
   have:=List.find?_some hfd
   rw [Bool.and_eq_true] at this;exact of_decide_eq_true this.1
  obtain ⟨hlk,aH⟩:=hvs st[k] hxm hxv;have hgk:=tS hk;have gD:=ggZ hk;have hn:((st.map tc).length:Int)=st.length:=by rw [List.length_map]
  have hm:((key.map T.str).length:Int)=key.length:=by rw [List.length_map]
  have xu: ¬(k:Int)<0:=by omega
  have hgx:((ta st[k])[1]?.getD .nil)= .slice 1 (st[k].key.map I):=rfl;have GM:(T.agg (ta st[k])).cells[1]?.getD .nil= .slice 1 (st[k].key.map I):=rfl;have hk2:(k:Int)<((st.map tc).length:Int):=by omega
  generalize hxx:st[k]=x at *
  obtain ⟨xv,xk,xn,xa⟩:=x;dsimp only at hlk aH;have hxl:((xk.map I).length:Int)=key.length:=by rw [List.length_map];omega
  refine Go.ST3.vZ ?_
  repeat' ((conv=>whnf);first|refine WC.toM (sP mixed Tryz.func63 Go.ST5.l63 rfl rfl (rs:=[.tmp 2]) rfl 3000 (nlZ rfl) ?_)|refine aS ?_|refine nT_ ?_)
  repeat' ((conv=>whnf);first|refine sV _ (hF) ?_|refine sV _ (hG) ?_|refine sQ rfl hN ?_|refine aD0 ?_|refine aS ?_|refine nT_ ?_)
  refine sa 0 (α:=Nat×H10) (β:=H10) (fun q=>{sl:=[(1,.ptr 3001 0),(6,.t (I k)),(40,.t (.slice 1 (key.map .str))),(41,.t (I key.length)),(42,.t (I q.1))],bx:=[(8,.d 10 [I x0,I x1,I x2,I x3,I x4,I x5,I x6,I x7,I x8,I x9]),(10,.d 10 z10),(3001,.v [.ptr 37 0]),(37,.d 24 (dL l ⟨5,var,key,field,n,m⟩ st q.2.x0 q.2.x1 q.2.x2 q.2.x3 q.2.x4 q.2.x5 q.2.x6 q.2.x7 q.2.x8 q.2.x9 tick e is))],gh:=[(0,[(8,.ptr 8 0),(10,.ptr 10 0),(16,.ptr 37 0)])],off:=3000})
   (fun q=>q.1<=key.length/\q.2.ls=uO l (key.take q.1) (xk.take q.1) [x0,x1,x2,x3,x4,x5,x6,x7,x8,x9]) (fun q=>key.length - q.1)
   (fun q=>{sl:=[],bx:=[(8,.d 10 [I x0,I x1,I x2,I x3,I x4,I x5,I x6,I x7,I x8,I x9]),(10,.d 10 z10),(37,.d 24 (dL l ⟨5,var,key,field,n,m⟩ st q.x0 q.x1 q.x2 q.x3 q.x4 q.x5 q.x6 q.x7 q.x8 q.x9 tick e is))],gh:=[(0,[(8,.ptr 8 0),(10,.ptr 10 0),(16,.ptr 37 0)])],off:=3000})
   (fun q=>q.ls=uO l key xk [x0,x1,x2,x3,x4,x5,x6,x7,x8,x9]) (0,⟨x0,x1,x2,x3,x4,x5,x6,x7,x8,x9⟩) ⟨Nat.zero_le _,rfl⟩ ?_ ?_ ?_
  ·repeat' (first|(exact leI hm.symm)|exact wJ|refine And.intro ?_ ?_)
  ·rintro ⟨i,q⟩ ⟨hi,hq⟩;dsimp only at hi hq;rcases Nat.lt_or_ge i key.length with h|h
   ·have hlt:(i:Int)<(key.length:Int):=by omega
    have hnx:((i+1:Nat):Int)=IntKind.wrap .i64 ((i:Int)+1):=by rw [np] <;> omega
    have hi2:i<xk.length:=by omega
    have hHq:HOk q.ls:=by rw [hq];exact xM hl hh fun v hv=>aH v (List.mem_of_mem_take hv)
    have hp0:0<=xk[i]:=aH _ (List.getElem_mem hi2);have hW:=AS hl key[i] hHq hp0;have hsn:uO l (key.take (i+1)) (xk.take (i+1)) [x0,x1,x2,x3,x4,x5,x6,x7,x8,x9]=wrF l q.ls key[i] xk[i]:=by
     rw [List.take_succ_eq_append_getElem h,List.take_succ_eq_append_getElem hi2,yj _ _ _ _ _ _ (by rw [List.length_take,List.length_take];omega),hq]
    have hst:(key.map T.str)[((i:Int)).toNat]?.getD .nil= .str key[i]:=by simp [h]
    have hsv:(xk.map I)[((i:Int)).toNat]?.getD .nil=I xk[i]:=by simp [hi2]
    obtain ⟨y0,y1,y2,y3,y4,y5,y6,y7,y8,y9,hy⟩:=ten (xm hl hHq (name:=key[i]) hp0);rw [hy] at hW hsn;obtain ⟨hF2,hM2,hS2,BW⟩:=hW;have hir:0<=(i:Int)/\(i:Int)<((xk.map I).length:Int):=by omega
    have hkr:0<=(k:Int)/\(k:Int)<((st.map tc).length:Int):=by omega
    generalize key[i]=nm at *
    generalize xk[i]=vl at *
    obtain ⟨z0,z1,z2,z3,z4,z5,z6,z7,z8,z9⟩:=q;cases yY:tx l nm with
    |true=>
     rw [yY] at hF2;have hM2:=hM2 yY;have hS2:=hS2 yY
     repeat' ((conv=>whnf);first|refine ru hlt ?_|(refine nv_ (.str nm) (by first|exact hst) ?_)|(refine nv_ (.slice 1 (xk.map I)) (by first|(simp [gD,tc,ta,T.cells];done)|fail) ?_)|(refine nv_ (I vl) (by first|exact hsv) ?_)|refine sP mixed Tryz.func80 Go.ST4.l80 rfl rfl (rs:=[]) rfl 3200 (nlZ rfl) ?_|(refine And.intro (by first|exact hir|exact hkr|((simp [gD,tc,ta,T.cells]);done)|fail) ?_)|refine aS ?_|refine nT_ ?_)
     repeat' ((conv=>whnf);first|refine sV _ (hF2) ?_|refine sV _ (hM2) ?_|refine sV _ (hS2) ?_|refine aS ?_|refine nT_ ?_)
     refine ⟨_,rfl,?_⟩
     repeat' ((conv=>whnf);first|(exact ⟨(i+1,⟨y0,y1,y2,y3,y4,y5,y6,y7,y8,y9⟩),⟨h,hsn.symm⟩,(by dsimp only;omega),by (repeat' (first|(exact leI hnx)|exact wJ|refine And.intro ?_ ?_));done⟩)|fail)
    |false=>
     rw [yY] at hF2;have BW:=BW yY;cases BW
     repeat' ((conv=>whnf);first|refine ru hlt ?_|(refine nv_ (.str nm) (by first|exact hst) ?_)|(refine nv_ (.slice 1 (xk.map I)) (by first|(simp [gD,tc,ta,T.cells];done)|fail) ?_)|(refine nv_ (I vl) (by first|exact hsv) ?_)|refine sP mixed Tryz.func80 Go.ST4.l80 rfl rfl (rs:=[]) rfl 3200 (nlZ rfl) ?_|(refine And.intro (by first|exact hir|exact hkr|((simp [gD,tc,ta,T.cells]);done)|fail) ?_)|refine aS ?_|refine nT_ ?_)
     repeat' ((conv=>whnf);first|refine sV _ (hF2) ?_|refine aS ?_|fail)
     refine ⟨_,rfl,?_⟩
     repeat' ((conv=>whnf);first|(exact ⟨(i+1,⟨_,_,_,_,_,_,_,_,_,_⟩),⟨h,hsn.symm⟩,(by dsimp only;omega),by (repeat' (first|(exact leI hnx)|exact wJ|refine And.intro ?_ ?_));done⟩)|fail)
   ·have hlt: ¬(i:Int)<(key.length:Int):=by omega
    have hq2:q.ls=uO l key xk [x0,x1,x2,x3,x4,x5,x6,x7,x8,x9]:=by rw [hq,List.take_of_length_le h,List.take_of_length_le (by omega)]
    repeat' ((conv=>whnf);first|refine rq hlt ?_|(exact ⟨q,hq2,by (repeat' (first|exact wJ|refine And.intro ?_ ?_));done⟩)|refine aS ?_|fail)
  ·rintro q hq
   skip
   refine ⟨_,rfl,?_⟩
   repeat' ((conv=>whnf);first|(exact ⟨rfl,Or.inr ⟨_,q,yX,hq,by (repeat' (first|exact wJ|refine And.intro ?_ ?_));done⟩⟩)|fail)
end Go.ST
end
section
namespace Go.ST
open Go Go.DL Go.MM Go.Proofs
open Go.TY hiding Fd
def esU(ns:List Int):List (T×T):=ns.map fun n=>(I n,T.bool true)
def vE(n:Int):List Int->List Int
 |[]=>[n]
 |x::xs=>if x=n then n::xs else x::vE n xs
theorem zH(a b:Int):eqL (I a).cells (I b).cells=decide (a=b):=by
 show ((a==b)&&true)=_
 rw [Bool.and_true]
 by_cases h:a=b <;> simp [h]
theorem Bi(n:Int): ∀ns:List Int,bA (I n) (.bool true) (esU ns)=esU (vE n ns)
 |[]=>rfl
 |x::xs=>by
  have ih:=Bi n xs;show cond (eqL (I n).cells (I x).cells) _ _=esU (vE n (x::xs))
  rw [zH];unfold vE
  by_cases h:x=n
  ·rw [decide_eq_true h.symm,if_pos h];rfl
  ·rw [decide_eq_false (fun e=>h e.symm),if_neg h,cond_false];show (I x,T.bool true)::bA (I n) (.bool true) (esU xs)=_
   rw [ih];rfl
theorem za{n m:Int}: ∀{ns:List Int},m∈vE n ns↔m=n\/m∈ns
 |[]=>by simp [vE]
 |x::xs=>by
  unfold vE
  by_cases h:x=n
  ·rw [if_pos h];subst h;simp
  ·rw [if_neg h,List.mem_cons,za (ns:=xs),List.mem_cons];constructor
   ·rintro (h1|h1|h1) <;> simp [h1]
   ·rintro (h1|h1|h1) <;> simp [h1]
theorem zL(n:Int): ∀ns:List Int,nM (.bool false) false (ep (I n).cells (esU ns))= .bool (decide (n∈ns))
 |[]=>by simp;rfl
 |x::xs=>by
  have ih:=zL n xs;show nM (.bool false) false (cond (eqL (I n).cells (I x).cells) (some (T.bool true)) (ep (I n).cells (esU xs)))=_
  rw [zH]
  by_cases h:n=x
  ·rw [decide_eq_true h,cond_true,decide_eq_true (by simp [h])];rfl
  ·rw [decide_eq_false h,cond_false,ih]
   congr 1
   simp [h]
def ux(o:List RE):List Int:=o.foldl (fun ns e=>vE e.n ns) []
theorem xZ{m:Int}: ∀{o:List RE} {ns:List Int},m∈o.foldl (fun ns e=>vE e.n ns) ns↔m∈ns\/tR o m=true
 |[],ns=>by simp [tR]
 |e::o,ns=>by
  rw [List.foldl_cons,xZ (o:=o),za];unfold tR;rw [List.any_cons,Bool.or_eq_true,decide_eq_true_eq];constructor
  ·rintro ((h|h)|h)
   ·exact Or.inr (Or.inl h.symm)
   ·exact Or.inl h
   ·exact Or.inr (Or.inr h)
  ·rintro (h|h|h)
   ·exact Or.inl (Or.inr h)
   ·exact Or.inl (Or.inl h.symm)
   ·exact Or.inr h
theorem Av(o:List RE)(m:Int):decide (m∈ux o)=tR o m:=by
 have:=xZ (m:=m) (o:=o) (ns:=[])
 unfold ux;cases h:tR o m with
 |true=>exact decide_eq_true (this.2 (Or.inr h))
 |false=>
  refine decide_eq_false fun hm=>?_
  rcases this.1 hm with h2|h2
  ·cases h2
  ·rw [h] at h2;cases h2
theorem Au(o:List RE){i:Nat}(h:i<o.length):ux (o.take (i+1))=vE o[i].n (ux (o.take i)):=by
 unfold ux;rw [List.take_succ_eq_append_getElem h,List.foldl_append];rfl
theorem Aq{ks:List Nat}{bx:Nat->Option BX}{ag:Bool}{sh:List Sh}{es es':List (T×T)}(h:es=es'):LeB ks bx (.m ag sh es none) (some (.m ag sh es' none)):=by rw [h];exact .same _
variable {l:List Fd}{s:RS}{st st' o:List RE}{x0 x1 x2 x3 x4 x5 x6 x7 x8 x9 y0 y1 y2 y3 y4 y5 y6 y7 y8 y9 tick:Int}{e:RE}{is:Bool}
attribute [local irreducible] bO WCM YC
theorem zw(hk:s.kind=4)(hol:o.length<2^40)(hs:0<=s.n/\s.n<=65535)(hOf:DCalls Tryz.prog 81 [esT st,.str s.var] (esT o))(N:Int)(hN:N=if is then e.n else tT o o.length s.n)
  (eW:DCalls Tryz.prog 103 [esT st,tc ⟨e.var,e.key,N,tick⟩] (esT st')) (full:Bool) (hf:full=(!is&&decide (100<=o.length))) (big:Bool) (hb:big=(!is&&decide (N>s.m)))
  (hw:Wr l s.field [x0,x1,x2,x3,x4,x5,x6,x7,x8,x9] [y0,y1,y2,y3,y4,y5,y6,y7,y8,y9] N):
  bO Tryz.prog 84 Go.ST3.uB (S0 l s st x0 x1 x2 x3 x4 x5 x6 x7 x8 x9 tick e is).mk' (fun ex s'=>ex= .normal/\(((full||big)=true/\bQ (S1 l s x0 x1 x2 x3 x4 x5 x6 x7 x8 x9 tick is st x0 x1 x2 x3 x4 x5 x6 x7 x8 x9 ⟨e.var,e.key,N,tick⟩ false) s')\/((full||big)=false/\bQ (S1 l s x0 x1 x2 x3 x4 x5 x6 x7 x8 x9 tick is st' y0 y1 y2 y3 y4 y5 y6 y7 y8 y9 ⟨e.var,e.key,N,tick⟩ true) s'))):=by
 obtain ⟨kk,var,key,field,n,m⟩:=s;dsimp only at hk hOf hw hs hN hb;subst hk;have hoL:((o.map tc).length:Int)=o.length:=by rw [List.length_map]
 obtain ⟨hF,hM,hS,hno⟩:=hw;refine Go.ST3.vZ ?_;cases is with
 |true=>
  obtain rfl:full=false:=by rw [hf];rfl
  obtain rfl:big=false:=by rw [hb];rfl
  obtain rfl:N=e.n:=hN;cases hfo:tx l field with
  |true=>
   have hM:=hM hfo;have hS:=hS hfo;rw [hfo] at hF
   repeat' ((conv=>whnf);first|refine WC.toM (sP mixed Tryz.func62 Go.ST4.l62 rfl rfl (rs:=[.tmp 2]) rfl 3000 (nlZ rfl) ?_)|refine aS ?_|refine nT_ ?_)
   repeat' ((conv=>whnf);first|refine sP mixed Tryz.func79 Go.ST4.l79 rfl rfl (rs:=[.tmp 2]) rfl 3100 (nlZ rfl) ?_|refine aS ?_|refine nT_ ?_)
   repeat' ((conv=>whnf);first|refine sV _ (eW) ?_|refine aS ?_|fail)
   refine ⟨_,rfl,?_⟩
   repeat' ((conv=>whnf);first|refine sP mixed Tryz.func80 Go.ST4.l80 rfl rfl (rs:=[]) rfl 3200 (nlZ rfl) ?_|refine aS ?_|refine nT_ ?_)
   repeat' ((conv=>whnf);first|refine sV _ (hF) ?_|refine sV _ (hM) ?_|refine sV _ (hS) ?_|refine aS ?_|refine nT_ ?_)
   refine ⟨_,rfl,?_⟩
   skip
   refine ⟨_,rfl,?_⟩
   repeat' ((conv=>whnf);first|(exact ⟨rfl,Or.inr ⟨rfl,by (repeat' (first|exact wJ|refine And.intro ?_ ?_));done⟩⟩)|fail)
  |false=>
   have hno:=hno hfo;cases hno;rw [hfo] at hF
   repeat' ((conv=>whnf);first|refine WC.toM (sP mixed Tryz.func62 Go.ST4.l62 rfl rfl (rs:=[.tmp 2]) rfl 3000 (nlZ rfl) ?_)|refine aS ?_|refine nT_ ?_)
   repeat' ((conv=>whnf);first|refine sP mixed Tryz.func79 Go.ST4.l79 rfl rfl (rs:=[.tmp 2]) rfl 3100 (nlZ rfl) ?_|refine aS ?_|refine nT_ ?_)
   repeat' ((conv=>whnf);first|refine sV _ (eW) ?_|refine aS ?_|fail)
   refine ⟨_,rfl,?_⟩
   repeat' ((conv=>whnf);first|refine sP mixed Tryz.func80 Go.ST4.l80 rfl rfl (rs:=[]) rfl 3200 (nlZ rfl) ?_|refine aS ?_|refine nT_ ?_)
   repeat' ((conv=>whnf);first|refine sV _ (hF) ?_|refine aS ?_|fail)
   refine ⟨_,rfl,?_⟩
   skip
   refine ⟨_,rfl,?_⟩
   repeat' ((conv=>whnf);first|(exact ⟨rfl,Or.inr ⟨rfl,by (repeat' (first|exact wJ|refine And.intro ?_ ?_));done⟩⟩)|fail)
 |false=>
  have hN:N=tT o o.length n:=hN;have pr:(tx l field=true/\DCalls Tryz.prog 82 [fds l,.str field] (.tup [fdc l field,.bool true])/\DCalls Tryz.prog 105 [fdc l field] (I ((2^(fld l field).w - 1:Nat):Int))/\DCalls Tryz.prog 104 [fdc l field,hd [x0,x1,x2,x3,x4,x5,x6,x7,x8,x9],I (zS (fld l field).w N)] (hd [y0,y1,y2,y3,y4,y5,y6,y7,y8,y9]))\/
    (DCalls Tryz.prog 82 [fds l,.str field] (.tup [fdc l field,.bool false])/\[y0,y1,y2,y3,y4,y5,y6,y7,y8,y9]=[x0,x1,x2,x3,x4,x5,x6,x7,x8,x9]):=by
   cases hfo:tx l field with
   |true=>rw [hfo] at hF;exact Or.inl ⟨rfl,hF,hM hfo,hS hfo⟩
   |false=>rw [hfo] at hF;exact Or.inr ⟨hF,hno hfo⟩
  have ES:(N>m/\big=true)\/(¬ N>m/\big=false):=by
   by_cases c:N>m
   ·exact Or.inl ⟨c,by rw [hb,decide_eq_true c];rfl⟩
   ·exact Or.inr ⟨c,by rw [hb,decide_eq_false c];rfl⟩
  have Ea:(((o.map tc).length:Int)>=100/\full=true)\/(¬ ((o.map tc).length:Int)>=100/\full=false):=by
   by_cases c:100<=o.length
   ·exact Or.inl ⟨by omega,by rw [hf,decide_eq_true c];rfl⟩
   ·exact Or.inr ⟨by omega,by rw [hf,decide_eq_false c];rfl⟩
  have CM:=zZ o n;rw [<- hN] at CM;clear hF hM hS hno hb hf
  repeat' ((conv=>whnf);first|refine WC.toM (sP mixed Tryz.func62 Go.ST4.l62 rfl rfl (rs:=[.tmp 2]) rfl 3000 (nlZ rfl) ?_)|refine aS ?_|refine nT_ ?_)
  repeat' ((conv=>whnf);first|refine sV _ (hOf) ?_)
  refine sa 0 (α:=Nat) (β:=Unit) (fun i=>{sl:=[(0,.ptr 37 0),(3,.mp 3019),(29,.t (esT o)),(30,.t (I o.length)),(31,.t (I i))],bx:=[(8,.d 10 [I x0,I x1,I x2,I x3,I x4,I x5,I x6,I x7,I x8,I x9]),(10,.d 10 z10),(3019,.m false [.int .i64] (esU (ux (o.take i))) none),(37,.d 24 (dL l ⟨4,var,key,field,n,m⟩ st x0 x1 x2 x3 x4 x5 x6 x7 x8 x9 tick ⟨e.var,e.key,e.n,tick⟩ false))],gh:=[(0,[(8,.ptr 8 0),(10,.ptr 10 0),(16,.ptr 37 0)])],off:=3000})
   (fun i=>i<=o.length) (fun i=>o.length - i)
   (fun _=>{sl:=[(0,.ptr 37 0),(3,.mp 3019)],bx:=[(8,.d 10 [I x0,I x1,I x2,I x3,I x4,I x5,I x6,I x7,I x8,I x9]),(10,.d 10 z10),(3019,.m false [.int .i64] (esU (ux o)) none),(37,.d 24 (dL l ⟨4,var,key,field,n,m⟩ st x0 x1 x2 x3 x4 x5 x6 x7 x8 x9 tick ⟨e.var,e.key,e.n,tick⟩ false))],gh:=[(0,[(8,.ptr 8 0),(10,.ptr 10 0),(16,.ptr 37 0)])],off:=3000}) (fun _=>True) 0 (Nat.zero_le _) ?_ ?_ ?_
  ·repeat' (first|(exact leI hoL.symm)|(exact Aq rfl)|exact wJ|refine And.intro ?_ ?_)
  ·rintro i hi;rcases Nat.lt_or_ge i o.length with h|h
   ·have hlt:(i:Int)<(o.length:Int):=by omega
    have hnx:((i+1:Nat):Int)=IntKind.wrap .i64 ((i:Int)+1):=by rw [np] <;> omega
    have hg:=tS h;have hsn:esU (ux (o.take (i+1)))=bA (I o[i].n) (.bool true) (esU (ux (o.take i))):=by rw [Bi,Au o h]
    have hir:0<=(i:Int)/\(i:Int)<((o.map tc).length:Int):=by omega
    have hst:(o.map tc)[((i:Int)).toNat]?.getD .nil= .agg (ta o[i]):=by rw [Int.toNat_natCast];exact hg
    generalize o[i]=x at *
    have hko:aR false [.int .i64] (I x.n):=⟨rfl,rfl,trivial⟩
    repeat' ((conv=>whnf);first|refine ru hlt ?_|(refine nv_ (.agg (ta x)) (by first|exact hst) ?_)|(exact ⟨i+1,h,(by omega),by (repeat' (first|(exact leI hnx)|(exact Aq hsn)|exact wJ|refine And.intro ?_ ?_));done⟩)|(refine And.intro (by first|exact hir|exact td _|exact hko) ?_)|refine aS ?_|refine nT_ ?_)
   ·have hlt: ¬(i:Int)<(o.length:Int):=by omega
    have e0:esU (ux o)=esU (ux (o.take i)):=by rw [List.take_of_length_le h]
    repeat' ((conv=>whnf);first|refine rq hlt ?_|(exact ⟨(),trivial,by (repeat' (first|(exact Aq e0)|exact wJ|refine And.intro ?_ ?_));done⟩)|refine aS ?_|fail)
  ·rintro - -
   repeat' ((conv=>whnf);first|refine aS ?_|refine nT_ ?_)
   refine sa 2 (α:=Nat) (β:=Unit) (fun j=>{sl:=[(0,.ptr 37 0),(3,.mp 3019)],bx:=[(8,.d 10 [I x0,I x1,I x2,I x3,I x4,I x5,I x6,I x7,I x8,I x9]),(10,.d 10 z10),(3019,.m false [.int .i64] (esU (ux o)) none),(37,.d 24 (dL l ⟨4,var,key,field,n,m⟩ st x0 x1 x2 x3 x4 x5 x6 x7 x8 x9 tick ⟨e.var,e.key,n+(j:Int),tick⟩ false))],gh:=[(0,[(8,.ptr 8 0),(10,.ptr 10 0),(16,.ptr 37 0)])],off:=3000})
    (fun j=>j<=o.length/\tT o (o.length - j) (n+j)=N) (fun j=>o.length - j)
    (fun _=>{sl:=[(0,.ptr 37 0)],bx:=[(8,.d 10 [I x0,I x1,I x2,I x3,I x4,I x5,I x6,I x7,I x8,I x9]),(10,.d 10 z10),(37,.d 24 (dL l ⟨4,var,key,field,n,m⟩ st x0 x1 x2 x3 x4 x5 x6 x7 x8 x9 tick ⟨e.var,e.key,N,tick⟩ false))],gh:=[(0,[(8,.ptr 8 0),(10,.ptr 10 0),(16,.ptr 37 0)])],off:=3000}) (fun _=>True) 0 ⟨Nat.zero_le _,by rw [hN];simp⟩ ?_ ?_ ?_
   ·have h0:(dL l ⟨4,var,key,field,n,m⟩ st x0 x1 x2 x3 x4 x5 x6 x7 x8 x9 tick ⟨e.var,e.key,n+((0:Nat):Int),tick⟩ false)=(dL l ⟨4,var,key,field,n,m⟩ st x0 x1 x2 x3 x4 x5 x6 x7 x8 x9 tick ⟨e.var,e.key,n,tick⟩ false):=by rw [show n+((0:Nat):Int)=n by omega]
    repeat' (first|(exact s8 h0)|exact wJ|refine And.intro ?_ ?_)
   ·rintro j ⟨hj,hfr⟩;have yr:nM (.bool false) false (ep (I (n+(j:Int))).cells (esU (ux o)))= .bool (tR o (n+j)):=by rw [zL,Av]
    have hko:aR false [.int .i64] (I (n+(j:Int))):=⟨rfl,rfl,trivial⟩
    cases hu:tR o (n+j) with
    |true=>
     rw [hu] at yr;have hjl:j<o.length:=by
      rcases Nat.lt_or_ge j o.length with h|h
      ·exact h
      ·rw [show o.length - j=0 by omega] at hfr
       have:n+(j:Int)=N:=hfr
       rw [this,CM] at hu;cases hu
     have yt:tT o (o.length - (j+1)) (n+((j+1:Nat):Int))=N:=by
      rw [<- hfr,show o.length - j=(o.length - (j+1))+1 by omega]
      conv=>rhs;unfold tT
      rw [if_pos hu,show n+((j+1:Nat):Int)=n+j+1 by omega]
     have hwr:n+((j+1:Nat):Int)=IntKind.wrap .i64 (n+(j:Int)+1):=by rw [np (by omega) (by omega)];omega
     have hdl:(dL l ⟨4,var,key,field,n,m⟩ st x0 x1 x2 x3 x4 x5 x6 x7 x8 x9 tick ⟨e.var,e.key,n+((j+1:Nat):Int),tick⟩ false)=(dL l ⟨4,var,key,field,n,m⟩ st x0 x1 x2 x3 x4 x5 x6 x7 x8 x9 tick ⟨e.var,e.key,IntKind.wrap .i64 (n+(j:Int)+1),tick⟩ false):=by rw [hwr]
     repeat' ((conv=>whnf);first|(refine nv_ (.bool true) (by first|exact yr) ?_)|(exact ⟨j+1,⟨hjl,yt⟩,(by omega),by (repeat' (first|(exact s8 hdl)|exact wJ|refine And.intro ?_ ?_));done⟩)|(refine And.intro (by first|exact hko) ?_)|refine aS ?_|refine nT_ ?_)
    |false=>
     rw [hu] at yr;have hNj:N=n+(j:Int):=by
      rw [<- hfr];cases hq:o.length - j with
      |zero=>rfl
      |succ q=>unfold tT;rw [if_neg (by rw [hu];simp)]
     have hdl:(dL l ⟨4,var,key,field,n,m⟩ st x0 x1 x2 x3 x4 x5 x6 x7 x8 x9 tick ⟨e.var,e.key,N,tick⟩ false)=(dL l ⟨4,var,key,field,n,m⟩ st x0 x1 x2 x3 x4 x5 x6 x7 x8 x9 tick ⟨e.var,e.key,n+(j:Int),tick⟩ false):=by rw [hNj]
     repeat' ((conv=>whnf);first|(refine nv_ (.bool false) (by first|exact yr) ?_)|(exact ⟨(),trivial,by (repeat' (first|(exact s8 hdl)|exact wJ|refine And.intro ?_ ?_));done⟩)|(refine And.intro (by first|exact hko) ?_)|refine aS ?_|refine nT_ ?_)
   ·rintro - -;rcases ES with ⟨c1,rfl⟩|⟨c1,rfl⟩
    ·repeat' ((conv=>whnf);first|refine ru c1 ?_|refine aS ?_|refine nT_ ?_)
     refine ⟨_,rfl,?_⟩
     repeat' ((conv=>whnf);first|(exact ⟨rfl,Or.inl ⟨Bool.or_true _,by (repeat' (first|exact wJ|refine And.intro ?_ ?_));done⟩⟩)|fail)
    ·rcases Ea with ⟨c3,rfl⟩|⟨c3,rfl⟩
     ·repeat' ((conv=>whnf);first|refine rq c1 ?_|refine sP mixed Tryz.func79 Go.ST4.l79 rfl rfl (rs:=[.tmp 2]) rfl 3100 (nlZ rfl) ?_|refine aS ?_|refine nT_ ?_)
      repeat' ((conv=>whnf);first|refine sV _ (hOf) ?_|refine ru c3 ?_|refine aS ?_|fail)
      refine ⟨_,rfl,?_⟩
      skip
      refine ⟨_,rfl,?_⟩
      repeat' ((conv=>whnf);first|(exact ⟨rfl,Or.inl ⟨rfl,by (repeat' (first|exact wJ|refine And.intro ?_ ?_));done⟩⟩)|fail)
     ·rcases pr with ⟨-,hF,hM,hS⟩|⟨hF,hno⟩
      ·repeat' ((conv=>whnf);first|refine rq c1 ?_|refine sP mixed Tryz.func79 Go.ST4.l79 rfl rfl (rs:=[.tmp 2]) rfl 3100 (nlZ rfl) ?_|refine aS ?_|refine nT_ ?_)
       repeat' ((conv=>whnf);first|refine sV _ (hOf) ?_|refine rq c3 ?_|refine sV _ (eW) ?_|refine aS ?_|refine nT_ ?_)
       refine ⟨_,rfl,?_⟩
       repeat' ((conv=>whnf);first|refine sP mixed Tryz.func80 Go.ST4.l80 rfl rfl (rs:=[]) rfl 3200 (nlZ rfl) ?_|refine aS ?_|refine nT_ ?_)
       repeat' ((conv=>whnf);first|refine sV _ (hF) ?_|refine sV _ (hM) ?_|refine sV _ (hS) ?_|refine aS ?_|refine nT_ ?_)
       refine ⟨_,rfl,?_⟩
       skip
       refine ⟨_,rfl,?_⟩
       repeat' ((conv=>whnf);first|(exact ⟨rfl,Or.inr ⟨rfl,by (repeat' (first|exact wJ|refine And.intro ?_ ?_));done⟩⟩)|fail)
      ·cases hno
       repeat' ((conv=>whnf);first|refine rq c1 ?_|refine sP mixed Tryz.func79 Go.ST4.l79 rfl rfl (rs:=[.tmp 2]) rfl 3100 (nlZ rfl) ?_|refine aS ?_|refine nT_ ?_)
       repeat' ((conv=>whnf);first|refine sV _ (hOf) ?_|refine rq c3 ?_|refine sV _ (eW) ?_|refine aS ?_|refine nT_ ?_)
       refine ⟨_,rfl,?_⟩
       repeat' ((conv=>whnf);first|refine sP mixed Tryz.func80 Go.ST4.l80 rfl rfl (rs:=[]) rfl 3200 (nlZ rfl) ?_|refine aS ?_|refine nT_ ?_)
       repeat' ((conv=>whnf);first|refine sV _ (hF) ?_|refine aS ?_|fail)
       refine ⟨_,rfl,?_⟩
       skip
       refine ⟨_,rfl,?_⟩
       repeat' ((conv=>whnf);first|(exact ⟨rfl,Or.inr ⟨rfl,by (repeat' (first|exact wJ|refine And.intro ?_ ?_));done⟩⟩)|fail)
end Go.ST
end
section
namespace Go.ST
open Go Go.DL Go.MM Go.Proofs
open Go.TY hiding Fd
variable {l:List Fd}{s:RS}{st st':List RE}{x0 x1 x2 x3 x4 x5 x6 x7 x8 x9 y0 y1 y2 y3 y4 y5 y6 y7 y8 y9 tick:Int}{e e':RE}{is pass:Bool}
attribute [local irreducible] bO WCM YC
theorem D4{s':St}(hw:bQ (S1 l s x0 x1 x2 x3 x4 x5 x6 x7 x8 x9 tick is st' y0 y1 y2 y3 y4 y5 y6 y7 y8 y9 e' pass) s')(r:List T)
  (hr:r=[hd (if pass then [y0,y1,y2,y3,y4,y5,y6,y7,y8,y9] else [x0,x1,x2,x3,x4,x5,x6,x7,x8,x9]),.bool pass,esT st']):
  bO Tryz.prog 84 Go.ST3.xi s' (fun e s=>match e with
   |.normal=>bO Tryz.prog 84 Go.ST3.xj s (rM Tryz.prog [.cell 10 66,.tmp 11,.tmp 12] r)
   |.exit id=>rM Tryz.prog [.cell 10 66,.tmp 11,.tmp 12] r (.exit id) s
   |.ret=>rM Tryz.prog [.cell 10 66,.tmp 11,.tmp 12] r .ret s):=by
 subst hr;refine bO.bQ hw (Go.ST3.E7 ?_);cases pass with
 |false=>
  repeat' ((conv=>whnf);first|refine aS ?_|refine nT_ ?_)
  refine ⟨?_,fun _ _=>trivial⟩
  repeat' ((conv=>whnf);first|refine rb0 ?_|refine aS ?_|exact trivial)
 |true=>
  skip
  refine Go.ST3.E8 ?_
  repeat' ((conv=>whnf);first|refine aS ?_|refine nT_ ?_)
  refine ⟨?_,fun _ _=>trivial⟩
  repeat' ((conv=>whnf);first|refine rb1 ?_|refine aS ?_|exact trivial)
theorem Fs(hlk:LOk l){h:List Int}(hh:HOk h)(EV: ∀k∈s.key,tx l k=true)(hkl:s.key.length<=1000)(Gc:tI st)(hlen:st.length<2^40)(hko: ∀x∈st,kOk x)(hk0:s.kind≠0)
  (f:Option RE) (hf:f=ud st s.var (keyOf l s.key h)) (r:List T)
  (hk: ∀(x0 x1 x2 x3 x4 x5 x6 x7 x8 x9:Int),h=[x0,x1,x2,x3,x4,x5,x6,x7,x8,x9]-> ∃(st':List RE) (y0 y1 y2 y3 y4 y5 y6 y7 y8 y9:Int) (e':RE) (pass:Bool),
   bO Tryz.prog 84 Go.ST3.uB (S0 l s st x0 x1 x2 x3 x4 x5 x6 x7 x8 x9 tick (f.getD ⟨s.var,keyOf l s.key h,0,0⟩) f.isSome).mk' (fun ex s'=>ex= .normal/\bQ (S1 l s x0 x1 x2 x3 x4 x5 x6 x7 x8 x9 tick f.isSome st' y0 y1 y2 y3 y4 y5 y6 y7 y8 y9 e' pass) s')/\
   r=[hd (if pass then [y0,y1,y2,y3,y4,y5,y6,y7,y8,y9] else [x0,x1,x2,x3,x4,x5,x6,x7,x8,x9]),.bool pass,esT st']):
  DCalls Tryz.prog 38 [fds l,vr s,esT st,hd h,I tick] (kx r):=by
 refine rP Tryz.func38 Go.ST3.D7 rfl (r:=r) (nlZ rfl) ?_;rw [show Tryz.f38.ntmps=84 from rfl,show Tryz.f38.results.toList=[.cell 10 66,.tmp 11,.tmp 12] from rfl,Go.ST3.k38];have F0:=Ft l hlk s.key EV (by omega) h hh;have Ec:(keyOf l s.key h).length<2^60:=by unfold keyOf;rw [List.length_map];omega
 have Ad:=Et st Gc hlen hko s.var (keyOf l s.key h) Ec;rw [<- hf] at Ad;obtain ⟨x0,x1,x2,x3,x4,x5,x6,x7,x8,x9,rfl⟩:=ten hh;obtain ⟨st',y0,y1,y2,y3,y4,y5,y6,y7,y8,y9,e',pass,aJ,hr⟩:=hk x0 x1 x2 x3 x4 x5 x6 x7 x8 x9 rfl;have CO: ∀s0:St,bQ (S0 l s st x0 x1 x2 x3 x4 x5 x6 x7 x8 x9 tick (f.getD ⟨s.var,keyOf l s.key [x0,x1,x2,x3,x4,x5,x6,x7,x8,x9],0,0⟩) f.isSome) s0->bO Tryz.prog 84 (.seq (.seq Go.ST3.uB Go.ST3.xi) Go.ST3.xj) s0 (rM Tryz.prog [.cell 10 66,.tmp 11,.tmp 12] r):=by
  intro s0 hw;refine bO.bQ hw (bO.seq (bO.seq (bO.mono aJ ?_)));rintro ex s' ⟨rfl,hw'⟩;exact D4 hw' r hr
 clear aJ hk;generalize keyOf l s.key [x0,x1,x2,x3,x4,x5,x6,x7,x8,x9]=ky at *
 obtain ⟨kk,var,key,field,n,m⟩:=s;dsimp only at *
 refine bO.seq (Go.ST3.CQ ?_)
 repeat' ((conv=>whnf);first|refine aS ?_|fail)
 refine bO.seq (Go.ST3.CR ?_)
 repeat' ((conv=>whnf);first|refine rv hk0 ?_|refine aS ?_|refine nT_ ?_)
 refine bO.seq (Go.ST3.EZ ?_)
 repeat' ((conv=>whnf);first|refine aS ?_|fail)
 refine bO.seq (Go.ST3.E0 ?_)
 repeat' ((conv=>whnf);first|refine sV _ (F0) ?_|refine aS ?_|refine nT_ ?_)
 refine bO.seq (Go.ST3.E4 ?_)
 repeat' ((conv=>whnf);first|refine aS ?_|fail)
 refine bO.seq (Go.ST3.E5 ?_);cases f with
 |none=>
  repeat' ((conv=>whnf);first|refine sV _ (Ad) ?_|refine aS ?_|refine nT_ ?_)
  refine CO _ ?_
  repeat' (first|exact wJ|refine And.intro ?_ ?_)
 |some x=>
  repeat' ((conv=>whnf);first|refine sV _ (Ad) ?_|refine aS ?_|refine nT_ ?_)
  refine CO _ ?_
  repeat' (first|exact wJ|refine And.intro ?_ ?_)
end Go.ST
end
section
namespace Go.ST
open Go Go.DL Go.MM Go.Proofs
open Go.TY hiding Fd
attribute [local irreducible] bO WCM YC
abbrev dnT(d:Dn):T:=.tup [hd d.h,.bool d.pass,esT d.st]
theorem w7{α:Type}(f:Option α):f.isNone= !f.isSome:=by cases f <;> rfl
theorem Fq{l:List Fd}{s:RS}{st:List RE}{h:List Int}{tick:Int}(hh:HOk h)(hk0:s.kind=0):DCalls Tryz.prog 38 [fds l,vr s,esT st,hd h,I tick] (dnT (doE l s st h tick)):=by
 have hd0:doE l s st h tick=⟨h,true,st⟩:=by unfold doE zg doR;rw [if_pos hk0];rfl
 rw [hd0];refine rP Tryz.func38 Go.ST3.D7 rfl (r:=[hd h,.bool true,esT st]) (nlZ rfl) ?_;rw [show Tryz.f38.ntmps=84 from rfl,show Tryz.f38.results.toList=[.cell 10 66,.tmp 11,.tmp 12] from rfl,Go.ST3.k38];obtain ⟨x0,x1,x2,x3,x4,x5,x6,x7,x8,x9,rfl⟩:=ten hh;obtain ⟨kk,var,key,field,n,m⟩:=s;dsimp only at hk0;refine bO.seq (Go.ST3.CQ ?_)
 repeat' ((conv=>whnf);first|refine aS ?_|fail)
 refine bO.seq (Go.ST3.CR ?_)
 repeat' ((conv=>whnf);first|refine ry hk0 ?_|refine aS ?_|refine nT_ ?_)
 refine ⟨?_,fun _ _=>trivial⟩
 repeat' ((conv=>whnf);first|refine rb1 ?_|refine aS ?_|exact trivial)
theorem DP(s:RS)(v:ByteArray)(ky:List Int){tick en ea:Int}(_:1<=s.n/\s.n<=65535)(hm:1<=s.m/\s.m<=1073741824)(ht:0<=tick/\tick<=1073741824)(he:0<=en/\en<=65535)(ha:0<=ea/\ea<=1073741824):
  Cv s.n s.m tick en ea=((vY s ⟨v,ky,en,ea⟩ tick).n,(vY s ⟨v,ky,en,ea⟩ tick).at_):=by
 obtain ⟨m,hmm⟩: ∃m,m=s.m:=⟨_,rfl⟩
 have h1:W64 (tick - ea)=tick - ea:=np (by omega) (by omega);have h2:tO tick ea s.m=if tick>ea then (tick - ea).tdiv s.m else 0:=by
  unfold tO;rw [h1]
  by_cases c:tick>ea
  ·rw [if_pos (show tick - ea>0 by omega),if_pos c];have b1:0<=(tick - ea).tdiv s.m:=Int.tdiv_nonneg (by omega) (by omega);have b2:(tick - ea).tdiv s.m<=tick - ea:=Int.tdiv_le_self _ (by omega);exact np (by omega) (by omega)
  ·rw [if_neg (show ¬tick - ea>0 by omega),if_neg c,Int.zero_tdiv];exact np (by omega) (by omega)
 have h3:0<=tO tick ea s.m/\tO tick ea s.m<=1073741824/\tO tick ea s.m * s.m<=1073741824/\0<=tO tick ea s.m * s.m:=by
  rw [h2];split
  ·have b1:0<=(tick - ea).tdiv s.m:=Int.tdiv_nonneg (by omega) (by omega);have b2:(tick - ea).tdiv s.m<=tick - ea:=Int.tdiv_le_self _ (by omega);have b3:(tick - ea).tdiv s.m * s.m<=tick - ea:=by
    rw [Int.tdiv_eq_ediv_of_nonneg (by omega)];exact Int.ediv_mul_le _ (by omega)
   have b4:0<=(tick - ea).tdiv s.m * s.m:=Int.mul_nonneg b1 (by omega);omega
  ·simp
 unfold Cv;generalize tO tick ea s.m=k at *
 have h4:W64 (en+k)=en+k:=np (by omega) (by omega);have h5:W64 (k * s.m)=k * s.m:=np (by omega) (by omega);have h6:W64 (ea+k * s.m)=ea+k * s.m:=np (by omega) (by omega);unfold vY;dsimp only;rw [h4,h5,h6, <-h2];split <;> rfl
theorem GF{l:List Fd}{s:RS}{st:List RE}{h:List Int}{tick:Int}(p:zQ l s st h tick)(hko: ∀x∈st,kOk x):DCalls Tryz.prog 38 [fds l,vr s,esT st,hd h,I tick] (dnT (doE l s st h tick)):=by
 by_cases hk0:s.kind=0
 ·exact Fq p.hok hk0
 obtain ⟨f,hf⟩: ∃f,f=ud st s.var (keyOf l s.key h):=⟨_,rfl⟩
 obtain ⟨o,ho⟩: ∃o,o=ofE st s.var:=⟨_,rfl⟩
 obtain ⟨e,he⟩: ∃e,e=f.getD ⟨s.var,keyOf l s.key h,0,0⟩:=⟨_,rfl⟩
 have hlen:=p.len;have hol:o.length<=1000000:=by rw [ho];exact Nat.le_trans (List.length_filter_le _ _) hlen
 have Ec:(keyOf l s.key h).length<=1000:=by unfold keyOf;rw [List.length_map];exact p.klen
 have hOf:=Cm st s.var (by omega);rw [show ofE st s.var=o from ho.symm] at hOf;have hev:e.var=s.var/\e.key=keyOf l s.key h/\0<=e.n/\e.n<=65535/\0<=e.at_/\e.at_<=1073741824:=by
  cases f with
  |none=>rw [he];exact ⟨rfl,rfl,Int.le_refl 0,(by show (0:Int)<=65535;omega),Int.le_refl 0,(by show (0:Int)<=1073741824;omega)⟩
  |some x=>
   rw [he];obtain ⟨h1,h2,h3⟩:=uZ hf.symm;exact ⟨h2,h3,p.num x h1⟩
 obtain ⟨he1,he2,he3,he4,he5,he6⟩:=hev;have eW: ∀n a,DCalls Tryz.prog 103 [esT st,tc ⟨e.var,e.key,n,a⟩] (esT (tQ ⟨s.var,keyOf l s.key h,n,a⟩ st)):=fun n a=>by
  rw [he1,he2];exact Fx st p.inc (by omega) hko ⟨s.var,keyOf l s.key h,n,a⟩ (show (keyOf l s.key h).length<2^60 by omega)
 have pC:doE l s st h tick=⟨(doR l s f o h tick).1,(doR l s f o h tick).2.1,cJ (doR l s f o h tick).2.2 st⟩:=by unfold doE zg;rw [<- hf, <-ho]
 have hfn:(f.map (·.n)).getD 0=e.n:=by rw [he];cases f <;> rfl
 have yp:uq f o=(!f.isSome&&decide (100<=o.length)):=by unfold uq;rw [w7]
 have ht0:=p.t0;have ht1:=p.t1;refine Fs p.lok p.hok p.keys p.klen p.inc (by omega) hko hk0 f hf [hd (doE l s st h tick).h,.bool (doE l s st h tick).pass,esT (doE l s st h tick).st] ?_;intro x0 x1 x2 x3 x4 x5 x6 x7 x8 x9 hx;rw [<- he];have hk:=p.k0;have hk':=p.k1;have ET:s.kind=1\/s.kind=2\/s.kind=3\/s.kind=4\/s.kind=5\/s.kind=6:=by omega
 rcases ET with h1|h2|h3|h4|h5|h6
 ·have hN:(if (65535:Int)<IntKind.wrap .i64 (e.n+1) then 65535 else IntKind.wrap .i64 (e.n+1))=min (e.n+1) 65535:=by rw [np (by omega) (by omega)];split <;> omega
  obtain ⟨y0,y1,y2,y3,y4,y5,y6,y7,y8,y9,hy⟩:=ten (xm p.lok p.hok (name:=s.field) (n:=min (e.n+1) 65535) (by omega));have hW:=AS p.lok s.field p.hok (n:=min (e.n+1) 65535) (by omega);rw [hy,hx] at hW;have hc:=Dk (x0:=x0) (x1:=x1) (x2:=x2) (x3:=x3) (x4:=x4) (x5:=x5) (x6:=x6) (x7:=x7) (x8:=x8) (x9:=x9) (tick:=tick) (is:=f.isSome) h1 hOf _ hN (eW _ tick) (uq f o) yp hW;have hd1:doR l s f o h tick=do1 l s f o h tick (keyOf l s.key h):=by unfold doR;rw [if_neg hk0,if_pos h1]
  cases hfu:uq f o with
  |true=>
   have hD:doE l s st h tick=⟨h,false,st⟩:=by rw [pC,hd1];unfold do1;rw [hfu];rfl
   rw [hD];rw [hfu] at hc;refine ⟨st,x0,x1,x2,x3,x4,x5,x6,x7,x8,x9,⟨e.var,e.key,min (e.n+1) 65535,tick⟩,false,hc.mono ?_,?_⟩
   ·rintro ex s' ⟨h1,h2⟩;rcases h2 with ⟨-,h2⟩|⟨h2, -⟩
    ·exact ⟨h1,h2⟩
    ·cases h2
   ·rw [hx];rfl
  |false=>
   have hD:doE l s st h tick=⟨wrF l h s.field (min (e.n+1) 65535),true,tQ ⟨s.var,keyOf l s.key h,min (e.n+1) 65535,tick⟩ st⟩:=by rw [pC,hd1];unfold do1;rw [hfu,hfn];rfl
   rw [hD];rw [hfu] at hc;refine ⟨tQ ⟨s.var,keyOf l s.key h,min (e.n+1) 65535,tick⟩ st,y0,y1,y2,y3,y4,y5,y6,y7,y8,y9,⟨e.var,e.key,min (e.n+1) 65535,tick⟩,true,hc.mono ?_,?_⟩
   ·rintro ex s' ⟨h1,h2⟩;rcases h2 with ⟨h2, -⟩|⟨-,h2⟩
    ·cases h2
    ·exact ⟨h1,h2⟩
   ·dsimp only;rw [hy];rfl
 ·have hd1:doR l s f o h tick=do2 s f o h tick (keyOf l s.key h):=by unfold doR;rw [if_neg hk0,if_neg (by omega),if_pos h2]
  have hc:=Eh (x0:=x0) (x1:=x1) (x2:=x2) (x3:=x3) (x4:=x4) (x5:=x5) (x6:=x6) (x7:=x7) (x8:=x8) (x9:=x9) (l:=l) (tick:=tick) (is:=f.isSome) h2 hOf (eW e.n tick) (uq f o) yp;cases hfu:uq f o with
  |true=>
   have hD:doE l s st h tick=⟨h,false,st⟩:=by rw [pC,hd1];unfold do2;rw [hfu];rfl
   rw [hD];rw [hfu] at hc;exact ⟨st,x0,x1,x2,x3,x4,x5,x6,x7,x8,x9,⟨e.var,e.key,e.n,tick⟩,false,hc,by rw [hx];rfl⟩
  |false=>
   have hD:doE l s st h tick=⟨h,true,tQ ⟨s.var,keyOf l s.key h,e.n,tick⟩ st⟩:=by rw [pC,hd1];unfold do2;rw [hfu,hfn];rfl
   rw [hD];rw [hfu] at hc;exact ⟨tQ ⟨s.var,keyOf l s.key h,e.n,tick⟩ st,x0,x1,x2,x3,x4,x5,x6,x7,x8,x9,⟨e.var,e.key,e.n,tick⟩,true,hc,by rw [hx];rfl⟩
 ·have hd1:doR l s f o h tick=do3 s f h tick:=by unfold doR;rw [if_neg hk0,if_neg (by omega),if_neg (by omega),if_pos h3]
  obtain ⟨b1,b2⟩:=p.k3 h3;have hc:=Dj (x0:=x0) (x1:=x1) (x2:=x2) (x3:=x3) (x4:=x4) (x5:=x5) (x6:=x6) (x7:=x7) (x8:=x8) (x9:=x9) (l:=l) (st:=st) (tick:=tick) (e:=e) (is:=f.isSome) h3 _ rfl ⟨by omega,by omega⟩ ⟨by omega,by omega⟩;have hD:doE l s st h tick=⟨h,f.isSome&&decide (e.at_>=tick - s.n),st⟩:=by
   rw [pC,hd1];unfold do3;cases f with
   |none=>rfl
   |some x=>
    have:e=x:=he
    subst this;rfl
  rw [hD];refine ⟨st,x0,x1,x2,x3,x4,x5,x6,x7,x8,x9,e,_,hc,?_⟩;rw [hx];dsimp only;rw [ite_self]
 ·have hd1:doR l s f o h tick=do4 l s f o h tick (keyOf l s.key h):=by unfold doR;rw [if_neg hk0,if_neg (by omega),if_neg (by omega),if_neg (by omega),if_pos h4]
  obtain ⟨b1,b2,b3,b4⟩:=p.k4 h4;have hN:uX s f o=if f.isSome then e.n else tT o o.length s.n:=by
   rw [he];cases f <;> rfl
  have hN0:0<=uX s f o:=by
   rw [hN];split
   ·exact he3
   ·have:=(w6 o o.length s.n).1;omega
  obtain ⟨y0,y1,y2,y3,y4,y5,y6,y7,y8,y9,hy⟩:=ten (xm p.lok p.hok (name:=s.field) hN0);have hW:=AS p.lok s.field p.hok hN0;rw [hy,hx] at hW;have hc:=zw (x0:=x0) (x1:=x1) (x2:=x2) (x3:=x3) (x4:=x4) (x5:=x5) (x6:=x6) (x7:=x7) (x8:=x8) (x9:=x9) (l:=l) (tick:=tick) (is:=f.isSome) h4 (by omega) ⟨b1,b2⟩ hOf _ hN (eW _ tick) (uq f o) yp (f.isNone&&decide (uX s f o>s.m)) (by rw [w7]) hW;cases hfu:(uq f o||(f.isNone&&decide (uX s f o>s.m))) with
  |true=>
   have hD:doE l s st h tick=⟨h,false,st⟩:=by rw [pC,hd1];unfold do4;rw [hfu];rfl
   rw [hD];rw [hfu] at hc;refine ⟨st,x0,x1,x2,x3,x4,x5,x6,x7,x8,x9,⟨e.var,e.key,uX s f o,tick⟩,false,hc.mono ?_,?_⟩
   ·rintro ex s' ⟨h1,h2⟩;rcases h2 with ⟨-,h2⟩|⟨h2, -⟩
    ·exact ⟨h1,h2⟩
    ·cases h2
   ·rw [hx];rfl
  |false=>
   have hD:doE l s st h tick=⟨wrF l h s.field (uX s f o),true,tQ ⟨s.var,keyOf l s.key h,uX s f o,tick⟩ st⟩:=by rw [pC,hd1];unfold do4;rw [hfu];rfl
   rw [hD];rw [hfu] at hc;refine ⟨tQ ⟨s.var,keyOf l s.key h,uX s f o,tick⟩ st,y0,y1,y2,y3,y4,y5,y6,y7,y8,y9,⟨e.var,e.key,uX s f o,tick⟩,true,hc.mono ?_,?_⟩
   ·rintro ex s' ⟨h1,h2⟩;rcases h2 with ⟨h2, -⟩|⟨-,h2⟩
    ·cases h2
    ·exact ⟨h1,h2⟩
   ·dsimp only;rw [hy];rfl
 ·have hd1:doR l s f o h tick=do5 l s o h:=by unfold doR;rw [if_neg hk0,if_neg (by omega),if_neg (by omega),if_neg (by omega),if_neg (by omega),if_pos h5]
  obtain ⟨b1,b2⟩:=p.k5 h5;have hhx:=p.hok;rw [hx] at hhx;have hfd:(o.find? fun x=>decide (x.n=(uh (fld l s.field) h:Int)))=st.find? fun x=>decide (x.var=s.var)&&decide (x.n=(uh (fld l s.field) [x0,x1,x2,x3,x4,x5,x6,x7,x8,x9]:Int)):=by
   rw [ho,hx];unfold ofE;rw [List.find?_filter]
   congr 1
   funext a
   simp
  have hc:=Eg (x0:=x0) (x1:=x1) (x2:=x2) (x3:=x3) (x4:=x4) (x5:=x5) (x6:=x6) (x7:=x7) (x8:=x8) (x9:=x9) (l:=l) (tick:=tick) (e:=e) (is:=f.isSome) h5 p.lok (by omega) (by have:=p.klen;omega) hhx b1 (fun x hx hv=>b2 x hx hv) _ hfd;cases hfu:(o.find? fun x=>decide (x.n=(uh (fld l s.field) h:Int))) with
  |none=>
   have hD:doE l s st h tick=⟨h,false,st⟩:=by rw [pC,hd1];unfold do5;rw [hfu];rfl
   rw [hD];rw [hfu] at hc;refine ⟨st,x0,x1,x2,x3,x4,x5,x6,x7,x8,x9,e,false,hc.mono ?_,?_⟩
   ·rintro ex s' ⟨h1,h2⟩;rcases h2 with ⟨-,h2⟩|⟨x,q,h2, -⟩
    ·exact ⟨h1,h2⟩
    ·cases h2
   ·rw [hx];rfl
  |some x=>
   have hD:doE l s st h tick=⟨uO l s.key x.key h,true,st⟩:=by rw [pC,hd1];unfold do5;rw [hfu];rfl
   rw [hD];rw [hfu] at hc;have hxm:x∈st/\x.var=s.var:=by
    have h1:=List.mem_of_find?_eq_some hfu;rw [ho] at h1;have h2:=List.mem_filter.1 h1;exact ⟨h2.1,of_decide_eq_true h2.2⟩
   obtain ⟨y0,y1,y2,y3,y4,y5,y6,y7,y8,y9,hy⟩:=ten (xM p.lok (ks:=s.key) p.hok (b2 x hxm.1 hxm.2).2);refine ⟨st,y0,y1,y2,y3,y4,y5,y6,y7,y8,y9,e,true,hc.mono ?_,?_⟩
   ·rintro ex s' ⟨h1,h2⟩;rcases h2 with ⟨h2, -⟩|⟨x',q,h2,h3,h4⟩
    ·cases h2
    ·cases h2;rw [<- hx,hy] at h3;obtain ⟨z0,z1,z2,z3,z4,z5,z6,z7,z8,z9⟩:=q;simp only [H10.ls,List.cons.injEq,and_true] at h3;obtain ⟨rfl,rfl,rfl,rfl,rfl,rfl,rfl,rfl,rfl,rfl⟩:=h3;exact ⟨h1,h4⟩
   ·dsimp only;rw [hy];rfl
 ·have hd1:doR l s f o h tick=do6 s f o h tick (keyOf l s.key h):=by unfold doR;rw [if_neg hk0,if_neg (by omega),if_neg (by omega),if_neg (by omega),if_neg (by omega),if_neg (by omega)]
  obtain ⟨b1,b2,b3,b4⟩:=p.k6 h6;obtain ⟨en,hen⟩: ∃en,en=if f.isSome then e.n else s.n:=⟨_,rfl⟩
  obtain ⟨ea,hea⟩: ∃ea,ea=if f.isSome then e.at_ else tick:=⟨_,rfl⟩
  have F8:0<=en/\en<=65535:=by rw [hen];split <;> omega
  have F7:0<=ea/\ea<=1073741824:=by rw [hea];split <;> omega
  have htk:wU s f (keyOf l s.key h) tick=vY s ⟨s.var,keyOf l s.key h,en,ea⟩ tick:=by
   unfold wU;cases f with
   |none=>rw [hen,hea];rfl
   |some x=>
    have hex:e=x:=he;obtain ⟨g1,g2,g3⟩:=uZ hf.symm;rw [hen,hea];show vY s x tick=vY s ⟨s.var,keyOf l s.key h,e.n,e.at_⟩ tick
    rw [hex, <-g2, <-g3]
  have hW:=DP s s.var (keyOf l s.key h) ⟨b1,b2⟩ ⟨b3,b4⟩ ⟨ht0,ht1⟩ F8 F7;obtain ⟨tn,htn⟩: ∃tn,tn=vY s ⟨s.var,keyOf l s.key h,en,ea⟩ tick:=⟨_,rfl⟩
  rw [<- htn] at htk hW;have htb:0<=tn.n/\tn.n<=65535 * 65536:=by
   rw [htn];have hk0:0<=(if tick>ea then (tick - ea).tdiv s.m else 0):=by
    split
    ·exact Int.tdiv_nonneg (by omega) (by omega)
    ·exact Int.le_refl 0
   unfold vY;dsimp only;generalize (if tick>ea then (tick - ea).tdiv s.m else 0)=k at *
   split
   ·exact ⟨by dsimp only;omega,by dsimp only;omega⟩
   ·exact ⟨by dsimp only;omega,by dsimp only;omega⟩
  have hc:=Dl (x0:=x0) (x1:=x1) (x2:=x2) (x3:=x3) (x4:=x4) (x5:=x5) (x6:=x6) (x7:=x7) (x8:=x8) (x9:=x9) (l:=l) (tick:=tick) (is:=f.isSome) h6 (by omega) en ea tn.n tn.at_ hen hea hW (if tn.n>0 then tn.n - 1 else tn.n) (by
   split
   ·exact (np (by omega) (by omega)).symm
   ·rfl) hOf (eW _ _) (uq f o) yp
  cases hfu:uq f o with
  |true=>
   have hD:doE l s st h tick=⟨h,false,st⟩:=by rw [pC,hd1];unfold do6;rw [hfu];rfl
   rw [hD];rw [hfu] at hc;exact ⟨st,x0,x1,x2,x3,x4,x5,x6,x7,x8,x9,_,false,hc,by rw [hx];rfl⟩
  |false=>
   rw [hfu] at hc
   by_cases c:tn.n>0
   ·have hD:doE l s st h tick=⟨h,true,tQ ⟨s.var,keyOf l s.key h,tn.n - 1,tn.at_⟩ st⟩:=by rw [pC,hd1];unfold do6;rw [htk,hfu,if_neg (by simp),if_pos c];rfl
    rw [hD];rw [if_pos c,decide_eq_true c] at hc;exact ⟨tQ ⟨s.var,keyOf l s.key h,tn.n - 1,tn.at_⟩ st,x0,x1,x2,x3,x4,x5,x6,x7,x8,x9,⟨e.var,e.key,tn.n - 1,tn.at_⟩,true,hc,by rw [hx];rfl⟩
   ·have hD:doE l s st h tick=⟨h,false,tQ ⟨s.var,keyOf l s.key h,tn.n,tn.at_⟩ st⟩:=by rw [pC,hd1];unfold do6;rw [htk,hfu,if_neg (by simp),if_neg c];rfl
    rw [hD];rw [if_neg c,decide_eq_false c] at hc;exact ⟨tQ ⟨s.var,keyOf l s.key h,tn.n,tn.at_⟩ st,x0,x1,x2,x3,x4,x5,x6,x7,x8,x9,⟨e.var,e.key,tn.n,tn.at_⟩,false,hc,by rw [hx];rfl⟩
end Go.ST
end
section
end
section
end
section
end
noncomputable section
namespace Go.ST6
open Go Go.DL Go.Proofs
def c10:aV:=(sr [oo 4 (.mov kF)] (sr [mv 5 0,mv 6 1,oo 7 (.call 33 [(tm 5),(tm 6),(.const (.clos 34 []))]),mv 4 7] .ret))
theorem l10:(Tryz.f10.body.bind (bp Tryz.prog 8 []))=some c10:=by kernel_rfl
def c34:aV:=(sr [oo 2 (.box 4 (tm 0)),oo 3 (.box 4 (tm 1)),oo 4 (.mov kF)] (sr [lA 5 4 2,lA 6 4 3,oo 7 (.call 35 [(tm 5),(tm 6)]),oo 8 (.bin .eql (tm 7) (Kc 0)),mv 9 8,oT 10 9 (.offA 2 (tm 2)),oT 11 9 (.load 1 false (tm 10)),oT 12 9 (.offA 2 (tm 3)),oT 13 9 (.load 1 false (tm 12)),oT 14 9 (.bin .eql (tm 11) (tm 13)),oo 15 (.pick (tm 9) (tm 14) kF),mv 16 15,oT 17 16 (.offA 3 (tm 2)),oT 18 16 (.load 1 false (tm 17)),oT 19 16 (.offA 3 (tm 3)),oT 20 16 (.load 1 false (tm 19)),oT 21 16 (.bin .eql (tm 18) (tm 20)),oo 22 (.pick (tm 16) (tm 21) kF),mv 4 22] .ret))
theorem l34:(Tryz.f34.body.bind (bp Tryz.prog 23 []))=some c34:=by kernel_rfl
def c33:aV:=(sr [oo 6 (.mov kF)] (.seq (sr [mv 10 0,ln 11 10,mv 12 1,ln 13 12,oo 14 (.bin .neq (tm 11) (tm 13))] (.cond (tm 14) (sr [oo 6 (.mov kF)] .ret) .skip)) (.seq (sr [mv 15 0,ln 16 15,oo 17 (.mov (Kc 0))] (.block 0 (.loop (sr [oo 18 (.bin .lss (tm 17) (tm 16))] (.seq (.cond (tm 18) .skip (.exit 0)) (.seq (.block 1 (sr [mv 19 17,ix 20 4 15 17,lA 21 4 20,⟨some 8,.alloc [S0,.nil,Z0,Z0],none,[]⟩,mv 7 19,o0 (.store 4 (tm 8) (tm 21))] (sr [mv 22 1,mv 23 7,ix 24 4 22 23,lA 25 4 24,⟨some 9,.alloc [S0,.nil,Z0,Z0],none,[]⟩,o0 (.store 4 (tm 9) (tm 25))] (sr [mv 26 2,lA 27 4 8,lA 28 4 9,oo 29 (.bV (tm 26) [(tm 27),(tm 28)]),oo 30 (.not (tm 29))] (.cond (tm 30) (sr [oo 6 (.mov kF)] .ret) .skip))))) (rg [oo 31 (.bin .add (tm 17) (Kc 1)),mv 17 31]))))))) (sr [oo 6 (.mov kT)] .ret))))
theorem l33:(Tryz.f33.body.bind (bp Tryz.prog 32 []))=some c33:=by kernel_rfl
def c25:aV:=(sr [⟨some 2,.mov (.const S0),none,[]⟩,oo 3 (.mov (Kc 0)),oo 4 (.mov (Kc 0))] (sr [mv 9 0,oo 10 (.call 49 [(tm 9),(Kc 1)]),mv 8 10,oo 11 (.ext (tm 8) 0),oo 12 (.ext (tm 8) 1),oo 13 (.ext (tm 8) 2),mv 5 11,mv 6 12,mv 7 13] (.seq (sr [mv 14 7,oo 15 (.bin .neq (tm 14) (Kc 0))] (.cond (tm 15) (sr [mv 16 7,⟨some 2,.mov (.const S0),none,[]⟩,oo 3 (.mov (Kc 0)),mv 4 16] .ret) .skip)) (sr [mv 17 0,mv 18 6,mv 19 6,mv 20 5,oo 21 (.bin .add (tm 19) (tm 20)),oo 22 (.slice 1 (tm 17) (some (tm 18)) (some (tm 21))),oo 23 (.prim .strB (tm 22)),mv 24 6,mv 25 5,oo 26 (.bin .add (tm 24) (tm 25)),mv 2 23,mv 3 26,oo 4 (.mov (Kc 0))] .ret))))
theorem l25:(Tryz.f25.body.bind (bp Tryz.prog 27 []))=some c25:=by kernel_rfl
def c5:aV:=(sr [oo 2 (.mov (.const .nil))] (sr [mv 6 0,ln 7 6,oo 8 (.call 20 [tm 7]),mv 3 8] (.seq (sr [mv 9 0,ln 10 9,oo 11 (.mov (Kc 0))] (.block 0 (.loop (sr [oo 12 (.bin .lss (tm 11) (tm 10))] (.seq (.cond (tm 12) .skip (.exit 0)) (.seq (.block 1 (sr [ix 13 4 9 11,lA 14 4 13,⟨some 5,.alloc [S0,.nil,Z0,Z0],none,[]⟩,o0 (.store 4 (tm 5) (tm 14))] (rg [mv 15 3,fa 16 0 5,ld 17 16,oo 18 (.call 22 [tm 17]),fa 19 1 5,ld 20 19,oo 21 (.call 23 [tm 20]),fa 22 2 5,ld 23 22,fa 24 3 5,ld 25 24,oo 26 (.buildT 1 2 [Z0] [(0,(tm 23)),(1,(tm 25))]),oo 27 (.call 23 [tm 26]),oo 28 (.buildT 1 4 [.nil] [(0,(tm 15)),(1,(tm 18)),(2,(tm 21)),(3,(tm 27))]),oo 29 (.call 21 [tm 28]),mv 3 29]))) (rg [oo 30 (.bin .add (tm 11) (Kc 1)),mv 11 30]))))))) (sr [mv 31 3,mv 2 31] .ret))))
theorem l5:(Tryz.f5.body.bind (bp Tryz.prog 32 []))=some c5:=by kernel_rfl
def c21:aV:=(sr [oo 2 (.mov (.const .nil))] (sr [oo 3 (.mov (Kc 0))] (.seq (sr [mv 9 0,ln 10 9,oo 11 (.mov (Kc 0))] (.block 0 (.loop (sr [oo 12 (.bin .lss (tm 11) (tm 10))] (.seq (.cond (tm 12) .skip (.exit 0)) (.seq (.block 1 (sr [ix 13 1 9 11,ld 14 13,mv 5 14] (sr [mv 15 3,mv 16 5,ln 17 16,oo 18 (.bin .add (tm 15) (tm 17)),mv 3 18] (sr [mv 19 3,oo 20 (.bin .lss (tm 19) (Kc 0))] (.cond (tm 20) (rg [oo 21 (.bad),o0 (.bad)]) .skip))))) (rg [oo 22 (.bin .add (tm 11) (Kc 1)),mv 11 22]))))))) (sr [mv 23 3,oo 24 (.inl 47 [(.const .nil),(tm 23)]),mv 6 24] (.seq (sr [mv 25 0,ln 26 25,oo 27 (.mov (Kc 0))] (.block 2 (.loop (sr [oo 28 (.bin .lss (tm 27) (tm 26))] (.seq (.cond (tm 28) .skip (.exit 2)) (.seq (.block 3 (sr [ix 29 1 25 27,ld 30 29,mv 8 30] (rg [mv 31 6,mv 32 8,oo 33 (.append 23 5 1 1 (tm 31) (tm 32)),mv 6 33]))) (rg [oo 34 (.bin .add (tm 27) (Kc 1)),mv 27 34]))))))) (sr [mv 35 6,mv 2 35] .ret))))))
theorem l21:(Tryz.f21.body.bind (bp Tryz.prog 36 [47]))=some c21:=by kernel_rfl
def c9:aV:=(sr [oo 4 (.mov kF)] (.seq (sr [mv 6 0,ln 7 6,mv 8 1,ln 9 8,oo 10 (.bin .neq (tm 7) (tm 9))] (.cond (tm 10) (sr [oo 4 (.mov kF)] .ret) .skip)) (.seq (sr [oo 5 (.mov (Kc 0))] (.block 0 (.loop (.seq (sr [mv 11 5,mv 12 0,ln 13 12,oo 14 (.bin .lss (tm 11) (tm 13))] (.cond (tm 14) .skip (.exit 0))) (.seq (.block 1 (sr [mv 17 0,mv 18 5,ix 19 4 17 18,fa 20 0 19,ld 21 20,mv 22 1,mv 23 5,ix 24 4 22 23,fa 25 0 24,ld 26 25,oo 27 (.bin .neq (tm 21) (tm 26)),mv 28 27,mF 29 0 28,mF 30 5 28,oF 31 28 (.idxL 4 (tm 29) (tm 30)),oF 32 28 (.offA 2 (tm 31)),oF 33 28 (.load 1 false (tm 32)),mF 34 1 28,mF 35 5 28,oF 36 28 (.idxL 4 (tm 34) (tm 35)),oF 37 28 (.offA 2 (tm 36)),oF 38 28 (.load 1 false (tm 37)),oF 39 28 (.bin .neq (tm 33) (tm 38)),oo 40 (.pick (tm 28) kT (tm 39)),mv 41 40,mF 42 0 41,mF 43 5 41,oF 44 41 (.idxL 4 (tm 42) (tm 43)),oF 45 41 (.offA 3 (tm 44)),oF 46 41 (.load 1 false (tm 45)),mF 47 1 41,mF 48 5 41,oF 49 41 (.idxL 4 (tm 47) (tm 48)),oF 50 41 (.offA 3 (tm 49)),oF 51 41 (.load 1 false (tm 50)),oF 52 41 (.bin .neq (tm 46) (tm 51)),oo 53 (.pick (tm 41) kT (tm 52)),mv 54 53,mF 55 0 54,mF 56 5 54,oF 57 54 (.idxL 4 (tm 55) (tm 56)),oF 58 54 (.offA 1 (tm 57)),oF 59 54 (.load 1 false (tm 58)),mF 60 1 54,mF 61 5 54,oF 62 54 (.idxL 4 (tm 60) (tm 61)),oF 63 54 (.offA 1 (tm 62)),oF 64 54 (.load 1 false (tm 63)),oF 65 54 (.call 17 [(tm 59),(tm 64)]),oF 66 54 (.bin .neq (tm 65) (Kc 0)),oo 67 (.pick (tm 54) kT (tm 66))] (.cond (tm 67) (sr [oo 4 (.mov kF)] .ret) .skip))) (rg [mv 15 5,oo 16 (.bin .add (tm 15) (Kc 1)),mv 5 16])))))) (sr [oo 4 (.mov kT)] .ret))))
theorem l9:(Tryz.f9.body.bind (bp Tryz.prog 68 []))=some c9:=by kernel_rfl
def c16:aV:=(sr [oo 2 (.mov kF)] (.seq (sr [oo 3 (.mov (Kc 0))] (.block 0 (.loop (.seq (sr [mv 4 3,mv 5 0,ln 6 5,oo 7 (.bin .lss (tm 4) (tm 6))] (.cond (tm 7) .skip (.exit 0))) (.seq (.block 1 (sr [mv 10 0,mv 11 3,ix 12 1 10 11,ld 13 12,mv 14 3,oo 15 (.bin .add (tm 14) (Kc 1)),oo 16 (.minI (tm 15) (Kc 7)),oo 17 (.bin .neq (tm 13) (tm 16))] (.cond (tm 17) (sr [oo 2 (.mov kF)] .ret) .skip))) (rg [mv 8 3,oo 9 (.bin .add (tm 8) (Kc 1)),mv 3 9])))))) (sr [mv 18 0,ln 19 18,oo 20 (.bin .eql (tm 19) (Kc 10)),mv 2 20] .ret)))
theorem l16:(Tryz.f16.body.bind (bp Tryz.prog 21 []))=some c16:=by kernel_rfl
end Go.ST6
end
section
namespace Go.ST
open Go Go.DL Go.MM Go.Proofs
open Go.TY hiding Fd
theorem Fl(a b:RE):a=b↔tq a b=0/\a.n=b.n/\a.at_=b.at_:=by
 rw [uR];obtain ⟨v,k,n,t⟩:=a;obtain ⟨v',k',n',t'⟩:=b;simp [and_assoc]
theorem DH(a b:RE)(ha:kOk a)(hb:kOk b):DCalls Tryz.prog 34 [.agg (ta a),.agg (ta b)] (.bool (decide (a=b))):=by
 have hC:=uI a b ha hb;have Ag:=Fl a b;refine dl2 mixed [.tmp 4] [.bool _] Tryz.func34 Go.ST6.l34 ?_
 by_cases c1:tq a b=0
 ·by_cases c2:a.n=b.n
  ·by_cases c3:a.at_=b.at_
   ·rw [decide_eq_true (Ag.2 ⟨c1,c2,c3⟩)]
    repeat' ((conv=>whnf);first|exact trivial|refine sV _ (hC) ?_|refine ry c1 ?_|refine ry c2 ?_|refine ry c3 ?_|refine rb1 ?_|(refine And.intro (by first|exact td _) ?_)|refine aS ?_|refine nT_ ?_)
   ·rw [decide_eq_false fun e=>c3 (Ag.1 e).2.2]
    repeat' ((conv=>whnf);first|exact trivial|refine sV _ (hC) ?_|refine ry c1 ?_|refine ry c2 ?_|refine rv c3 ?_|refine rb0 ?_|(refine And.intro (by first|exact td _) ?_)|refine aS ?_|refine nT_ ?_)
  ·rw [decide_eq_false fun e=>c2 (Ag.1 e).2.1]
   repeat' ((conv=>whnf);first|exact trivial|refine sV _ (hC) ?_|refine ry c1 ?_|refine rv c2 ?_|refine rb0 ?_|(refine And.intro (by first|exact td _) ?_)|refine aS ?_|refine nT_ ?_)
 ·rw [decide_eq_false fun e=>c1 (Ag.1 e).1]
  repeat' ((conv=>whnf);first|refine sV _ (hC) ?_|refine rv c1 ?_|refine rb0 ?_|(refine And.intro (by first|exact td _) ?_)|refine aS ?_|exact trivial)
theorem yO{a b:List RE}(hl:a.length=b.length):decide (a=b)=true↔ ∀j (h:j<a.length) (h':j<b.length),a[j]=b[j]:=by
 rw [decide_eq_true_eq];constructor
 ·intro e;subst e;intros;rfl
 ·intro h;exact List.ext_getElem hl h
theorem Cl(a b:List RE)(_:a.length<2^40)(hlb:b.length<2^40)(hka: ∀x∈a,kOk x)(hkb: ∀x∈b,kOk x):DCalls Tryz.prog 33 [esT a,esT b,.clos 34 []] (.bool (decide (a=b))):=by
 have hn:((a.map tc).length:Int)=a.length:=by rw [List.length_map]
 have hm:((b.map tc).length:Int)=b.length:=by rw [List.length_map]
 refine dl2 mixed [.tmp 6] [.bool _] Tryz.func33 Go.ST6.l33 ?_
 by_cases hab:a.length=b.length
 case neg=>
  rw [decide_eq_false fun e=>hab (by rw [e])];have hne:((a.map tc).length:Int)≠((b.map tc).length:Int):=by omega
  repeat' ((conv=>whnf);first|refine sW hne ?_|refine rb0 ?_|refine aS ?_|exact trivial)
 have heq:((a.map tc).length:Int)=((b.map tc).length:Int):=by omega
 repeat' ((conv=>whnf);first|refine rz heq ?_|refine aS ?_|fail)
 refine sM (α:=Nat) (fun i=>{sl:=[(1,.t (esT b)),(2,.t (.clos 34 [])),(15,.t (esT a)),(16,.t (I a.length)),(17,.t (I i))],bx:=[]})
  (fun i=>i<=a.length/\ ∀j (h:j<a.length) (h':j<b.length),j<i->a[j]=b[j]) (fun i=>a.length - i) 0 ⟨Nat.zero_le _,fun j _ _ h=>by omega⟩ ?_ ?_
 ·repeat' (first|(exact leI hn.symm)|exact wJ|refine And.intro ?_ ?_)
 rintro i ⟨hi,hp⟩;rcases Nat.lt_or_ge i a.length with h|h
 ·have h':i<b.length:=by omega
  have hlt:(i:Int)<(a.length:Int):=by omega
  have hS:=DH a[i] b[i] (hka _ (List.getElem_mem h)) (hkb _ (List.getElem_mem h'));have hnx:((i+1:Nat):Int)=IntKind.wrap .i64 ((i:Int)+1):=by rw [np] <;> omega
  have g1:(a.map tc)[((i:Int)).toNat]?.getD .nil= .agg (ta a[i]):=by rw [Int.toNat_natCast];exact tS h
  have g2:(b.map tc)[((i:Int)).toNat]?.getD .nil= .agg (ta b[i]):=by rw [Int.toNat_natCast];exact tS h'
  have b1:0<=(i:Int)/\(i:Int)<((a.map tc).length:Int):=by omega
  have b2:0<=(i:Int)/\(i:Int)<((b.map tc).length:Int):=by omega
  by_cases e:a[i]=b[i]
  ·rw [decide_eq_true e] at hS;have hp': ∀j (h:j<a.length) (h':j<b.length),j<i+1->a[j]=b[j]:=fun j h1 h2 h3=>by
    rcases Nat.lt_or_ge j i with h4|h4
    ·exact hp j h1 h2 h4
    ·obtain rfl:j=i:=by omega
     exact e
   have hmu:a.length - (i+1)<a.length - i:=by omega
   repeat' ((conv=>whnf);first|refine ru hlt ?_|(refine nv_ (.agg (ta a[i])) (by first|exact g1) ?_)|(refine nv_ (.agg (ta b[i])) (by first|exact g2) ?_)|refine sV _ (hS) ?_|(exact ⟨i+1,⟨h,hp'⟩,hmu,by (repeat' (first|(exact leI hnx)|exact wJ|refine And.intro ?_ ?_));done⟩)|(refine And.intro (by first|exact b1|exact b2|exact td _) ?_)|refine aS ?_|refine nT_ ?_)
  ·rw [decide_eq_false e] at hS;rw [decide_eq_false fun ee=>e (by subst ee;rfl)]
   repeat' ((conv=>whnf);first|exact trivial|refine ru hlt ?_|(refine nv_ (.agg (ta a[i])) (by first|exact g1) ?_)|(refine nv_ (.agg (ta b[i])) (by first|exact g2) ?_)|refine sV _ (hS) ?_|refine rb0 ?_|(refine And.intro (by first|exact b1|exact b2|exact td _) ?_)|refine aS ?_|refine nT_ ?_)
 ·have hlt: ¬(i:Int)<(a.length:Int):=by omega
  rw [(yO hab).2 fun j h1 h2=>hp j h1 h2 (by omega)]
  repeat' ((conv=>whnf);first|refine rq hlt ?_|refine rb1 ?_|refine aS ?_|exact trivial)
theorem Bt(a b:List RE)(hla:a.length<2^40)(hlb:b.length<2^40)(hka: ∀x∈a,kOk x)(hkb: ∀x∈b,kOk x):DCalls Tryz.prog 10 [esT a,esT b] (.bool (decide (a=b))):=by
 have h:=Cl a b hla hlb hka hkb;refine dl2 mixed [.tmp 4] [.bool _] Tryz.func10 Go.ST6.l10 ?_
 repeat' ((conv=>whnf);first|refine sV _ (h) ?_|refine rbx ?_|exact trivial)
theorem xh(a b:List RE)(_:a.length<2^40)(hlb:b.length<2^40)(hka: ∀x∈a,kOk x)(hkb: ∀x∈b,kOk x):DCalls Tryz.prog 9 [esT a,esT b] (.bool (decide (a=b))):=by
 have hn:((a.map tc).length:Int)=a.length:=by rw [List.length_map]
 have hm:((b.map tc).length:Int)=b.length:=by rw [List.length_map]
 refine dl2 mixed [.tmp 4] [.bool _] Tryz.func9 Go.ST6.l9 ?_
 by_cases hab:a.length=b.length
 case neg=>
  rw [decide_eq_false fun e=>hab (by rw [e])];have hne:((a.map tc).length:Int)≠((b.map tc).length:Int):=by omega
  repeat' ((conv=>whnf);first|refine sW hne ?_|refine rb0 ?_|refine aS ?_|exact trivial)
 have heq:((a.map tc).length:Int)=((b.map tc).length:Int):=by omega
 repeat' ((conv=>whnf);first|refine rz heq ?_|refine aS ?_|fail)
 refine sM (α:=Nat) (fun i=>{sl:=[(0,.t (esT a)),(1,.t (esT b)),(5,.t (I i))],bx:=[]})
  (fun i=>i<=a.length/\ ∀j (h:j<a.length) (h':j<b.length),j<i->a[j]=b[j]) (fun i=>a.length - i) 0 ⟨Nat.zero_le _,fun j _ _ h=>by omega⟩ ?_ ?_
 ·repeat' (first|exact wJ|refine And.intro ?_ ?_)
 rintro i ⟨hi,hp⟩;rcases Nat.lt_or_ge i a.length with h|h
 ·have h':i<b.length:=by omega
  have hlt:(i:Int)<((a.map tc).length:Int):=by omega
  have hnx:((i+1:Nat):Int)=IntKind.wrap .i64 ((i:Int)+1):=by rw [np] <;> omega
  have hK:=Bp a[i].key b[i].key (hka _ (List.getElem_mem h)) (hkb _ (List.getElem_mem h'));have hga:=ggZ h;have hgb:=ggZ h';have hz:=uS (a:=a[i].key) (b:=b[i].key);have hv:=eqS a[i].var b[i].var;have hno: ¬a[i]=b[i]->decide (a=b)=false:=fun e=>decide_eq_false fun ee=>e (by subst ee;rfl)
  have xy:a[i]=b[i]-> ∀j (h:j<a.length) (h':j<b.length),j<i+1->a[j]=b[j]:=fun e j h1 h2 h3=>by
   rcases Nat.lt_or_ge j i with h4|h4
   ·exact hp j h1 h2 h4
   ·obtain rfl:j=i:=by omega
    exact e
  have hmu:a.length - (i+1)<a.length - i:=by omega
  generalize a[i]=x at *
  generalize b[i]=y at *
  obtain ⟨xv,xk,xn,xa⟩:=x;obtain ⟨yv,yk,yn,ya⟩:=y;dsimp only at hK hz hv;have hv2:(!(xv.toList==yv.toList))= !decide (xv=yv):=by rw [hv]
  clear hp hv;generalize tJ xk yk=c at *
  by_cases c1:xv=yv
  ·rw [decide_eq_true c1] at hv2
   by_cases c2:xn=yn
   ·by_cases c3:xa=ya
    ·by_cases c4:c=0
     ·have e:(⟨xv,xk,xn,xa⟩:RE)=⟨yv,yk,yn,ya⟩:=by rw [c1,c2,c3,hz.1 c4]
      have hp':=xy e;clear xy hno
      repeat' ((conv=>whnf);first|refine ru hlt ?_|(refine nv_ (.str xv) (by first|(simp [hga,tc,ta,T.cells];done)|fail) ?_)|(refine nv_ (.str yv) (by first|(simp [hgb,tc,ta,T.cells];done)|fail) ?_)|refine nb_ _ hv2 ?_|(refine nv_ (I xn) (by first|(simp [hga,tc,ta,T.cells];done)|fail) ?_)|(refine nv_ (I yn) (by first|(simp [hgb,tc,ta,T.cells];done)|fail) ?_)|(refine nv_ (I xa) (by first|(simp [hga,tc,ta,T.cells];done)|fail) ?_)|(refine nv_ (I ya) (by first|(simp [hgb,tc,ta,T.cells];done)|fail) ?_)|(refine nv_ (.slice 1 (xk.map I)) (by first|(simp [hga,tc,ta,T.cells];done)|fail) ?_)|(refine nv_ (.slice 1 (yk.map I)) (by first|(simp [hgb,tc,ta,T.cells];done)|fail) ?_)|refine rz c2 ?_|refine rz c3 ?_|refine sV _ (hK) ?_|refine rz c4 ?_|(exact ⟨i+1,⟨h,hp'⟩,hmu,by (repeat' (first|(exact leI hnx)|exact wJ|refine And.intro ?_ ?_));done⟩)|(refine And.intro (by first|((simp [hga,tc,ta,T.cells]);done)|((simp [hgb,tc,ta,T.cells]);done)|fail) ?_)|refine aS ?_|refine nT_ ?_)
     ·rw [hno fun e=>c4 (hz.2 (RE.mk.inj e).2.1)];clear xy hno
      repeat' ((conv=>whnf);first|exact trivial|refine ru hlt ?_|(refine nv_ (.str xv) (by first|(simp [hga,tc,ta,T.cells];done)|fail) ?_)|(refine nv_ (.str yv) (by first|(simp [hgb,tc,ta,T.cells];done)|fail) ?_)|refine nb_ _ hv2 ?_|(refine nv_ (I xn) (by first|(simp [hga,tc,ta,T.cells];done)|fail) ?_)|(refine nv_ (I yn) (by first|(simp [hgb,tc,ta,T.cells];done)|fail) ?_)|(refine nv_ (I xa) (by first|(simp [hga,tc,ta,T.cells];done)|fail) ?_)|(refine nv_ (I ya) (by first|(simp [hgb,tc,ta,T.cells];done)|fail) ?_)|(refine nv_ (.slice 1 (xk.map I)) (by first|(simp [hga,tc,ta,T.cells];done)|fail) ?_)|(refine nv_ (.slice 1 (yk.map I)) (by first|(simp [hgb,tc,ta,T.cells];done)|fail) ?_)|refine rz c2 ?_|refine rz c3 ?_|refine sV _ (hK) ?_|refine sW c4 ?_|refine rb0 ?_|(refine And.intro (by first|((simp [hga,tc,ta,T.cells]);done)|((simp [hgb,tc,ta,T.cells]);done)|fail) ?_)|refine aS ?_|refine nT_ ?_)
    ·rw [hno fun e=>c3 (RE.mk.inj e).2.2.2];clear xy hno
     repeat' ((conv=>whnf);first|exact trivial|refine ru hlt ?_|(refine nv_ (.str xv) (by first|(simp [hga,tc,ta,T.cells];done)|fail) ?_)|(refine nv_ (.str yv) (by first|(simp [hgb,tc,ta,T.cells];done)|fail) ?_)|refine nb_ _ hv2 ?_|(refine nv_ (I xn) (by first|(simp [hga,tc,ta,T.cells];done)|fail) ?_)|(refine nv_ (I yn) (by first|(simp [hgb,tc,ta,T.cells];done)|fail) ?_)|(refine nv_ (I xa) (by first|(simp [hga,tc,ta,T.cells];done)|fail) ?_)|(refine nv_ (I ya) (by first|(simp [hgb,tc,ta,T.cells];done)|fail) ?_)|refine rz c2 ?_|refine sW c3 ?_|refine rb0 ?_|(refine And.intro (by first|((simp [hga,tc,ta,T.cells]);done)|((simp [hgb,tc,ta,T.cells]);done)|fail) ?_)|refine aS ?_|refine nT_ ?_)
   ·rw [hno fun e=>c2 (RE.mk.inj e).2.2.1];clear xy hno
    repeat' ((conv=>whnf);first|exact trivial|refine ru hlt ?_|(refine nv_ (.str xv) (by first|(simp [hga,tc,ta,T.cells];done)|fail) ?_)|(refine nv_ (.str yv) (by first|(simp [hgb,tc,ta,T.cells];done)|fail) ?_)|refine nb_ _ hv2 ?_|(refine nv_ (I xn) (by first|(simp [hga,tc,ta,T.cells];done)|fail) ?_)|(refine nv_ (I yn) (by first|(simp [hgb,tc,ta,T.cells];done)|fail) ?_)|refine sW c2 ?_|refine rb0 ?_|(refine And.intro (by first|((simp [hga,tc,ta,T.cells]);done)|((simp [hgb,tc,ta,T.cells]);done)|fail) ?_)|refine aS ?_|refine nT_ ?_)
  ·rw [decide_eq_false c1] at hv2;rw [hno fun e=>c1 (RE.mk.inj e).1];clear xy hno
   repeat' ((conv=>whnf);first|exact trivial|refine ru hlt ?_|(refine nv_ (.str xv) (by first|(simp [hga,tc,ta,T.cells];done)|fail) ?_)|(refine nv_ (.str yv) (by first|(simp [hgb,tc,ta,T.cells];done)|fail) ?_)|refine nb_ _ hv2 ?_|refine rb0 ?_|(refine And.intro (by first|((simp [hga,tc,ta,T.cells]);done)|((simp [hgb,tc,ta,T.cells]);done)|fail) ?_)|refine aS ?_|refine nT_ ?_)
 ·have hlt: ¬(i:Int)<((a.map tc).length:Int):=by omega
  rw [(yO hab).2 fun j h1 h2=>hp j h1 h2 (by omega)]
  repeat' ((conv=>whnf);first|refine rq hlt ?_|refine rb1 ?_|refine aS ?_|exact trivial)
def vG(xs:List Int):Bool:=decide (xs.length=10)&&(List.range xs.length).all fun i=>decide (xs.getD i 0=min ((i:Int)+1) 7)
theorem zf(xs:List Int)(hl:xs.length<2^40):DCalls Tryz.prog 16 [.slice 1 (xs.map I)] (.bool (vG xs)):=by
 have hn:((xs.map I).length:Int)=xs.length:=by rw [List.length_map]
 refine dl2 mixed [.tmp 2] [.bool _] Tryz.func16 Go.ST6.l16 ?_
 skip
 refine sa 0 (α:=Nat) (β:=Unit) (fun i=>{sl:=[(0,.t (.slice 1 (xs.map I))),(3,.t (I i))],bx:=[]})
  (fun i=>i<=xs.length/\ ∀j,j<i->xs.getD j 0=min ((j:Int)+1) 7) (fun i=>xs.length - i) (fun _=>{sl:=[(0,.t (.slice 1 (xs.map I)))],bx:=[]}) (fun _=> ∀j,j<xs.length->xs.getD j 0=min ((j:Int)+1) 7) 0 ⟨Nat.zero_le _,fun j h=>by omega⟩ ?_ ?_ ?_
 ·repeat' (first|exact wJ|refine And.intro ?_ ?_)
 ·rintro i ⟨hi,hp⟩;rcases Nat.lt_or_ge i xs.length with h|h
  ·have hlt:(i:Int)<((xs.map I).length:Int):=by omega
   have hnx:((i+1:Nat):Int)=IntKind.wrap .i64 ((i:Int)+1):=by rw [np] <;> omega
   have hg:(xs.map I)[((i:Int)).toNat]?.getD .nil=I xs[i]:=by simp [h]
   have hgd:xs.getD i 0=xs[i]:=by simp [h]
   have hmn:(if (7:Int)<IntKind.wrap .i64 ((i:Int)+1) then 7 else IntKind.wrap .i64 ((i:Int)+1))=min ((i:Int)+1) 7:=by rw [np (by omega) (by omega)];split <;> omega
   have hmu:xs.length - (i+1)<xs.length - i:=by omega
   by_cases c:xs[i]=(if (7:Int)<IntKind.wrap .i64 ((i:Int)+1) then 7 else IntKind.wrap .i64 ((i:Int)+1))
   ·have hp': ∀j,j<i+1->xs.getD j 0=min ((j:Int)+1) 7:=fun j hj=>by
     rcases Nat.lt_or_ge j i with h4|h4
     ·exact hp j h4
     ·obtain rfl:j=i:=by omega
      rw [hgd,c,hmn]
    repeat' ((conv=>whnf);first|refine ru hlt ?_|(refine nv_ (I xs[i]) (by first|exact hg) ?_)|refine rz c ?_|(exact ⟨i+1,⟨h,hp'⟩,hmu,by (repeat' (first|(exact leI hnx)|exact wJ|refine And.intro ?_ ?_));done⟩)|refine aS ?_|refine nT_ ?_)
   ·have hf:vG xs=false:=by
     unfold vG;rw [Bool.and_eq_false_iff];refine Or.inr ?_;rw [List.all_eq_false];refine ⟨i,List.mem_range.2 h,?_⟩;rw [hgd, <-hmn];simpa using c
    rw [hf]
    repeat' ((conv=>whnf);first|exact trivial|refine ru hlt ?_|(refine nv_ (I xs[i]) (by first|exact hg) ?_)|refine sW c ?_|refine rb0 ?_|refine aS ?_|refine nT_ ?_)
  ·have hlt: ¬(i:Int)<((xs.map I).length:Int):=by omega
   have hp2: ∀j,j<xs.length->xs.getD j 0=min ((j:Int)+1) 7:=fun j hj=>hp j (by omega)
   repeat' ((conv=>whnf);first|refine rq hlt ?_|(exact ⟨(),hp2,by (repeat' (first|exact wJ|refine And.intro ?_ ?_));done⟩)|refine aS ?_|fail)
 ·rintro - hp;have fF:((List.range xs.length).all fun i=>decide (xs.getD i 0=min ((i:Int)+1) 7))=true:=by
   rw [List.all_eq_true];intro j hj;exact decide_eq_true (hp j (List.mem_range.1 hj))
  unfold vG;rw [fF,Bool.and_true]
  by_cases c:xs.length=10
  ·have hc:((xs.map I).length:Int)=10:=by omega
   rw [decide_eq_true c]
   repeat' ((conv=>whnf);first|refine ry hc ?_|refine rb1 ?_|refine aS ?_|exact trivial)
  ·have hc: ¬((xs.map I).length:Int)=10:=by omega
   rw [decide_eq_false c]
   repeat' ((conv=>whnf);first|refine rv hc ?_|refine rb0 ?_|refine aS ?_|exact trivial)
end Go.ST
end
section
namespace Go.RC
open Go Go.DL Go.Proofs
def rr(x:Int)(n:Nat):Int:=iF .or .u32 (x.fdiv (2^n)) (IntKind.u32.wrap (x * 2^(32 - n)))
theorem or_comm(k:IntKind)(a b:Int):iF .or k a b=iF .or k b a:=by
 unfold iF;simp only [BitVec.or_comm]
theorem Fm: ∀n:Fin 32,0<n.val->iF .and .u64 (IntKind.u64.wrap (-(n.val:Int))) 31=32 - n.val/\IntKind.u64.wrap (32 - (32 - (n.val:Int)))=n.val:=by decide
theorem wx(x:Int)(n:Nat)(h0:0<n)(h1:n<32):DCalls Tryz.prog 118 [W x,I (-(n:Int))] (W (rr x n)):=by
 obtain ⟨e1,e2⟩:=Fm ⟨n,h1⟩ h0;dsimp only at e1 e2;refine dl2 mixed [.tmp 4] [W _] Tryz.func118 Gv ?_
 repeat' ((conv=>whnf);first|(refine And.intro (by first|((rw [e1];omega);done)|((rw [e1,e2];omega);done)|fail) ?_)|refine ri ?_ trivial)
 rw [e1,e2,or_comm];have e3:((32:Int) - n).toNat=32 - n:=by omega
 simp only [e3,Int.toNat_natCast,IntKind.bits];rw [Nat.min_eq_left (by omega),Nat.min_eq_left (by omega)];rfl
theorem uA(x:Int)(n:Nat)(h0:0<n)(h1:n<32):DCalls Tryz.prog 102 [W x,I n] (W (rr x n)):=by
 refine dl2 mixed [.tmp 4] [W _] Tryz.func102 Gl ?_;have e1:IntKind.i64.wrap (32 - (n:Int))=32 - n:=np (by omega) (by omega)
 repeat' ((conv=>whnf);first|(refine And.intro (by first|((rw [e1];omega);done)|fail) ?_)|refine aS ?_|refine ri ?_ trivial)
 rw [e1];have e3:((32:Int) - n).toNat=32 - n:=by omega
 simp only [e3,Int.toNat_natCast,IntKind.bits];rw [Nat.min_eq_left (by omega),Nat.min_eq_left (by omega)];rfl
def xo(a b:Int):Int:=iF .xor .u32 a b
def an(a b:Int):Int:=iF .and .u32 a b
def ad(a b:Int):Int:=IntKind.u32.wrap (a+b)
def mx(x:Int)(i j k:Nat):Int:=xo (xo (rr x i) (rr x j)) (rr x k)
theorem zk(x:Int)(n:Nat)(h0:0<n)(h1:n<32):DCalls Tryz.prog 118 [W x,I (IntKind.i64.wrap (0 - (n:Int)))] (W (rr x n)):=by
 rw [np (by omega) (by omega),Int.zero_sub];exact wx x n h0 h1
theorem C1(x:Int)(i j k:Nat)(h:(0<i/\i<32)/\(0<j/\j<32)/\(0<k/\k<32)):DCalls Tryz.prog 99 [W x,I i,I j,I k] (W (mx x i j k)):=by
 obtain ⟨⟨h1,h2⟩,⟨h3,h4⟩,⟨h5,h6⟩⟩:=h;refine dl2 mixed [.tmp 8] [W _] Tryz.func99 l99 ?_
 repeat' ((conv=>whnf);first|refine sV _ (zk x i h1 h2) ?_|refine sV _ (zk x j h3 h4) ?_|refine sV _ (zk x k h5 h6) ?_|refine rix ?_|exact trivial)
def sb(w b:Int):Int:=iF .or .u32 (IntKind.u32.wrap (w * 2^8)) (IntKind.u32.wrap b)
def s0(x:Int):Int:=xo (xo (rr x 7) (rr x 18)) (x.fdiv (2^3))
def s1(x:Int):Int:=xo (xo (rr x 17) (rr x 19)) (x.fdiv (2^10))
def nxt(ws:List Int)(t:Nat):Int:=ad (ad (ad (ws.getD (t - 16) 0) (s0 (ws.getD (t - 15) 0))) (ws.getD (t - 7) 0)) (s1 (ws.getD (t - 2) 0))
def SCH(bs:List Int):Nat->List Int
 |0=>List.replicate 64 0
 |t+1=>(SCH bs t).set t (if t<16 then ((bs.drop (4 * t)).take 4).foldl sb ((SCH bs t).getD t 0) else nxt (SCH bs t) t)
theorem xp(bs:List Int): ∀t,(SCH bs t).length=64
 |0=>rfl
 |t+1=>by unfold SCH;rw [List.length_set,xp bs t]
theorem Ci{ws:List Int}{t:Nat}(h:t<ws.length):ws.set t (ws.getD t 0)=ws:=by
 rw [List.getD_eq_getElem?_getD,ggZ h,Option.getD_some,List.set_getElem_self]
theorem ym{ws:List Int}{t:Nat}{x:Int}(h:t<ws.length):(ws.set t x).getD t 0=x:=by
 simp [List.getD_eq_getElem?_getD,h]
abbrev z64:List T:=List.replicate 64 (W 0)
attribute [irreducible] SCH
attribute [local irreducible] rr
theorem CG(bs:List Int)(t:Nat)(h:t<16):SCH bs (t+1)=(SCH bs t).set t (((bs.drop (4 * t)).take 4).foldl sb ((SCH bs t).getD t 0)):=by
 conv=>lhs;unfold SCH
 rw [if_pos h]
theorem CF(bs:List Int)(t:Nat)(h: ¬t<16):SCH bs (t+1)=(SCH bs t).set t (nxt (SCH bs t) t):=by
 conv=>lhs;unfold SCH
 rw [if_neg h]
theorem zY(l:List Int)(w:Int)(j:Nat)(h:j<l.length):(l.take (j+1)).foldl sb w=sb ((l.take j).foldl sb w) (l.getD j 0):=by
 rw [List.take_succ_eq_append_getElem h,List.foldl_append,List.getD_eq_getElem?_getD,ggZ h];rfl
theorem AR(bs:List Int)(hb:bs.length=64):DCalls Tryz.prog 98 [.slice 1 (bs.map Y)] (.agg ((SCH bs 64).map W)):=by
 refine dl2 mixed [.cell 2 143] [.agg _] Tryz.func98 l98 ?_
 skip
 refine sM (α:=Nat) (fun t=>{sl:=[(0,.t (.slice 1 (bs.map Y))),(2,.ptr 2 0),(3,.ptr 3 0),(11,.t (I t))],bx:=[(2,.d 64 z64),(3,.d 64 ((SCH bs t).map W))]})
  (fun t=>t<=64) (fun t=>64 - t) 0 (by omega) ?_ ?_
 ·repeat' (first|exact wJ|refine s8 ?_|refine And.intro ?_ ?_)
  unfold SCH;rfl
 intro t ht;have hl:=xp bs t;rcases Nat.lt_or_ge t 64 with h|h
 ·by_cases h16:t<16
  ·have hS:=CG bs t h16;generalize SCH bs t=ws at hl hS;generalize he:(bs.drop (4 * t)).take 4=es at hS;have hel:es.length=4:=by rw [<- he];simp;omega
   repeat' ((conv=>whnf);first|(refine nv_ (.slice 1 (es.map Y)) (by first|((rw [<- he];simp (disch:=omega) only [np];rw [<- List.map_take, <-List.map_drop];congr 2;simp only [List.drop_take];congr 1 <;> omega);done)|fail) ?_)|refine aD1 ?_|(refine And.intro (by first|((simp (disch:=omega) only [np];simp;omega);done)|fail) ?_)|refine aS ?_|fail)
   refine sa 2 (α:=Nat) (β:=Unit) (fun j=>{sl:=[(0,.t (.slice 1 (bs.map Y))),(2,.ptr 2 0),(3,.ptr 3 0),(4,.t (I t)),(11,.t (I t)),(22,.t (.slice 1 (es.map Y))),(23,.t (I 4)),(24,.t (I j))],bx:=[(2,.d 64 z64),(3,.d 64 ((ws.set t ((es.take j).foldl sb (ws.getD t 0))).map W))]})
    (fun j=>j<=4) (fun j=>4 - j) (fun _=>{sl:=[(0,.t (.slice 1 (bs.map Y))),(2,.ptr 2 0),(3,.ptr 3 0),(11,.t (I t))],bx:=[(2,.d 64 z64),(3,.d 64 ((SCH bs (t+1)).map W))]}) (fun _=>True) 0 (by omega) ?_ ?_ ?_
   ·repeat' (first|(exact leI (by simp [hel]))|exact wJ|refine s8 ?_|refine And.intro ?_ ?_)
    simp only [List.take_zero,List.foldl_nil];rw [Ci (by omega)]
   ·intro j hj;rcases Nat.lt_or_ge j 4 with h4|h4
    ·have hf:=zY es (ws.getD t 0) j (by omega);have hsl:(ws.set t ((es.take j).foldl sb (ws.getD t 0))).length=64:=by simp [hl]
     generalize dQ:ws.set t ((es.take j).foldl sb (ws.getD t 0))=cur at hsl;have hg:cur.getD t 0=(es.take j).foldl sb (ws.getD t 0):=by rw [<- dQ];exact ym (by omega)
     repeat' ((conv=>whnf);first|(refine nv_ (Y (es.getD j 0)) (by first|((simp [List.getD_eq_getElem?_getD,hel,h4]);done)|fail) ?_)|(refine nv_ (W (cur.getD t 0)) (by first|((simp only [Int.toNat_natCast,Nat.zero_add,Nat.mul_one];exact B9 (by omega));done)|fail) ?_)|refine aD1 ?_|(refine And.intro (by first|((simp [hel];omega);done)|fail) ?_)|refine aS ?_|refine nT_ ?_)
     refine ⟨j+1,by omega,by omega,?_⟩
     repeat' (first|exact wJ|refine s8 ?_|refine And.intro ?_ ?_)
     rw [hf, <-hg,show ws.set t (sb (cur.getD t 0) (es.getD j 0))=cur.set t (sb (cur.getD t 0) (es.getD j 0)) by rw [<- dQ,List.set_set], <-pI];simp only [Int.toNat_natCast,Nat.zero_add,Nat.mul_one];rfl
    ·have:j=4:=by omega
     subst this;rw [List.take_of_length_le (by omega), <-hS]
     repeat' ((conv=>whnf);first|refine aD0 ?_|refine aS ?_|fail)
     exact ⟨(),trivial,by repeat' (first|exact wJ|refine And.intro ?_ ?_)⟩
   ·rintro - -
    skip
    refine ⟨t+1,by omega,by omega,?_⟩
    repeat' (first|exact wJ|refine And.intro ?_ ?_)
  ·have hS:=CF bs t h16;generalize SCH bs t=ws at hl hS
   repeat' ((conv=>whnf);first|(refine nv_ (W (ws.getD (t - 15) 0)) (by first|(exact tN (t - 15) (by simp (disch:=omega) only [np];omega) (by omega);done)|fail) ?_)|(refine nv_ (W (ws.getD (t - 2) 0)) (by first|(exact tN (t - 2) (by simp (disch:=omega) only [np];omega) (by omega);done)|fail) ?_)|(refine nv_ (W (ws.getD (t - 16) 0)) (by first|(exact tN (t - 16) (by simp (disch:=omega) only [np];omega) (by omega);done)|fail) ?_)|(refine nv_ (W (ws.getD (t - 7) 0)) (by first|(exact tN (t - 7) (by simp (disch:=omega) only [np];omega) (by omega);done)|fail) ?_)|refine sV _ (wx (ws.getD (t - 15) 0) 7 (by omega) (by omega)) ?_|refine sV _ (wx (ws.getD (t - 15) 0) 18 (by omega) (by omega)) ?_|refine sV _ (wx (ws.getD (t - 2) 0) 17 (by omega) (by omega)) ?_|refine sV _ (wx (ws.getD (t - 2) 0) 19 (by omega) (by omega)) ?_|refine aD1 ?_|refine aD0 ?_|(refine And.intro (by first|((simp (disch:=omega) only [np];omega);done)|fail) ?_)|refine aS ?_|fail)
   refine ⟨t+1,by omega,by omega,?_⟩
   repeat' (first|exact wJ|refine s8 ?_|refine And.intro ?_ ?_)
   rw [hS, <-pI];simp only [Int.toNat_natCast,Nat.zero_add,Nat.mul_one];rfl
 ·have:t=64:=by omega
  subst this;generalize SCH bs 64=ws at hl
  repeat' ((conv=>whnf);first|refine aD0 ?_|(refine And.intro (by first|(exact ⟨by first|(simp;done)|simpa using hl,by decide⟩;done)|(first|(simp;done)|simpa using hl;done)|fail) ?_)|refine rt ?_ trivial)
  exact congrArg T.agg (tF rfl)
def wd(bs:List Int)(t:Nat):Int:=iF .or .u32 (iF .or .u32 (iF .or .u32 (IntKind.u32.wrap (IntKind.u32.wrap (bs.getD (4 * t) 0) * 2^24)) (IntKind.u32.wrap (IntKind.u32.wrap (bs.getD (4 * t+1) 0) * 2^16))) (IntKind.u32.wrap (IntKind.u32.wrap (bs.getD (4 * t+2) 0) * 2^8))) (IntKind.u32.wrap (bs.getD (4 * t+3) 0))
def SC2(bs:List Int):Nat->List Int
 |0=>List.replicate 64 0
 |t+1=>(SC2 bs t).set t (if t<16 then wd bs t else nxt (SC2 bs t) t)
theorem wz(bs:List Int): ∀t,(SC2 bs t).length=64
 |0=>rfl
 |t+1=>by unfold SC2;rw [List.length_set,wz bs t]
theorem EJ(bs:List Int):SC2 bs 0=List.replicate 64 0:=rfl
theorem CE(bs:List Int)(t:Nat)(h:t<16):SC2 bs (t+1)=(SC2 bs t).set t (wd bs t):=by
 conv=>lhs;unfold SC2
 rw [if_pos h]
theorem CD(bs:List Int)(t:Nat)(h: ¬t<16):SC2 bs (t+1)=(SC2 bs t).set t (nxt (SC2 bs t) t):=by
 conv=>lhs;unfold SC2
 rw [if_neg h]
attribute [irreducible] SC2
theorem DO(bs:List Int)(hb:bs.length=64):DCalls Tryz.prog 101 [.slice 1 (bs.map Y)] (.agg ((SC2 bs 64).map W)):=by
 refine dl2 mixed [.cell 2 143] [.agg _] Tryz.func101 Gk ?_
 skip
 refine sa 0 (α:=Nat) (β:=Unit) (fun t=>{sl:=[(0,.t (.slice 1 (bs.map Y))),(2,.ptr 2 0),(3,.ptr 3 0),(4,.t (I t))],bx:=[(2,.d 64 z64),(3,.d 64 ((SC2 bs t).map W))]})
  (fun t=>t<=16) (fun t=>16 - t) (fun _=>{sl:=[(2,.ptr 2 0),(3,.ptr 3 0)],bx:=[(2,.d 64 z64),(3,.d 64 ((SC2 bs 16).map W))]}) (fun _=>True) 0 (by omega) ?_ ?_ ?_
 ·repeat' (first|exact wJ|refine s8 ?_|refine And.intro ?_ ?_)
  rw [EJ];rfl
 ·intro t ht;have hl:=wz bs t;rcases Nat.lt_or_ge t 16 with h|h
  ·have hS:=CE bs t h;generalize SC2 bs t=ws at hl hS
   repeat' ((conv=>whnf);first|(refine nv_ (Y (bs.getD (4 * t) 0)) (by first|(exact tN (4 * t) (by simp (disch:=omega) only [np];omega) (by omega);done)|fail) ?_)|(refine nv_ (Y (bs.getD (4 * t+1) 0)) (by first|(exact tN (4 * t+1) (by simp (disch:=omega) only [np];omega) (by omega);done)|fail) ?_)|(refine nv_ (Y (bs.getD (4 * t+2) 0)) (by first|(exact tN (4 * t+2) (by simp (disch:=omega) only [np];omega) (by omega);done)|fail) ?_)|(refine nv_ (Y (bs.getD (4 * t+3) 0)) (by first|(exact tN (4 * t+3) (by simp (disch:=omega) only [np];omega) (by omega);done)|fail) ?_)|refine aD1 ?_|(refine And.intro (by first|((simp (disch:=omega) only [np];simp [hb];omega);done)|fail) ?_)|refine aS ?_|refine nT_ ?_)
   refine ⟨t+1,by omega,by omega,?_⟩
   repeat' (first|exact wJ|refine s8 ?_|refine And.intro ?_ ?_)
   rw [hS, <-pI];simp only [Int.toNat_natCast,Nat.zero_add,Nat.mul_one];rfl
  ·have:t=16:=by omega
   subst this
   repeat' ((conv=>whnf);first|refine aD0 ?_|refine aS ?_|fail)
   exact ⟨(),trivial,by repeat' (first|exact wJ|refine And.intro ?_ ?_)⟩
 rintro - -
 skip
 refine sM (α:=Nat) (fun t=>{sl:=[(2,.ptr 2 0),(3,.ptr 3 0),(5,.t (I t))],bx:=[(2,.d 64 z64),(3,.d 64 ((SC2 bs t).map W))]})
  (fun t=>16<=t/\t<=64) (fun t=>64 - t) 16 (by omega) ?_ ?_
 ·repeat' (first|exact wJ|refine And.intro ?_ ?_)
 rintro t ⟨h16,ht⟩;have hl:=wz bs t;rcases Nat.lt_or_ge t 64 with h|h
 ·have hS:=CD bs t (by omega);generalize SC2 bs t=ws at hl hS
  repeat' ((conv=>whnf);first|(refine nv_ (W (ws.getD (t - 15) 0)) (by first|(exact tN (t - 15) (by simp (disch:=omega) only [np];omega) (by omega);done)|fail) ?_)|(refine nv_ (W (ws.getD (t - 2) 0)) (by first|(exact tN (t - 2) (by simp (disch:=omega) only [np];omega) (by omega);done)|fail) ?_)|(refine nv_ (W (ws.getD (t - 16) 0)) (by first|(exact tN (t - 16) (by simp (disch:=omega) only [np];omega) (by omega);done)|fail) ?_)|(refine nv_ (W (ws.getD (t - 7) 0)) (by first|(exact tN (t - 7) (by simp (disch:=omega) only [np];omega) (by omega);done)|fail) ?_)|refine sV _ (uA (ws.getD (t - 15) 0) 7 (by omega) (by omega)) ?_|refine sV _ (uA (ws.getD (t - 15) 0) 18 (by omega) (by omega)) ?_|refine sV _ (uA (ws.getD (t - 2) 0) 17 (by omega) (by omega)) ?_|refine sV _ (uA (ws.getD (t - 2) 0) 19 (by omega) (by omega)) ?_|refine aD1 ?_|(refine And.intro (by first|((simp (disch:=omega) only [np];omega);done)|fail) ?_)|refine aS ?_|fail)
  refine ⟨t+1,by omega,by omega,?_⟩
  repeat' (first|exact wJ|refine s8 ?_|refine And.intro ?_ ?_)
  rw [hS, <-pI];simp only [Int.toNat_natCast,Nat.zero_add,Nat.mul_one];rfl
 ·have:t=64:=by omega
  subst this;generalize SC2 bs 64=ws at hl
  repeat' ((conv=>whnf);first|refine aD0 ?_|(refine And.intro (by first|(exact ⟨by first|(simp;done)|simpa using hl,by decide⟩;done)|(first|(simp;done)|simpa using hl;done)|fail) ?_)|refine rt ?_ trivial)
  exact congrArg T.agg (tF rfl)
end Go.RC
end
section
namespace Go.RC
open Go Go.DL Go.Proofs
attribute [local irreducible] rr
def nt(a:Int):Int:=iF .xor .u32 (if IntKind.signed .u32=true then -1 else IntKind.max .u32) a
structure V8 where
 (a b c d e f g h:Int)
def V8.list(v:V8):List Int:=[v.a,v.b,v.c,v.d,v.e,v.f,v.g,v.h]
abbrev V8.lo(v:V8):List Int:=[v.a,v.b,v.c,v.d]
abbrev V8.hi(v:V8):List Int:=[v.e,v.f,v.g,v.h]
def xx(v:V8)(k w:Int):Int:=ad (ad (ad (ad v.h (mx v.e 6 11 25)) (xo (an v.e v.f) (an (nt v.e) v.g))) k) w
def yy(v:V8):Int:=ad (mx v.a 2 13 22) (xo (xo (an v.a v.b) (an v.a v.c)) (an v.b v.c))
def V8.step(v:V8)(k w:Int):V8:=⟨ad (xx v k w) (yy v),v.a,v.b,v.c,ad v.d (xx v k w),v.e,v.f,v.g⟩
def RN(v:V8)(ws:List Int):Nat->V8
 |0=>v
 |t+1=>(RN v ws t).step (kons.getD t 0) (ws.getD t 0)
def FI(s lo hi:List Int):Nat->List Int
 |0=>s
 |i+1=>((FI s lo hi i).set i (ad ((FI s lo hi i).getD i 0) (lo.getD i 0))).set (i+4) (ad (((FI s lo hi i).set i (ad ((FI s lo hi i).getD i 0) (lo.getD i 0))).getD (i+4) 0) (hi.getD i 0))
theorem AV(s lo hi:List Int): ∀i,(FI s lo hi i).length=s.length
 |0=>rfl
 |i+1=>by unfold FI;simp [AV s lo hi i]
def cpr(s:V8)(bs:List Int):V8:=let v:=RN s (SCH bs 64) 64;⟨ad s.a v.a,ad s.b v.b,ad s.c v.c,ad s.d v.d,ad s.e v.e,ad s.f v.f,ad s.g v.g,ad s.h v.h⟩
theorem FD(s v:V8):FI s.list v.lo v.hi 4=[ad s.a v.a,ad s.b v.b,ad s.c v.c,ad s.d v.d,ad s.e v.e,ad s.f v.f,ad s.g v.g,ad s.h v.h]:=rfl
attribute [local irreducible] RN
theorem AQ(s:V8)(bs:List Int)(hb:bs.length=64):DCalls Tryz.prog 77 [.agg (s.list.map W),.slice 1 (bs.map Y)] (.agg ((cpr s bs).list.map W)):=by
 refine dl2 mixed [.cell 4 95] [.agg _] Tryz.func77 l77 ?_;have hc:=AR bs hb;have hwl:=xp bs 64;unfold cpr;generalize SCH bs 64=ws at hc hwl
 repeat' ((conv=>whnf);first|refine sV _ (hc) ?_|(refine And.intro (by first|(exact ⟨by first|(simp;done)|simpa using hwl,by decide⟩;done)|fail) ?_)|refine aS ?_|refine nT_ ?_)
 refine sa 0 (α:=Nat) (β:=Unit) (fun t=>{sl:=[(2,.ptr 2 0),(4,.ptr 4 0),(5,.ptr 5 0),(6,.ptr 6 0),(7,.ptr 7 0),(21,.t (.agg (kons.map W))),(22,.t (I t))],bx:=[(2,.d 8 (s.list.map W)),(4,.d 8 (List.replicate 8 (W 0))),(5,.d 64 (ws.map W)),(6,.d 4 ((RN s ws t).lo.map W)),(7,.d 4 ((RN s ws t).hi.map W))]})
  (fun t=>t<=64) (fun t=>64 - t) (fun _=>{sl:=[(2,.ptr 2 0),(4,.ptr 4 0),(6,.ptr 6 0),(7,.ptr 7 0)],bx:=[(2,.d 8 (s.list.map W)),(4,.d 8 (List.replicate 8 (W 0))),(6,.d 4 ((RN s ws 64).lo.map W)),(7,.d 4 ((RN s ws 64).hi.map W))]}) (fun _=>True) 0 (by omega) ?_ ?_ ?_
 ·repeat' (first|exact wJ|refine s8 ?_|refine And.intro ?_ ?_)
  ·exact (tF rfl).symm
  ·unfold RN;rfl
  ·unfold RN;rfl
 ·intro t ht;rcases Nat.lt_or_ge t 64 with h|h
  ·have hS:RN s ws (t+1)=(RN s ws t).step (kons.getD t 0) (ws.getD t 0):=by conv=>lhs;unfold RN
   generalize RN s ws t=v at hS;generalize hkk:kons=kk;have hkl:kk.length=64:=by rw [<- hkk];rfl
   rw [hkk] at hS
   repeat' ((conv=>whnf);first|(refine nv_ (W (kk.getD t 0)) (by first|(exact tN t (by omega) (by omega);done)|fail) ?_)|(refine nv_ (W (ws.getD t 0)) (by first|(exact tN t (by omega) (by omega);done)|fail) ?_)|refine sV _ (C1 v.e 6 11 25 (by decide)) ?_|refine sV _ (C1 v.a 2 13 22 (by decide)) ?_|refine aD1 ?_|(refine And.intro (by first|((simp [hkl];omega);done)|((omega);done)|fail) ?_)|refine aS ?_|refine nT_ ?_)
   refine ⟨t+1,by omega,by omega,?_⟩
   repeat' (first|exact wJ|refine s8 ?_|refine And.intro ?_ ?_)
   ·rw [hS];rfl
   ·rw [hS];rfl
  ·have:t=64:=by omega
   subst this
   repeat' ((conv=>whnf);first|refine aD0 ?_|refine aS ?_|fail)
   exact ⟨(),trivial,by repeat' (first|exact wJ|refine And.intro ?_ ?_)⟩
 rintro - -;generalize RN s ws 64=v
 skip
 refine sa 2 (α:=Nat) (β:=Unit) (fun i=>{sl:=[(2,.ptr 2 0),(4,.ptr 4 0),(6,.ptr 6 0),(7,.ptr 7 0),(94,.t (I i))],bx:=[(2,.d 8 ((FI s.list v.lo v.hi i).map W)),(4,.d 8 (List.replicate 8 (W 0))),(6,.d 4 (v.lo.map W)),(7,.d 4 (v.hi.map W))]})
  (fun i=>i<=4) (fun i=>4 - i) (fun _=>{sl:=[(2,.ptr 2 0),(4,.ptr 4 0)],bx:=[(2,.d 8 ((FI s.list v.lo v.hi 4).map W)),(4,.d 8 (List.replicate 8 (W 0)))]}) (fun _=>True) 0 (by omega) ?_ ?_ ?_
 ·repeat' (first|exact wJ|refine And.intro ?_ ?_)
 ·intro i hi;have hl:(FI s.list v.lo v.hi i).length=8:=AV _ _ _ i;rcases Nat.lt_or_ge i 4 with h|h
  ·have hS:FI s.list v.lo v.hi (i+1)=((FI s.list v.lo v.hi i).set i (ad ((FI s.list v.lo v.hi i).getD i 0) (v.lo.getD i 0))).set (i+4) (ad (((FI s.list v.lo v.hi i).set i (ad ((FI s.list v.lo v.hi i).getD i 0) (v.lo.getD i 0))).getD (i+4) 0) (v.hi.getD i 0)):=rfl;generalize FI s.list v.lo v.hi i=cur at hl hS;have hlo:v.lo.length=4:=rfl;have hhi:v.hi.length=4:=rfl;generalize v.lo=lo at hlo hS;generalize v.hi=hh at hhi hS;generalize dQ:cur.set i (ad (cur.getD i 0) (lo.getD i 0))=cur2 at hS;have hl2:cur2.length=8:=by rw [<- dQ];simpa using hl
   have e2:(cur.map W).set (0+(↑i:Int).toNat * 1) (W (ad (cur.getD i 0) (lo.getD i 0)))=cur2.map W:=by
    rw [pI, <-dQ];simp
   repeat' ((conv=>whnf);first|(refine nv_ (W (cur.getD i 0)) (by first|(exact tN i (by omega) (by omega);done)|fail) ?_)|(refine nv_ (W (lo.getD i 0)) (by first|(exact tN i (by omega) (by omega);done)|fail) ?_)|(refine nv_ (W (hh.getD i 0)) (by first|(exact tN i (by omega) (by omega);done)|fail) ?_)|(refine nv_ (W (cur2.getD (i+4) 0)) (by first|((refine (congrArg (fun l:List T=>l[_]?.getD _) e2).trans ?_;exact tN (i+4) (by simp (disch:=omega) only [np];omega) (by omega));done)|fail) ?_)|refine aD1 ?_|(refine And.intro (by first|((simp (disch:=omega) only [np];omega);done)|fail) ?_)|refine aS ?_|fail)
   refine ⟨i+1,by omega,by omega,?_⟩
   repeat' (first|exact wJ|refine s8 ?_|refine And.intro ?_ ?_)
   rw [hS];have e3:0+(IntKind.i64.wrap ((i:Int)+4)).toNat * 1=i+4:=by simp (disch:=omega) only [np];omega
   show _=List.set (List.set (cur.map W) (0+(↑i:Int).toNat * 1) (W (ad (cur.getD i 0) (lo.getD i 0)))) (0+(IntKind.i64.wrap (↑i+4)).toNat * 1) (W (ad (cur2.getD (i+4) 0) (hh.getD i 0)))
   rw [e2,e3,pI]
  ·have:i=4:=by omega
   subst this
   repeat' ((conv=>whnf);first|refine aD0 ?_|refine aS ?_|fail)
   exact ⟨(),trivial,by repeat' (first|exact wJ|refine And.intro ?_ ?_)⟩
 rintro - -;rw [FD]
 repeat' ((conv=>whnf);first|refine aS ?_|exact trivial)
end Go.RC
end
section
namespace Go.RC
open Go Go.DL Go.Proofs
attribute [local irreducible] rr
def uQ(n:Nat):Int:=IntKind.u64.wrap (8 * IntKind.u64.wrap n)
def ln8(m:Int)(i:Nat):Int:=IntKind.u8.wrap (m.fdiv (2^(56 - 8 * i)))
def zer(n:Nat):Nat:=(119 - n % 64) % 64
def tail(n:Nat):List Int:=128::(List.replicate (zer n) 0++(List.range 8).map (ln8 (uQ n)))
theorem uP(n:Nat):(n+1+zer n) % 64=56/\zer n<64:=by unfold zer;omega
theorem BB(n z:Nat)(h:z<zer n):(n+1+z) % 64≠56:=by unfold zer at h;omega
theorem zm(n:Nat):(tail n).length=9+zer n:=by simp [tail];omega
theorem Cq(bs:List Int)(hb:bs.length<2^40):DCalls Tryz.prog 100 [.slice 1 (bs.map Y)] (.slice 1 ((bs++tail bs.length).map Y)):=by
 refine dl2 mixed [.tmp 2] [.slice 1 _] Tryz.func100 Gj ?_
 repeat' ((conv=>whnf);first|(refine And.intro (by first|((simp;omega);done)|fail) ?_)|refine aS ?_|fail)
 refine sa 0 (α:=Nat×Nat) (β:=Nat) (fun q=>{sl:=[(0,.t (.slice 1 (bs.map Y))),(3,.own q.1 5 1 ((bs++128::List.replicate q.2 0).map Y))],bx:=[]})
  (fun q=>q.2<=zer bs.length) (fun q=>zer bs.length - q.2) (fun q=>{sl:=[(0,.t (.slice 1 (bs.map Y))),(3,.own q 5 1 ((bs++128::List.replicate (zer bs.length) 0).map Y))],bx:=[]}) (fun _=>True) (11,0) (by simp) ?_ ?_ ?_
 ·repeat' (first|exact wJ|refine s6 ?_|refine And.intro ?_ ?_)
  simp
 ·rintro ⟨q,z⟩ hz;dsimp only at hz;rcases Nat.lt_or_ge z (zer bs.length) with h|h
  ·have hne:((((bs++128::List.replicate z 0).map Y).length:Int).tmod 64)≠56:=by
    have:=BB bs.length z h
    simp only [List.length_map,List.length_append,List.length_cons,List.length_replicate];rw [Int.tmod_eq_emod_of_nonneg (by omega)];omega
   have:=(uP bs.length).2
   repeat' ((conv=>whnf);first|refine sW hne ?_|(refine And.intro (by first|((simp;omega);done)|fail) ?_)|refine aS ?_|fail)
   refine ⟨(18,z+1),by dsimp only;omega,by dsimp only;omega,?_⟩
   repeat' (first|exact wJ|refine s6 ?_|refine And.intro ?_ ?_)
   simp [List.replicate_succ']
  ·have:z=zer bs.length:=by omega
   subst this;have heq:((((bs++128::List.replicate (zer bs.length) 0).map Y).length:Int).tmod 64)=56:=by
    have:=(uP bs.length).1
    simp only [List.length_map,List.length_append,List.length_cons,List.length_replicate];rw [Int.tmod_eq_emod_of_nonneg (by omega)];omega
   repeat' ((conv=>whnf);first|refine rz heq ?_|refine aS ?_|fail)
   exact ⟨q,trivial,by repeat' (first|exact wJ|refine And.intro ?_ ?_)⟩
 rintro q -;have hz:=(uP bs.length).2
 skip
 refine sa 2 (α:=Nat×Nat) (β:=Nat) (fun q=>{sl:=[(3,.own q.1 5 1 ((bs++128::(List.replicate (zer bs.length) 0++(List.range q.2).map (ln8 (uQ bs.length)))).map Y)),(4,.t (Q (uQ bs.length))),(5,.t (I q.2))],bx:=[]})
  (fun q=>q.2<=8) (fun q=>8 - q.2) (fun q=>{sl:=[(3,.own q 5 1 ((bs++tail bs.length).map Y))],bx:=[]}) (fun _=>True) (q,0) (by simp) ?_ ?_ ?_
 ·repeat' (first|(exact s6 (by simp))|(exact leT (by simp [uQ];done))|exact wJ|refine And.intro ?_ ?_)
 ·rintro ⟨q,i⟩ hi;dsimp only at hi;rcases Nat.lt_or_ge i 8 with h|h
  ·repeat' ((conv=>whnf);first|refine aD1 ?_|(refine And.intro (by first|((simp (disch:=omega) only [np];omega);done)|((simp;omega);done)|fail) ?_)|refine aS ?_|fail)
   refine ⟨(35,i+1),by dsimp only;omega,by dsimp only;omega,?_⟩
   repeat' (first|exact wJ|refine s6 ?_|refine And.intro ?_ ?_)
   have e1:IntKind.i64.wrap (8 * (i:Int))=8 * i:=by simp (disch:=omega) only [np]
   have e2:IntKind.i64.wrap (56 - 8 * (i:Int))=56 - 8 * i:=by simp (disch:=omega) only [np]
   have e3:min ((56:Int) - 8 * i).toNat IntKind.u64.bits=56 - 8 * i:=by
    rw [show IntKind.u64.bits=64 from rfl];omega
   rw [e1,e2,e3];simp [List.range_succ,ln8]
  ·have:i=8:=by omega
   subst this
   repeat' ((conv=>whnf);first|refine aD0 ?_|refine aS ?_|fail)
   exact ⟨q,trivial,by repeat' (first|exact wJ|refine And.intro ?_ ?_)⟩
 rintro q -
 repeat' ((conv=>whnf);first|refine aS ?_|exact trivial)
end Go.RC
end
section
namespace Go.RC
open Go Go.DL Go.Proofs
attribute [local irreducible] rr
def V0:V8:=⟨1779033703,3144134277,1013904242,2773480762,1359893119,2600822924,528734635,1541459225⟩
def xx2(v:V8)(k w:Int):Int:=ad (ad (ad (ad v.h (mx v.e 6 11 25)) (xo (an v.e v.f) (an (xo v.e 4294967295) v.g))) k) w
def V8.yB(v:V8)(k w:Int):V8:=⟨ad (xx2 v k w) (yy v),v.a,v.b,v.c,ad v.d (xx2 v k w),v.e,v.f,v.g⟩
theorem Fa(a:Int):nt a=xo a 4294967295:=by
 unfold nt xo iF;simp only [BitVec.xor_comm];rfl
theorem Cj(v:V8)(k w:Int):v.yB k w=v.step k w:=by
 unfold V8.yB V8.step xx2 xx;rw [Fa]
def RN2(v:V8)(ws:List Int):Nat->V8
 |0=>v
 |t+1=>(RN2 v ws t).yB (kons.getD t 0) (ws.getD t 0)
theorem AY(v:V8)(ws:List Int): ∀t,RN2 v ws t=RN v ws t
 |0=>rfl
 |t+1=>by unfold RN2 RN;rw [AY v ws t,Cj]
def V8.plus(s v:V8):V8:=⟨ad s.a v.a,ad s.b v.b,ad s.c v.c,ad s.d v.d,ad s.e v.e,ad s.f v.f,ad s.g v.g,ad s.h v.h⟩
def yM(s:V8)(bs:List Int):V8:=s.plus (RN2 s (SC2 bs 64) 64)
def bl2(m:List Int):Nat->V8
 |0=>V0
 |k+1=>yM (bl2 m k) ((m.drop (64 * k)).take 64)
def FJ(s v:List Int):Nat->List Int
 |0=>s
 |i+1=>(FJ s v i).set i (ad ((FJ s v i).getD i 0) (v.getD i 0))
theorem AX(s v:List Int): ∀i,(FJ s v i).length=s.length
 |0=>rfl
 |i+1=>by unfold FJ;simp [AX s v i]
theorem FE(s v:V8):FJ s.list v.list 8=(s.plus v).list:=rfl
def dgB(s:List Int)(i:Nat):Int:=IntKind.u8.wrap ((s.getD (i / 4) 0).fdiv (2^(24 - 8 * (i % 4))))
def dig(s:V8):List Int:=(List.range 32).map (dgB s.list)
def DJ(s:List Int):Nat->List Int
 |0=>List.replicate 32 0
 |i+1=>(DJ s i).set i (dgB s i)
theorem wa(s:List Int): ∀i,(DJ s i).length=32
 |0=>rfl
 |i+1=>by unfold DJ;simp [wa s i]
theorem AU(s:List Int): ∀i j,j<i->j<32->(DJ s i)[j]? =some (dgB s j)
 |0,j,h,_=>by omega
 |i+1,j,h,h2=>by
  unfold DJ;rw [List.getElem?_set]
  by_cases e:i=j
  ·subst e;rw [if_pos rfl,if_pos (by rw [wa];exact h2)]
  ·rw [if_neg e];exact AU s i j (by omega) h2
theorem CB(s:V8):DJ s.list 32=dig s:=by
 apply List.ext_getElem?
 intro i
 by_cases h:i<32
 ·rw [AU _ 32 i h h];simp [dig,h]
 ·rw [List.getElem?_eq_none (by rw [wa];omega),List.getElem?_eq_none (by simp [dig];omega)]
attribute [local irreducible] RN2 bl2
abbrev z32:List T:=List.replicate 32 (Y 0)
theorem Cr(bs:List Int)(hb:bs.length<2^40):DCalls Tryz.prog 78 [.slice 1 (bs.map Y)] (.agg ((dig (bl2 (bs++tail bs.length) ((bs++tail bs.length).length / 64))).map Y)):=by
 refine dl2 mixed [.cell 2 101] [.agg _] Tryz.func78 l78 ?_;have hp:=Cq bs hb;have hm:(bs++tail bs.length).length % 64=0/\(bs++tail bs.length).length<2^41:=by
  have:=uP bs.length
  rw [List.length_append,zm];omega
 generalize bs++tail bs.length=m at hp hm
 repeat' ((conv=>whnf);first|refine sV _ (hp) ?_|refine aS ?_|fail)
 refine sa 0 (α:=Nat) (β:=Unit) (fun k=>{sl:=[(2,.ptr 2 0),(3,.ptr 3 0),(4,.t (.slice 1 (m.map Y))),(5,.t (I (64 * k:Nat)))],bx:=[(2,.d 32 z32),(3,.d 8 ((bl2 m k).list.map W))]})
  (fun k=>64 * k<=m.length) (fun k=>m.length - k) (fun _=>{sl:=[(2,.ptr 2 0),(3,.ptr 3 0)],bx:=[(2,.d 32 z32),(3,.d 8 ((bl2 m (m.length / 64)).list.map W))]}) (fun _=>True) 0 (by omega) ?_ ?_ ?_
 ·repeat' (first|exact wJ|refine s8 ?_|refine And.intro ?_ ?_)
  unfold bl2;rfl
 ·intro k hk;rcases Nat.lt_or_ge (64 * k) m.length with h|h
  ·have hS:bl2 m (k+1)=yM (bl2 m k) ((m.drop (64 * k)).take 64):=by conv=>lhs;unfold bl2
   generalize bl2 m k=s at hS;generalize hes:(m.drop (64 * k)).take 64=es at hS;have hel:es.length=64:=by rw [<- hes];simp;omega
   have hw:=DO es hel;have hwl:=wz es 64;unfold yM at hS;generalize SC2 es 64=ws at hw hwl hS
   repeat' ((conv=>whnf);first|(refine nv_ (.slice 1 (es.map Y)) (by first|((rw [<- hes];simp (disch:=omega) only [np];rw [<- List.map_take, <-List.map_drop];congr 2;simp only [List.drop_take];congr 1 <;> omega);done)|fail) ?_)|refine sV _ (hw) ?_|refine aD1 ?_|(refine And.intro (by first|((simp (disch:=omega) only [np];simp;omega);done)|exact ⟨by simpa using hwl,by decide⟩) ?_)|refine aS ?_|fail)
   refine sa 2 (α:=Nat) (β:=Unit) (fun t=>{sl:=[(2,.ptr 2 0),(3,.ptr 3 0),(4,.t (.slice 1 (m.map Y))),(5,.t (I (64 * k:Nat))),(6,.ptr 6 0),(7,.ptr 7 0),(8,.t (I t))],bx:=[(2,.d 32 z32),(3,.d 8 (s.list.map W)),(6,.d 64 (ws.map W)),(7,.d 8 ((RN2 s ws t).list.map W))]})
    (fun t=>t<=64) (fun t=>64 - t) (fun _=>{sl:=[(2,.ptr 2 0),(3,.ptr 3 0),(4,.t (.slice 1 (m.map Y))),(5,.t (I (64 * k:Nat))),(7,.ptr 7 0)],bx:=[(2,.d 32 z32),(3,.d 8 (s.list.map W)),(7,.d 8 ((RN2 s ws 64).list.map W))]}) (fun _=>True) 0 (by omega) ?_ ?_ ?_
   ·repeat' (first|exact wJ|refine s8 ?_|refine And.intro ?_ ?_)
    ·exact (tF rfl).symm
    ·unfold RN2;rfl
   ·intro t ht;rcases Nat.lt_or_ge t 64 with h2|h2
    ·have hR:RN2 s ws (t+1)=(RN2 s ws t).yB (kons.getD t 0) (ws.getD t 0):=by conv=>lhs;unfold RN2
     generalize RN2 s ws t=v at hR;have hkl:kons.length=64:=rfl
     repeat' ((conv=>whnf);first|(refine nv_ (W (kons.getD t 0)) (by first|(exact tN t (by omega) (by omega);done)|fail) ?_)|(refine nv_ (W (ws.getD t 0)) (by first|(exact tN t (by omega) (by omega);done)|fail) ?_)|refine sV _ (uA v.e 6 (by decide) (by decide)) ?_|refine sV _ (uA v.e 11 (by decide) (by decide)) ?_|refine sV _ (uA v.e 25 (by decide) (by decide)) ?_|refine sV _ (uA v.a 2 (by decide) (by decide)) ?_|refine sV _ (uA v.a 13 (by decide) (by decide)) ?_|refine sV _ (uA v.a 22 (by decide) (by decide)) ?_|refine aD1 ?_|(refine And.intro (by first|(omega;done)|exact ⟨by omega,by omega⟩) ?_)|refine aS ?_|refine nT_ ?_)
     refine ⟨t+1,by omega,by omega,?_⟩
     repeat' (first|exact wJ|refine s8 ?_|refine And.intro ?_ ?_)
     rw [hR];rfl
    ·have:t=64:=by omega
     subst this
     repeat' ((conv=>whnf);first|refine aD0 ?_|refine aS ?_|fail)
     exact ⟨(),trivial,by repeat' (first|exact wJ|refine And.intro ?_ ?_)⟩
   rintro - -;generalize RN2 s ws 64=v at hS
   skip
   refine sa 4 (α:=Nat) (β:=Unit) (fun i=>{sl:=[(2,.ptr 2 0),(3,.ptr 3 0),(4,.t (.slice 1 (m.map Y))),(5,.t (I (64 * k:Nat))),(7,.ptr 7 0),(11,.t (I i))],bx:=[(2,.d 32 z32),(3,.d 8 ((FJ s.list v.list i).map W)),(7,.d 8 (v.list.map W))]})
    (fun i=>i<=8) (fun i=>8 - i) (fun _=>{sl:=[(2,.ptr 2 0),(3,.ptr 3 0),(4,.t (.slice 1 (m.map Y))),(5,.t (I (64 * k:Nat)))],bx:=[(2,.d 32 z32),(3,.d 8 ((FJ s.list v.list 8).map W))]}) (fun _=>True) 0 (by omega) ?_ ?_ ?_
   ·repeat' (first|exact wJ|refine And.intro ?_ ?_)
   ·intro i hi;have hl:(FJ s.list v.list i).length=8:=AX _ _ i;have hvl:v.list.length=8:=rfl;rcases Nat.lt_or_ge i 8 with h2|h2
    ·have hR:FJ s.list v.list (i+1)=(FJ s.list v.list i).set i (ad ((FJ s.list v.list i).getD i 0) (v.list.getD i 0)):=rfl;generalize FJ s.list v.list i=cur at hl hR;generalize v.list=vl at hvl hR
     repeat' ((conv=>whnf);first|(refine nv_ (W (cur.getD i 0)) (by first|(exact tN i (by omega) (by omega);done)|fail) ?_)|(refine nv_ (W (vl.getD i 0)) (by first|(exact tN i (by omega) (by omega);done)|fail) ?_)|refine aD1 ?_|(refine And.intro (by first|(omega;done)|fail) ?_)|refine aS ?_|fail)
     refine ⟨i+1,by omega,by omega,?_⟩
     repeat' (first|exact wJ|refine s8 ?_|refine And.intro ?_ ?_)
     rw [hR, <-pI];simp only [Int.toNat_natCast,Nat.zero_add,Nat.mul_one];rfl
    ·have:i=8:=by omega
     subst this
     repeat' ((conv=>whnf);first|refine aD0 ?_|refine aS ?_|fail)
     exact ⟨(),trivial,by repeat' (first|exact wJ|refine And.intro ?_ ?_)⟩
   rintro - -;rw [FE, <-hS]
   skip
   refine ⟨k+1,by omega,by omega,?_⟩
   repeat' (first|(exact leI (by simp (disch:=omega) only [np];omega))|exact wJ|refine And.intro ?_ ?_)
  ·have e:m.length / 64=k:=by omega
   rw [e]
   repeat' ((conv=>whnf);first|refine aD0 ?_|refine aS ?_|fail)
   exact ⟨(),trivial,by repeat' (first|exact wJ|refine And.intro ?_ ?_)⟩
 rintro - -;generalize bl2 m (m.length / 64)=s
 skip
 refine sa 6 (α:=Nat) (β:=Unit) (fun i=>{sl:=[(2,.ptr 2 0),(3,.ptr 3 0),(12,.ptr 12 0),(13,.t (I i))],bx:=[(2,.d 32 z32),(3,.d 8 (s.list.map W)),(12,.d 32 ((DJ s.list i).map Y))]})
  (fun i=>i<=32) (fun i=>32 - i) (fun _=>{sl:=[(2,.ptr 2 0),(12,.ptr 12 0)],bx:=[(2,.d 32 z32),(12,.d 32 ((DJ s.list 32).map Y))]}) (fun _=>True) 0 (by omega) ?_ ?_ ?_
 ·repeat' (first|exact wJ|refine And.intro ?_ ?_)
 ·intro i hi;rcases Nat.lt_or_ge i 32 with h2|h2
  ·have hR:DJ s.list (i+1)=(DJ s.list i).set i (dgB s.list i):=rfl;have hl:=wa s.list i;generalize DJ s.list i=cur at hR hl;have hsl:s.list.length=8:=rfl;unfold dgB at hR;generalize s.list=sl at hsl hR;have q1:(i:Int).tdiv 4=(i / 4:Nat):=rfl;have q2:(i:Int).tmod 4=(i % 4:Nat):=rfl;have w1:IntKind.i64.wrap ((i / 4:Nat):Int)=(i / 4:Nat):=by simp (disch:=omega) only [np]
   have w2:IntKind.i64.wrap (8 * ((i % 4:Nat):Int))=(8 * (i % 4):Nat):=by simp (disch:=omega) only [np];omega
   have w3:IntKind.i64.wrap (24 - ((8 * (i % 4):Nat):Int))=(24 - 8 * (i % 4):Nat):=by simp (disch:=omega) only [np];omega
   repeat' ((conv=>whnf);first|(refine nv_ (W (sl.getD (i / 4) 0)) (by first|(exact tN (i / 4) (by rw [q1,w1];omega) (by omega);done)|fail) ?_)|refine aD1 ?_|(refine And.intro (by first|(omega;done)|((rw [q1,w1];omega);done)|((rw [q2,w2,w3];omega);done)|fail) ?_)|refine aS ?_|fail)
   refine ⟨i+1,by omega,by omega,?_⟩
   repeat' (first|exact wJ|refine s8 ?_|refine And.intro ?_ ?_)
   rw [hR, <-pI];rw [q2,w2,w3];have w4:min (((24 - 8 * (i % 4):Nat):Int).toNat) IntKind.u32.bits=24 - 8 * (i % 4):=by
    rw [show IntKind.u32.bits=32 from rfl];omega
   rw [w4];simp only [Int.toNat_natCast,Nat.zero_add,Nat.mul_one]
  ·have:i=32:=by omega
   subst this
   repeat' ((conv=>whnf);first|refine aD0 ?_|refine aS ?_|fail)
   exact ⟨(),trivial,by repeat' (first|exact wJ|refine And.intro ?_ ?_)⟩
 rintro - -;rw [CB];have hdl:(dig s).length=32:=by simp [dig]
 generalize dig s=ds at hdl
 repeat' ((conv=>whnf);first|(refine And.intro (by first|exact ⟨by simpa using hdl,by decide⟩|(simpa using hdl;done)|fail) ?_)|refine rt ?_ trivial)
 exact congrArg T.agg (tF rfl)
end Go.RC
end
section
namespace Go.RC
open Go Go.DL Go.Proofs
attribute [local irreducible] rr
def ti(bs:List Int):Prop:= ∀b∈bs,0<=b/\b<256
theorem xg{a b:Int}(k:Nat)(ha:0<=a)(ha2:a<4294967296)(hd:a % 2^k=0)(hb:0<=b)(hb2:b<2^k)(hk:k<=32):iF .or .u32 a b=a+b:=by
 obtain ⟨a,rfl⟩:=Int.eq_ofNat_of_zero_le ha;obtain ⟨b,rfl⟩:=Int.eq_ofNat_of_zero_le hb;have hk2:(2:Nat)^k<=2^32:=Nat.pow_le_pow_right (by decide) hk;have hb3:b<2^k:=by exact_mod_cast hb2
 have hd2:a % 2^k=0:=by exact_mod_cast hd
 have ha3:a<2^32:=by omega
 have hb4:b<2^32:=by omega
 have e:a ||| b=a+b:=by
  have:=Nat.two_pow_add_eq_or_of_lt hb3 (a / 2^k)
  have h2:2^k * (a / 2^k)=a:=Nat.mul_div_cancel' (Nat.dvd_of_mod_eq_zero hd2);rw [h2] at this;exact this.symm
 have hor:a ||| b<2^32:=Nat.or_lt_two_pow ha3 hb4
 unfold iF;have e1:(BitVec.ofInt 32 ((a:Nat):Int)).toNat=a:=by
  rw [BitVec.ofInt_natCast,BitVec.toNat_ofNat,Nat.mod_eq_of_lt ha3]
 have e2:(BitVec.ofInt 32 ((b:Nat):Int)).toNat=b:=by
  rw [BitVec.ofInt_natCast,BitVec.toNat_ofNat,Nat.mod_eq_of_lt hb4]
 show IntKind.u32.wrap ((BitVec.ofInt 32 ((a:Nat):Int) ||| BitVec.ofInt 32 ((b:Nat):Int)).toNat:Int)=_
 rw [BitVec.toNat_or,e1,e2,e,w32 (by omega) (by omega)];rfl
theorem yA{w b:Int}(h0:0<=w)(h1:w<16777216)(hb:0<=b/\b<256):sb w b=w * 256+b:=by
 unfold sb;rw [show (2:Int)^8=256 from rfl,w32 (by omega) (by omega),w32 (by omega) (by omega),xg 8 (by omega) (by omega) (by omega) (by omega) (by omega) (by omega)]
theorem tX(bs:List Int)(t:Nat)(hb:ti bs)(hl:bs.length=64)(ht:t<16):((bs.drop (4 * t)).take 4).foldl sb 0=wd bs t:=by
 have g: ∀i,i<64->bs[i]? =some (bs.getD i 0)/\0<=bs.getD i 0/\bs.getD i 0<256:=fun i hi=>by
  have hi:i<bs.length:=by omega
  rw [List.getD_eq_getElem?_getD,ggZ hi];exact ⟨rfl,hb _ (List.getElem_mem hi)⟩
 have e:(bs.drop (4 * t)).take 4=[bs.getD (4 * t) 0,bs.getD (4 * t+1) 0,bs.getD (4 * t+2) 0,bs.getD (4 * t+3) 0]:=by
  apply List.ext_getElem?
  intro i;rw [List.getElem?_take]
  by_cases hi:i<4
  ·rw [if_pos hi,List.getElem?_drop,(g (4 * t+i) (by omega)).1]
   match i,hi with
   |0,_=>rfl
   |1,_=>rfl
   |2,_=>rfl
   |3,_=>rfl
  ·rw [if_neg hi,List.getElem?_eq_none (by simp;omega)]
 obtain ⟨_,a0,a1⟩:=g (4 * t) (by omega);obtain ⟨_,b0,b1⟩:=g (4 * t+1) (by omega);obtain ⟨_,c0,c1⟩:=g (4 * t+2) (by omega);obtain ⟨_,d0,d1⟩:=g (4 * t+3) (by omega);rw [e];unfold wd;generalize bs.getD (4 * t) 0=a at *
 generalize bs.getD (4 * t+1) 0=b at *
 generalize bs.getD (4 * t+2) 0=c at *
 generalize bs.getD (4 * t+3) 0=d at *
 simp only [List.foldl];rw [yA (w:=0) (by omega) (by omega) ⟨a0,a1⟩,yA (by omega) (by omega) ⟨b0,b1⟩,yA (by omega) (by omega) ⟨c0,c1⟩,yA (by omega) (by omega) ⟨d0,d1⟩];rw [show (2:Int)^24=16777216 from rfl,show (2:Int)^16=65536 from rfl,show (2:Int)^8=256 from rfl];rw [w32 (n:=a) (by omega) (by omega),w32 (n:=b) (by omega) (by omega),w32 (n:=c) (by omega) (by omega),w32 (n:=d) (by omega) (by omega),w32 (n:=a * 16777216) (by omega) (by omega),w32 (n:=b * 65536) (by omega) (by omega),w32 (n:=c * 256) (by omega) (by omega)];rw [xg (a:=a * 16777216) (b:=b * 65536) 24 (by omega) (by omega) (by omega) (by omega) (by omega) (by omega),xg (a:=a * 16777216+b * 65536) (b:=c * 256) 16 (by omega) (by omega) (by omega) (by omega) (by omega) (by omega),xg (b:=d) 8 (by omega) (by omega) (by omega) (by omega) (by omega) (by omega)];omega
theorem yF(bs:List Int): ∀t u,t<=u->u<64->t<=16->(SCH bs t).getD u 0=0
 |0,u,_,h,_=>by
  unfold SCH;rw [List.getD_eq_getElem?_getD,List.getElem?_replicate,if_pos h];rfl
 |t+1,u,h,h2,h3=>by
  unfold SCH
  have:=yF bs t u (by omega) h2 (by omega)
  rw [List.getD_eq_getElem?_getD,List.getElem?_set_ne (by omega), <-List.getD_eq_getElem?_getD];exact this
theorem yE(bs:List Int)(hb:ti bs)(hl:bs.length=64): ∀t,SCH bs t=SC2 bs t
 |0=>by unfold SCH SC2;rfl
 |t+1=>by
  by_cases h:t<16
  ·rw [CG bs t h,CE bs t h,yF bs t t (Nat.le_refl _) (by omega) (by omega),tX bs t hb hl h,yE bs hb hl t]
  ·rw [CF bs t h,CD bs t h,yE bs hb hl t]
theorem DX(s:V8)(bs:List Int)(hb:ti bs)(hl:bs.length=64):yM s bs=cpr s bs:=by
 unfold yM cpr;rw [AY,yE bs hb hl];rfl
end Go.RC
end
section
namespace Go.RC
open Go Go.DL Go.Proofs
attribute [local irreducible] rr
structure Str where
 (s:V8) (blk:List Int) (n:Nat)
abbrev Str.cells(x:Str):List T:=x.s.list.map W++(x.blk.map Y++[Q x.n])
abbrev Str.T(x:Str):T:=.agg x.cells
def Str.uE(x:Str)(b:Int):Str:=
 if x.n % 64=63 then ⟨cpr x.s (x.blk.set (x.n % 64) b),x.blk.set (x.n % 64) b,x.n+1⟩ else ⟨x.s,x.blk.set (x.n % 64) b,x.n+1⟩
def Str.add(x:Str)(bs:List Int):Str:=bs.foldl Str.uE x
def uY(blk:List Int)(a:Nat)(vs:List Int):List Int:=blk.take a++(vs++blk.drop (a+vs.length))
theorem Cc(x:Str)(b:Int):(x.uE b).blk.length=x.blk.length/\(x.uE b).n=x.n+1:=by
 unfold Str.uE;split <;> simp
theorem uG: ∀(bs:List Int) (x:Str),(x.add bs).blk.length=x.blk.length/\(x.add bs).n=x.n+bs.length
 |[],x=>⟨rfl,rfl⟩
 |b::bs,x=>by
  have h1:=Cc x b;have h2:=uG bs (x.uE b);show ((x.uE b).add bs).blk.length=_/\((x.uE b).add bs).n=_
  rw [h2.1,h2.2,h1.1,h1.2];refine ⟨rfl,?_⟩;rw [List.length_cons];omega
theorem yc(blk:List Int)(a:Nat)(b:Int)(vs:List Int)(h:a<blk.length):uY (blk.set a b) (a+1) vs=uY blk a (b::vs):=by
 unfold uY;rw [List.take_set,List.drop_set];rw [if_pos (by omega)];have e1:(blk.take (a+1)).set a b=blk.take a++[b]:=by
  rw [List.take_succ_eq_append_getElem h,List.set_append,if_neg (by simp;omega)];simp [List.length_take,Nat.min_eq_left (Nat.le_of_lt h)]
 rw [e1,List.append_assoc,List.length_cons];have e2:a+1+vs.length=a+(vs.length+1):=by omega
 rw [e2];rfl
theorem xN: ∀(bs:List Int) (x:Str),bs≠[]->x.blk.length=64->x.n % 64+bs.length<=64->
  x.add bs=if x.n % 64+bs.length=64 then ⟨cpr x.s (uY x.blk (x.n % 64) bs),uY x.blk (x.n % 64) bs,x.n+bs.length⟩ else ⟨x.s,uY x.blk (x.n % 64) bs,x.n+bs.length⟩
 |[],_,h,_,_=>absurd rfl h
 |[b],x,_,hl,hle=>by
  show x.uE b=_
  have e:x.blk.set (x.n % 64) b=uY x.blk (x.n % 64) [b]:=by
   have:=yc x.blk (x.n % 64) b [] (by omega)
   rw [<- this];unfold uY;simp
  unfold Str.uE;rw [e]
  by_cases h:x.n % 64=63
  ·rw [if_pos h,if_pos (by simp;omega)];rfl
  ·rw [if_neg h,if_neg (by simp;omega)];rfl
 |b::c::bs,x,_,hl,hle=>by
  have hlt:x.n % 64+1<64:=by simp at hle;omega
  show (x.uE b).add (c::bs)=_
  have e1:x.uE b=⟨x.s,x.blk.set (x.n % 64) b,x.n+1⟩:=by unfold Str.uE;rw [if_neg (by omega)]
  have hm:(x.n+1) % 64=x.n % 64+1:=by omega
  rw [e1,xN (c::bs) _ (by simp) (by simpa using hl) (by simp at hle ⊢;omega)];simp only [hm];rw [yc _ _ _ _ (by omega)];have e2:x.n % 64+1+(c::bs).length=x.n % 64+(b::c::bs).length:=by simp;omega
  have e3:x.n+1+(c::bs).length=x.n+(b::c::bs).length:=by simp;omega
  rw [e2,e3]
def sB(x:ByteArray):List Int:=x.data.toList.map fun b=>(b.toNat:Int)
theorem ur(x:ByteArray):bU x=(sB x).map Y:=by
 unfold bU sB;rw [List.map_map];rfl
theorem ui(x:ByteArray):(sB x).length=x.size:=by
 unfold sB;rw [List.length_map,Array.length_toList];rfl
theorem zb(x:ByteArray):(!(x.toList==(⟨#[]⟩:ByteArray).toList))=decide (x.size≠0):=by
 rw [ByteArray.toList_eq,ByteArray.toList_eq];have h:x.data.toList.length=x.size:=rfl;generalize x.data.toList=l at h;rw [<- h];cases l <;> rfl
theorem xI(x:ByteArray):ti (sB x):=fun b hb=>by
 obtain ⟨u,_,rfl⟩:=List.mem_map.1 hb
 have:=u.toNat_lt
 omega
theorem AI(x:ByteArray)(k:Nat)(_:k<=x.size):sB (x.extract k x.size)=(sB x).drop k:=by
 unfold sB;rw [ByteArray.data_extract,Array.toList_extract, <-List.map_drop];have e:x.data.toList.extract k x.size=x.data.toList.drop k:=by
  unfold List.extract;refine List.take_of_length_le ?_;rw [List.length_drop,Array.length_toList];exact Nat.le_refl _
 rw [e]
theorem zA{f:Int->T}: ∀(ws:List Int) (n:Nat) (r:List T),ws.length=n->chunk 1 n (ws.map f++r)=ws.map f
 |[],0,_,_=>rfl
 |x::ws,n+1,r,h=>by
  show f x::chunk 1 n (ws.map f++r)=f x::ws.map f
  rw [zA ws n r (by simpa using h)]
 |x::ws,0,_,h=>by simp at h
 |[],n+1,_,h=>by simp at h
theorem Cf(x:Str)(a:Nat)(vs:List Int)(ha:a+vs.length<=x.blk.length):aP x.cells (8+a) vs.length (vs.map Y)=x.s.list.map W++((uY x.blk a vs).map Y++[Q x.n]):=by
 unfold aP uY;have h8:(x.s.list.map W).length=8:=rfl;rw [List.take_append,h8,List.take_of_length_le (by rw [h8];omega),show 8+a - 8=a by omega,List.take_append_of_le_length (by simp;omega)];rw [List.drop_append,h8,List.drop_eq_nil_of_le (by rw [h8];omega),List.nil_append,show 8+a+vs.length - 8=a+vs.length by omega,List.drop_append_of_le_length (by simp;omega)];simp [List.append_assoc]
theorem yG(x:Str)(hl:x.blk.length=64)(d:T):x.cells[0+72]?.getD d=Q x.n:=by
 show (x.s.list.map W++(x.blk.map Y++[Q x.n]))[72]?.getD d=_
 have h8:(x.s.list.map W).length=8:=rfl;rw [List.getElem?_append_right (by rw [h8];omega),h8,List.getElem?_append_right (by simp [hl])];simp [hl]
theorem Fp(x:Str)(hl:x.blk.length=64)(m:Nat):x.cells.set (0+72) (Q m)=Str.cells ⟨x.s,x.blk,m⟩:=by
 have h8:(x.s.list.map W).length=8:=rfl;show (x.s.list.map W++(x.blk.map Y++[Q x.n])).set 72 (Q m)=x.s.list.map W++(x.blk.map Y++[Q m])
 rw [List.set_append,if_neg (by rw [h8];omega),h8,List.set_append,if_neg (by simp [hl])];simp [hl]
theorem C6(x:Str)(hl:x.blk.length=64):chunk 1 64 (x.cells.drop (0+8))=x.blk.map Y:=zA x.blk 64 _ hl
theorem uc(x:Str)(hl:x.blk.length=64):x.cells.length=73:=by
 simp [Str.cells,V8.list,hl]
theorem AO(x0:Str)(text0:ByteArray)(hx:x0.blk.length=64)(hn:x0.n+text0.size<2^62):DCalls Tryz.prog 56 [x0.T,.str text0] (x0.add (sB text0)).T:=by
 refine dl2 mixed [.cell 4 98] [.agg _] Tryz.func56 l56 ?_
 repeat' ((conv=>whnf);first|(refine And.intro (by first|exact uc x0 hx) ?_)|fail)
 refine sa 0 (α:=Str×ByteArray) (β:=Unit) (fun q=>{sl:=[(1,.t (.str q.2)),(2,.ptr 2 0),(4,.ptr 4 0)],bx:=[(2,.d 73 q.1.cells),(4,.d 73 (List.replicate 8 (W 0)++(List.replicate 64 (Y 0)++[Q 0])))]})
  (fun q=>q.1.blk.length=64/\q.1.n+q.2.size<2^62/\q.1.add (sB q.2)=x0.add (sB text0)) (fun q=>q.2.size) (fun _=>{sl:=[(2,.ptr 2 0),(4,.ptr 4 0)],bx:=[(2,.d 73 (x0.add (sB text0)).cells),(4,.d 73 (List.replicate 8 (W 0)++(List.replicate 64 (Y 0)++[Q 0])))]}) (fun _=>True) (x0,text0) ⟨hx,hn,rfl⟩ ?_ ?_ ?_
 ·repeat' (first|exact wJ|refine And.intro ?_ ?_)
 ·rintro ⟨x,text⟩ ⟨h1,h2,h3⟩;dsimp only at h1 h2 h3;have hsz:=ui text
  by_cases he:text.size=0
  ·have pz:sB text=[]:=List.eq_nil_of_length_eq_zero (by omega)
   repeat' ((conv=>whnf);first|refine nb_ false (by rw [zb,decide_eq_false (by simpa using he)]) ?_|refine aS ?_|fail)
   exact ⟨(),trivial,by repeat' (first|(refine s8 (by rw [<- h3,pz];rfl))|exact wJ|refine And.intro ?_ ?_)⟩
  ·have hat:x.n % 64<64:=Nat.mod_lt _ (by decide);have m1:((x.n:Int).tmod 64)=(x.n % 64:Nat):=rfl;have w1:IntKind.i64.wrap ((x.n % 64:Nat):Int)=(x.n % 64:Nat):=by simp (disch:=omega) only [np]
   have hcl:=uc x h1;generalize hk:Nat.min text.size (64 - x.n % 64)=k;have hk1:k<=text.size:=by rw [<- hk];exact Nat.min_le_left _ _
   have hk2:k<=64 - x.n % 64:=by rw [<- hk];exact Nat.min_le_right _ _
   have hk0:0<k:=by rw [<- hk];exact Nat.lt_min.2 ⟨by omega,by omega⟩
   generalize hb':uY x.blk (x.n % 64) ((sB text).take k)=blk'
   repeat' ((conv=>whnf);first|refine nb_ true (by rw [zb,decide_eq_true (by simpa using he)]) ?_|(refine nv_ (Q x.n) (by first|exact yG x h1 _) ?_)|(refine And.intro (by first|(omega;done)|fail) ?_)|refine aS ?_|fail)
   refine sO (β:=Unit) (fun _=>{sl:=[(1,.t (.str text)),(2,.ptr 2 0),(4,.ptr 4 0),(5,.t (I (x.n % 64:Nat))),(6,.t (I k))],bx:=[(2,.d 73 (x.s.list.map W++(blk'.map Y++[Q x.n]))),(4,.d 73 (List.replicate 8 (W 0)++(List.replicate 64 (Y 0)++[Q 0])))]}) (fun _=>True) ?_ ?_
   ·have hbl:(bU text).length=text.size:=by rw [ur,List.length_map,hsz]
    have hv:((64:Nat):Int).toNat - (IntKind.i64.wrap ((x.n:Int).tmod 64)).toNat=64 - x.n % 64:=by rw [m1,w1];omega
    have fF:(bU text).all T.one=true:=by
     rw [List.all_eq_true,ur];exact E9 (fun _=>rfl) _
    repeat' ((conv=>whnf);first|(refine And.intro (by first|((rw [m1,w1];omega);done)|(exact ⟨by rw [m1,w1];omega,fF⟩;done)|fail) ?_)|fail)
    refine ⟨(),trivial,?_⟩
    repeat' (first|((refine leI ?_;dsimp only;rw [hbl,hv,hk];done))|((refine leI ?_;rw [m1,w1];done))|exact wJ|refine s8 ?_|refine And.intro ?_ ?_)
    rw [hbl,hv,hk,m1,w1,ur, <-List.map_take, <-hb'];have hp:=Cf x (x.n % 64) ((sB text).take k) (by rw [List.length_take,hsz,h1];omega);rw [List.length_take,hsz,Nat.min_eq_left hk1] at hp;rw [<- hp];show _=aP x.cells (0+8+(x.n % 64) * 1) k _
    rw [show 0+8+x.n % 64 * 1=8+x.n % 64 by omega]
   rintro - -;have hbl:blk'.length=64:=by rw [<- hb'];simp [uY,hsz];omega
   have w2:IntKind.u64.wrap ((x.n:Int)+IntKind.u64.wrap (k:Int))=(x.n+k:Nat):=by
    rw [w64 (n:=(k:Int)) (by omega) (by omega),w64 (by omega) (by omega)];omega
   repeat' ((conv=>whnf);first|(refine And.intro (by first|((simp;omega);done)|fail) ?_)|refine nT_ ?_)
   refine sO (β:=Unit) (fun _=>{sl:=[(1,.t (.str (text.extract k text.size))),(2,.ptr 2 0),(4,.ptr 4 0),(5,.t (I (x.n % 64:Nat))),(6,.t (I k))],bx:=[(2,.d 73 (Str.cells ⟨x.s,blk',x.n+k⟩)),(4,.d 73 (List.replicate 8 (W 0)++(List.replicate 64 (Y 0)++[Q 0])))]}) (fun _=>True) ?_ ?_
   ·repeat' ((conv=>whnf);first|(refine nv_ (Q x.n) (by first|exact yG ⟨x.s,blk',x.n⟩ hbl _) ?_)|refine aS ?_|fail)
    refine ⟨(),trivial,?_⟩
    repeat' (first|exact wJ|refine s8 ?_|refine And.intro ?_ ?_)
    rw [w2];exact (Fp ⟨x.s,blk',x.n⟩ hbl (x.n+k)).symm
   rintro - -;have pj:=xN ((sB text).take k) x (by intro h;have:=congrArg List.length h;rw [List.length_take,hsz,Nat.min_eq_left hk1] at this;exact absurd this (by simp;omega)) h1 (by rw [List.length_take];omega);rw [List.length_take,hsz,Nat.min_eq_left hk1,hb'] at pj;have iK:(x.add ((sB text).take k)).add (sB (text.extract k text.size))=x0.add (sB text0):=by
    rw [AI text k hk1, <-h3];unfold Str.add;rw [<- List.foldl_append,List.take_append_drop]
   have hes:(text.extract k text.size).size=text.size - k:=by simp [ByteArray.size_extract]
   have w3:IntKind.i64.wrap (((x.n % 64:Nat):Int)+(k:Int))=(x.n % 64+k:Nat):=by simp (disch:=omega) only [np];omega
   by_cases hf:x.n % 64+k=64
   ·rw [if_pos hf] at pj;rw [pj] at iK
    repeat' ((conv=>whnf);first|(refine ry (by rw [w3,hf];rfl) ?_)|(refine nv_ (.agg (x.s.list.map W)) (by first|(rfl;done)|fail) ?_)|(refine ⟨_,(by rw [C6 ⟨x.s,blk',x.n+k⟩ hbl];exact AQ x.s blk' hbl),rfl,?_⟩)|refine aS ?_|fail)
    refine ⟨(⟨cpr x.s blk',blk',x.n+k⟩,text.extract k text.size),⟨hbl,by dsimp only;rw [hes];omega,iK⟩,by dsimp only;rw [hes];omega,?_⟩
    repeat' (first|exact wJ|refine And.intro ?_ ?_)
   ·rw [if_neg hf] at pj;rw [pj] at iK
    repeat' ((conv=>whnf);first|(refine rv (by rw [w3];omega) ?_)|refine aS ?_|fail)
    refine ⟨(⟨x.s,blk',x.n+k⟩,text.extract k text.size),⟨hbl,by dsimp only;rw [hes];omega,iK⟩,by dsimp only;rw [hes];omega,?_⟩
    repeat' (first|exact wJ|refine And.intro ?_ ?_)
 rintro - -;have hbl:=(uG (sB text0) x0).1;rw [hx] at hbl;generalize x0.add (sB text0)=y at hbl
 repeat' ((conv=>whnf);first|(refine And.intro (by first|exact uc y hbl|exact ⟨uc y hbl,by decide⟩) ?_)|refine rt ?_ trivial)
 exact congrArg T.agg (tF rfl)
end Go.RC
end
section
namespace Go.RC
open Go Go.DL Go.Proofs
attribute [local irreducible] rr
theorem tW: ∀l:List Int,jE (l.map Y)
 |[]=>trivial
 |_::l=>tW l
theorem uy(l:List Int)(h:ti l):sB (nQ (l.map Y))=l:=by
 unfold sB nQ;simp only [List.map_map];refine (List.map_congr_left (g:=id) fun b hb=>?_).trans (List.map_id l);obtain ⟨h0,h1⟩:=h b hb;show (((UInt8.ofNat b.toNat).toNat:Nat):Int)=b
 rw [UInt8.toNat_ofNat',Nat.mod_eq_of_lt (by omega)];omega
theorem xO(n:Nat):ti (tail n):=by
 intro b hb;have u8: ∀x:Int,0<=IntKind.u8.wrap x/\IntKind.u8.wrap x<256:=fun x=>by
  unfold IntKind.wrap;simp [IntKind.bits,IntKind.signed];omega
 unfold tail at hb;rcases List.mem_cons.1 hb with rfl|hb
 ·omega
 rcases List.mem_append.1 hb with hb|hb
 ·rw [List.eq_of_mem_replicate hb];omega
 ·obtain ⟨i,_,rfl⟩:=List.mem_map.1 hb;exact u8 _
theorem FG{f:Int->T}{ws:List Int}{r:List T}{k':Nat}{d:T}(k:Nat)(e:k'=k)(h:k<ws.length):(ws.map f++r)[k']?.getD d=f (ws.getD k 0):=by
 rw [e,List.getElem?_append_left (by simpa using h)];exact B9 h
def S0:Str:=⟨V0,List.replicate 64 0,0⟩
theorem DF:DCalls Tryz.prog 55 [] S0.T:=by
 refine dl2 mixed [.cell 0 98] [.agg _] Tryz.func55 l55 ?_
 repeat' ((conv=>whnf);first|refine aS ?_|exact trivial)
theorem Fv(x:Str)(hx:x.blk.length=64)(hn:x.n<2^60):DCalls Tryz.prog 57 [x.T] (.agg ((dig (x.add (tail x.n)).s).map Y)):=by
 refine dl2 mixed [.cell 2 101] [.agg _] Tryz.func57 l57 ?_;have hcl:=uc x hx;have hz:=(uP x.n).2;have hb8:IntKind.u64.wrap (8 * (x.n:Int))=uQ x.n:=by unfold uQ;rw [w64 (n:=(x.n:Int)) (by omega) (by omega)]
 have hwn:IntKind.i64.wrap (x.n:Int)=x.n:=by simp (disch:=omega) only [np]
 unfold Str.T;generalize hcs:x.cells=cs at hcl;have h72: ∀d,cs[0+72]?.getD d=Q x.n:=fun d=>by rw [<- hcs];exact yG x hx d
 repeat' ((conv=>whnf);first|(refine nv_ (Q x.n) (by first|exact h72 _) ?_)|(refine And.intro (by first|exact hcl|(omega;done)|fail) ?_)|refine aS ?_|fail)
 refine sa 0 (α:=Nat×Nat) (β:=Nat) (fun q=>{sl:=[(1,.ptr 1 0),(2,.ptr 2 0),(3,.t (Q (uQ x.n))),(4,.own q.1 5 1 ((128::List.replicate q.2 0).map Y))],bx:=[(1,.d 73 cs),(2,.d 32 z32)]})
  (fun q=>q.2<=zer x.n) (fun q=>zer x.n - q.2) (fun q=>{sl:=[(1,.ptr 1 0),(2,.ptr 2 0),(3,.t (Q (uQ x.n))),(4,.own q 5 1 ((128::List.replicate (zer x.n) 0).map Y))],bx:=[(1,.d 73 cs),(2,.d 32 z32)]}) (fun _=>True) (11,0) (by simp) ?_ ?_ ?_
 ·repeat' (first|((refine leT ?_;rw [hb8];done))|exact wJ|refine And.intro ?_ ?_)
 ·rintro ⟨q,z⟩ hzz;dsimp only at hzz;have hlen:((((128::List.replicate z 0):List Int).map Y).length:Int)=z+1:=by simp
  have hw:IntKind.i64.wrap ((x.n:Int)+(z+1))=x.n+(z+1):=by simp (disch:=omega) only [np]
  rcases Nat.lt_or_ge z (zer x.n) with h|h
  ·have hne:(IntKind.i64.wrap (IntKind.i64.wrap (x.n:Int)+((((128::List.replicate z 0):List Int).map Y).length:Int))).tmod 64≠56:=by
    have:=BB x.n z h
    rw [hwn,hlen,hw,Int.tmod_eq_emod_of_nonneg (by omega)];omega
   repeat' ((conv=>whnf);first|(refine nv_ (Q x.n) (by first|exact h72 _) ?_)|refine sW hne ?_|(refine And.intro (by first|(omega;done)|((simp;omega);done)|fail) ?_)|refine aS ?_|fail)
   refine ⟨(22,z+1),by dsimp only;omega,by dsimp only;omega,?_⟩
   repeat' (first|exact wJ|refine s6 ?_|refine And.intro ?_ ?_)
   simp [List.replicate_succ']
  ·have:z=zer x.n:=by omega
   subst this;have heq:(IntKind.i64.wrap (IntKind.i64.wrap (x.n:Int)+((((128::List.replicate (zer x.n) 0):List Int).map Y).length:Int))).tmod 64=56:=by
    have:=(uP x.n).1
    rw [hwn,hlen,hw,Int.tmod_eq_emod_of_nonneg (by omega)];omega
   repeat' ((conv=>whnf);first|(refine nv_ (Q x.n) (by first|exact h72 _) ?_)|refine rz heq ?_|(refine And.intro (by first|(omega;done)|fail) ?_)|refine aS ?_|fail)
   exact ⟨q,trivial,by repeat' (first|exact wJ|refine And.intro ?_ ?_)⟩
 rintro q -
 skip
 refine sa 2 (α:=Nat×Nat) (β:=Nat) (fun q=>{sl:=[(1,.ptr 1 0),(2,.ptr 2 0),(3,.t (Q (uQ x.n))),(4,.own q.1 5 1 ((128::(List.replicate (zer x.n) 0++(List.range q.2).map (ln8 (uQ x.n)))).map Y)),(23,.t (I q.2))],bx:=[(1,.d 73 cs),(2,.d 32 z32)]})
  (fun q=>q.2<=8) (fun q=>8 - q.2) (fun q=>{sl:=[(1,.ptr 1 0),(2,.ptr 2 0),(4,.own q 5 1 ((tail x.n).map Y))],bx:=[(1,.d 73 cs),(2,.d 32 z32)]}) (fun _=>True) (q,0) (by simp) ?_ ?_ ?_
 ·repeat' (first|exact wJ|refine s6 ?_|refine And.intro ?_ ?_)
  simp
 ·rintro ⟨q,i⟩ hi;dsimp only at hi;rcases Nat.lt_or_ge i 8 with h|h
  ·repeat' ((conv=>whnf);first|refine aD1 ?_|(refine And.intro (by first|((simp (disch:=omega) only [np];omega);done)|((simp;omega);done)|fail) ?_)|refine aS ?_|fail)
   refine ⟨(34,i+1),by dsimp only;omega,by dsimp only;omega,?_⟩
   repeat' (first|exact wJ|refine s6 ?_|refine And.intro ?_ ?_)
   have e1:IntKind.i64.wrap (8 * (i:Int))=8 * i:=by simp (disch:=omega) only [np]
   have e2:IntKind.i64.wrap (56 - 8 * (i:Int))=56 - 8 * i:=by simp (disch:=omega) only [np]
   have e3:min ((56:Int) - 8 * i).toNat IntKind.u64.bits=56 - 8 * i:=by
    rw [show IntKind.u64.bits=64 from rfl];omega
   rw [e1,e2,e3];simp [List.range_succ,ln8]
  ·have:i=8:=by omega
   subst this
   repeat' ((conv=>whnf);first|refine aD0 ?_|refine aS ?_|fail)
   exact ⟨q,trivial,by repeat' (first|exact wJ|refine And.intro ?_ ?_)⟩
 rintro q -;have htl:=zm x.n;have hsb:=uy (tail x.n) (xO x.n);have hss:(nQ ((tail x.n).map Y)).size=9+zer x.n:=by rw [<- ui,hsb,htl]
 have pj:=AO x (nQ ((tail x.n).map Y)) hx (by rw [hss];omega);rw [hsb] at pj;have hyl:=(uG (tail x.n) x).1;rw [hx] at hyl;generalize x.add (tail x.n)=y at pj hyl;have Ee:=uc y hyl;have ha8:=tW (tail x.n);generalize GO:(tail x.n).map Y=pad at pj ha8;unfold Str.T at pj;rw [hcs] at pj
 repeat' ((conv=>whnf);first|refine sV _ (pj) ?_|(refine And.intro (by first|exact hcl|exact ha8|exact ⟨Ee,by simp []⟩|((simp [Ee];done);done)|fail) ?_)|refine nT_ ?_)
 refine sa 4 (α:=Nat) (β:=Unit) (fun i=>{sl:=[(1,.ptr 1 0),(2,.ptr 2 0),(6,.ptr 6 0),(40,.t (I i))],bx:=[(1,.d 73 y.cells),(2,.d 32 z32),(6,.d 32 ((DJ y.s.list i).map Y))]})
  (fun i=>i<=32) (fun i=>32 - i) (fun _=>{sl:=[(2,.ptr 2 0),(6,.ptr 6 0)],bx:=[(2,.d 32 z32),(6,.d 32 ((DJ y.s.list 32).map Y))]}) (fun _=>True) 0 (by omega) ?_ ?_ ?_
 ·repeat' (first|exact wJ|refine s8 ?_|refine And.intro ?_ ?_)
  exact (tF hcl).symm
 ·intro i hi;rcases Nat.lt_or_ge i 32 with h2|h2
  ·have hR:DJ y.s.list (i+1)=(DJ y.s.list i).set i (dgB y.s.list i):=rfl;have hl:=wa y.s.list i;generalize DJ y.s.list i=cur at hR hl;have hsl:y.s.list.length=8:=rfl;unfold dgB at hR;have q1:(i:Int).tdiv 4=(i / 4:Nat):=rfl;have q2:(i:Int).tmod 4=(i % 4:Nat):=rfl;have w1:IntKind.i64.wrap ((i / 4:Nat):Int)=(i / 4:Nat):=by simp (disch:=omega) only [np]
   have w2:IntKind.i64.wrap (8 * ((i % 4:Nat):Int))=(8 * (i % 4):Nat):=by simp (disch:=omega) only [np];omega
   have w3:IntKind.i64.wrap (24 - ((8 * (i % 4):Nat):Int))=(24 - 8 * (i % 4):Nat):=by simp (disch:=omega) only [np];omega
   repeat' ((conv=>whnf);first|(refine nv_ (W (y.s.list.getD (i / 4) 0)) (by first|(exact FG (i / 4) (by rw [q1,w1];omega) (by omega);done)|fail) ?_)|refine aD1 ?_|(refine And.intro (by first|(omega;done)|((rw [q1,w1];omega);done)|((rw [q2,w2,w3];omega);done)|fail) ?_)|refine aS ?_|fail)
   refine ⟨i+1,by omega,by omega,?_⟩
   repeat' (first|exact wJ|refine s8 ?_|refine And.intro ?_ ?_)
   rw [hR, <-pI];rw [q2,w2,w3];have w4:min (((24 - 8 * (i % 4):Nat):Int).toNat) IntKind.u32.bits=24 - 8 * (i % 4):=by
    rw [show IntKind.u32.bits=32 from rfl];omega
   rw [w4];simp only [Int.toNat_natCast,Nat.zero_add,Nat.mul_one]
  ·have:i=32:=by omega
   subst this
   repeat' ((conv=>whnf);first|refine aD0 ?_|refine aS ?_|fail)
   exact ⟨(),trivial,by repeat' (first|exact wJ|refine And.intro ?_ ?_)⟩
 rintro - -;rw [CB];have hdl:(dig y.s).length=32:=by simp [dig]
 generalize dig y.s=ds at hdl
 repeat' ((conv=>whnf);first|(refine And.intro (by first|exact ⟨by simpa using hdl,by decide⟩|(simpa using hdl;done)|fail) ?_)|refine rt ?_ trivial)
 exact congrArg T.agg (tF rfl)
end Go.RC
end
noncomputable section
namespace Go.RC
open Go Go.DL Go.Proofs
def c20:aV:=(sr [oo 2 (.mov (.const .nil))] (sr [mv 5 0,oo 6 (.conv .u64 (tm 5)),oo 7 (.bin .shl (tm 6) (.const (.int .u64 1))),mv 8 0,oo 9 (.bin .shr (tm 8) (.const (.int .u64 63))),oo 10 (.conv .u64 (tm 9)),oo 11 (.bin .xor (tm 7) (tm 10)),mv 3 11] (sr [oo 4 (.mov (.const .nil))] (.seq (.block 0 (.loop (.seq (sr [mv 12 3,oo 13 (.bin .gtr (tm 12) (.const (.int .u64 127)))] (.cond (tm 13) .skip (.exit 0))) (.seq (.block 1 (rg [mv 16 4,mv 17 3,oo 18 (.conv .u8 (tm 17)),oo 19 (.bin .or (tm 18) (.const (Ui 128))),oo 20 (.buildF 1 1 [(Ui 0)] [(0,(tm 19))]),oo 21 (.append 23 5 1 1 (tm 16) (tm 20)),mv 4 21])) (rg [mv 14 3,oo 15 (.bin .shr (tm 14) (.const (.int .u64 7))),mv 3 15]))))) (sr [mv 22 4,mv 23 3,oo 24 (.conv .u8 (tm 23)),oo 25 (.buildF 1 1 [(Ui 0)] [(0,(tm 24))]),oo 26 (.append 23 5 1 1 (tm 22) (tm 25)),mv 2 26] .ret)))))
theorem l20:(Tryz.f20.body.bind (bp Tryz.prog 27 [8000020,8000025]))=some c20:=by kernel_rfl
def c22:aV:=(sr [oo 2 (.mov (.const .nil))] (sr [mv 3 0,oo 4 (.lenS (tm 3)),oo 5 (.inl 20 [tm 4]),mv 6 0,oo 7 (.append 23 5 1 1 (tm 5) (tm 6)),mv 2 7] .ret))
theorem l22:(Tryz.f22.body.bind (bp Tryz.prog 8 [20]))=some c22:=by kernel_rfl
def c48:aV:=(sr [oo 4 (.mov (.const .nil))] (sr [mv 8 0,ln 9 8,oo 10 (.inl 20 [tm 9]),mv 5 10] (.seq (sr [mv 11 0,ln 12 11,oo 13 (.mov (Kc 0))] (.block 0 (.loop (sr [oo 14 (.bin .lss (tm 13) (tm 12))] (.seq (.cond (tm 14) .skip (.exit 0)) (.seq (.block 1 (sr [ix 15 1 11 13,ld 16 15,mv 7 16] (rg [mv 17 5,mv 18 1,mv 19 7,oo 20 (.bV (tm 18) [tm 19]),oo 21 (.append 23 5 1 1 (tm 17) (tm 20)),mv 5 21]))) (rg [oo 22 (.bin .add (tm 13) (Kc 1)),mv 13 22]))))))) (sr [mv 23 5,mv 4 23] .ret))))
theorem l48:(Tryz.f48.body.bind (bp Tryz.prog 24 [20]))=some c48:=by kernel_rfl
def c23:aV:=(sr [oo 2 (.mov (.const .nil))] (sr [mv 3 0,oo 4 (.inl 48 [(tm 3),(.const (.clos 20 []))]),mv 2 4] .ret))
theorem l23:(Tryz.f23.body.bind (bp Tryz.prog 5 [48]))=some c23:=by kernel_rfl
def c24:aV:=(sr [oo 2 (.mov (Kc 0)),oo 3 (.mov (Kc 0)),oo 4 (.mov (Kc 0))] (sr [oo 5 (.mov (.const (.int .u64 0)))] (sr [oo 6 (.mov (Kc 0))] (.seq .skip (.seq (sr [mv 9 0,ln 10 9,oo 11 (.mov (Kc 0))] (.block 0 (.loop (sr [oo 12 (.bin .lss (tm 11) (tm 10))] (.seq (.cond (tm 12) .skip (.exit 0)) (.seq (.block 1 (sr [mv 13 11,ix 14 1 9 11,ld 15 14,mv 7 13,mv 8 15] (.seq (.block 2 (.seq (sr [mv 25 7,oo 26 (.bin .eql (tm 25) (Kc 9)),mv 27 26,mT 28 8 27,oT 29 27 (.bin .gtr (tm 28) (.const (Ui 1))),oo 30 (.pick (tm 27) (tm 29) kF),mv 24 30] (.cond (tm 24) .skip (rg [mv 31 7,oo 32 (.bin .gtr (tm 31) (Kc 0)),mv 33 32,mT 34 8 33,oT 35 33 (.bin .eql (tm 34) (.const (Ui 0))),oo 36 (.pick (tm 33) (tm 35) kF),mv 24 36]))) (.cond (tm 24) (sr [oo 2 (.mov (Kc 0)),oo 3 (.mov (Kc 0)),oo 4 (.mov (Kc 6))] .ret) (rg [mv 16 5,mv 17 8,oo 18 (.bin .and (tm 17) (.const (Ui 127))),oo 19 (.conv .u64 (tm 18)),mv 20 7,oo 21 (.bin .mul (Kc 7) (tm 20)),oo 22 (.bin .shl (tm 19) (tm 21)),oo 23 (.bin .or (tm 16) (tm 22)),mv 5 23])))) (sr [mv 37 8,oo 38 (.bin .lss (tm 37) (.const (Ui 128)))] (.cond (tm 38) (sr [mv 39 7,oo 40 (.bin .add (tm 39) (Kc 1)),mv 6 40] (.exit 0)) .skip))))) (rg [oo 41 (.bin .add (tm 11) (Kc 1)),mv 11 41]))))))) (.seq (sr [mv 42 6,oo 43 (.bin .eql (tm 42) (Kc 0))] (.cond (tm 43) (sr [oo 2 (.mov (Kc 0)),oo 3 (.mov (Kc 0)),oo 4 (.mov (Kc 5))] .ret) .skip)) (sr [mv 44 5,oo 45 (.bin .shr (tm 44) (.const (.int .u64 1))),oo 46 (.conv .i64 (tm 45)),mv 47 5,oo 48 (.bin .and (tm 47) (.const (.int .u64 1))),oo 49 (.conv .i64 (tm 48)),oo 50 (.neg (tm 49)),oo 51 (.bin .xor (tm 46) (tm 50)),mv 52 6,mv 2 51,mv 3 52,oo 4 (.mov (Kc 0))] .ret)))))))
theorem l24:(Tryz.f24.body.bind (bp Tryz.prog 53 []))=some c24:=by kernel_rfl
def c49:aV:=(sr [oo 4 (.mov (Kc 0)),oo 5 (.mov (Kc 0)),oo 6 (.mov (Kc 0))] (sr [mv 11 0,oo 12 (.call 24 [tm 11]),mv 10 12,oo 13 (.ext (tm 10) 0),oo 14 (.ext (tm 10) 1),oo 15 (.ext (tm 10) 2),mv 7 13,mv 8 14,mv 9 15] (.seq (.block 0 (sr [mv 17 9,oo 18 (.bin .neq (tm 17) (Kc 0)),mv 16 18] (.cond (tm 16) (sr [mv 19 9,oo 4 (.mov (Kc 0)),oo 5 (.mov (Kc 0)),mv 6 19] .ret) (sr [mv 21 7,oo 22 (.bin .lss (tm 21) (Kc 0)),mv 20 22] (.cond (tm 20) (sr [oo 4 (.mov (Kc 0)),oo 5 (.mov (Kc 0)),oo 6 (.mov (Kc 6))] .ret) (sr [mv 24 7,mv 25 0,ln 26 25,mv 27 8,oo 28 (.bin .sub (tm 26) (tm 27)),mv 29 1,oo 30 (.bin .quo (tm 28) (tm 29)),oo 31 (.bin .gtr (tm 24) (tm 30)),mv 23 31] (.cond (tm 23) (sr [oo 4 (.mov (Kc 0)),oo 5 (.mov (Kc 0)),oo 6 (.mov (Kc 5))] .ret) .skip))))))) (sr [mv 32 7,mv 33 8,mv 4 32,mv 5 33,oo 6 (.mov (Kc 0))] .ret))))
theorem l49:(Tryz.f49.body.bind (bp Tryz.prog 34 []))=some c49:=by kernel_rfl
def c50:aV:=(sr [oo 6 (.mov (.const .nil)),oo 7 (.mov (Kc 0)),oo 8 (.mov (Kc 0))] (sr [mv 17 0,mv 18 1,oo 19 (.call 49 [(tm 17),(tm 18)]),mv 16 19,oo 20 (.ext (tm 16) 0),oo 21 (.ext (tm 16) 1),oo 22 (.ext (tm 16) 2),mv 9 20,mv 10 21,mv 11 22] (.seq (sr [mv 23 11,oo 24 (.bin .neq (tm 23) (Kc 0))] (.cond (tm 24) (sr [mv 25 11,oo 6 (.mov (.const .nil)),oo 7 (.mov (Kc 0)),mv 8 25] .ret) .skip)) (sr [oo 12 (.mov (.const .nil))] (.seq (sr [mv 26 9,oo 27 (.mov (Kc 0))] (.block 0 (.loop (sr [oo 28 (.bin .lss (tm 27) (tm 26))] (.seq (.cond (tm 28) .skip (.exit 0)) (.seq (.block 1 (sr [mv 30 2,mv 31 0,mv 32 10,oo 33 (.slice 1 (tm 31) (some (tm 32)) none),oo 34 (.bV (tm 30) [tm 33]),mv 29 34,oo 35 (.ext (tm 29) 0),oo 36 (.ext (tm 29) 1),oo 37 (.ext (tm 29) 2),mv 13 35,mv 14 36,mv 15 37] (.seq (sr [mv 38 15,oo 39 (.bin .neq (tm 38) (Kc 0))] (.cond (tm 39) (sr [mv 40 15,oo 6 (.mov (.const .nil)),oo 7 (.mov (Kc 0)),mv 8 40] .ret) .skip)) (rg [mv 41 12,mv 42 13,oo 43 (.buildF 1 1 [Z0] [(0,(tm 42))]),oo 44 (.append 38 3 1 8 (tm 41) (tm 43)),mv 45 10,mv 46 14,oo 47 (.bin .add (tm 45) (tm 46)),mv 12 44,mv 10 47])))) (rg [oo 48 (.bin .add (tm 27) (Kc 1)),mv 27 48]))))))) (sr [mv 49 12,mv 50 10,mv 6 49,mv 7 50,oo 8 (.mov (Kc 0))] .ret))))))
theorem l50:(Tryz.f50.body.bind (bp Tryz.prog 51 [8000043]))=some c50:=by kernel_rfl
def c26:aV:=(sr [oo 2 (.mov (.const .nil)),oo 3 (.mov (Kc 0)),oo 4 (.mov (Kc 0))] (sr [mv 5 0,oo 6 (.call 50 [(tm 5),(Kc 1),(.const (.clos 24 []))]),oo 7 (.ext (tm 6) 0),oo 8 (.ext (tm 6) 1),oo 9 (.ext (tm 6) 2),mv 2 7,mv 3 8,mv 4 9] .ret))
theorem l26:(Tryz.f26.body.bind (bp Tryz.prog 10 []))=some c26:=by kernel_rfl
def c30:aV:=(sr [oo 2 (.mov (.const .nil))] (sr [mv 5 0,oo 6 (.conv .u64 (tm 5)),oo 7 (.bin .mul (tm 6) (.const (.int .u64 2))),mv 3 7] (.seq (.cut (sr [mv 8 0,oo 9 (.bin .lss (tm 8) (Kc 0))] (.cond (tm 9) (rg [mv 10 0,oo 11 (.bin .sub (.const (.int .i64 (-1))) (tm 10)),oo 12 (.conv .u64 (tm 11)),oo 13 (.bin .mul (tm 12) (.const (.int .u64 2))),oo 14 (.bin .add (tm 13) (.const (.int .u64 1))),mv 3 14]) .skip))) (sr [oo 4 (.mov (.const .nil))] (.seq (.block 0 (.loop (.seq (sr [mv 15 3,oo 16 (.bin .geq (tm 15) (.const (.int .u64 128)))] (.cond (tm 16) .skip (.exit 0))) (.block 1 (sr [mv 17 4,mv 18 3,oo 19 (.bin .rem (tm 18) (.const (.int .u64 128))),oo 20 (.conv .u8 (tm 19)),oo 21 (.bin .add (tm 20) (.const (Ui 128))),oo 22 (.buildF 1 1 [(Ui 0)] [(0,(tm 21))]),oo 23 (.append 23 5 1 1 (tm 17) (tm 22)),mv 4 23] (rg [mv 24 3,oo 25 (.bin .quo (tm 24) (.const (.int .u64 128))),mv 3 25])))))) (sr [mv 26 4,mv 27 3,oo 28 (.conv .u8 (tm 27)),oo 29 (.buildF 1 1 [(Ui 0)] [(0,(tm 28))]),oo 30 (.append 23 5 1 1 (tm 26) (tm 29)),mv 2 30] .ret))))))
theorem l30:(Tryz.f30.body.bind (bp Tryz.prog 31 [8000022,8000029,5000002]))=some c30:=by kernel_rfl
def c27:aV:=(sr [oo 2 (.mov (Kc 0)),oo 3 (.mov (Kc 0)),oo 4 (.mov (Kc 0))] (sr [oo 5 (.mov (Kc 0))] (.seq (.block 0 (.loop (.seq (sr [mv 8 5,mv 9 0,ln 10 9,oo 11 (.bin .lss (tm 8) (tm 10)),mv 12 11,mT 13 5 12,oT 14 12 (.bin .lss (tm 13) (Kc 10)),oo 15 (.pick (tm 12) (tm 14) kF),mv 16 15,mT 17 0 16,mT 18 5 16,oT 19 16 (.idxL 1 (tm 17) (tm 18)),oT 20 16 (.load 1 false (tm 19)),oT 21 16 (.bin .geq (tm 20) (.const (Ui 128))),oo 22 (.pick (tm 16) (tm 21) kF)] (.cond (tm 22) .skip (.exit 0))) (.block 1 (rg [mv 23 5,oo 24 (.bin .add (tm 23) (Kc 1)),mv 5 24]))))) (.seq (sr [mv 25 5,oo 26 (.bin .eql (tm 25) (Kc 10))] (.cond (tm 26) (sr [oo 2 (.mov (Kc 0)),oo 3 (.mov (Kc 0)),oo 4 (.mov (Kc 6))] .ret) .skip)) (.seq (sr [mv 27 5,mv 28 0,ln 29 28,oo 30 (.bin .eql (tm 27) (tm 29))] (.cond (tm 30) (sr [oo 2 (.mov (Kc 0)),oo 3 (.mov (Kc 0)),oo 4 (.mov (Kc 5))] .ret) .skip)) (.seq (sr [mv 31 5,oo 32 (.bin .eql (tm 31) (Kc 9)),mv 33 32,mT 34 0 33,mT 35 5 33,oT 36 33 (.idxL 1 (tm 34) (tm 35)),oT 37 33 (.load 1 false (tm 36)),oT 38 33 (.bin .gtr (tm 37) (.const (Ui 1))),oo 39 (.pick (tm 33) (tm 38) kF),mv 40 39,mF 41 5 40,oF 42 40 (.bin .gtr (tm 41) (Kc 0)),mF 43 42 40,mT 44 0 43,mT 45 5 43,oT 46 43 (.idxL 1 (tm 44) (tm 45)),oT 47 43 (.load 1 false (tm 46)),oT 48 43 (.bin .eql (tm 47) (.const (Ui 0))),oF 49 40 (.pick (tm 43) (tm 48) kF),oo 50 (.pick (tm 40) kT (tm 49))] (.cond (tm 50) (sr [oo 2 (.mov (Kc 0)),oo 3 (.mov (Kc 0)),oo 4 (.mov (Kc 6))] .ret) .skip)) (sr [oo 6 (.mov (.const (.int .u64 0)))] (.seq (sr [mv 51 5,mv 7 51] (.block 2 (.loop (.seq (sr [mv 52 7,oo 53 (.bin .geq (tm 52) (Kc 0))] (.cond (tm 53) .skip (.exit 2))) (.seq (.block 3 (rg [mv 56 6,oo 57 (.bin .mul (tm 56) (.const (.int .u64 128))),mv 58 0,mv 59 7,ix 60 1 58 59,ld 61 60,oo 62 (.bin .rem (tm 61) (.const (Ui 128))),oo 63 (.conv .u64 (tm 62)),oo 64 (.bin .add (tm 57) (tm 63)),mv 6 64])) (rg [mv 54 7,oo 55 (.bin .sub (tm 54) (Kc 1)),mv 7 55])))))) (.seq (sr [mv 65 6,oo 66 (.bin .rem (tm 65) (.const (.int .u64 2))),oo 67 (.bin .eql (tm 66) (.const (.int .u64 1)))] (.cond (tm 67) (sr [mv 68 6,oo 69 (.bin .quo (tm 68) (.const (.int .u64 2))),oo 70 (.conv .i64 (tm 69)),oo 71 (.bin .sub (.const (.int .i64 (-1))) (tm 70)),mv 72 5,oo 73 (.bin .add (tm 72) (Kc 1)),mv 2 71,mv 3 73,oo 4 (.mov (Kc 0))] .ret) .skip)) (sr [mv 74 6,oo 75 (.bin .quo (tm 74) (.const (.int .u64 2))),oo 76 (.conv .i64 (tm 75)),mv 77 5,oo 78 (.bin .add (tm 77) (Kc 1)),mv 2 76,mv 3 78,oo 4 (.mov (Kc 0))] .ret))))))))))
theorem l27:(Tryz.f27.body.bind (bp Tryz.prog 79 []))=some c27:=by kernel_rfl
def c31:aV:=(sr [oo 2 (.mov (.const .nil))] (sr [mv 3 0,oo 4 (.lenS (tm 3)),oo 5 (.inl 30 [tm 4]),mv 6 0,oo 7 (.append 23 5 1 1 (tm 5) (tm 6)),mv 2 7] .ret))
theorem l31:(Tryz.f31.body.bind (bp Tryz.prog 8 [30]))=some c31:=by kernel_rfl
def c32:aV:=(sr [oo 2 (.mov (.const .nil))] (sr [mv 5 0,ln 6 5,oo 7 (.inl 30 [tm 6]),mv 3 7] (.seq (sr [oo 4 (.mov (Kc 0))] (.block 0 (.loop (.seq (sr [mv 8 4,mv 9 0,ln 10 9,oo 11 (.bin .lss (tm 8) (tm 10))] (.cond (tm 11) .skip (.exit 0))) (.seq (.block 1 (rg [mv 14 3,mv 15 0,mv 16 4,ix 17 1 15 16,ld 18 17,oo 19 (.inl 30 [tm 18]),oo 20 (.append 23 5 1 1 (tm 14) (tm 19)),mv 3 20])) (rg [mv 12 4,oo 13 (.bin .add (tm 12) (Kc 1)),mv 4 13])))))) (sr [mv 21 3,mv 2 21] .ret))))
theorem l32:(Tryz.f32.body.bind (bp Tryz.prog 22 [30]))=some c32:=by kernel_rfl
def c51:aV:=(sr [oo 4 (.mov (Kc 0)),oo 5 (.mov (Kc 0)),oo 6 (.mov (Kc 0))] (sr [mv 11 0,oo 12 (.call 27 [tm 11]),mv 10 12,oo 13 (.ext (tm 10) 0),oo 14 (.ext (tm 10) 1),oo 15 (.ext (tm 10) 2),mv 7 13,mv 8 14,mv 9 15] (.seq (sr [mv 16 9,oo 17 (.bin .neq (tm 16) (Kc 0))] (.cond (tm 17) (sr [mv 18 9,oo 4 (.mov (Kc 0)),oo 5 (.mov (Kc 0)),mv 6 18] .ret) .skip)) (.seq (sr [mv 19 7,oo 20 (.bin .lss (tm 19) (Kc 0))] (.cond (tm 20) (sr [oo 4 (.mov (Kc 0)),oo 5 (.mov (Kc 0)),oo 6 (.mov (Kc 6))] .ret) .skip)) (.seq (sr [mv 21 7,mv 22 0,ln 23 22,mv 24 8,oo 25 (.bin .sub (tm 23) (tm 24)),mv 26 1,oo 27 (.bin .quo (tm 25) (tm 26)),oo 28 (.bin .gtr (tm 21) (tm 27))] (.cond (tm 28) (sr [oo 4 (.mov (Kc 0)),oo 5 (.mov (Kc 0)),oo 6 (.mov (Kc 5))] .ret) .skip)) (sr [mv 29 7,mv 30 8,mv 4 29,mv 5 30,oo 6 (.mov (Kc 0))] .ret))))))
theorem l51:(Tryz.f51.body.bind (bp Tryz.prog 31 []))=some c51:=by kernel_rfl
def c29:aV:=(sr [oo 2 (.mov (.const .nil)),oo 3 (.mov (Kc 0)),oo 4 (.mov (Kc 0))] (sr [mv 14 0,oo 15 (.call 51 [(tm 14),(Kc 1)]),mv 13 15,oo 16 (.ext (tm 13) 0),oo 17 (.ext (tm 13) 1),oo 18 (.ext (tm 13) 2),mv 5 16,mv 6 17,mv 7 18] (.seq (sr [mv 19 7,oo 20 (.bin .neq (tm 19) (Kc 0))] (.cond (tm 20) (sr [mv 21 7,oo 2 (.mov (.const .nil)),oo 3 (.mov (Kc 0)),mv 4 21] .ret) .skip)) (sr [oo 8 (.mov (.const .nil))] (.seq (sr [oo 9 (.mov (Kc 0))] (.block 0 (.loop (.seq (sr [mv 22 9,mv 23 5,oo 24 (.bin .lss (tm 22) (tm 23))] (.cond (tm 24) .skip (.exit 0))) (.seq (.block 1 (sr [mv 28 0,mv 29 6,oo 30 (.slice 1 (tm 28) (some (tm 29)) none),oo 31 (.call 27 [tm 30]),mv 27 31,oo 32 (.ext (tm 27) 0),oo 33 (.ext (tm 27) 1),oo 34 (.ext (tm 27) 2),mv 10 32,mv 11 33,mv 12 34] (.seq (sr [mv 35 12,oo 36 (.bin .neq (tm 35) (Kc 0))] (.cond (tm 36) (sr [mv 37 12,oo 2 (.mov (.const .nil)),oo 3 (.mov (Kc 0)),mv 4 37] .ret) .skip)) (sr [mv 38 8,mv 39 10,oo 40 (.buildF 1 1 [Z0] [(0,(tm 39))]),oo 41 (.append 38 3 1 8 (tm 38) (tm 40)),mv 8 41] (rg [mv 42 6,mv 43 11,oo 44 (.bin .add (tm 42) (tm 43)),mv 6 44]))))) (rg [mv 25 9,oo 26 (.bin .add (tm 25) (Kc 1)),mv 9 26])))))) (sr [mv 45 8,mv 46 6,mv 2 45,mv 3 46,oo 4 (.mov (Kc 0))] .ret))))))
theorem l29:(Tryz.f29.body.bind (bp Tryz.prog 47 [8000040]))=some c29:=by kernel_rfl
end Go.RC
end
section
namespace Go.RC
open Go Go.DL Go.Proofs
def vb(z:Nat):List Int:=if h:z<128 then [(z:Int)] else ((z % 128+128:Nat):Int)::vb (z / 128)
termination_by z
decreasing_by omega
theorem u9{z:Nat}(h:z<128):vb z=[(z:Int)]:=by rw [vb,dif_pos h]
theorem vD{z:Nat}(h: ¬z<128):vb z=((z % 128+128:Nat):Int)::vb (z / 128):=by rw [vb,dif_neg h]
theorem DQ(z:Nat):ti (vb z):=by
 induction z using Nat.strongRecOn with
 |ind z ih=>
  intro b hb
  by_cases h:z<128
  ·rw [u9 h] at hb;rw [List.mem_singleton.1 hb];omega
  ·rw [vD h] at hb;rcases List.mem_cons.1 hb with rfl|hb
   ·omega
   ·exact ih (z / 128) (by omega) b hb
theorem Bx: ∀(k z:Nat),z<128^(k+1)->(vb z).length<=k+1
 |0,z,h=>by rw [u9 (by simpa using h)];simp
 |k+1,z,h=>by
  by_cases h1:z<128
  ·rw [u9 h1];simp
  ·rw [vD h1,List.length_cons]
   have:=Bx k (z / 128) (Nat.div_lt_of_lt_mul (by rw [<- Nat.pow_succ'];exact h))
   omega
def zz(n:Int):Nat:=if 0<=n then (2 * n).toNat else (2 * (-1 - n)+1).toNat
def i64(n:Int):Prop:= -9223372036854775808<=n/\n<9223372036854775808
theorem yD{n:Int}(h:i64 n):zz n<18446744073709551616:=by
 unfold zz;obtain ⟨h1,h2⟩:=h;split <;> omega
def vi(n:Int):List Int:=vb (zz n)
theorem uo(n:Int):ti (vi n):=DQ _
theorem tY{n:Int}(h:i64 n):(vi n).length<=10:=Bx 9 _ (Nat.lt_of_lt_of_le (yD h) (by decide))
theorem Cx{a:Int}(h0:0<=a)(h1:a<18446744073709551616):iF .xor .u64 a 18446744073709551615=18446744073709551615 - a:=by
 obtain ⟨a,rfl⟩:=Int.eq_ofNat_of_zero_le h0;have ha:a<2^64:=by omega
 have e1:(BitVec.ofInt 64 18446744073709551615)=BitVec.allOnes 64:=by decide
 have e2:(BitVec.ofInt 64 ((a:Nat):Int)).toNat=a:=by
  rw [BitVec.ofInt_natCast,BitVec.toNat_ofNat,Nat.mod_eq_of_lt ha]
 show IntKind.u64.wrap ((BitVec.ofInt 64 ((a:Nat):Int) ^^^ BitVec.ofInt 64 18446744073709551615).toNat:Int)=_
 rw [e1,BitVec.xor_allOnes,BitVec.toNat_not,e2,w64 (by omega) (by omega)];omega
theorem xor_zero{a:Int}(h0:0<=a)(h1:a<18446744073709551616):iF .xor .u64 a 0=a:=by
 obtain ⟨a,rfl⟩:=Int.eq_ofNat_of_zero_le h0;have ha:a<2^64:=by omega
 have e2:(BitVec.ofInt 64 ((a:Nat):Int)).toNat=a:=by
  rw [BitVec.ofInt_natCast,BitVec.toNat_ofNat,Nat.mod_eq_of_lt ha]
 show IntKind.u64.wrap ((BitVec.ofInt 64 ((a:Nat):Int) ^^^ BitVec.ofInt 64 0).toNat:Int)=_
 rw [show BitVec.ofInt 64 0=0#64 from rfl,BitVec.xor_zero,e2,w64 (by omega) (by omega)]
theorem wF(n:Int):IntKind.u64.wrap n=n % 18446744073709551616:=by
 unfold IntKind.wrap;simp [IntKind.bits,IntKind.signed]
theorem zig{n:Int}(h:i64 n):iF .xor .u64 (IntKind.u64.wrap (IntKind.u64.wrap n * 2^1)) (IntKind.u64.wrap (n.fdiv (2^63)))=zz n:=by
 obtain ⟨h1,h2⟩:=h;unfold zz;rw [show (2:Int)^1=2 from rfl,show (2:Int)^63=9223372036854775808 from rfl];rw [Int.fdiv_eq_ediv_of_nonneg _ (by decide)]
 by_cases h0:0<=n
 ·rw [if_pos h0,show n / 9223372036854775808=0 by omega,w64 (n:=n) h0 (by omega),w64 (n:=n * 2) (by omega) (by omega),w64 (n:=0) (by omega) (by omega),xor_zero (by omega) (by omega)];omega
 ·rw [if_neg h0,show n / 9223372036854775808= -1 by omega];rw [show IntKind.u64.wrap (-1)=18446744073709551615 from rfl,Cx (by rw [wF];omega) (by rw [wF];omega),wF,wF];omega
theorem Fb: ∀b:Fin 256,iF .or .u8 (b.val:Int) 128=((b.val % 128+128:Nat):Int):=by decide+kernel
theorem DY(z:Nat):iF .or .u8 (IntKind.u8.wrap (z:Int)) 128=((z % 128+128:Nat):Int):=by
 have e:IntKind.u8.wrap (z:Int)=((z % 256:Nat):Int):=by
  unfold IntKind.wrap;simp [IntKind.bits,IntKind.signed]
 have:=Fb ⟨z % 256,Nat.mod_lt _ (by decide)⟩
 dsimp only at this;rw [e,this];omega
theorem flY(xs:List Int): ∀t∈(xs.map Y).flatMap T.cells,t.flat=true:=fun t ht=>by
 obtain ⟨x,hx,ht⟩:=List.mem_flatMap.1 ht;obtain ⟨n,_,rfl⟩:=List.mem_map.1 hx;rw [List.mem_singleton.1 ht];rfl
theorem wX(n:Int)(h:i64 n):eu Tryz.prog 20 [I n] 5 1 ((vi n).map Y) []:=by
 refine rR (rs:=[.tmp 2]) mixed Tryz.func20 l20 rfl rfl rfl (nlZ rfl) ?_;have hz:=yD h;have hl:=tY h;have Ef:=zig h;unfold vi at hl ⊢;generalize zz n=z0 at hz hl Ef
 repeat' ((conv=>whnf);first|refine aS ?_|fail)
 refine sa 0 (α:=Nat×Nat×List Int) (β:=Nat×Nat×List Int) (fun q=>{sl:=[(3,.t (Q q.2.1)),(4,.own q.1 5 1 (q.2.2.map Y))],bx:=[]})
  (fun q=>q.2.1<18446744073709551616/\q.2.2++vb q.2.1=vb z0) (fun q=>q.2.1) (fun q=>{sl:=[(3,.t (Q q.2.1)),(4,.own q.1 5 1 (q.2.2.map Y))],bx:=[]}) (fun q=>q.2.1<128/\q.2.2++vb q.2.1=vb z0) (21,z0,[]) (by dsimp only;exact ⟨hz,rfl⟩) ?_ ?_ ?_
 ·repeat' (first|((refine leT (congrArg Q ?_);rw [<- Ef];rfl))|exact wJ|refine And.intro ?_ ?_)
 ·rintro ⟨q,z,out⟩ ⟨h1,h2⟩;dsimp only at h1 h2;rcases Nat.lt_or_ge z 128 with h|h
  ·repeat' ((conv=>whnf);first|refine aD0 ?_|refine aS ?_|fail)
   exact ⟨(q,z,out),⟨h,h2⟩,by repeat' (first|exact wJ|refine And.intro ?_ ?_)⟩
  ·have e:=vD (z:=z) (by omega);rw [e] at h2;have hol:=congrArg List.length h2;rw [List.length_append,List.length_cons] at hol;have hdiv:(z:Int).fdiv (2^7)=(z / 128:Nat):=by
    rw [Int.fdiv_eq_ediv_of_nonneg _ (by decide)];rfl
   repeat' ((conv=>whnf);first|refine aD1 ?_|(refine And.intro (by first|((simp;omega);done)|fail) ?_)|refine aS ?_|fail)
   refine ⟨(21,z / 128,out++[((z % 128+128:Nat):Int)]),⟨by dsimp only;omega,by simpa using h2⟩,by dsimp only;omega,?_⟩
   repeat' (first|((refine leT (congrArg Q ?_);exact hdiv.symm))|exact wJ|refine s6 ?_|refine And.intro ?_ ?_)
   rw [List.map_append,List.map_singleton, <-DY];rfl
 rintro ⟨q,z,out⟩ ⟨h1,h2⟩;dsimp only at h1 h2;rw [u9 h1] at h2;have hol:=congrArg List.length h2;rw [List.length_append,List.length_singleton] at hol;have e1:IntKind.u8.wrap (z:Int)=z:=w8 (by omega) (by omega);rw [<- h2]
 repeat' ((conv=>whnf);first|(refine And.intro (by first|exact flY _|((simp;omega);done)|fail) ?_)|refine aS ?_|fail)
 refine ⟨_,rfl,.inl ⟨26,congrArg (V.own 26 5 1) ?_⟩⟩;dsimp only;rw [e1,List.map_append];rfl
theorem Dt: ∀b:Fin 128,IntKind.u8.wrap (IntKind.u8.wrap (b.val:Int)+128)=((b.val+128:Nat):Int):=by decide+kernel
theorem GI{n:Int}(h:i64 n):(n<0->IntKind.u64.wrap (IntKind.u64.wrap (IntKind.u64.wrap (IntKind.i64.wrap (-1 - n)) * 2)+1)=zz n)/\(¬ n<0->IntKind.u64.wrap (IntKind.u64.wrap n * 2)=zz n):=by
 obtain ⟨h1,h2⟩:=h;unfold zz;refine ⟨fun h0=>?_,fun h0=>?_⟩
 ·rw [if_neg (by omega),np (by omega) (by omega),w64 (n:= -1 - n) (by omega) (by omega),w64 (n:=(-1 - n) * 2) (by omega) (by omega),w64 (by omega) (by omega)];omega
 ·rw [if_pos (by omega),w64 (n:=n) (by omega) (by omega),w64 (by omega) (by omega)];omega
theorem vh(n:Int)(h:i64 n):eu Tryz.prog 30 [I n] 5 1 ((vi n).map Y) []:=by
 refine rR (rs:=[.tmp 2]) mixed Tryz.func30 l30 rfl rfl rfl (nlZ rfl) ?_;have hz:=yD h;have hl:=tY h;obtain ⟨hz1,hz2⟩:=GI h;unfold vi at hl ⊢;generalize zz n=z0 at hz hl hz1 hz2;refine sO (β:=Unit) (fun _=>{sl:=[(3,.t (Q z0))],bx:=[]}) (fun _=>True) ?_ ?_
 ·repeat' ((conv=>whnf);first|refine nD_ (fun hq=>?_) (fun hq=>?_)|refine aS ?_|fail)
  ·exact ⟨(),trivial,by repeat' (first|((refine leT (congrArg Q ?_);exact (hz1 hq).symm))|exact wJ|refine And.intro ?_ ?_)⟩
  ·exact ⟨(),trivial,by repeat' (first|((refine leT (congrArg Q ?_);exact (hz2 hq).symm))|exact wJ|refine And.intro ?_ ?_)⟩
 rintro - -
 skip
 refine sa 0 (α:=Nat×Nat×List Int) (β:=Nat×Nat×List Int) (fun q=>{sl:=[(3,.t (Q q.2.1)),(4,.own q.1 5 1 (q.2.2.map Y))],bx:=[]})
  (fun q=>q.2.1<18446744073709551616/\q.2.2++vb q.2.1=vb z0) (fun q=>q.2.1) (fun q=>{sl:=[(3,.t (Q q.2.1)),(4,.own q.1 5 1 (q.2.2.map Y))],bx:=[]}) (fun q=>q.2.1<128/\q.2.2++vb q.2.1=vb z0) (23,z0,[]) (by dsimp only;exact ⟨hz,rfl⟩) ?_ ?_ ?_
 ·repeat' (first|exact wJ|refine And.intro ?_ ?_)
 ·rintro ⟨q,z,out⟩ ⟨h1,h2⟩;dsimp only at h1 h2;rcases Nat.lt_or_ge z 128 with h|h
  ·repeat' ((conv=>whnf);first|refine aD0 ?_|refine aS ?_|fail)
   exact ⟨(q,z,out),⟨h,h2⟩,by repeat' (first|exact wJ|refine And.intro ?_ ?_)⟩
  ·have e:=vD (z:=z) (by omega);rw [e] at h2;have hol:=congrArg List.length h2;rw [List.length_append,List.length_cons] at hol;have hdiv:IntKind.u64.wrap ((z:Int).tdiv 128)=(z / 128:Nat):=by
    rw [show (z:Int).tdiv 128=(z / 128:Nat) from rfl,w64 (by omega) (by omega)]
   have gF:IntKind.u8.wrap (IntKind.u8.wrap ((z:Int).tmod 128)+128)=(z % 128+128:Nat):=Dt ⟨z % 128,Nat.mod_lt _ (by decide)⟩
   repeat' ((conv=>whnf);first|refine aD1 ?_|(refine And.intro (by first|((simp;omega);done)|fail) ?_)|refine aS ?_|fail)
   refine ⟨(23,z / 128,out++[((z % 128+128:Nat):Int)]),⟨by dsimp only;omega,by simpa using h2⟩,by dsimp only;omega,?_⟩
   repeat' (first|((refine leT (congrArg Q ?_);exact hdiv.symm))|exact wJ|refine s6 ?_|refine And.intro ?_ ?_)
   rw [List.map_append,List.map_singleton, <-gF];rfl
 rintro ⟨q,z,out⟩ ⟨h1,h2⟩;dsimp only at h1 h2;rw [u9 h1] at h2;have hol:=congrArg List.length h2;rw [List.length_append,List.length_singleton] at hol;have e1:IntKind.u8.wrap (z:Int)=z:=w8 (by omega) (by omega);rw [<- h2]
 repeat' ((conv=>whnf);first|(refine And.intro (by first|exact flY _|((simp;omega);done)|fail) ?_)|refine aS ?_|fail)
 refine ⟨_,rfl,.inl ⟨30,congrArg (V.own 30 5 1) ?_⟩⟩;dsimp only;rw [e1,List.map_append];rfl
def vs(s:ByteArray):List Int:=vi s.size++sB s
theorem tG{n:Nat}(h:n<2^62):i64 (n:Int):=by unfold i64;omega
theorem xr(s:ByteArray)(h:s.size<2^40):eu Tryz.prog 22 [.str s] 5 1 ((vs s).map Y) []:=by
 refine rR (rs:=[.tmp 2]) mixed Tryz.func22 l22 rfl rfl rfl (nlZ rfl) ?_;have hi:=tG (n:=s.size) (by omega);have hl:=tY hi;have hb:(bU s).length=s.size:=by rw [ur,List.length_map,ui]
 repeat' ((conv=>whnf);first|refine sR rfl (wX s.size hi) ?_|(refine And.intro (by first|exact flY _|((simp [hb];omega);done)|fail) ?_)|refine aS ?_|fail)
 refine ⟨_,rfl,.inl ⟨7,congrArg (V.own 7 5 1) ?_⟩⟩;unfold vs;rw [List.map_append,ur]
theorem vL(s:ByteArray)(h:s.size<2^40):eu Tryz.prog 31 [.str s] 5 1 ((vs s).map Y) []:=by
 refine rR (rs:=[.tmp 2]) mixed Tryz.func31 l31 rfl rfl rfl (nlZ rfl) ?_;have hi:=tG (n:=s.size) (by omega);have hl:=tY hi;have hb:(bU s).length=s.size:=by rw [ur,List.length_map,ui]
 repeat' ((conv=>whnf);first|refine sR rfl (vh s.size hi) ?_|(refine And.intro (by first|exact flY _|((simp [hb];omega);done)|fail) ?_)|refine aS ?_|fail)
 refine ⟨_,rfl,.inl ⟨7,congrArg (V.own 7 5 1) ?_⟩⟩;unfold vs;rw [List.map_append,ur]
def vis(l:List Int):List Int:=vi l.length++l.flatMap vi
theorem vu{α:Type}(f:α->List Int){l:List α}{i:Nat}(h:i<l.length):(l.take (i+1)).flatMap f=(l.take i).flatMap f++f l[i]:=by
 rw [List.take_succ_eq_append_getElem h,List.flatMap_append];simp
theorem uL{α:Type}(f:α->List Int)(k:Nat): ∀{l:List α},(∀ x∈l,(f x).length<=k)->(l.flatMap f).length<=k * l.length
 |[],_=>by simp
 |x::l,h=>by
  have h1:=uL f k (l:=l) (fun y hy=>h y (by simp [hy]));have h2:=h x (by simp);rw [List.flatMap_cons,List.length_append,List.length_cons,Nat.mul_add];omega
theorem D0(l:List Int)(h:l.length<2^40)(hi: ∀x∈l,i64 x):eu Tryz.prog 48 [.slice 1 (l.map I),.clos 20 []] 5 1 ((vis l).map Y) []:=by
 refine rR (rs:=[.tmp 4]) mixed Tryz.func48 l48 rfl rfl rfl (nlZ rfl) ?_;have h0:=tG (n:=l.length) (by omega);have hl0:=tY h0
 repeat' ((conv=>whnf);first|(refine sR (ts:=[I l.length]) (by simp;rfl) (wX l.length h0) ?_)|fail)
 refine sa 0 (α:=Nat×Nat) (β:=Nat) (fun q=>{sl:=[(1,.t (.clos 20 [])),(5,.own q.1 5 1 ((vi l.length++(l.take q.2).flatMap vi).map Y)),(11,.t (.slice 1 (l.map I))),(12,.t (I l.length)),(13,.t (I q.2))],bx:=[]})
  (fun q=>q.2<=l.length) (fun q=>l.length - q.2) (fun q=>{sl:=[(5,.own q 5 1 ((vis l).map Y))],bx:=[]}) (fun _=>True) (10,0) (by simp) ?_ ?_ ?_
 ·repeat' (first|((refine leI ?_;simp;done))|exact wJ|refine s6 ?_|refine And.intro ?_ ?_)
  simp
 ·rintro ⟨q,i⟩ hq;dsimp only at hq;rcases Nat.lt_or_ge i l.length with h1|h1
  ·have hx:=hi l[i] (List.getElem_mem h1);have hxl:=tY hx;have hfl:=uL vi 10 (l:=l.take i) (fun x hx=>tY (hi x (List.mem_of_mem_take hx)));rw [List.length_take] at hfl
   repeat' ((conv=>whnf);first|(refine nv_ (I l[i]) (by first|((simp [h1]);done)|fail) ?_)|refine sV _ ((wX l[i] hx).sU) ?_|refine aD1 ?_|(refine And.intro (by first|((simp;omega);done)|((simp only [List.length_map,List.length_append];omega);done)|fail) ?_)|refine aS ?_|refine nT_ ?_)
   refine ⟨(21,i+1),by dsimp only;omega,by dsimp only;omega,?_⟩
   repeat' (first|exact wJ|refine s6 ?_|refine And.intro ?_ ?_)
   rw [vu vi h1];simp
  ·have:i=l.length:=by omega
   subst this
   repeat' ((conv=>whnf);first|refine aD0 ?_|refine aS ?_|fail)
   exact ⟨q,trivial,by repeat' (first|((refine s6 ?_;rw [List.take_length];rfl))|exact wJ|refine And.intro ?_ ?_)⟩
 rintro q -
 repeat' ((conv=>whnf);first|(refine And.intro (by first|exact flY _) ?_)|refine aS ?_|fail)
 exact ⟨_,rfl,.inl ⟨q,rfl⟩⟩
theorem yP(l:List Int)(h:l.length<2^40)(hi: ∀x∈l,i64 x):eu Tryz.prog 23 [.slice 1 (l.map I)] 5 1 ((vis l).map Y) []:=by
 refine rR (rs:=[.tmp 2]) mixed Tryz.func23 l23 rfl rfl rfl (nlZ rfl) ?_
 repeat' ((conv=>whnf);first|refine sR rfl (D0 l h hi) ?_|(refine And.intro (by first|exact flY _) ?_)|refine aS ?_|fail)
 exact ⟨_,rfl,.inl ⟨_,rfl⟩⟩
theorem wk(l:List Int)(h:l.length<2^40)(hi: ∀x∈l,i64 x):eu Tryz.prog 32 [.slice 1 (l.map I)] 5 1 ((vis l).map Y) []:=by
 refine rR (rs:=[.tmp 2]) mixed Tryz.func32 l32 rfl rfl rfl (nlZ rfl) ?_;have h0:=tG (n:=l.length) (by omega);have hl0:=tY h0
 repeat' ((conv=>whnf);first|(refine sR (ts:=[I l.length]) (by simp;rfl) (vh l.length h0) ?_)|fail)
 refine sa 0 (α:=Nat×Nat) (β:=Nat) (fun q=>{sl:=[(0,.t (.slice 1 (l.map I))),(3,.own q.1 5 1 ((vi l.length++(l.take q.2).flatMap vi).map Y)),(4,.t (I q.2))],bx:=[]})
  (fun q=>q.2<=l.length) (fun q=>l.length - q.2) (fun q=>{sl:=[(3,.own q 5 1 ((vis l).map Y))],bx:=[]}) (fun _=>True) (7,0) (by simp) ?_ ?_ ?_
 ·repeat' (first|exact wJ|refine s6 ?_|refine And.intro ?_ ?_)
  simp
 ·rintro ⟨q,i⟩ hq;dsimp only at hq;rcases Nat.lt_or_ge i l.length with h1|h1
  ·have hx:=hi l[i] (List.getElem_mem h1);have hxl:=tY hx;have hfl:=uL vi 10 (l:=l.take i) (fun x hx=>tY (hi x (List.mem_of_mem_take hx)));rw [List.length_take] at hfl
   repeat' ((conv=>whnf);first|(refine nv_ (I l[i]) (by first|((simp [h1]);done)|fail) ?_)|refine sX rfl (vh l[i] hx).sU (.inl rfl) ?_|refine ru (by simpa using h1) ?_|(refine And.intro (by first|((simp;omega);done)|((simp only [List.length_map,List.length_append];omega);done)|fail) ?_)|refine aS ?_|refine nT_ ?_)
   refine ⟨(20,i+1),by dsimp only;omega,by dsimp only;omega,?_⟩
   repeat' (first|exact wJ|refine s6 ?_|refine And.intro ?_ ?_)
   rw [vu vi h1];simp
  ·have:i=l.length:=by omega
   subst this
   repeat' ((conv=>whnf);first|refine rq (by simp) ?_|refine aS ?_|fail)
   exact ⟨q,trivial,by repeat' (first|((refine s6 ?_;rw [List.take_length];rfl))|exact wJ|refine And.intro ?_ ?_)⟩
 rintro q -
 repeat' ((conv=>whnf);first|(refine And.intro (by first|exact flY _) ?_)|refine aS ?_|fail)
 exact ⟨_,rfl,.inl ⟨q,rfl⟩⟩
abbrev zW(d:List Int):T:=.agg (d.map Y)
def msg(tag:Int)(ps:List ByteArray):List Int:=IntKind.u8.wrap tag::ps.flatMap vs
def H(m:List Int):List Int:=(dig ((S0.add m).add (tail m.length)).s).take 16
def H2(m:List Int):List Int:=(dig (bl2 (m++tail m.length) ((m++tail m.length).length / 64))).take 16
theorem zo(x:Int):0<=IntKind.u8.wrap x/\IntKind.u8.wrap x<256:=by
 unfold IntKind.wrap;simp [IntKind.bits,IntKind.signed];omega
theorem ve(s:ByteArray):ti (vs s):=fun b hb=>by
 rcases List.mem_append.1 hb with h|h
 ·exact uo _ b h
 ·exact xI _ b h
theorem vS(tag:Int)(ps:List ByteArray):ti (msg tag ps):=fun b hb=>by
 rcases List.mem_cons.1 hb with rfl|h
 ·exact zo _
 ·obtain ⟨s,_,hs⟩:=List.mem_flatMap.1 h;exact ve s b hs
theorem vq{s:ByteArray}(h:s.size<2^40):(vs s).length<=s.size+10:=by
 have:=tY (tG (n:=s.size) (by omega))
 unfold vs;rw [List.length_append,ui];omega
theorem Cm(tag:Int)(ps:List ByteArray)(hp: ∀s∈ps,s.size<2^40)(hl:ps.length<2^10):DCalls Tryz.prog 36 [I tag,.slice 1 (ps.map .str)] (.agg ((H (msg tag ps)).map Y)):=by
 refine dl2 mixed [.cell 4 31] [.agg _] Tryz.func36 l36 ?_;have h1:sB (nQ [Y (IntKind.u8.wrap tag)])=[IntKind.u8.wrap tag]:=uy [IntKind.u8.wrap tag] (fun b hb=>by rw [List.mem_singleton.1 hb];exact zo _);have hs1:(nQ [Y (IntKind.u8.wrap tag)]).size=1:=by rw [<- ui,h1];rfl
 have pj:=AO S0 (nQ [Y (IntKind.u8.wrap tag)]) rfl (by rw [hs1];decide);rw [h1] at pj
 repeat' ((conv=>whnf);first|refine sV _ (DF) ?_|refine sV _ (pj) ?_|refine aS ?_|refine nT_ ?_)
 have hX: ∀k,((S0.add [IntKind.u8.wrap tag]).add ((ps.take k).flatMap vs)).blk.length=64:=fun k=>by rw [(uG _ _).1,(uG _ _).1];rfl
 have hXn: ∀k,((S0.add [IntKind.u8.wrap tag]).add ((ps.take k).flatMap vs)).n=1+((ps.take k).flatMap vs).length:=fun k=>by rw [(uG _ _).2,(uG _ _).2];show 0+1+_=_;omega
 have hfl: ∀k,((ps.take k).flatMap vs).length<=(2^40+10) * ps.length:=fun k=>by
  have:=uL vs (2^40+10) (l:=ps.take k) (fun s hs=>by have:=hp s (List.mem_of_mem_take hs);have:=vq this;omega)
  refine Nat.le_trans this (Nat.mul_le_mul_left _ ?_);rw [List.length_take];exact Nat.min_le_right _ _
 refine sa 0 (α:=Nat) (β:=Unit) (fun k=>{sl:=[(4,.ptr 4 0),(5,.ptr 5 0),(15,.t (.slice 1 (ps.map .str))),(16,.t (I ps.length)),(17,.t (I k))],bx:=[(4,.d 16 (List.replicate 16 (Y 0))),(5,.d 73 ((S0.add [IntKind.u8.wrap tag]).add ((ps.take k).flatMap vs)).cells)]})
  (fun k=>k<=ps.length) (fun k=>ps.length - k) (fun _=>{sl:=[(4,.ptr 4 0),(5,.ptr 5 0)],bx:=[(4,.d 16 (List.replicate 16 (Y 0))),(5,.d 73 (S0.add (msg tag ps)).cells)]}) (fun _=>True) 0 (by omega) ?_ ?_ ?_
 ·repeat' (first|((refine leI ?_;simp;done))|((refine s8 ?_;exact (tF rfl).symm))|exact wJ|refine And.intro ?_ ?_)
 ·intro k hk;rcases Nat.lt_or_ge k ps.length with h2|h2
  ·have hx:=hp ps[k] (List.getElem_mem h2);have hvl:=vq hx;have hft:=vu vs h2;have hb:=hX k;have hn:=hXn k;have hfk:=hfl k;have ha:((S0.add [IntKind.u8.wrap tag]).add ((ps.take (k+1)).flatMap vs))=((S0.add [IntKind.u8.wrap tag]).add ((ps.take k).flatMap vs)).add (vs ps[k]):=by
    rw [hft];unfold Str.add;rw [List.foldl_append]
   generalize (S0.add [IntKind.u8.wrap tag]).add ((ps.take k).flatMap vs)=x at hb hn ha;have hsb:=uy (vs ps[k]) (ve _);have hss:(nQ ((vs ps[k]).map Y)).size=(vs ps[k]).length:=by rw [<- ui,hsb]
   have hcl:=uc x hb;have bZ:=AO x (nQ ((vs ps[k]).map Y)) hb (by rw [hss,hn];omega);rw [hsb] at bZ
   repeat' ((conv=>whnf);first|(refine nv_ (.str ps[k]) (by first|((simp [h2];done);done)|fail) ?_)|refine sV _ ((xr ps[k] hx).sU) ?_|refine sV _ (bZ) ?_|refine aD1 ?_|(refine And.intro (by first|((simp;omega);done)|exact hcl|exact tW _|(exact ⟨uc _ (by rw [(uG _ _).1];exact hb),by decide⟩;done)|((rw [hcl];decide);done)|fail) ?_)|refine aS ?_|refine nT_ ?_)
   refine ⟨k+1,by omega,by omega,?_⟩
   repeat' (first|exact wJ|refine s8 ?_|refine And.intro ?_ ?_)
   rw [ha];exact (tF hcl).symm
  ·have:k=ps.length:=by omega
   subst this
   repeat' ((conv=>whnf);first|refine aD0 ?_|refine aS ?_|fail)
   exact ⟨(),trivial,by repeat' (first|((refine s8 ?_;rw [List.take_length];rfl))|exact wJ|refine And.intro ?_ ?_)⟩
 rintro - -;have hb:=hX ps.length;have hn:=hXn ps.length;have hfk:=hfl ps.length;rw [List.take_length] at hb hn hfk;have hm:(S0.add [IntKind.u8.wrap tag]).add (ps.flatMap vs)=S0.add (msg tag ps):=rfl;have hml:(msg tag ps).length=1+(ps.flatMap vs).length:=by unfold msg;rw [List.length_cons];omega
 rw [hm] at hb hn;unfold H;rw [hml];have xw:=Fv (S0.add (msg tag ps)) hb (by rw [hn];omega);rw [hn] at xw;generalize S0.add (msg tag ps)=x at hb xw;have hcl:=uc x hb;unfold Str.T at xw;generalize x.cells=cs at hcl xw;have hdl:(dig (x.add (tail (1+(ps.flatMap vs).length))).s).length=32:=by simp [dig]
 generalize dig (x.add (tail (1+(ps.flatMap vs).length))).s=ds at hdl xw;have eW:aP (List.replicate 32 (Y 0)) 0 32 (ds.map Y)=ds.map Y:=tF rfl;have CN:((aP (List.replicate 32 (Y 0)) 0 32 (ds.map Y)).drop (0+Int.toNat 0 * 1)).take 16=(ds.take 16).map Y:=by
  rw [eW,List.map_take];rfl
 have BV:(((aP (List.replicate 32 (Y 0)) 0 32 (ds.map Y)).drop (0+Int.toNat 0 * 1)).take 16).length=16:=by
  rw [CN];simp [hdl]
 repeat' ((conv=>whnf);first|refine sV _ (xw) ?_|refine nT_ ?_|(refine And.intro (by first|exact hcl|(exact ⟨(List.length_map _).trans hdl,by decide⟩;done)|exact ⟨BV,by decide⟩) ?_)|refine aS ?_|refine rt ?_ trivial)
 exact congrArg T.agg ((tF rfl).trans CN)
attribute [local irreducible] bl2
theorem vI(tag:Int)(ps:List ByteArray)(hp: ∀s∈ps,s.size<2^40)(hl:ps.length<2^5):DCalls Tryz.prog 13 [I tag,.slice 1 (ps.map .str)] (.slice 1 ((msg tag ps).map Y)):=by
 refine dl2 mixed [.tmp 4] [.slice 1 _] Tryz.func13 l13 ?_;have hfl: ∀k,((ps.take k).flatMap vs).length<=(2^40+10) * ps.length:=fun k=>by
  have:=uL vs (2^40+10) (l:=ps.take k) (fun s hs=>by have:=hp s (List.mem_of_mem_take hs);have:=vq this;omega)
  refine Nat.le_trans this (Nat.mul_le_mul_left _ ?_);rw [List.length_take];exact Nat.min_le_right _ _
 repeat' ((conv=>whnf);first|refine aS ?_|fail)
 refine sa 0 (α:=Nat×Nat) (β:=Nat) (fun q=>{sl:=[(1,.t (.slice 1 (ps.map .str))),(5,.own q.1 5 1 ((IntKind.u8.wrap tag::(ps.take q.2).flatMap vs).map Y)),(6,.t (I q.2))],bx:=[]})
  (fun q=>q.2<=ps.length) (fun q=>ps.length - q.2) (fun q=>{sl:=[(5,.own q 5 1 ((msg tag ps).map Y))],bx:=[]}) (fun _=>True) (9,0) (by simp) ?_ ?_ ?_
 ·repeat' (first|exact wJ|refine And.intro ?_ ?_)
 ·rintro ⟨q,k⟩ hk;dsimp only at hk;rcases Nat.lt_or_ge k ps.length with h2|h2
  ·have hx:=hp ps[k] (List.getElem_mem h2);have hvl:=vq hx;have hft:=vu vs h2;have hfk:=hfl k
   repeat' ((conv=>whnf);first|refine ru (by simpa using h2) ?_|(refine nv_ (.str ps[k]) (by first|((simp [h2];done);done)|fail) ?_)|refine sV _ ((vL ps[k] hx).sU) ?_|(refine And.intro (by first|((simp;omega);done)|((simp only [List.length_map,List.length_cons];omega);done)|fail) ?_)|refine aS ?_|refine nT_ ?_)
   refine ⟨(22,k+1),by dsimp only;omega,by dsimp only;omega,?_⟩
   repeat' (first|exact wJ|refine s6 ?_|refine And.intro ?_ ?_)
   rw [hft];simp
  ·have:k=ps.length:=by omega
   subst this
   repeat' ((conv=>whnf);first|refine rq (by simp) ?_|refine aS ?_|fail)
   exact ⟨q,trivial,by repeat' (first|((refine s6 ?_;rw [List.take_length];rfl))|exact wJ|refine And.intro ?_ ?_)⟩
 rintro q -
 repeat' ((conv=>whnf);first|refine aS ?_|exact trivial)
theorem DK(bs:List Int)(hb:bs.length<2^40):DCalls Tryz.prog 58 [.slice 1 (bs.map Y)] (.agg ((H2 bs).map Y)):=by
 refine dl2 mixed [.cell 2 31] [.agg _] Tryz.func58 l58 ?_;have hs:=Cr bs hb;unfold H2;have hdl:(dig (bl2 (bs++tail bs.length) ((bs++tail bs.length).length / 64))).length=32:=by simp [dig]
 generalize dig (bl2 (bs++tail bs.length) ((bs++tail bs.length).length / 64))=ds at hs hdl
 repeat' ((conv=>whnf);first|refine sV _ (hs) ?_|(refine And.intro (by first|(exact ⟨(List.length_map _).trans hdl,by decide⟩;done)|fail) ?_)|refine aS ?_|fail)
 refine sa 0 (α:=Nat) (β:=Unit) (fun i=>{sl:=[(2,.ptr 2 0),(3,.ptr 3 0),(4,.ptr 4 0),(5,.t (I i))],bx:=[(2,.d 16 (List.replicate 16 (Y 0))),(3,.d 32 (ds.map Y)),(4,.d 16 ((ds.take i++List.replicate (16 - i) 0).map Y))]})
  (fun i=>i<=16) (fun i=>16 - i) (fun _=>{sl:=[(2,.ptr 2 0),(4,.ptr 4 0)],bx:=[(2,.d 16 (List.replicate 16 (Y 0))),(4,.d 16 ((ds.take 16).map Y))]}) (fun _=>True) 0 (by omega) ?_ ?_ ?_
 ·repeat' (first|((refine s8 ?_;exact (tF rfl).symm))|exact wJ|refine And.intro ?_ ?_)
 ·intro i hi;rcases Nat.lt_or_ge i 16 with h2|h2
  ·repeat' ((conv=>whnf);first|(refine nv_ (Y (ds.getD i 0)) (by first|(exact tN i (by omega) (by omega);done)|fail) ?_)|refine aD1 ?_|(refine And.intro (by first|((simp;omega);done)|fail) ?_)|refine aS ?_|fail)
   refine ⟨i+1,by omega,by omega,?_⟩
   repeat' (first|exact wJ|refine s8 ?_|refine And.intro ?_ ?_)
   show _=List.set _ (0+(i:Int).toNat * 1) (Y (ds.getD i 0))
   rw [pI]
   congr 1
   have e1:ds.take (i+1)=ds.take i++[ds.getD i 0]:=by
    rw [List.take_succ_eq_append_getElem (by omega),List.getD_eq_getElem?_getD,ggZ (by omega)];rfl
   have e2:List.replicate (16 - i) (0:Int)=0::List.replicate (16 - (i+1)) 0:=by
    rw [show 16 - i=(16 - (i+1))+1 by omega,List.replicate_succ]
   have e3:(ds.take i).length=i:=by rw [List.length_take];omega
   rw [e1,e2,List.set_append,if_neg (by rw [e3];omega),e3];simp
  ·have:i=16:=by omega
   subst this
   repeat' ((conv=>whnf);first|refine aD0 ?_|refine aS ?_|fail)
   exact ⟨(),trivial,by repeat' (first|((refine s8 ?_;simp;done))|exact wJ|refine And.intro ?_ ?_)⟩
 rintro - -;have BV:((ds.take 16).map Y).length=16:=by simp [hdl]
 repeat' ((conv=>whnf);first|(refine And.intro (by first|exact ⟨BV,by decide⟩) ?_)|refine rt ?_ trivial)
 exact congrArg T.agg (tF rfl)
theorem zP(tag:Int)(ps:List ByteArray)(hp: ∀s∈ps,s.size<2^34)(hl:ps.length<2^5):DCalls Tryz.prog 37 [I tag,.slice 1 (ps.map .str)] (.agg ((H2 (msg tag ps)).map Y)):=by
 refine dl2 mixed [.cell 4 31] [.agg _] Tryz.func37 l37 ?_;have hi:=vI tag ps (fun s hs=>by have:=hp s hs;omega) hl;have hml:(msg tag ps).length<2^40:=by
  have:=uL vs (2^34+10) (l:=ps) (fun s hs=>by have:=hp s hs;have:=vq (s:=s) (by omega);omega)
  have h2:(2^34+10) * ps.length<=(2^34+10) * 32:=Nat.mul_le_mul_left _ (by omega);unfold msg;rw [List.length_cons];omega
 have hs:=DK (msg tag ps) hml;have hdl:(H2 (msg tag ps)).length=16:=by simp [H2,dig]
 generalize H2 (msg tag ps)=ds at hs hdl
 repeat' ((conv=>whnf);first|refine sV _ (hi) ?_|refine sV _ (hs) ?_|(refine And.intro (by first|(exact ⟨(List.length_map _).trans hdl,by decide⟩;done)|fail) ?_)|refine rt ?_ trivial)
 exact congrArg T.agg (tF rfl)
end Go.RC
end
section
namespace Go.RC
open Go Go.DL Go.Proofs
def bl1(m:List Int):Nat->V8
 |0=>V0
 |k+1=>cpr (bl1 m k) ((m.drop (64 * k)).take 64)
theorem zy(m r:List Int): ∀k,64 * k<=m.length->bl1 (m++r) k=bl1 m k
 |0,_=>rfl
 |k+1,h=>by
  unfold bl1;rw [zy m r k (by omega),List.drop_append_of_le_length (by omega),List.take_append_of_le_length (by rw [List.length_drop];omega)]
theorem DV(m:List Int)(hb:ti m): ∀k,64 * k<=m.length->bl2 m k=bl1 m k
 |0,_=>by unfold bl2 bl1;rfl
 |k+1,h=>by
  unfold bl2 bl1;rw [DV m hb k (by omega)];exact DX _ _ (fun b hb'=>hb b (List.mem_of_mem_drop (List.mem_of_mem_take hb'))) (by rw [List.length_take,List.length_drop];omega)
structure wy (x:Str) (m:List Int):Prop where
 n:x.n=m.length
 blk:x.blk.length=64
 s:x.s=bl1 m (m.length / 64)
 part:x.blk.take (m.length % 64)=m.drop (64 * (m.length / 64))
theorem wy.put{x:Str}{m:List Int}(h:wy x m)(b:Int):wy (x.uE b) (m++[b]):=by
 obtain ⟨hn,hb,hs,hp⟩:=h;have hlen:(m++[b]).length=m.length+1:=by simp
 have hq:64 * (m.length / 64)<=m.length:=Nat.mul_div_le _ _;have pB:=zy m [b] (m.length / 64) hq;have ha:m.length % 64<64:=Nat.mod_lt _ (by decide);have sG:(x.blk.set (m.length % 64) b).take (m.length % 64+1)=x.blk.take (m.length % 64)++[b]:=by
  rw [List.take_set,List.take_succ_eq_append_getElem (by omega),List.set_append,if_neg (by rw [List.length_take];omega)];simp [List.length_take,hb,Nat.min_eq_left (Nat.le_of_lt ha)]
 have CL:(m++[b]).drop (64 * (m.length / 64))=m.drop (64 * (m.length / 64))++[b]:=List.drop_append_of_le_length hq;unfold Str.uE;rw [hn]
 by_cases hf:m.length % 64=63
 ·rw [if_pos hf];have h1:(m.length+1) / 64=m.length / 64+1:=by omega
  have h2:(m.length+1) % 64=0:=by omega
  refine ⟨hlen.symm,by simpa using hb,?_,?_⟩
  ·show cpr x.s (x.blk.set (m.length % 64) b)=bl1 (m++[b]) ((m++[b]).length / 64)
   rw [hlen,h1];show _=cpr (bl1 (m++[b]) (m.length / 64)) (((m++[b]).drop (64 * (m.length / 64))).take 64)
   rw [pB, <-hs,CL, <-hp, <-sG]
   congr 1
   rw [List.take_take,List.take_of_length_le (by rw [List.length_set];omega)]
  ·rw [hlen,h2,h1,List.take_zero,List.drop_eq_nil_of_le (by rw [hlen];omega)]
 ·rw [if_neg hf];have h1:(m.length+1) / 64=m.length / 64:=by omega
  have h2:(m.length+1) % 64=m.length % 64+1:=by omega
  refine ⟨hlen.symm,by simpa using hb,?_,?_⟩
  ·show x.s=_
   rw [hlen,h1,pB,hs]
  ·show (x.blk.set (m.length % 64) b).take _=_
   rw [hlen,h1,h2,sG,hp,CL]
theorem xY: ∀(bs m:List Int) (x:Str),wy x m->wy (x.add bs) (m++bs)
 |[],m,x,h=>by simpa [Str.add] using h
 |b::bs,m,x,h=>by
  have:=xY bs (m++[b]) (x.uE b) (h.put b)
  rw [List.append_assoc] at this;exact this
theorem Dm(bs:List Int):wy (S0.add bs) bs:=by
 have:=xY bs [] S0 ⟨rfl,rfl,rfl,rfl⟩
 simpa using this
theorem DR(m:List Int)(hb:ti m):H m=H2 m:=by
 unfold H H2;have h1:(S0.add m).add (tail m.length)=S0.add (m++tail m.length):=by
  unfold Str.add;rw [List.foldl_append]
 have fF:ti (m++tail m.length):=fun b h=>(List.mem_append.1 h).elim (hb b) (xO _ b)
 rw [h1,(Dm (m++tail m.length)).s,DV _ fF _ (Nat.mul_div_le _ _)]
theorem CC(m:List Int):(H m).length=16:=by simp [H,dig]
end Go.RC
end
section
end
section
end
section
namespace Go.RC
open Go Go.DL Go.Proofs
theorem xL{l:List Int}(h: ∀x∈l,i64 x)(hl:l.length<2^40):(vis l).length<=10 * l.length+10:=by
 have h1:=uL vi 10 (l:=l) (fun x hx=>tY (h x hx));have h2:=tY (tG (n:=l.length) (by omega));unfold vis;rw [List.length_append];omega
end Go.RC
end
section
end
section
end
section
namespace Go.RC
open Go Go.DL Go.Proofs
theorem zI{k:IntKind}: ∀(a b:List Int),eqL (a.map (T.int k)) (b.map (T.int k))=decide (a=b)
 |[],[]=>rfl
 |[],_::_=>rfl
 |_::_,[]=>rfl
 |x::a,y::b=>by
  show (x==y&&eqL (a.map (T.int k)) (b.map (T.int k)))=_
  rw [zI a b]
  by_cases h:x=y <;> by_cases h2:a=b <;> simp [h,h2]
theorem yS{k:IntKind}: ∀(a:List Int),fits (List.replicate a.length (.int k)) (a.map (T.int k))
 |[]=>trivial
 |_::a=>⟨rfl,yS a⟩
theorem wm{a:List Int}(h:a.length=16):fits [.int .u8,.int .u8,.int .u8,.int .u8,.int .u8,.int .u8,.int .u8,.int .u8,.int .u8,.int .u8,.int .u8,.int .u8,.int .u8,.int .u8,.int .u8,.int .u8] (a.map Y):=by
 have:=yS (k:=.u8) a
 rw [h] at this;exact this
theorem eqY{a b:List Int}{c:Bool}(h:decide (a=b)=c):eqL (a.map Y) (b.map Y)=c:=(zI a b).trans h
end Go.RC
end
section
end
section
end
section
end
section
end
section
end
section
namespace Go.RC
open Go Go.DL Go.Proofs
def un(z:Int):Int:=if z % 2=1 then -1 - z / 2 else z / 2
def gz:Nat->Int->List Int->Int×Int×Int
 |_,_,[]=>(0,0,5)
 |k,z,c::r=>if (k=9/\c>1)\/(k>0/\c=0) then (0,0,6) else if c<128 then (un (z+c % 128 * 128^k),(k:Int)+1,0) else gz (k+1) (z+c % 128 * 128^k) r
def gi(b:List Int):Int×Int×Int:=gz 0 0 b
theorem wC{b:List Int}{k:Nat}{z:Int}(h:k<b.length):gz k z (b.drop k)=if (k=9/\b[k]>1)\/(k>0/\b[k]=0) then (0,0,6) else if b[k]<128 then (un (z+b[k] % 128 * 128^k),(k:Int)+1,0) else gz (k+1) (z+b[k] % 128 * 128^k) (b.drop (k+1)):=by
 rw [List.drop_eq_getElem_cons h];rfl
theorem DS: ∀c:Fin 256,iF .and .u8 (c.val:Int) 127=(c.val:Int) % 128:=by decide+kernel
theorem C4{c:Int}(h0:0<=c)(h1:c<256):iF .and .u8 c 127=c % 128:=by
 obtain ⟨c,rfl⟩:=Int.eq_ofNat_of_zero_le h0;exact DS ⟨c,by omega⟩
theorem Dr{a b:Int}(k:Nat)(ha:0<=a)(ha2:a<18446744073709551616)(hd:a % 2^k=0)(hb:0<=b)(hb2:b<2^k)(hk:k<=64):iF .or .u64 a b=a+b:=by
 obtain ⟨a,rfl⟩:=Int.eq_ofNat_of_zero_le ha;obtain ⟨b,rfl⟩:=Int.eq_ofNat_of_zero_le hb;have hk2:(2:Nat)^k<=2^64:=Nat.pow_le_pow_right (by decide) hk;have hb3:b<2^k:=by exact_mod_cast hb2
 have hd2:a % 2^k=0:=by exact_mod_cast hd
 have ha3:a<2^64:=by omega
 have hb4:b<2^64:=by omega
 have e:a ||| b=a+b:=by
  have:=Nat.two_pow_add_eq_or_of_lt hb3 (a / 2^k)
  have h2:2^k * (a / 2^k)=a:=Nat.mul_div_cancel' (Nat.dvd_of_mod_eq_zero hd2);rw [h2] at this;exact this.symm
 have hor:a ||| b<2^64:=Nat.or_lt_two_pow ha3 hb4
 have e1:(BitVec.ofInt 64 ((a:Nat):Int)).toNat=a:=by
  rw [BitVec.ofInt_natCast,BitVec.toNat_ofNat,Nat.mod_eq_of_lt ha3]
 have e2:(BitVec.ofInt 64 ((b:Nat):Int)).toNat=b:=by
  rw [BitVec.ofInt_natCast,BitVec.toNat_ofNat,Nat.mod_eq_of_lt hb4]
 show IntKind.u64.wrap ((BitVec.ofInt 64 ((a:Nat):Int) ||| BitVec.ofInt 64 ((b:Nat):Int)).toNat:Int)=_
 rw [BitVec.toNat_or,e1,e2,e,w64 (by omega) (by omega)];rfl
theorem Cb(k:Nat):(2:Int)^(7 * k)=128^k:=by rw [Int.pow_mul];rfl
theorem digit{z c:Int}{k:Nat}(hz:0<=z)(hz2:z<128^k)(hk:k<=9)(c0:0<=c)(c1:c<256)(h9:k=9->c<=1):
  iF .or .u64 z (IntKind.u64.wrap (c % 128 * 2^(7 * k)))=z+c % 128 * 128^k/\0<=z+c % 128 * 128^k/\z+c % 128 * 128^k<128^(k+1)/\z+c % 128 * 128^k<18446744073709551616:=by
 have m0:0<=c % 128:=Int.emod_nonneg _ (by decide);have m1:c % 128<=127:=by omega
 have hp:(0:Int)<128^k:=Int.pow_pos (by decide);have hlt:c % 128 * 128^k<18446744073709551616/\z+c % 128 * 128^k<18446744073709551616:=by
  by_cases h:k=9
  ·subst h
   have:c<=1:=h9 rfl
   have e:(128:Int)^9=9223372036854775808:=by decide
   rw [e] at hz2 ⊢;omega
  ·have h8:(128:Int)^k<=128^8:=by have:=Nat.pow_le_pow_right (show 0<128 by decide) (show k<=8 by omega);exact_mod_cast this
   have e:(128:Int)^8=72057594037927936:=by decide
   have:c % 128 * 128^k<=127 * 128^k:=Int.mul_le_mul_of_nonneg_right m1 (Int.le_of_lt hp)
   rw [e] at h8;omega
 have h0:0<=c % 128 * 128^k:=Int.mul_nonneg m0 (Int.le_of_lt hp);refine ⟨?_,by omega,?_,hlt.2⟩
 ·rw [Cb,w64 h0 hlt.1,or_comm,Dr (7 * k) h0 hlt.1 (by rw [Cb];exact Int.mul_emod_left _ _) hz (by rw [Cb];exact hz2) (by omega),Int.add_comm]
 ·rw [Int.pow_succ]
  have:c % 128 * 128^k<=127 * 128^k:=Int.mul_le_mul_of_nonneg_right m1 (Int.le_of_lt hp)
  omega
theorem By{a:Int}(h0:0<=a)(h1:a<9223372036854775808):iF .xor .i64 a (-1)= -1 - a:=by
 obtain ⟨a,rfl⟩:=Int.eq_ofNat_of_zero_le h0;have ha:a<2^64:=by omega
 have e1:(BitVec.ofInt 64 (-1))=BitVec.allOnes 64:=by decide
 have e2:(BitVec.ofInt 64 ((a:Nat):Int)).toNat=a:=by
  rw [BitVec.ofInt_natCast,BitVec.toNat_ofNat,Nat.mod_eq_of_lt ha]
 show IntKind.i64.wrap ((BitVec.ofInt 64 ((a:Nat):Int) ^^^ BitVec.ofInt 64 (-1)).toNat:Int)=_
 rw [e1,BitVec.xor_allOnes,BitVec.toNat_not,e2];unfold IntKind.wrap;simp [IntKind.bits,IntKind.signed];omega
theorem Bz{a:Int}(h0:0<=a)(h1:a<9223372036854775808):iF .xor .i64 a 0=a:=by
 obtain ⟨a,rfl⟩:=Int.eq_ofNat_of_zero_le h0;have ha:a<2^64:=by omega
 have e2:(BitVec.ofInt 64 ((a:Nat):Int)).toNat=a:=by
  rw [BitVec.ofInt_natCast,BitVec.toNat_ofNat,Nat.mod_eq_of_lt ha]
 show IntKind.i64.wrap ((BitVec.ofInt 64 ((a:Nat):Int) ^^^ BitVec.ofInt 64 0).toNat:Int)=_
 have e1:(BitVec.ofInt 64 0)=0#64:=by decide
 rw [e1,BitVec.xor_zero,e2];exact np (by omega) (by omega)
theorem FH{z:Int}(h0:0<=z)(h1:z<18446744073709551616):iF .and .u64 z 1=z % 2:=by
 obtain ⟨a,rfl⟩:=Int.eq_ofNat_of_zero_le h0;have ha:a<2^64:=by omega
 have e2:(BitVec.ofInt 64 ((a:Nat):Int)).toNat=a:=by
  rw [BitVec.ofInt_natCast,BitVec.toNat_ofNat,Nat.mod_eq_of_lt ha]
 show IntKind.u64.wrap ((BitVec.ofInt 64 ((a:Nat):Int) &&& BitVec.ofInt 64 1).toNat:Int)=_
 have e1:(BitVec.ofInt 64 1).toNat=1:=by decide
 rw [BitVec.toNat_and,e2,e1,Nat.and_one_is_mod,w64 (by omega) (by omega)];rfl
theorem Fz{z:Int}(h0:0<=z)(h1:z<18446744073709551616):iF .xor .i64 (IntKind.i64.wrap (z.fdiv (2^1))) (IntKind.i64.wrap (-(IntKind.i64.wrap (iF .and .u64 z 1))))=un z:=by
 rw [FH h0 h1];have e:z.fdiv (2^1)=z / 2:=by rw [Int.fdiv_eq_ediv_of_nonneg _ (by decide)];rfl
 rw [e,np (by omega) (by omega),np (n:=z % 2) (by omega) (by omega)];unfold un;rcases Int.emod_two_eq z with h|h
 ·rw [h,if_neg (by decide),show IntKind.i64.wrap (-0)=0 by decide,Bz (by omega) (by omega)]
 ·rw [h,if_pos rfl,show IntKind.i64.wrap (-1)= -1 by decide,By (by omega) (by omega)]
theorem EB{z:Int}(h0:0<=z)(h1:z<18446744073709551616):iF .xor .i64 (IntKind.i64.wrap (z.fdiv (2^min (Int.toNat 1) IntKind.u64.bits))) (IntKind.i64.wrap (0 - IntKind.i64.wrap (iF .and .u64 z 1)))=un z:=by
 rw [show min (Int.toNat 1) IntKind.u64.bits=1 from by decide,Int.zero_sub];exact Fz h0 h1
abbrev gT(x:Int×Int×Int):T:=.tup [I x.1,I x.2.1,I x.2.2]
theorem vo(b:List Int)(hb:ti b)(hl:b.length<2^60):DCalls Tryz.prog 24 [.slice 1 (b.map Y)] (gT (gi b)):=by
 refine dl2 mixed [.tmp 2,.tmp 3,.tmp 4] [I _,I _,I _] Tryz.func24 l24 ?_
 skip
 refine sa 0 (α:=Nat×Int) (β:=Int×Int) (fun q=>{sl:=[(5,.t (Q q.2)),(6,.t (I 0)),(9,.t (.slice 1 (b.map Y))),(10,.t (I b.length)),(11,.t (I q.1))],bx:=[]})
  (fun q=>q.1<=b.length/\q.1<=9/\0<=q.2/\q.2<128^q.1/\gz q.1 q.2 (b.drop q.1)=gi b) (fun q=>b.length - q.1)
  (fun z=>{sl:=[(5,.t (Q z.1)),(6,.t (I z.2))],bx:=[]}) (fun z=>(z.2=0/\gi b=(0,0,5))\/(0<z.2/\0<=z.1/\z.1<18446744073709551616/\gi b=(un z.1,z.2,0))) (0,0) ⟨by simp,by simp,by simp,by simp,rfl⟩ ?_ ?_ ?_
 ·repeat' (first|((refine leI ?_;simp;done))|exact wJ|refine And.intro ?_ ?_)
 ·rintro ⟨k,z⟩ ⟨hk,h9,hz,hz2,ho⟩;dsimp only at hk h9 hz hz2 ho;rcases Nat.lt_or_ge k b.length with h2|h2
  ·rw [wC h2] at ho;obtain ⟨c0,c1⟩:=hb b[k] (List.getElem_mem h2);have hxe:b[k]? =some b[k]:=ggZ h2;generalize b[k]=c at ho c0 c1 hxe;have hg:((b.map Y)[k]?.getD .nil)=Y c:=by rw [List.getElem?_map,hxe];rfl
   by_cases hE:(k=9/\c>1)\/(k>0/\c=0)
   ·rw [if_pos hE] at ho
    by_cases k9:k=9
    ·by_cases c1':c>1
     ·repeat' ((conv=>whnf);first|(refine nv_ (Y c) (by first|((simp only [Int.toNat_natCast];exact hg);done)|fail) ?_)|refine aE1 ?_|refine aD1 ?_|(refine And.intro (by first|((simp;omega);done)|fail) ?_)|refine aS ?_|(exact ri (by rw [<- ho]) (ri (by rw [<- ho]) (ri (by rw [<- ho]) trivial)))|refine nT_ ?_)
     ·have c0':c=0:=by omega
      repeat' ((conv=>whnf);first|(refine nv_ (Y c) (by first|((simp only [Int.toNat_natCast];exact hg);done)|fail) ?_)|refine aE1 ?_|refine aD1 ?_|refine aD0 ?_|(refine And.intro (by first|((simp;omega);done)|fail) ?_)|refine aS ?_|(exact ri (by rw [<- ho]) (ri (by rw [<- ho]) (ri (by rw [<- ho]) trivial)))|refine nT_ ?_)
    ·have c0':c=0:=by omega
     have k0:k>0:=by omega
     repeat' ((conv=>whnf);first|(refine nv_ (Y c) (by first|((simp only [Int.toNat_natCast];exact hg);done)|fail) ?_)|refine aE1 ?_|refine aE0 ?_|refine aD1 ?_|(refine And.intro (by first|((simp;omega);done)|fail) ?_)|refine aS ?_|(exact ri (by rw [<- ho]) (ri (by rw [<- ho]) (ri (by rw [<- ho]) trivial)))|refine nT_ ?_)
   rw [if_neg hE] at ho;have hd:=digit hz hz2 h9 c0 c1 (fun h=>by omega);have hw:IntKind.i64.wrap (7 * (k:Int))=((7 * k:Nat):Int):=by rw [np (by omega) (by omega)];simp
   have hv:z+c % 128 * 128^k=iF .or .u64 z (IntKind.u64.wrap (IntKind.u64.wrap (iF .and .u8 c 127) * 2^min (IntKind.i64.wrap (7 * (k:Int))).toNat IntKind.u64.bits)):=by
    rw [C4 c0 c1,w64 (n:=c % 128) (by omega) (by omega),hw,Int.toNat_natCast,show min (7 * k) IntKind.u64.bits=7 * k from Nat.min_eq_left (Nat.le_trans (by omega) (nlZ (n:=63) rfl)),hd.1]
   have hk1:(k:Int)+1=IntKind.i64.wrap ((k:Int)+1):=(np (by omega) (by omega)).symm
   by_cases c8:c<128
   ·rw [if_pos c8] at ho
    by_cases k9:k=9
    ·repeat' ((conv=>whnf);first|(refine nv_ (Y c) (by first|((simp only [Int.toNat_natCast];exact hg);done)|fail) ?_)|refine aE1 ?_|refine aE0 ?_|refine aD1 ?_|refine aD0 ?_|(refine And.intro (by first|((simp;omega);done)|fail) ?_)|refine aS ?_|refine nT_ ?_)
     refine ⟨(z+c % 128 * 128^k,(k:Int)+1),.inr ⟨by dsimp only;omega,hd.2.1,hd.2.2.2,ho.symm⟩,?_⟩
     repeat' (first|((refine leT ?_;exact congrArg Q hv))|((refine leI ?_;exact hk1))|exact wJ|refine And.intro ?_ ?_)
    by_cases k0:k=0
    ·repeat' ((conv=>whnf);first|(refine nv_ (Y c) (by first|((simp only [Int.toNat_natCast];exact hg);done)|fail) ?_)|refine aE0 ?_|refine aD1 ?_|refine aD0 ?_|(refine And.intro (by first|((simp;omega);done)|fail) ?_)|refine aS ?_|refine nT_ ?_)
     refine ⟨(z+c % 128 * 128^k,(k:Int)+1),.inr ⟨by dsimp only;omega,hd.2.1,hd.2.2.2,ho.symm⟩,?_⟩
     repeat' (first|((refine leT ?_;exact congrArg Q hv))|((refine leI ?_;exact hk1))|exact wJ|refine And.intro ?_ ?_)
    ·have c0':c≠0:=by omega
     repeat' ((conv=>whnf);first|(refine nv_ (Y c) (by first|((simp only [Int.toNat_natCast];exact hg);done)|fail) ?_)|refine aE0 ?_|refine aD1 ?_|(refine And.intro (by first|((simp;omega);done)|fail) ?_)|refine aS ?_|refine nT_ ?_)
     refine ⟨(z+c % 128 * 128^k,(k:Int)+1),.inr ⟨by dsimp only;omega,hd.2.1,hd.2.2.2,ho.symm⟩,?_⟩
     repeat' (first|((refine leT ?_;exact congrArg Q hv))|((refine leI ?_;exact hk1))|exact wJ|refine And.intro ?_ ?_)
   ·rw [if_neg c8] at ho;have k9:k≠9:=by omega
    by_cases k0:k=0
    ·repeat' ((conv=>whnf);first|(refine nv_ (Y c) (by first|((simp only [Int.toNat_natCast];exact hg);done)|fail) ?_)|refine aE0 ?_|refine aD1 ?_|refine aD0 ?_|(refine And.intro (by first|((simp;omega);done)|fail) ?_)|refine aS ?_|refine nT_ ?_)
     refine ⟨(k+1,z+c % 128 * 128^k),⟨by dsimp only;omega,by dsimp only;omega,hd.2.1,hd.2.2.1,ho⟩,by dsimp only;omega,?_⟩
     repeat' (first|((refine leT ?_;exact congrArg Q hv))|((refine leI ?_;exact hk1))|exact wJ|refine And.intro ?_ ?_)
    ·have c0':c≠0:=by omega
     repeat' ((conv=>whnf);first|(refine nv_ (Y c) (by first|((simp only [Int.toNat_natCast];exact hg);done)|fail) ?_)|refine aE0 ?_|refine aD1 ?_|refine aD0 ?_|(refine And.intro (by first|((simp;omega);done)|fail) ?_)|refine aS ?_|refine nT_ ?_)
     refine ⟨(k+1,z+c % 128 * 128^k),⟨by dsimp only;omega,by dsimp only;omega,hd.2.1,hd.2.2.1,ho⟩,by dsimp only;omega,?_⟩
     repeat' (first|((refine leT ?_;exact congrArg Q hv))|((refine leI ?_;exact hk1))|exact wJ|refine And.intro ?_ ?_)
  ·have:k=b.length:=by omega
   subst this;rw [List.drop_length] at ho
   repeat' ((conv=>whnf);first|refine aD0 ?_|refine aS ?_|fail)
   exact ⟨(z,0),.inl ⟨rfl,ho.symm⟩,by repeat' (first|exact wJ|refine And.intro ?_ ?_)⟩
 rintro ⟨z,u⟩ h;dsimp only at h;rcases h with ⟨h1,h2⟩|⟨h1,h2,h3,h4⟩
 ·subst h1;rw [h2]
  repeat' ((conv=>whnf);first|refine aE1 ?_|refine rix ?_|refine aS ?_|exact trivial)
 ·rw [h4];have hu:=EB h2 h3
  repeat' ((conv=>whnf);first|refine rv (by omega) ?_|refine rix ?_|refine aS ?_|exact trivial)
def val(b:List Int):Nat->Int
 |0=>0
 |k+1=>val b k+b.getD k 0 % 128 * 128^k
theorem uK(b:List Int): ∀k,0<=val b k
 |0=>Int.le_refl 0
 |k+1=>Int.add_nonneg (uK b k) (Int.mul_nonneg (Int.emod_nonneg _ (by decide)) (Int.le_of_lt (Int.pow_pos (by decide))))
theorem Bw(b:List Int): ∀k,val b k<128^k
 |0=>by show (0:Int)<1;decide
 |k+1=>by
  have h:=Bw b k;have m1:b.getD k 0 % 128<=127:=by omega
  have:b.getD k 0 % 128 * 128^k<=127 * 128^k:=Int.mul_le_mul_of_nonneg_right m1 (Int.le_of_lt (Int.pow_pos (by decide)))
  rw [val,Int.pow_succ];omega
def marked(b:List Int)(k:Nat):Prop:= ∀i,i<k->128<=b.getD i 0
theorem vz{b:List Int}: ∀{k:Nat},k<=9->k<=b.length->marked b k->gi b=gz k (val b k) (b.drop k)
 |0,_,_,_=>rfl
 |k+1,h9,hl,hm=>by
  rw [vz (k:=k) (by omega) (by omega) fun i hi=>hm i (by omega),wC (by omega)];have hk:=hm k (by omega);have e:b.getD k 0=b[k]:=by simp [List.getD_eq_getElem?_getD,show k<b.length by omega]
  rw [e] at hk;rw [if_neg (by omega),if_neg (by omega),val,e]
theorem D6{b:List Int}(hl:10<=b.length)(hm:marked b 10):gi b=(0,0,6):=by
 rw [vz (k:=9) (by omega) (by omega) fun i hi=>hm i (by omega),wC (by omega)];have hk:=hm 9 (by omega);have e:b.getD 9 0=b[9]:=by simp [List.getD_eq_getElem?_getD,show 9<b.length by omega]
 rw [e] at hk;rw [if_pos (.inl ⟨rfl,by omega⟩)]
theorem BQ{b:List Int}(hl:b.length<=9)(hm:marked b b.length):gi b=(0,0,5):=by
 rw [vz (k:=b.length) hl (Nat.le_refl _) hm,List.drop_length];rfl
theorem EL{b:List Int}{k:Nat}(h9:k<=9)(hl:k<b.length)(hm:marked b k)(hc:b.getD k 0<128):
  gi b=if (k=9/\b.getD k 0>1)\/(k>0/\b.getD k 0=0) then (0,0,6) else (un (val b (k+1)),(k:Int)+1,0):=by
 have e:b.getD k 0=b[k]:=by simp [List.getD_eq_getElem?_getD,hl]
 rw [vz h9 (by omega) hm,wC hl,val,e];rw [e] at hc
 by_cases h:(k=9/\b[k]>1)\/(k>0/\b[k]=0)
 ·rw [if_pos h,if_pos h]
 ·rw [if_neg h,if_neg h,if_pos hc]
theorem AM{z d:Int}(hz:0<=z)(h:z * 128+d % 128<18446744073709551616)(d0:0<=d):z * 128+d % 128=IntKind.u64.wrap (IntKind.u64.wrap (z * 128)+IntKind.u64.wrap (d.tmod 128)):=by
 rw [Int.tmod_eq_emod_of_nonneg d0,w64 (n:=z * 128) (by omega) (by omega),w64 (n:=d % 128) (by omega) (by omega),w64 (by omega) h]
theorem AN{z r p v V:Int}(ho:z * (p * 128)+(v+r * p)=V):(z * 128+r) * p+v=V:=by
 have:z * 128 * p=z * (p * 128):=by rw [Int.mul_assoc,Int.mul_comm 128 p]
 rw [Int.add_mul,this];omega
theorem AL{z p v V:Int}(hz:0<=z)(hp:1<=p)(hv:0<=v)(ho:z * p+v=V):z<=V:=by
 have:=Int.mul_le_mul_of_nonneg_left hp hz
 omega
theorem BO{V:Int}(h0:0<=V)(h1:V<18446744073709551616)(hq:V % 2=1):IntKind.i64.wrap (-1 - IntKind.i64.wrap (IntKind.u64.wrap (V.tdiv 2)))=un V:=by
 rw [Int.tdiv_eq_ediv_of_nonneg h0,w64 (n:=V / 2) (by omega) (by omega),np (n:=V / 2) (by omega) (by omega),np (by omega) (by omega),un,if_pos hq]
theorem BN{V:Int}(h0:0<=V)(h1:V<18446744073709551616)(hq: ¬V % 2=1):IntKind.i64.wrap (IntKind.u64.wrap (V.tdiv 2))=un V:=by
 rw [Int.tdiv_eq_ediv_of_nonneg h0,w64 (n:=V / 2) (by omega) (by omega),np (by omega) (by omega),un,if_neg hq]
theorem um(b:List Int)(hb:ti b)(hl:b.length<2^60):DCalls Tryz.prog 27 [.slice 1 (b.map Y)] (gT (gi b)):=by
 refine dl2 mixed [.tmp 2,.tmp 3,.tmp 4] [I _,I _,I _] Tryz.func27 l27 ?_
 skip
 refine sa 0 (α:=Nat) (β:=Nat) (fun k=>{sl:=[(0,.t (.slice 1 (b.map Y))),(5,.t (I k))],bx:=[]})
  (fun k=>k<=b.length/\k<=10/\marked b k) (fun k=>b.length - k)
  (fun k=>{sl:=[(0,.t (.slice 1 (b.map Y))),(5,.t (I k))],bx:=[]}) (fun k=>k<=b.length/\k<=10/\marked b k/\(k<b.length->k<10->b.getD k 0<128)) 0 ⟨by simp,by simp,fun i hi=>absurd hi (by omega)⟩ ?_ ?_ ?_
 ·repeat' (first|exact wJ|refine And.intro ?_ ?_)
 ·rintro k ⟨hk,h10,hm⟩;rcases Nat.lt_or_ge k b.length with h2|h2
  ·obtain ⟨c0,c1⟩:=hb b[k] (List.getElem_mem h2);have hxe:b[k]? =some b[k]:=ggZ h2;have e:b.getD k 0=b[k]:=by simp [List.getD_eq_getElem?_getD,h2]
   generalize b[k]=c at c0 c1 hxe e;have hg:((b.map Y)[k]?.getD .nil)=Y c:=by rw [List.getElem?_map,hxe];rfl
   have hk1:(k:Int)+1=IntKind.i64.wrap ((k:Int)+1):=(np (by omega) (by omega)).symm
   by_cases k10:k<10
   ·by_cases c8:128<=c
    ·repeat' ((conv=>whnf);first|(refine ru (by simp;omega) ?_)|(refine nv_ (Y c) (by first|((simp only [Int.toNat_natCast];exact hg);done)|fail) ?_)|refine aD1 ?_|(refine And.intro (by first|((simp;omega);done)|fail) ?_)|refine aS ?_|refine nT_ ?_)
     refine ⟨k+1,⟨by omega,by omega,fun i hi=>?_⟩,by omega,by repeat' (first|((refine leI ?_;exact hk1))|exact wJ|refine And.intro ?_ ?_)⟩;rcases Nat.lt_or_ge i k with h3|h3
     ·exact hm i h3
     ·rw [show i=k by omega,e];exact c8
    ·repeat' ((conv=>whnf);first|(refine ru (by simp;omega) ?_)|(refine nv_ (Y c) (by first|((simp only [Int.toNat_natCast];exact hg);done)|fail) ?_)|refine aD1 ?_|refine aD0 ?_|(refine And.intro (by first|((simp;omega);done)|fail) ?_)|refine aS ?_|refine nT_ ?_)
     exact ⟨k,⟨by omega,h10,hm,fun _ _=>by rw [e];omega⟩,by repeat' (first|exact wJ|refine And.intro ?_ ?_)⟩
   ·repeat' ((conv=>whnf);first|(refine ru (by simp;omega) ?_)|refine aD0 ?_|refine aS ?_|fail)
    exact ⟨k,⟨by omega,h10,hm,fun _ h=>absurd h k10⟩,by repeat' (first|exact wJ|refine And.intro ?_ ?_)⟩
  ·repeat' ((conv=>whnf);first|(refine rq (by simp;omega) ?_)|refine aS ?_|fail)
   exact ⟨k,⟨by omega,h10,hm,fun h=>absurd h (by omega)⟩,by repeat' (first|exact wJ|refine And.intro ?_ ?_)⟩
 rintro k ⟨hk,h10,hm,hc⟩
 by_cases k10:k=10
 ·subst k10;rw [D6 (by omega) hm]
  repeat' ((conv=>whnf);first|refine aE1 ?_|refine rix ?_|refine aS ?_|exact trivial)
 by_cases kl:k=b.length
 ·subst kl;rw [BQ (by omega) hm]
  repeat' ((conv=>whnf);first|refine ry (by simp) ?_|refine aE0 ?_|refine rix ?_|refine aS ?_|exact trivial)
 have h2:k<b.length:=by omega
 have hg0:=EL (by omega) h2 hm (hc h2 (by omega));obtain ⟨c0,c1⟩:=hb b[k] (List.getElem_mem h2);have hxe:b[k]? =some b[k]:=ggZ h2;have e:b.getD k 0=b[k]:=by simp [List.getD_eq_getElem?_getD,h2]
 rw [e] at hg0;generalize b[k]=c at c0 c1 hxe e hg0;have hg:((b.map Y)[k]?.getD .nil)=Y c:=by rw [List.getElem?_map,hxe];rfl
 by_cases hE:(k=9/\c>1)\/(k>0/\c=0)
 ·rw [if_pos hE] at hg0;rw [hg0]
  by_cases k9:k=9
  ·by_cases c1':c>1
   ·repeat' ((conv=>whnf);first|exact trivial|(refine rv (by simp;omega) ?_)|(refine nv_ (Y c) (by first|((simp only [Int.toNat_natCast];exact hg);done)|fail) ?_)|refine aE1 ?_|refine aD1 ?_|refine rix ?_|(refine And.intro (by first|((simp;omega);done)|fail) ?_)|refine aS ?_|refine nT_ ?_)
   ·have c0':c=0:=by omega
    repeat' ((conv=>whnf);first|exact trivial|(refine rv (by simp;omega) ?_)|(refine nv_ (Y c) (by first|((simp only [Int.toNat_natCast];exact hg);done)|fail) ?_)|refine aE1 ?_|refine aD1 ?_|refine aD0 ?_|refine rix ?_|(refine And.intro (by first|((simp;omega);done)|fail) ?_)|refine aS ?_|refine nT_ ?_)
  ·have c0':c=0:=by omega
   have k0:k>0:=by omega
   repeat' ((conv=>whnf);first|exact trivial|(refine rv (by simp;omega) ?_)|(refine nv_ (Y c) (by first|((simp only [Int.toNat_natCast];exact hg);done)|fail) ?_)|refine aE1 ?_|refine aD1 ?_|refine rix ?_|(refine And.intro (by first|((simp;omega);done)|fail) ?_)|refine aS ?_|refine nT_ ?_)
 rw [if_neg hE] at hg0;rw [hg0];have hd:=digit (uK b k) (Bw b k) (show k<=9 by omega) c0 c1 (fun h=>by omega);have hv:val b (k+1)=val b k+c % 128 * 128^k:=by rw [val,e]
 rw [<- hv] at hd;obtain ⟨-,V0, -,V1⟩:=hd;have hkw:IntKind.i64.wrap ((k:Int)+1)=(k:Int)+1:=np (by omega) (by omega);have cs:(k=9/\c<=1/\c≠0)\/(k≠9/\k=0)\/(k≠9/\k>0/\c≠0):=by omega
 clear hE hv hg0;rcases cs with ⟨k9,c1',c0'⟩|⟨k9,k0⟩|⟨k9,k0,c0'⟩
 all_goals repeat' ((conv=>whnf);first|(refine rv (by simp;omega) ?_)|(refine nv_ (Y c) (by first|((simp only [Int.toNat_natCast];exact hg);done)|fail) ?_)|refine aE1 ?_|refine aD1 ?_|refine aD0 ?_|(refine And.intro (by first|((simp;omega);done)|fail) ?_)|refine aS ?_|refine nT_ ?_)
 all_goals (conv=>whnf)
 all_goals refine sa 2 (α:=Nat×Int) (β:=Unit) (fun q=>{sl:=[(0,.t (.slice 1 (b.map Y))),(5,.t (I k)),(6,.t (Q q.2)),(7,.t (I ((q.1:Int) - 1)))],bx:=[]}) (fun q=>q.1<=k+1/\0<=q.2/\q.2 * 128^q.1+val b q.1=val b (k+1)) (fun q=>q.1) (fun _=>{sl:=[(5,.t (I k)),(6,.t (Q (val b (k+1))))],bx:=[]}) (fun _=>True) (k+1,0) ⟨by simp,by simp,by simp⟩ ?_ ?_ ?_
 ·repeat' (first|((refine leI ?_;simp;done))|exact wJ|refine And.intro ?_ ?_)
 ·rintro ⟨m,z⟩ ⟨hm1,hz,ho⟩;dsimp only at hm1 hz ho;cases m with
  |zero=>
   have ho':val b (k+1)=z:=by rw [<- ho];simp [val]
   repeat' ((conv=>whnf);first|refine aD0 ?_|refine aS ?_|fail)
   exact ⟨(),trivial,by repeat' (first|((refine leT ?_;exact congrArg Q ho'))|exact wJ|refine And.intro ?_ ?_)⟩
  |succ j=>
   have hj:j<b.length:=by omega
   obtain ⟨d0,d1⟩:=hb b[j] (List.getElem_mem hj);have hxe:b[j]? =some b[j]:=ggZ hj;have e:b.getD j 0=b[j]:=by simp [List.getD_eq_getElem?_getD,hj]
   rw [val,e,Int.pow_succ] at ho;generalize b[j]=d at d0 d1 hxe e ho;have hV:=AN ho;have hs:=AM hz (Int.lt_of_le_of_lt (AL (by omega) (Int.pow_pos (by decide)) (uK b j) hV) V1) d0;have hi1:((j:Nat):Int) - 1=IntKind.i64.wrap ((((j+1:Nat):Int) - 1) - 1):=by rw [np (by omega) (by omega)];omega
   have hg:((b.map Y)[j]?.getD .nil)=Y d:=by rw [List.getElem?_map,hxe];rfl
   repeat' ((conv=>whnf);first|(refine nv_ (Y d) (by first|((dsimp only;rw [show (((j+1:Nat):Int) - 1).toNat=j by omega];exact hg);done)|fail) ?_)|refine aD1 ?_|(refine And.intro (by first|((simp;omega);done)|fail) ?_)|refine aS ?_|refine nT_ ?_)
   refine ⟨(j,z * 128+d % 128),⟨by dsimp only;omega,by dsimp only;omega,hV⟩,by dsimp only;omega,?_⟩
   repeat' (first|((refine leT ?_;exact congrArg Q hs))|((refine leI ?_;exact hi1))|exact wJ|refine And.intro ?_ ?_)
 ·rintro - -
  repeat' ((conv=>whnf);first|refine nE_ (fun hq=>?_) (fun hq=>?_)|refine aS ?_|refine ri ?_ (ri ?_ (ri rfl trivial)))
  all_goals dsimp only
  all_goals first|exact hkw|skip
  ·exact BO V0 V1 (by rw [<- Int.tmod_eq_emod_of_nonneg V0];exact hq)
  ·exact BN V0 V1 (by rw [<- Int.tmod_eq_emod_of_nonneg V0];exact hq)
 ·repeat' (first|((refine leI ?_;simp;done))|exact wJ|refine And.intro ?_ ?_)
 ·rintro ⟨m,z⟩ ⟨hm1,hz,ho⟩;dsimp only at hm1 hz ho;cases m with
  |zero=>
   have ho':val b (k+1)=z:=by rw [<- ho];simp [val]
   repeat' ((conv=>whnf);first|refine aD0 ?_|refine aS ?_|fail)
   exact ⟨(),trivial,by repeat' (first|((refine leT ?_;exact congrArg Q ho'))|exact wJ|refine And.intro ?_ ?_)⟩
  |succ j=>
   have hj:j<b.length:=by omega
   obtain ⟨d0,d1⟩:=hb b[j] (List.getElem_mem hj);have hxe:b[j]? =some b[j]:=ggZ hj;have e:b.getD j 0=b[j]:=by simp [List.getD_eq_getElem?_getD,hj]
   rw [val,e,Int.pow_succ] at ho;generalize b[j]=d at d0 d1 hxe e ho;have hV:=AN ho;have hs:=AM hz (Int.lt_of_le_of_lt (AL (by omega) (Int.pow_pos (by decide)) (uK b j) hV) V1) d0;have hi1:((j:Nat):Int) - 1=IntKind.i64.wrap ((((j+1:Nat):Int) - 1) - 1):=by rw [np (by omega) (by omega)];omega
   have hg:((b.map Y)[j]?.getD .nil)=Y d:=by rw [List.getElem?_map,hxe];rfl
   repeat' ((conv=>whnf);first|(refine nv_ (Y d) (by first|((dsimp only;rw [show (((j+1:Nat):Int) - 1).toNat=j by omega];exact hg);done)|fail) ?_)|refine aD1 ?_|(refine And.intro (by first|((simp;omega);done)|fail) ?_)|refine aS ?_|refine nT_ ?_)
   refine ⟨(j,z * 128+d % 128),⟨by dsimp only;omega,by dsimp only;omega,hV⟩,by dsimp only;omega,?_⟩
   repeat' (first|((refine leT ?_;exact congrArg Q hs))|((refine leI ?_;exact hi1))|exact wJ|refine And.intro ?_ ?_)
 ·rintro - -
  repeat' ((conv=>whnf);first|refine nE_ (fun hq=>?_) (fun hq=>?_)|refine aS ?_|refine ri ?_ (ri ?_ (ri rfl trivial)))
  all_goals dsimp only
  all_goals first|exact hkw|skip
  ·exact BO V0 V1 (by rw [<- Int.tmod_eq_emod_of_nonneg V0];exact hq)
  ·exact BN V0 V1 (by rw [<- Int.tmod_eq_emod_of_nonneg V0];exact hq)
 ·repeat' (first|((refine leI ?_;simp;done))|exact wJ|refine And.intro ?_ ?_)
 ·rintro ⟨m,z⟩ ⟨hm1,hz,ho⟩;dsimp only at hm1 hz ho;cases m with
  |zero=>
   have ho':val b (k+1)=z:=by rw [<- ho];simp [val]
   repeat' ((conv=>whnf);first|refine aD0 ?_|refine aS ?_|fail)
   exact ⟨(),trivial,by repeat' (first|((refine leT ?_;exact congrArg Q ho'))|exact wJ|refine And.intro ?_ ?_)⟩
  |succ j=>
   have hj:j<b.length:=by omega
   obtain ⟨d0,d1⟩:=hb b[j] (List.getElem_mem hj);have hxe:b[j]? =some b[j]:=ggZ hj;have e:b.getD j 0=b[j]:=by simp [List.getD_eq_getElem?_getD,hj]
   rw [val,e,Int.pow_succ] at ho;generalize b[j]=d at d0 d1 hxe e ho;have hV:=AN ho;have hs:=AM hz (Int.lt_of_le_of_lt (AL (by omega) (Int.pow_pos (by decide)) (uK b j) hV) V1) d0;have hi1:((j:Nat):Int) - 1=IntKind.i64.wrap ((((j+1:Nat):Int) - 1) - 1):=by rw [np (by omega) (by omega)];omega
   have hg:((b.map Y)[j]?.getD .nil)=Y d:=by rw [List.getElem?_map,hxe];rfl
   repeat' ((conv=>whnf);first|(refine nv_ (Y d) (by first|((dsimp only;rw [show (((j+1:Nat):Int) - 1).toNat=j by omega];exact hg);done)|fail) ?_)|refine aD1 ?_|(refine And.intro (by first|((simp;omega);done)|fail) ?_)|refine aS ?_|refine nT_ ?_)
   refine ⟨(j,z * 128+d % 128),⟨by dsimp only;omega,by dsimp only;omega,hV⟩,by dsimp only;omega,?_⟩
   repeat' (first|((refine leT ?_;exact congrArg Q hs))|((refine leI ?_;exact hi1))|exact wJ|refine And.intro ?_ ?_)
 ·rintro - -
  repeat' ((conv=>whnf);first|refine nE_ (fun hq=>?_) (fun hq=>?_)|refine aS ?_|refine ri ?_ (ri ?_ (ri rfl trivial)))
  all_goals dsimp only
  all_goals first|exact hkw|skip
  ·exact BO V0 V1 (by rw [<- Int.tmod_eq_emod_of_nonneg V0];exact hq)
  ·exact BN V0 V1 (by rw [<- Int.tmod_eq_emod_of_nonneg V0];exact hq)
theorem Ez{z:Int}(h0:0<=z)(h1:z<18446744073709551616):i64 (un z):=by
 unfold un i64;split <;> omega
theorem CK: ∀{l:List Int} {k:Nat} {z:Int},ti l->k<=9->0<=z->z<128^k->i64 (gz k z l).1/\0<=(gz k z l).2.1/\(gz k z l).2.1<=k+l.length/\0<=(gz k z l).2.2/\(gz k z l).2.2<=6/\((gz k z l).2.2=0->(k:Int)+1<=(gz k z l).2.1)
 |[],k,z,_,_,_,_=>by
  rw [gz];refine ⟨by unfold i64;omega,by simp,by simp,by simp,by simp,by simp⟩
 |c::l,k,z,hb,h9,hz,hz2=>by
  obtain ⟨c0,c1⟩:=hb c (by simp);rw [gz]
  by_cases hE:(k=9/\c>1)\/(k>0/\c=0)
  ·rw [if_pos hE];refine ⟨by unfold i64;omega,by simp,by simp;omega,by simp,by simp,by simp⟩
  rw [if_neg hE];obtain ⟨-,d1,d2,d3⟩:=digit hz hz2 h9 c0 c1 (fun h=>by omega)
  by_cases c8:c<128
  ·rw [if_pos c8];exact ⟨Ez d1 d3,by dsimp only;omega,by dsimp only;simp only [List.length_cons];omega,by simp,by simp,by simp⟩
  ·rw [if_neg c8];obtain ⟨q1,q2,q3,q4,q5,q6⟩:=CK (l:=l) (k:=k+1) (z:=z+c % 128 * 128^k) (fun x hx=>hb x (by simp [hx])) (by omega) d1 d2;refine ⟨q1,q2,?_,q4,q5,fun h=>by have:=q6 h;omega⟩;simp only [List.length_cons];omega
theorem uj{b:List Int}(hb:ti b):i64 (gi b).1/\0<=(gi b).2.1/\(gi b).2.1<=b.length/\0<=(gi b).2.2/\(gi b).2.2<=6/\((gi b).2.2=0->1<=(gi b).2.1):=by
 obtain ⟨q1,q2,q3,q4,q5,q6⟩:=CK (k:=0) (z:=0) hb (by omega) (by omega) (by decide);have e:gi b=gz 0 0 b:=rfl;rw [e];exact ⟨q1,q2,by omega,q4,q5,fun h=>by have:=q6 h;omega⟩
def gl(b:List Int)(least:Int):Int×Int×Int:=if (gi b).2.2≠0 then (0,0,(gi b).2.2) else if (gi b).1<0 then (0,0,6) else if (gi b).1>(b.length - (gi b).2.1) / least then (0,0,5) else ((gi b).1,(gi b).2.1,0)
theorem vV(b:List Int)(least:Int)(hb:ti b)(hl:b.length<2^60)(h0:0<least)(h1:least<100):DCalls Tryz.prog 49 [.slice 1 (b.map Y),I least] (gT (gl b least)):=by
 refine dl2 mixed [.tmp 4,.tmp 5,.tmp 6] [I _,I _,I _] Tryz.func49 l49 ?_;have hG:=vo b hb hl;obtain ⟨q1,q2,q3,q4,q5,q6⟩:=uj hb;unfold gl;generalize gi b=g at *
 obtain ⟨n,u,e⟩:=g;dsimp only at *
 by_cases e0:e=0
 case neg=>
  rw [if_pos e0]
  repeat' ((conv=>whnf);first|refine sV _ (hG) ?_|refine sW e0 ?_|refine rix ?_|refine aS ?_|exact trivial)
 rw [if_neg (by simpa using e0)]
 by_cases n0:n<0
 ·rw [if_pos n0]
  repeat' ((conv=>whnf);first|refine sV _ (hG) ?_|refine rz e0 ?_|refine ru n0 ?_|refine rix ?_|refine aS ?_|exact trivial)
 rw [if_neg n0];have hq:IntKind.i64.wrap ((IntKind.i64.wrap (((b.map Y).length:Int) - u)).tdiv least)=(b.length - u) / least:=by
  rw [List.length_map,np (n:=(b.length:Int) - u) (by omega) (by omega),Int.tdiv_eq_ediv_of_nonneg (by omega)];have h3:0<=((b.length:Int) - u) / least:=Int.ediv_nonneg (by omega) (by omega);have h4:((b.length:Int) - u) / least<=(b.length:Int) - u:=Int.ediv_le_self _ (by omega);exact np (by omega) (by omega)
 by_cases c:n>(b.length - u) / least
 ·rw [if_pos c]
  repeat' ((conv=>whnf);first|refine sV _ (hG) ?_|refine rz e0 ?_|refine rq n0 ?_|(refine ru (by rw [hq];exact c) ?_)|refine rix ?_|(refine And.intro (by first|(omega;done)|fail) ?_)|refine aS ?_|exact trivial)
 ·rw [if_neg c]
  repeat' ((conv=>whnf);first|refine sV _ (hG) ?_|refine rz e0 ?_|refine rq n0 ?_|(refine rq (by rw [hq];exact c) ?_)|refine rix ?_|(refine And.intro (by first|(omega;done)|fail) ?_)|refine aS ?_|exact trivial)
theorem wH(b:List Int)(least:Int)(hb:ti b)(hl:b.length<2^60)(h0:0<least)(h1:least<100):DCalls Tryz.prog 51 [.slice 1 (b.map Y),I least] (gT (gl b least)):=by
 refine dl2 mixed [.tmp 4,.tmp 5,.tmp 6] [I _,I _,I _] Tryz.func51 l51 ?_;have hG:=um b hb hl;obtain ⟨q1,q2,q3,q4,q5,q6⟩:=uj hb;unfold gl;generalize gi b=g at *
 obtain ⟨n,u,e⟩:=g;dsimp only at *
 by_cases e0:e=0
 case neg=>
  rw [if_pos e0]
  repeat' ((conv=>whnf);first|refine sV _ (hG) ?_|refine sW e0 ?_|refine rix ?_|refine aS ?_|exact trivial)
 rw [if_neg (by simpa using e0)]
 by_cases n0:n<0
 ·rw [if_pos n0]
  repeat' ((conv=>whnf);first|refine sV _ (hG) ?_|refine rz e0 ?_|refine ru n0 ?_|refine rix ?_|refine aS ?_|exact trivial)
 rw [if_neg n0];have hq:IntKind.i64.wrap ((IntKind.i64.wrap (((b.map Y).length:Int) - u)).tdiv least)=(b.length - u) / least:=by
  rw [List.length_map,np (n:=(b.length:Int) - u) (by omega) (by omega),Int.tdiv_eq_ediv_of_nonneg (by omega)];have h3:0<=((b.length:Int) - u) / least:=Int.ediv_nonneg (by omega) (by omega);have h4:((b.length:Int) - u) / least<=(b.length:Int) - u:=Int.ediv_le_self _ (by omega);exact np (by omega) (by omega)
 by_cases c:n>(b.length - u) / least
 ·rw [if_pos c]
  repeat' ((conv=>whnf);first|refine sV _ (hG) ?_|refine rz e0 ?_|refine rq n0 ?_|(refine ru (by rw [hq];exact c) ?_)|refine rix ?_|(refine And.intro (by first|(omega;done)|fail) ?_)|refine aS ?_|exact trivial)
 ·rw [if_neg c]
  repeat' ((conv=>whnf);first|refine sV _ (hG) ?_|refine rz e0 ?_|refine rq n0 ?_|(refine rq (by rw [hq];exact c) ?_)|refine rix ?_|(refine And.intro (by first|(omega;done)|fail) ?_)|refine aS ?_|exact trivial)
def gis:Nat->List Int->Int->List Int->List Int×Int×Int
 |0,_,at',acc=>(acc,at',0)
 |n+1,b,at',acc=>if (gi (b.drop at'.toNat)).2.2≠0 then ([],0,(gi (b.drop at'.toNat)).2.2) else gis n b (at'+(gi (b.drop at'.toNat)).2.1) (acc++[(gi (b.drop at'.toNat)).1])
def tj(b:List Int):List Int×Int×Int:=if (gl b 1).2.2≠0 then ([],0,(gl b 1).2.2) else gis (gl b 1).1.toNat b (gl b 1).2.1 []
abbrev gsT(x:List Int×Int×Int):T:=.tup [if x.2.2≠0 then .nil else .slice 1 (x.1.map I),I x.2.1,I x.2.2]
theorem tk{b:List Int}(h:ti b)(k:Nat):ti (b.drop k):=fun x hx=>h x (List.mem_of_mem_drop hx)
theorem u6{b:List Int}{least:Int}(hb:ti b)(h0:0<least):0<=(gl b least).1/\0<=(gl b least).2.1/\(gl b least).2.1<=b.length/\(gl b least).1 * least<=b.length - (gl b least).2.1:=by
 obtain ⟨q1,q2,q3,q4,q5,q6⟩:=uj hb;unfold gl;generalize gi b=g at *
 obtain ⟨n,u,e⟩:=g;dsimp only at *
 by_cases e0:e≠0
 ·rw [if_pos e0];refine ⟨by simp,by simp,by simp,by simp⟩
 rw [if_neg e0]
 by_cases n0:n<0
 ·rw [if_pos n0];refine ⟨by simp,by simp,by simp,by simp⟩
 rw [if_neg n0]
 by_cases c:n>(b.length - u) / least
 ·rw [if_pos c];refine ⟨by simp,by simp,by simp,by simp⟩
 rw [if_neg c];refine ⟨by dsimp only;omega,by dsimp only;omega,by dsimp only;omega,?_⟩;dsimp only;have h1:n * least<=(b.length - u) / least * least:=Int.mul_le_mul_of_nonneg_right (by omega) (by omega);have h2:((b.length:Int) - u) / least * least<=(b.length:Int) - u:=Int.ediv_mul_le _ (by omega);omega
theorem yW{n:Nat}{b:List Int}{a:Int}{acc:List Int}(k:Nat)(hk:k<n):gis (n - k) b a acc=if (gi (b.drop a.toNat)).2.2≠0 then ([],0,(gi (b.drop a.toNat)).2.2) else gis (n - (k+1)) b (a+(gi (b.drop a.toNat)).2.1) (acc++[(gi (b.drop a.toNat)).1]):=by
 obtain ⟨m,hm⟩: ∃m,n - k=m+1:=⟨n - k - 1,by omega⟩
 rw [hm,show n - (k+1)=m by omega];rfl
theorem vp(b:List Int)(hb:ti b)(hl:b.length<2^40):DCalls Tryz.prog 29 [.slice 1 (b.map Y)] (gsT (tj b)):=by
 refine dl2 mixed [.tmp 2,.tmp 3,.tmp 4] [_,I _,I _] Tryz.func29 l29 ?_;have hL:=wH b 1 hb (by omega) (by omega) (by omega);obtain ⟨g1,g2,g3,g4⟩:=u6 (least:=1) hb (by omega);have hgi:tj b=if (gl b 1).2.2≠0 then ([],0,(gl b 1).2.2) else gis (gl b 1).1.toNat b (gl b 1).2.1 []:=rfl
 generalize gl b 1=g at *
 obtain ⟨n,u,e⟩:=g;dsimp only at *
 by_cases e0:e=0
 case neg=>
  rw [if_pos e0] at hgi;rw [hgi];show wpC _ _ _ (nq _ _ [if e≠0 then .nil else .slice 1 ([].map I),I 0,I e])
  rw [if_pos e0]
  repeat' ((conv=>whnf);first|refine sV _ (hL) ?_|refine sW e0 ?_|refine rix ?_|refine aS ?_|exact trivial)
 rw [if_neg (fun h=>h e0)] at hgi;rw [hgi]
 repeat' ((conv=>whnf);first|refine sV _ (hL) ?_|refine rz e0 ?_|refine aS ?_|fail)
 have hr:gsT (gis n.toNat b u [])= .tup [if (gis n.toNat b u []).2.2≠0 then .nil else .slice 1 ((gis n.toNat b u []).1.map I),I (gis n.toNat b u []).2.1,I (gis n.toNat b u []).2.2]:=rfl;refine sa 0 (α:=Nat×Nat×Int×List Int) (β:=Nat×Int×List Int) (fun q=>{sl:=[(0,.t (.slice 1 (b.map Y))),(5,.t (I n)),(6,.t (I q.2.2.1)),(8,.own q.1 3 1 (q.2.2.2.map I)),(9,.t (I q.2.1))],bx:=[]})
  (fun q=>q.2.1<=n.toNat/\q.2.2.2.length=q.2.1/\0<=q.2.2.1/\q.2.2.1<=b.length/\gis (n.toNat - q.2.1) b q.2.2.1 q.2.2.2=gis n.toNat b u []) (fun q=>n.toNat - q.2.1)
  (fun q=>{sl:=[(6,.t (I q.2.1)),(8,.own q.1 3 1 (q.2.2.map I))],bx:=[]}) (fun q=>gis n.toNat b u []=(q.2.2,q.2.1,0)) (41,0,u,[]) ⟨by simp,rfl,g2,g3,rfl⟩ ?_ ?_ ?_
 ·repeat' (first|exact wJ|refine And.intro ?_ ?_)
 ·rintro ⟨q,k,a,acc⟩ ⟨hk,hla,ha0,ha1,ho⟩;dsimp only at hk hla ha0 ha1 ho;rcases Nat.lt_or_ge k n.toNat with h2|h2
  ·rw [yW k h2] at ho;have hG:=um (b.drop a.toNat) (tk hb _) (by simp;omega);obtain ⟨q1,q2,q3,q4,q5,q6⟩:=uj (tk hb a.toNat);rw [List.length_drop] at q3;rw [List.map_drop,show (b.map Y).drop a.toNat=List.drop a.toNat (List.take ((((b.map Y).length:Nat):Int)).toNat (b.map Y)) by rw [Int.toNat_natCast,List.take_length]] at hG;generalize gi (b.drop a.toNat)=g at *
   obtain ⟨v,w,f⟩:=g;dsimp only at *
   by_cases f0:f=0
   ·rw [if_neg (fun h=>h f0)] at ho
    repeat' ((conv=>whnf);first|refine sV _ (hG) ?_|refine rz f0 ?_|refine aD1 ?_|(refine And.intro (by first|((simp;omega);done)|fail) ?_)|refine aS ?_|refine nT_ ?_)
    have hw1:a+w=IntKind.i64.wrap (a+w):=(np (by omega) (by omega)).symm;have hw2:((k+1:Nat):Int)=IntKind.i64.wrap ((k:Int)+1):=by rw [np (by omega) (by omega)];rfl
    refine ⟨(41,k+1,a+w,acc++[v]),⟨by dsimp only;omega,by simp [hla],by dsimp only;omega,by dsimp only;omega,ho⟩,by dsimp only;omega,?_⟩
    repeat' (first|((refine leI ?_;first|exact hw1|exact hw2))|((refine s6 ?_;simp;done))|exact wJ|refine And.intro ?_ ?_)
   ·rw [if_pos f0] at ho
    repeat' ((conv=>whnf);first|refine sV _ (hG) ?_|refine sW f0 ?_|refine nT_ ?_|refine aD1 ?_|(refine And.intro (by first|((simp;omega);done)|fail) ?_)|refine aS ?_|refine rt ?_ (ri ?_ (ri ?_ trivial)))
    all_goals rw [<- ho]
    exact (if_pos f0).symm
  ·have:k=n.toNat:=by omega
   subst this;rw [Nat.sub_self] at ho
   repeat' ((conv=>whnf);first|(refine rq (by simp;omega) ?_)|refine aS ?_|fail)
   exact ⟨(q,a,acc),ho.symm,by repeat' (first|exact wJ|refine And.intro ?_ ?_)⟩
 rintro ⟨q,a,acc⟩ h;rw [h]
 repeat' ((conv=>whnf);first|refine rix ?_|refine aS ?_|exact trivial)
theorem Bu(b:List Int)(hb:ti b)(hl:b.length<2^40):DCalls Tryz.prog 50 [.slice 1 (b.map Y),I 1,.clos 24 []] (gsT (tj b)):=by
 refine dl2 mixed [.tmp 6,.tmp 7,.tmp 8] [_,I _,I _] Tryz.func50 l50 ?_;have hL:=vV b 1 hb (by omega) (by omega) (by omega);obtain ⟨g1,g2,g3,g4⟩:=u6 (least:=1) hb (by omega);have hgi:tj b=if (gl b 1).2.2≠0 then ([],0,(gl b 1).2.2) else gis (gl b 1).1.toNat b (gl b 1).2.1 []:=rfl
 generalize gl b 1=g at *
 obtain ⟨n,u,e⟩:=g;dsimp only at *
 by_cases e0:e=0
 case neg=>
  rw [if_pos e0] at hgi;rw [hgi];show wpC _ _ _ (nq _ _ [if e≠0 then .nil else .slice 1 ([].map I),I 0,I e])
  rw [if_pos e0]
  repeat' ((conv=>whnf);first|refine sV _ (hL) ?_|refine sW e0 ?_|refine rix ?_|refine aS ?_|exact trivial)
 rw [if_neg (fun h=>h e0)] at hgi;rw [hgi]
 repeat' ((conv=>whnf);first|refine sV _ (hL) ?_|refine rz e0 ?_|refine aS ?_|fail)
 have hr:gsT (gis n.toNat b u [])= .tup [if (gis n.toNat b u []).2.2≠0 then .nil else .slice 1 ((gis n.toNat b u []).1.map I),I (gis n.toNat b u []).2.1,I (gis n.toNat b u []).2.2]:=rfl;refine sa 0 (α:=Nat×Nat×Int×List Int) (β:=Nat×Int×List Int) (fun q=>{sl:=[(0,.t (.slice 1 (b.map Y))),(2,.t (.clos 24 [])),(10,.t (I q.2.2.1)),(12,.own q.1 3 1 (q.2.2.2.map I)),(26,.t (I n)),(27,.t (I q.2.1))],bx:=[]})
  (fun q=>q.2.1<=n.toNat/\q.2.2.2.length=q.2.1/\0<=q.2.2.1/\q.2.2.1<=b.length/\gis (n.toNat - q.2.1) b q.2.2.1 q.2.2.2=gis n.toNat b u []) (fun q=>n.toNat - q.2.1)
  (fun q=>{sl:=[(10,.t (I q.2.1)),(12,.own q.1 3 1 (q.2.2.map I))],bx:=[]}) (fun q=>gis n.toNat b u []=(q.2.2,q.2.1,0)) (44,0,u,[]) ⟨by simp,rfl,g2,g3,rfl⟩ ?_ ?_ ?_
 ·repeat' (first|exact wJ|refine And.intro ?_ ?_)
 ·rintro ⟨q,k,a,acc⟩ ⟨hk,hla,ha0,ha1,ho⟩;dsimp only at hk hla ha0 ha1 ho;rcases Nat.lt_or_ge k n.toNat with h2|h2
  ·rw [yW k h2] at ho;have hG:=vo (b.drop a.toNat) (tk hb _) (by simp;omega);obtain ⟨q1,q2,q3,q4,q5,q6⟩:=uj (tk hb a.toNat);rw [List.length_drop] at q3;rw [List.map_drop,show (b.map Y).drop a.toNat=List.drop a.toNat (List.take ((((b.map Y).length:Nat):Int)).toNat (b.map Y)) by rw [Int.toNat_natCast,List.take_length]] at hG;generalize gi (b.drop a.toNat)=g at *
   obtain ⟨v,w,f⟩:=g;dsimp only at *
   by_cases f0:f=0
   ·rw [if_neg (fun h=>h f0)] at ho
    repeat' ((conv=>whnf);first|refine sV _ (hG) ?_|refine rz f0 ?_|refine aD1 ?_|(refine And.intro (by first|((simp;omega);done)|fail) ?_)|refine aS ?_|refine nT_ ?_)
    have hw1:a+w=IntKind.i64.wrap (a+w):=(np (by omega) (by omega)).symm;have hw2:((k+1:Nat):Int)=IntKind.i64.wrap ((k:Int)+1):=by rw [np (by omega) (by omega)];rfl
    refine ⟨(44,k+1,a+w,acc++[v]),⟨by dsimp only;omega,by simp [hla],by dsimp only;omega,by dsimp only;omega,ho⟩,by dsimp only;omega,?_⟩
    repeat' (first|((refine leI ?_;first|exact hw1|exact hw2))|((refine s6 ?_;simp;done))|exact wJ|refine And.intro ?_ ?_)
   ·rw [if_pos f0] at ho
    repeat' ((conv=>whnf);first|refine sV _ (hG) ?_|refine sW f0 ?_|refine nT_ ?_|refine aD1 ?_|(refine And.intro (by first|((simp;omega);done)|fail) ?_)|refine aS ?_|refine rt ?_ (ri ?_ (ri ?_ trivial)))
    all_goals rw [<- ho]
    exact (if_pos f0).symm
  ·have:k=n.toNat:=by omega
   subst this;rw [Nat.sub_self] at ho
   repeat' ((conv=>whnf);first|(refine rq (by simp;omega) ?_)|refine aS ?_|fail)
   exact ⟨(q,a,acc),ho.symm,by repeat' (first|exact wJ|refine And.intro ?_ ?_)⟩
 rintro ⟨q,a,acc⟩ h;rw [h]
 repeat' ((conv=>whnf);first|refine rix ?_|refine aS ?_|exact trivial)
theorem vC(b:List Int)(hb:ti b)(hl:b.length<2^40):DCalls Tryz.prog 26 [.slice 1 (b.map Y)] (gsT (tj b)):=by
 refine dl2 mixed [.tmp 2,.tmp 3,.tmp 4] [_,I _,I _] Tryz.func26 l26 ?_;have h:=Bu b hb hl
 repeat' ((conv=>whnf);first|refine sV _ (h) ?_|refine rix ?_|refine aS ?_|exact trivial)
end Go.RC
end
section
end
section
end
section
namespace Go.RC
open Go Go.DL Go.Proofs
theorem Fy(n:Int):un (zz n:Nat)=n:=by unfold un zz;split <;> split <;> omega
theorem FC{m:Nat}:zz (un (m:Int))=m:=by unfold un zz;split <;> split <;> omega
theorem EC(m:Nat):1<=(vb m).length:=by
 by_cases h:m<128
 ·rw [u9 h];simp
 ·rw [vD h];simp
theorem vJ(n:Int):1<=(vi n).length:=EC _
theorem Gz:(128:Int)^9=9223372036854775808:=by decide
theorem ER: ∀(m k:Nat) (z:Int) (r:List Int),0<=z->z+(m:Int) * 128^k<18446744073709551616->(k>0->m>0)->gz k z (vb m++r)=(un (z+(m:Int) * 128^k),(k:Int)+(vb m).length,0):=by
 intro m
 induction m using Nat.strongRecOn with
 |ind m ih=>
  intro k z r hz hlt hk;have hp:(0:Int)<128^k:=Int.pow_pos (by decide);have h9:k=9->m<2:=fun h=>by subst h;rw [Gz] at hlt;omega
  by_cases h:m<128
  ·rw [u9 h];show gz k z ((m:Int)::r)=_
   rw [gz,if_neg (by rintro (⟨a,b⟩|⟨a,b⟩);(have:=h9 a;omega);(have:=hk a;omega)),if_pos (by omega)];rw [show (m:Int) % 128=m by omega];rfl
  ·rw [vD h];show gz k z (((m % 128+128:Nat):Int)::(vb (m / 128)++r))=_
   rw [gz,if_neg (by rintro (⟨a,b⟩|⟨a,b⟩);(have:=h9 a;omega);(omega)),if_neg (by omega)];rw [show ((m % 128+128:Nat):Int) % 128=((m % 128:Nat):Int) by omega];have e:z+((m % 128:Nat):Int) * 128^k+((m / 128:Nat):Int) * 128^(k+1)=z+(m:Int) * 128^k:=by
    rw [Int.pow_succ,Int.mul_comm (128^k) 128, <-Int.mul_assoc,Int.add_assoc, <-Int.add_mul]
    congr 2;omega
   have h1:(0:Int)<=((m % 128:Nat):Int) * 128^k:=Int.mul_nonneg (by omega) (Int.le_of_lt hp);rw [ih (m / 128) (by omega) (k+1) _ r (by omega) (by rw [e];exact hlt) (fun _=>by omega),e,List.length_cons]
   congr 2
   omega
theorem yo{n:Int}(h:i64 n)(r:List Int):gi (vi n++r)=(n,(((vi n).length:Nat):Int),0):=by
 have:=ER (zz n) 0 0 r (by omega) (by have:=yD h;omega) (fun h=>by omega)
 unfold gi vi;rw [this];have e:(0:Int)+((zz n:Nat):Int) * 128^0=((zz n:Nat):Int):=by simp
 rw [e,Fy];simp
theorem A9: ∀{b:List Int} {k:Nat} {z:Int},ti b->k<=9->0<=z->z<128^k->(gz k z b).2.2=0-> ∃m:Nat,(gz k z b).2.1=k+(vb m).length/\b=vb m++b.drop (vb m).length/\(gz k z b).1=un (z+(m:Int) * 128^k)/\(k>0->m>0)
 |[],k,z,_,_,_,_,h=>by rw [gz] at h;simp at h
 |c::r,k,z,hb,hk,hz,hz2,h=>by
  obtain ⟨c0,c1⟩:=hb c (by simp);obtain ⟨c,rfl⟩:=Int.eq_ofNat_of_zero_le c0;have hr:ti r:=fun x hx=>hb x (by simp [hx])
  rw [gz] at h ⊢
  by_cases hE:(k=9/\(c:Int)>1)\/(k>0/\(c:Int)=0)
  ·rw [if_pos hE] at h;simp at h
  rw [if_neg hE] at h ⊢;obtain ⟨-,d1,d2,d3⟩:=digit hz hz2 hk c0 c1 (fun h=>by omega)
  by_cases c8:(c:Int)<128
  ·rw [if_pos c8];refine ⟨c,?_,?_,?_,fun hk0=>by omega⟩
   ·rw [u9 (by omega)];rfl
   ·rw [u9 (by omega)];rfl
   ·rw [show (c:Int) % 128=c by omega]
  ·rw [if_neg c8] at h ⊢;obtain ⟨m,q1,q2,q3,q4⟩:=A9 (b:=r) (k:=k+1) hr (by omega) d1 d2 h;have hm:=q4 (by omega);refine ⟨c % 128+128 * m,?_,?_,?_,fun _=>by omega⟩
   ·rw [q1,vD (z:=c % 128+128 * m) (by omega),show (c % 128+128 * m) / 128=m by omega,List.length_cons];omega
   ·rw [vD (z:=c % 128+128 * m) (by omega),show (c % 128+128 * m) / 128=m by omega,show (c % 128+128 * m) % 128+128=c by omega,List.length_cons,List.drop_succ_cons,List.cons_append, <-q2]
   ·rw [q3]
    congr 1
    rw [Int.pow_succ,Int.mul_comm (128^k) 128, <-Int.mul_assoc,Int.add_assoc, <-Int.add_mul]
    congr 2;omega
theorem yU{b:List Int}(hb:ti b)(h:(gi b).2.2=0):(gi b).2.1=(vi (gi b).1).length/\b=vi (gi b).1++b.drop (gi b).2.1.toNat:=by
 obtain ⟨m,q1,q2,q3,q4⟩:=A9 (b:=b) (k:=0) (z:=0) hb (by omega) (by omega) (by decide) h;have e:(gi b).1=un (m:Int):=by
  rw [show (gi b).1=un (0+(m:Int) * 128^0) from q3];simp
 have q1:(gi b).2.1=((vb m).length:Int):=by rw [show (gi b).2.1=((0:Nat):Int)+(vb m).length from q1];simp
 rw [e];unfold vi;rw [FC,q1];exact ⟨rfl,by simpa using q2⟩
theorem Ac{k:Nat}{r:List Int}{least:Int}(h0:0<least)(hk:k<2^62)(h:(k:Int) * least<=r.length):gl (vi k++r) least=((k:Int),(((vi k).length:Nat):Int),0):=by
 unfold gl;rw [yo (tG hk)];dsimp only;rw [if_neg (by simp),if_neg (by omega),if_neg];have e:(((vi k++r).length:Nat):Int) - ((vi k).length:Int)=r.length:=by rw [List.length_append];omega
 rw [e]
 have:=(Int.le_ediv_iff_mul_le h0).2 h
 omega
theorem A8{b:List Int}{least:Int}(hb:ti b)(h:(gl b least).2.2=0):0<=(gl b least).1/\i64 (gl b least).1/\(gl b least).2.1=(vi (gl b least).1).length/\b=vi (gl b least).1++b.drop (gl b least).2.1.toNat:=by
 have h1:=yU hb;obtain ⟨h2, -⟩:=uj hb;unfold gl at h ⊢
 by_cases c1:(gi b).2.2≠0
 ·rw [if_pos c1] at h;exact absurd h c1
 rw [if_neg c1] at h ⊢
 by_cases c2:(gi b).1<0
 ·rw [if_pos c2] at h;simp at h
 rw [if_neg c2] at h ⊢
 by_cases c3:(gi b).1>(b.length - (gi b).2.1) / least
 ·rw [if_pos c3] at h;simp at h
 rw [if_neg c3];obtain ⟨q1,q2⟩:=h1 (by simpa using c1);exact ⟨by dsimp only;omega,h2,q1,q2⟩
theorem yT: ∀(l:List Int),l.length<=(l.flatMap vi).length
 |[]=>by simp
 |x::l=>by
  have:=yT l
  have:=vJ x
  simp only [List.flatMap_cons,List.length_append,List.length_cons];omega
theorem yV{b r:List Int}: ∀{l acc:List Int} {a:Int},0<=a->b.drop a.toNat=l.flatMap vi++r->(∀ x∈l,i64 x)->gis l.length b a acc=(acc++l,a+(l.flatMap vi).length,0)
 |[],acc,a,h0,h,_=>by simp [gis]
 |x::l,acc,a,h0,h,hx=>by
  have h1:gi (b.drop a.toNat)=(x,(((vi x).length:Nat):Int),0):=by rw [h,List.flatMap_cons,List.append_assoc];exact yo (hx x (by simp)) _
  show gis (l.length+1) b a acc=_
  rw [gis,h1,if_neg (by simp)];dsimp only;rw [yV (l:=l) (by omega) (by
   rw [show (a+((vi x).length:Int)).toNat=a.toNat+(vi x).length by omega, <-List.drop_drop,h,List.flatMap_cons,List.append_assoc,List.drop_left]) (fun y hy=>hx y (by simp [hy]))]
  simp only [List.append_assoc,List.singleton_append,List.flatMap_cons,List.length_append]
  congr 2
  omega
theorem wo{l r:List Int}(hl:l.length<2^62)(hx: ∀x∈l,i64 x):tj (vis l++r)=(l,(((vis l).length:Nat):Int),0):=by
 unfold tj vis;rw [List.append_assoc,Ac (by decide) hl (by have:=yT l;rw [List.length_append];omega)];dsimp only;rw [if_neg (by simp),Int.toNat_natCast,yV (r:=r) (by omega) (by rw [Int.toNat_natCast,List.drop_left]) hx];simp
theorem zJ{b:List Int}(hb:ti b): ∀{n:Nat} {acc:List Int} {a:Int},0<=a->(gis n b a acc).2.2=0-> ∃l,(gis n b a acc).1=acc++l/\l.length=n/\(∀ x∈l,i64 x)/\(gis n b a acc).2.1=a+(l.flatMap vi).length/\b.drop a.toNat=l.flatMap vi++b.drop (gis n b a acc).2.1.toNat
 |0,acc,a,h0,h=>⟨[],by simp [gis],rfl,by simp,by simp [gis],by simp [gis]⟩
 |n+1,acc,a,h0,h=>by
  have hd:=tk hb a.toNat;rw [gis] at h ⊢
  by_cases c:(gi (b.drop a.toNat)).2.2≠0
  ·rw [if_pos c] at h;exact absurd h c
  rw [if_neg c] at h ⊢;obtain ⟨q1,q2⟩:=yU hd (by simpa using c);obtain ⟨i1, -⟩:=uj hd;generalize gi (b.drop a.toNat)=g at *
  obtain ⟨v,u,e⟩:=g;dsimp only at *
  obtain ⟨l,p1,p2,p3,p4,p5⟩:=zJ hb (n:=n) (acc:=acc++[v]) (a:=a+u) (by omega) h;refine ⟨v::l,?_,by simp [p2],?_,?_,?_⟩
  ·rw [p1];simp
  ·intro x hx;rcases List.mem_cons.1 hx with rfl|hx
   ·exact i1
   ·exact p3 x hx
  ·rw [p4,List.flatMap_cons,List.length_append];omega
  ·rw [q2,List.drop_drop,show a.toNat+u.toNat=(a+u).toNat by omega,p5,List.flatMap_cons,List.append_assoc]
theorem uT{b:List Int}(hb:ti b)(h:(tj b).2.2=0):(∀ x∈(tj b).1,i64 x)/\(tj b).2.1=(vis (tj b).1).length/\b=vis (tj b).1++b.drop (tj b).2.1.toNat:=by
 have hG:=@A8 b 1 hb;unfold tj at h ⊢
 by_cases c:(gl b 1).2.2≠0
 ·rw [if_pos c] at h;exact absurd h c
 rw [if_neg c] at h ⊢;obtain ⟨q0, -,q1,q2⟩:=hG (by simpa using c);generalize gl b 1=g at *
 obtain ⟨n,u,e⟩:=g;dsimp only at *
 obtain ⟨l,p1,p2,p3,p4,p5⟩:=zJ hb (n:=n.toNat) (acc:=[]) (a:=u) (by omega) h;rw [List.nil_append] at p1;rw [p1];have hn:((l.length:Nat):Int)=n:=by omega
 refine ⟨p3,?_,?_⟩
 ·rw [p4,vis,hn,List.length_append,q1];omega
 ·rw [vis,hn,List.append_assoc, <-p5];exact q2
end Go.RC
end
section
namespace Go.ST
open Go Go.DL Go.TY
open Go.RC (vi vis vs gi gl tj i64 ti tk sB Y yo Ac wo uj u6 yU A8 uT tG xI uy ui uo vJ)
def tz(e:RE):List Int:=vs e.var++(vis e.key++vis [e.n,e.at_])
def tD(st:List RE):List Int:=vi st.length++st.flatMap tz
def gb(b:List Int):ByteArray×Int×Int:=if (gl b 1).2.2≠0 then (⟨#[]⟩,0,(gl b 1).2.2) else (nQ (((b.drop (gl b 1).2.1.toNat).take (gl b 1).1.toNat).map Y),(gl b 1).2.1+(gl b 1).1,0)
def uz(b:List Int):RE×List Int×Int:=
 if (gb b).2.2≠0 then (⟨⟨#[]⟩,[],0,0⟩,[],(gb b).2.2) else
 if (tj (b.drop (gb b).2.1.toNat)).2.2≠0 then (⟨⟨#[]⟩,[],0,0⟩,[],(tj (b.drop (gb b).2.1.toNat)).2.2) else
 let b2:=(b.drop (gb b).2.1.toNat).drop (tj (b.drop (gb b).2.1.toNat)).2.1.toNat
 if (tj b2).2.2≠0 then (⟨⟨#[]⟩,[],0,0⟩,[],(tj b2).2.2) else
 if (tj b2).1.length≠2 then (⟨⟨#[]⟩,[],0,0⟩,[],6) else
 (⟨(gb b).1,(tj (b.drop (gb b).2.1.toNat)).1,(tj b2).1.getD 0 0,(tj b2).1.getD 1 0⟩,b2.drop (tj b2).2.1.toNat,0)
def uf:Nat->List Int->List RE->List RE×List Int×Int
 |0,b,acc=>(acc,b,0)
 |n+1,b,acc=>if (uz b).2.2≠0 then ([],[],(uz b).2.2) else uf n (uz b).2.1 (acc++[(uz b).1])
def tK(b:List Int):List RE×Int:=
 if (gi b).2.2≠0 then ([],(gi b).2.2) else if (gi b).1<0 then ([],6) else
 if (uf (gi b).1.toNat (b.drop (gi b).2.1.toNat) []).2.2≠0 then ([],(uf (gi b).1.toNat (b.drop (gi b).2.1.toNat) []).2.2)
 else if (uf (gi b).1.toNat (b.drop (gi b).2.1.toNat) []).2.1≠[] then ([],6) else ((uf (gi b).1.toNat (b.drop (gi b).2.1.toNat) []).1,0)
structure SzE (e:RE):Prop where
 var:e.var.size<2^40
 key:e.key.length<2^40
 keys: ∀x∈e.key,i64 x
 n:i64 e.n
 at_:i64 e.at_
theorem Ep{a b:ByteArray}(h:sB a=sB b):a=b:=by
 have key: ∀(x y:List UInt8),x.map (fun b=>(b.toNat:Int))=y.map (fun b=>(b.toNat:Int))->x=y:=by
  intro x
  induction x with
  |nil=>intro y h;cases y with
   |nil=>rfl
   |cons _ _=>simp at h
  |cons a r ih=>intro y h;cases y with
   |nil=>simp at h
   |cons c s=>
    simp only [List.map_cons,List.cons.injEq] at h
    have:a=c:=UInt8.toNat_inj.1 (by have:=h.1;omega)
    rw [this,ih s h.2]
 exact ByteArray.ext (Array.ext' (key _ _ h))
theorem DE(s:ByteArray):nQ ((sB s).map Y)=s:=Ep (uy _ (xI s))
theorem Ab{s:ByteArray}(h:s.size<2^40)(r:List Int):gb (vs s++r)=(s,(((vs s).length:Nat):Int),0):=by
 unfold gb vs;rw [List.append_assoc,Ac (by decide) (by omega) (by rw [List.length_append,ui];omega)];dsimp only;rw [if_neg (by simp),Int.toNat_natCast,Int.toNat_natCast,List.drop_left, <-ui,List.take_left,DE];simp only [List.length_append,ui,Int.natCast_add]
theorem BJ{e:RE}(h:SzE e)(r:List Int):uz (tz e++r)=(e,r,0):=by
 unfold uz tz;rw [List.append_assoc,List.append_assoc,Ab h.var];dsimp only;rw [if_neg (by simp),Int.toNat_natCast,List.drop_left,wo (by have:=h.key;omega) h.keys];dsimp only;rw [if_neg (by simp),Int.toNat_natCast,List.drop_left,wo (by simp) (by simp;exact ⟨h.n,h.at_⟩)];dsimp only;rw [if_neg (by simp),if_neg (by simp),Int.toNat_natCast,List.drop_left];rfl
theorem yN: ∀{st acc:List RE} {r:List Int},(∀ e∈st,SzE e)->uf st.length (st.flatMap tz++r) acc=(acc++st,r,0)
 |[],acc,r,_=>by simp [uf]
 |e::st,acc,r,h=>by
  show uf (st.length+1) _ _=_
  rw [uf,List.flatMap_cons,List.append_assoc,BJ (h e (by simp)),if_neg (by simp)];dsimp only;rw [yN fun x hx=>h x (by simp [hx])];simp
theorem vK{st:List RE}(h: ∀e∈st,SzE e)(hl:st.length<2^40):tK (tD st)=(st,0):=by
 unfold tK tD;rw [yo (tG (by omega))];dsimp only
 have:=yN (acc:=[]) (r:=[]) h
 rw [List.append_nil,List.nil_append] at this;rw [if_neg (by simp),if_neg (by omega),Int.toNat_natCast,Int.toNat_natCast,List.drop_left,this];dsimp only;rw [if_neg (by simp),if_neg (by simp)]
end Go.ST
end
section
namespace Go.Proofs
open Go.Shelf
def Tryz.xB:Go.Shelf.Ren:=⟨fun|4=>47|n=>n,fun|22=>23|25=>5|3=>3|4=>4|9=>9|20=>20|0=>0|n=>n,fun|n=>n⟩
theorem Tryz.Ao:Go.Proofs.Lays8.n4 Tryz.prog Tryz.xB:={
 mixed:=by kernel_rfl
 f4:=⟨Tryz.f47.name,by decide,Tryz.func47.trans (congrArg some (by kernel_rfl))⟩
 t0:=Tryz.underlying0
 a0:=Tryz.isAgg0
 z0:=Tryz.sizeOf0
 v0:=Tryz.zeroValue0
 t3:=Tryz.underlying3
 a3:=Tryz.isAgg3
 z3:=Tryz.sizeOf3
 v3:=Tryz.zeroValue3
 t4:=Tryz.underlying4
 a4:=Tryz.isAgg4
 z4:=Tryz.sizeOf4
 v4:=Tryz.zeroValue4
 t9:=Tryz.underlying9
 a9:=Tryz.isAgg9
 z9:=Tryz.sizeOf9
 v9:=Tryz.zeroValue9
 t20:=Tryz.underlying20
 a20:=Tryz.isAgg20
 z20:=Tryz.sizeOf20
 v20:=Tryz.zeroValue20
 t22:=Tryz.underlying23
 a22:=Tryz.isAgg23
 z22:=Tryz.sizeOf23
 v22:=Tryz.zeroValue23 }
end Go.Proofs
end
section
namespace Go.ST
open Go Go.DL Go.MM Go.Proofs
open Go.TY hiding Fd
open Go.RC (vi vis vs gi gl tj i64 ti Y)
theorem EY:(Tryz.prog.info? 5).map (fun i=>(i.zero.map (fun z=>z.cells.size),i.size,i.bytes))=some (some 1,1,1):=by kernel_rfl
theorem Df(n:Nat)(h:n<2^40):eu Tryz.prog 47 [.nil,I n] 5 1 [] []:=by
 have hi:=EY;cases hj:Tryz.prog.info? 5 with
 |none=>rw [hj] at hi;cases hi
 |some j=>
  rw [hj] at hi;simp only [Option.map_some,Option.some.injEq,Prod.mk.injEq] at hi;obtain ⟨h1,h2,h3⟩:=hi;cases hz:j.zero with
  |none=>rw [hz] at h1;cases h1
  |some z=>
   rw [hz] at h1;have h1:z.cells.size=1:=by simpa using h1
   have:=rI Tryz.Ao (i0:=j) (z:=z) hj hz (by omega) (by omega) n (by rw [h3];omega) (by omega) (dX Tryz.func47 rfl rfl)
   rw [h2] at this;exact this
abbrev bT(l:List Int):T:=.slice 1 (l.map Y)
def ug(ls:List (List Int)):Nat:=(ls.map List.length).sum
theorem xd{ls:List (List Int)}{k:Nat}(h:k<ls.length):ug (ls.take (k+1))=ug (ls.take k)+ls[k].length:=by
 unfold ug;rw [List.take_succ_eq_append_getElem h,List.map_append,List.sum_append];simp
theorem wM(ls:List (List Int))(k:Nat):ug (ls.take k)<=ug ls:=by
 conv=>rhs;rw [<- List.take_append_drop k ls]
 unfold ug;rw [List.map_append,List.sum_append];omega
theorem Ar(ls:List (List Int)):ls.flatten.length=ug ls:=by unfold ug;rw [List.length_flatten]
theorem DZ{ls:List (List Int)}{j:Nat}{l:List Int}(h:ls[j]? =some l):((ls.map bT)[j]?.getD .nil)=bT l:=by
 rw [List.getElem?_map,h];rfl
theorem Bs(ls:List (List Int))(hl:ls.length<2^20)(hn:ug ls<2^30):DCalls Tryz.prog 21 [.slice 1 (ls.map bT)] (bT ls.flatten):=by
 refine dl2 mixed [.tmp 2] [bT _] Tryz.func21 Go.ST6.l21 ?_
 skip
 refine sa 0 (α:=Nat) (β:=Unit) (fun k=>{sl:=[(0,.t (.slice 1 (ls.map bT))),(2,.t .nil),(3,.t (I (ug (ls.take k)))),(9,.t (.slice 1 (ls.map bT))),(10,.t (I ls.length)),(11,.t (I k))],bx:=[]})
  (fun k=>k<=ls.length) (fun k=>ls.length - k) (fun _=>{sl:=[(0,.t (.slice 1 (ls.map bT))),(2,.t .nil),(3,.t (I (ug ls)))],bx:=[]}) (fun _=>True) 0 (by omega) ?_ ?_ ?_
 ·repeat' (first|((refine leI ?_;simp;done))|exact wJ|refine And.intro ?_ ?_)
 ·rintro k hk;rcases Nat.lt_or_ge k ls.length with h2|h2
  ·have hke:ls[k]? =some ls[k]:=ggZ h2;have hst:=xd h2;have hle:=wM ls k;have GN:=wM ls (k+1);generalize ls[k]=l at hke hst;have hib:0<=(k:Int)/\(k:Int)<((ls.map bT).length:Int):=by rw [List.length_map];omega
   have hel:(ls.map bT)[((k:Int)).toNat]?.getD .nil=bT l:=DZ (by rw [Int.toNat_natCast];exact hke);have hw:IntKind.i64.wrap ((ug (ls.take k):Int)+(((l.map Y).length:Nat):Int))=(ug (ls.take (k+1)):Int):=by
    rw [List.length_map,hst,np (by omega) (by omega)];push_cast;rfl
   have hw2:=hw.symm;have Gg: ¬IntKind.i64.wrap ((ug (ls.take k):Int)+(((l.map Y).length:Nat):Int))<0:=by rw [hw];omega
   repeat' ((conv=>whnf);first|refine ru (by omega) ?_|(refine nv_ (bT l) (by first|exact hel) ?_)|refine rq Gg ?_|(refine And.intro (by first|exact hib) ?_)|refine aS ?_|refine nT_ ?_)
   exact ⟨k+1,by omega,by omega,by repeat' (first|(exact leI hw2)|exact wJ|refine And.intro ?_ ?_)⟩
  ·have:k=ls.length:=by omega
   subst this
   repeat' ((conv=>whnf);first|refine rq (by omega) ?_|refine aS ?_|fail)
   exact ⟨(),trivial,by repeat' (first|((refine leI ?_;rw [List.take_length]))|exact wJ|refine And.intro ?_ ?_)⟩
 rintro - -;have hG:=Df (ug ls) (by omega)
 repeat' ((conv=>whnf);first|refine sR rfl hG ?_)
 refine sa 2 (α:=Nat×Nat) (β:=Nat) (fun q=>{sl:=[(2,.t .nil),(6,.own q.1 5 1 ((ls.take q.2).flatten.map Y)),(25,.t (.slice 1 (ls.map bT))),(26,.t (I ls.length)),(27,.t (I q.2))],bx:=[]})
  (fun q=>q.2<=ls.length/\(q.1=24\/q.1=33)) (fun q=>ls.length - q.2) (fun q=>{sl:=[(2,.t .nil),(6,.own q 5 1 (ls.flatten.map Y))],bx:=[]}) (fun q=>q=24\/q=33) (24,0) (by simp) ?_ ?_ ?_
 ·repeat' (first|((refine leI ?_;simp;done))|exact wJ|refine And.intro ?_ ?_)
 ·rintro ⟨q,k⟩ ⟨hk,hq⟩;dsimp only at hk hq;rcases Nat.lt_or_ge k ls.length with h2|h2
  ·have hke:ls[k]? =some ls[k]:=ggZ h2;have hst:=xd h2;have hfl:(ls.take (k+1)).flatten=(ls.take k).flatten++ls[k]:=by rw [List.take_succ_eq_append_getElem h2,List.flatten_append];simp
   have hle:=wM ls (k+1);have hfn:=Ar (ls.take k);generalize ls[k]=l at hke hst hfl;have hib:0<=(k:Int)/\(k:Int)<((ls.map bT).length:Int):=by rw [List.length_map];omega
   have hel:(ls.map bT)[((k:Int)).toNat]?.getD .nil=bT l:=DZ (by rw [Int.toNat_natCast];exact hke);have bn:(((ls.take k).flatten.map Y).length+(l.map Y).length) * 1<=140737488355328:=by simp only [List.length_map];omega
   rcases hq with rfl|rfl
   all_goals repeat' ((conv=>whnf);first|refine ru (by omega) ?_|(refine nv_ (bT l) (by first|exact hel) ?_)|(refine And.intro (by first|exact hib|exact bn) ?_)|refine aS ?_|refine nT_ ?_)
   all_goals refine ⟨(33,k+1),⟨by dsimp only;omega,.inr rfl⟩,by dsimp only;omega,?_⟩
   all_goals repeat' (first|((refine s6 ?_;rw [hfl,List.map_append]))|exact wJ|refine And.intro ?_ ?_)
  ·have:k=ls.length:=by omega
   subst this
   repeat' ((conv=>whnf);first|refine rq (by omega) ?_|refine aS ?_|fail)
   exact ⟨q,hq,by repeat' (first|((refine s6 ?_;rw [List.take_length]))|exact wJ|refine And.intro ?_ ?_)⟩
 rintro q hq
 repeat' ((conv=>whnf);first|refine aS ?_|exact trivial)
end Go.ST
end
