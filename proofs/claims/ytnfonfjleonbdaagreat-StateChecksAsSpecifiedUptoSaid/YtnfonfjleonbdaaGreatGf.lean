/- Joined by program: parts of a data level over the model, of the program's functions over it, and of the statement's proof. -/
import Derived.Test.YtnfonfjleonbdaaGreatProg
import Derived.Test.YtnfonfjleonbdaaGreatGc
import Derived.KernelRfl
import Derived.Test.YtnfonfjleonbdaaGreatGe
import Derived.Test.YtnfonfjleonbdaaGreatGd
set_option maxRecDepth 100000
set_option maxHeartbeats 8000000
section
namespace Go.STD
open Go Go.DL Go.Proofs
noncomputable def c5:bc:=(.seq (.region [oo 10 (.mov kF)] []) (.seq (.seq (.region [mv 29 0,ln 30 29,oo 31 (.bin .gtr (tm 30) (Kc 10)),mv 32 31,mF 33 1 32,oF 34 32 (.len (tm 33)),oF 35 32 (.bin .gtr (tm 34) (Kc 250)),oo 36 (.pick (tm 32) kT (tm 35)),mv 37 36,mF 38 2 37,oF 39 37 (.len (tm 38)),oF 40 37 (.bin .gtr (tm 39) (Kc 50)),oo 41 (.pick (tm 37) kT (tm 40)),mv 42 41,mF 43 4 42,oF 44 42 (.len (tm 43)),oF 45 42 (.bin .gtr (tm 44) (Kc 20)),oo 46 (.pick (tm 42) kT (tm 45))] []) (.cond (tm 46) (.seq (.region [oo 47 (.call 9 []),mv 10 47] []) .ret) .skip)) (.seq (.seq (.region [oo 11 (.mov (Kc 0))] []) (.block 0 (.loop (.seq (.seq (.region [mv 48 11,mv 49 0,ln 50 49,oo 51 (.bin .lss (tm 48) (tm 50))] []) (.cond (tm 51) .skip (.exit 0))) (.seq (.block 1 (.seq (.seq (.region [mv 54 0,mv 55 11,ix 56 5 54 55,fa 57 2 56,ld 58 57,ln 59 58,oo 60 (.bin .gtr (tm 59) (Kc 10))] []) (.cond (tm 60) (.seq (.region [oo 61 (.call 9 []),mv 10 61] []) .ret) .skip)) (.seq (.seq (.region [oo 12 (.mov (Kc 0))] []) (.block 2 (.loop (.seq (.seq (.region [mv 62 12,mv 63 0,mv 64 11,ix 65 5 63 64,fa 66 2 65,ld 67 66,ln 68 67,oo 69 (.bin .lss (tm 62) (tm 68))] []) (.cond (tm 69) .skip (.exit 2))) (.seq (.block 3 (.seq (.region [mv 72 0,mv 73 11,ix 74 5 72 73,fa 75 2 74,ld 76 75,mv 77 12,ix 78 1 76 77,ld 79 78,oo 80 (.bin .lss (tm 79) (Kc 1)),mv 81 80,mF 82 0 81,mF 83 11 81,oF 84 81 (.idxL 5 (tm 82) (tm 83)),oF 85 81 (.offA 2 (tm 84)),oF 86 81 (.load 1 false (tm 85)),mF 87 12 81,oF 88 81 (.idxL 1 (tm 86) (tm 87)),oF 89 81 (.load 1 false (tm 88)),oF 90 81 (.bin .gtr (tm 89) (Kc 16)),oo 91 (.pick (tm 81) kT (tm 90))] []) (.cond (tm 91) (.seq (.region [oo 92 (.call 9 []),mv 10 92] []) .ret) .skip))) (.region [mv 70 12,oo 71 (.bin .add (tm 70) (Kc 1)),mv 12 71] [])))))) (.seq (.region [oo 13 (.mov (Kc 0))] []) (.block 4 (.loop (.seq (.seq (.region [mv 93 13,mv 94 11,oo 95 (.bin .lss (tm 93) (tm 94))] []) (.cond (tm 95) .skip (.exit 4))) (.seq (.block 5 (.seq (.region [mv 98 0,mv 99 13,ix 100 5 98 99,fa 101 0 100,ld 102 101,mv 103 0,mv 104 11,ix 105 5 103 104,fa 106 0 105,ld 107 106,oo 108 (.bin .eql (tm 102) (tm 107))] []) (.cond (tm 108) (.seq (.region [oo 109 (.call 9 []),mv 10 109] []) .ret) .skip))) (.region [mv 96 13,oo 97 (.bin .add (tm 96) (Kc 1)),mv 13 97] []))))))))) (.region [mv 52 11,oo 53 (.bin .add (tm 52) (Kc 1)),mv 11 53] [])))))) (.seq (.seq (.cut (.region [mv 110 0,mv 111 1,oo 112 (.call 23 [(tm 110),(tm 111)]),mv 113 0,mv 114 1,oo 115 (.call 14 [(tm 113),(tm 114)]),oo 116 (.bin .neq (tm 112) (tm 115))] [])) (.cond (tm 116) (.seq (.region [oo 10 (.mov kF)] []) .ret) .skip)) (.seq (.region [mv 117 1,oo 118 (.call 24 [tm 117]),mv 14 118] []) (.seq (.region [mv 119 2,oo 120 (.call 24 [tm 119]),mv 15 120] []) (.seq (.seq (.region [mv 121 14,oo 122 (.not (tm 121)),mv 123 122,mF 124 15 123,oF 125 123 (.not (tm 124)),oo 126 (.pick (tm 123) kT (tm 125))] []) (.cond (tm 126) (.seq (.region [oo 127 (.call 9 []),mv 10 127] []) .ret) .skip)) (.seq (.cut (.region [mv 129 1,mv 130 3,mv 131 4,oo 132 (.call 25 [(tm 129),(tm 130),(tm 131)]),mv 128 132,oo 133 (.ext (tm 128) 0),oo 134 (.ext (tm 128) 1),⟨some 16,.alloc [S0,.nil,Z0,Z0],none,[]⟩,o0 (.store 4 (tm 16) (tm 133)),mv 17 134] [])) (.seq (.cut (.region [mv 136 1,mv 137 3,mv 138 4,oo 139 (.call 26 [(tm 136),(tm 137),(tm 138)]),mv 135 139,oo 140 (.ext (tm 135) 0),oo 141 (.ext (tm 135) 1),⟨some 18,.alloc [S0,.nil,Z0,Z0],none,[]⟩,o0 (.store 4 (tm 18) (tm 140)),mv 19 141] [])) (.seq (.cut (.region [mv 143 1,mv 144 2,oo 145 (.call 27 [(tm 143),(tm 144)]),mv 142 145,oo 146 (.ext (tm 142) 0),oo 147 (.ext (tm 142) 1),mv 20 146,mv 21 147] [])) (.seq (.cut (.region [mv 149 1,mv 150 2,oo 151 (.call 28 [(tm 149),(tm 150)]),mv 148 151,oo 152 (.ext (tm 148) 0),oo 153 (.ext (tm 148) 1),mv 22 152,mv 23 153] [])) (.seq (.seq (.cut (.region [mv 154 17,mv 155 19,oo 156 (.eqB true (tm 154) (tm 155)),mv 157 156,oF 158 157 (.load 4 true (tm 16)),⟨some 159,.buildS 64 4 1 [S0,.nil,Z0,Z0] [(0,(tm 158))],some (157,false),[]⟩,oF 160 157 (.load 4 true (tm 18)),⟨some 161,.buildS 64 4 1 [S0,.nil,Z0,Z0] [(0,(tm 160))],some (157,false),[]⟩,oF 162 157 (.call 13 [(tm 159),(tm 161)]),oF 163 157 (.not (tm 162)),oo 164 (.pick (tm 157) kT (tm 163)),mv 165 164,mF 166 20 165,mF 167 22 165,oF 168 165 (.call 13 [(tm 166),(tm 167)]),oF 169 165 (.not (tm 168)),oo 170 (.pick (tm 165) kT (tm 169)),mv 171 170,mF 172 21 171,mF 173 23 171,oF 174 171 (.bin .neq (tm 172) (tm 173)),oo 175 (.pick (tm 171) kT (tm 174))] [])) (.cond (tm 175) (.seq (.region [oo 10 (.mov kF)] []) .ret) .skip)) (.seq (.seq (.region [oo 24 (.mov (Kc 1))] []) (.block 6 (.loop (.seq (.seq (.region [mv 176 24,mv 177 1,ln 178 177,oo 179 (.bin .lss (tm 176) (tm 178))] []) (.cond (tm 179) .skip (.exit 6))) (.seq (.block 7 (.seq (.cut (.region [mv 182 1,mv 183 24,oo 184 (.bin .sub (tm 183) (Kc 1)),ix 185 4 182 184,lA 186 4 185,mv 187 1,mv 188 24,ix 189 4 187 188,lA 190 4 189,oo 191 (.call 29 [(tm 186),(tm 190)]),oo 192 (.bin .neq (tm 191) (.const (.int .i64 (-1)))),mv 193 192,mF 194 1 193,mF 195 24 193,oF 196 193 (.idxL 4 (tm 194) (tm 195)),oF 197 193 (.load 4 true (tm 196)),mF 198 1 193,mF 199 24 193,oF 200 193 (.bin .sub (tm 199) (Kc 1)),oF 201 193 (.idxL 4 (tm 198) (tm 200)),oF 202 193 (.load 4 true (tm 201)),oF 203 193 (.call 29 [(tm 197),(tm 202)]),oF 204 193 (.bin .neq (tm 203) (Kc 1)),oo 205 (.pick (tm 193) kT (tm 204)),mv 206 205,mF 207 1 206,mF 208 24 206,oF 209 206 (.idxL 4 (tm 207) (tm 208)),oF 210 206 (.load 4 true (tm 209)),mF 211 1 206,mF 212 24 206,oF 213 206 (.idxL 4 (tm 211) (tm 212)),oF 214 206 (.load 4 true (tm 213)),oF 215 206 (.call 29 [(tm 210),(tm 214)]),oF 216 206 (.bin .neq (tm 215) (Kc 0)),oo 217 (.pick (tm 206) kT (tm 216))] [])) (.cond (tm 217) (.seq (.region [oo 10 (.mov kF)] []) .ret) .skip))) (.region [mv 180 24,oo 181 (.bin .add (tm 180) (Kc 1)),mv 24 181] [])))))) (.seq (.cut (.region [mv 218 1,mv 219 3,oo 220 (.call 22 [(tm 218),(tm 219)]),mv 25 220] [])) (.seq (.cut (.region [mv 221 1,mv 222 3,oo 223 (.call 30 [(tm 221),(tm 222)]),mv 26 223] [])) (.seq (.cut (.region [mv 225 25,mv 226 26,oo 227 (.call 27 [(tm 225),(tm 226)]),mv 224 227,oo 228 (.ext (tm 224) 0),oo 229 (.ext (tm 224) 1),mv 27 228,mv 28 229] [])) (.seq (.region [oo 230 (.call 9 []),mv 231 230,mT 232 25 231,mT 233 1 231,mT 234 3 231,oT 235 231 (.call 31 [(tm 233),(tm 234)]),oT 236 231 (.call 13 [(tm 232),(tm 235)]),oo 237 (.pick (tm 231) (tm 236) kF),mv 238 237,mT 239 26 238,mT 240 1 238,mT 241 3 238,oT 242 238 (.call 16 [(tm 240),(tm 241)]),oT 243 238 (.call 13 [(tm 239),(tm 242)]),oo 244 (.pick (tm 238) (tm 243) kF),mv 245 244,mT 246 28 245,oT 247 245 (.bin .eql (tm 246) (Kc 0)),oo 248 (.pick (tm 245) (tm 247) kF),mv 249 248,mT 250 27 249,mT 251 1 249,oT 252 249 (.call 13 [(tm 250),(tm 251)]),oo 253 (.pick (tm 249) (tm 252) kF),mv 10 253] []) .ret)))))))))))))))))
theorem l5:(Tryz.f5.body.bind (bp Tryz.prog 254 [6000018,6000024,6000025,6000026,6000027,6000028,6000033,6000035,6000036,6000037]))=some c5:=by kernel_rfl
end Go.STD
end
section
end
section
namespace Go.ST
open Go Go.DL Go.MM Go.Proofs
open Go.TY hiding Fd
theorem xT {st:List RE} (h:rZ st) (v:ByteArray):si (ofE st v) (r9 st v)=some st:=by
 have hp:st.Perm (ofE st v++r9 st v):=(List.filter_append_perm _ st).symm
 have hs:st.Pairwise fun x y=>rQ y x≠ -1:=List.Pairwise.imp (fun {a b} hab=>by have:=rO.s a b;omega) h
 rw [uS (show rZ (ofE st v) from h.filter _) (show rZ (r9 st v) from h.filter _) hp hs,sP.2 h];rfl
def fE (o:Option RE):List T:=match o with
 |some e=>rL e
 |none=>[.str ⟨#[]⟩,.nil,I 0,I 0]
def gE (o:Option RE):RE:=o.getD ⟨⟨#[]⟩,[],0,0⟩
theorem Au (o:Option RE):zo o= .tup [.agg (fE o),.bool o.isSome]:=by cases o <;> rfl
theorem yz (o:Option RE):Les (.slice 4 [.agg (fE o)]) (esT [gE o]):=by
 cases o with
 |some e=>exact Les.refl _
 |none=>
  refine Les.slice rfl (fun i x y hx hy=>?_)
  cases i with
  |succ i=>cases hx
  |zero=>
   cases hx;cases hy
   exact ⟨.cons (Les.refl _) rfl (.cons (Les.nil 1) rfl (.cons (Les.refl _) rfl (.cons (Les.refl _) rfl .nil))),rfl⟩
theorem A9 (o:Option RE):(fE o).length=4:=by cases o <;> rfl
def jT (o:Option (List RE)):T:=match o with
 |some zs=>esT zs
 |none=>.nil
def jI (o:Option (List RE)):Int:=match o with
 |some _=>0
 |none=>10
theorem AP (o:Option (List RE)):zD o= .tup [jT o,I (jI o)]:=by cases o <;> rfl
theorem yG (o:Option (List RE)):Les (jT o) (esT (o.getD [])):=by
 cases o with
 |some e=>exact Les.refl _
 |none=>exact Les.nil 4
theorem law_Checks (vars:List RV) (st mo:List RE) (v:ByteArray) (key:List Int) (hvl:vars.length<2^60) (hvw: ∀x∈vars,x.ws.length<2^60) (hsl:st.length<2^27) (hml:mo.length<2^27) (hsk: ∀e∈st,kOk e) (hmk: ∀e∈mo,kOk e) (hkl:key.length<2^60):
  DCalls Tryz.prog 5 [vsT vars,esT st,esT mo,.str v,.slice 1 (key.map I)] (.bool true):=by
 refine qQ (rs:=[.tmp 10]) mixed Tryz.func5 Go.STD.l5 rfl rfl rfl (r:=[.bool true]) (nlZ rfl) ?_
 have h0:=zM
 have hvn:((vars.map sY).length:Int)=vars.length:=by rw [List.length_map]
 have hsn:((st.map rM).length:Int)=st.length:=by rw [List.length_map]
 have hmn:((mo.map rM).length:Int)=mo.length:=by rw [List.length_map]
 by_cases a1:((vars.map sY).length:Int)>10
 ·repeat' ((conv=>whnf);first|exact trivial|refine rD _ (h0) ?_|refine qx a1 ?_|refine rb1 ?_|refine aS ?_|fail)
 by_cases a2:((st.map rM).length:Int)>250
 ·repeat' ((conv=>whnf);first|exact trivial|refine rD _ (h0) ?_|refine qw a1 ?_|refine qx a2 ?_|refine rb1 ?_|refine aS ?_|fail)
 by_cases a3:((mo.map rM).length:Int)>50
 ·repeat' ((conv=>whnf);first|exact trivial|refine rD _ (h0) ?_|refine qw a1 ?_|refine qw a2 ?_|refine qx a3 ?_|refine rb1 ?_|refine aS ?_|fail)
 by_cases a4:((key.map I).length:Int)>20
 ·repeat' ((conv=>whnf);first|exact trivial|refine rD _ (h0) ?_|refine qw a1 ?_|refine qw a2 ?_|refine qw a3 ?_|refine qx a4 ?_|refine rb1 ?_|refine aS ?_|fail)
 repeat' ((conv=>whnf);first|refine qw a1 ?_|refine qw a2 ?_|refine qw a3 ?_|refine qw a4 ?_|refine aS ?_|fail)
 clear a2 a3 a4
 refine qY 0 (α:=Nat) (β:=Unit) (fun i=>{sl:=[(0,.t (vsT vars)),(1,.t (esT st)),(2,.t (esT mo)),(3,.t (.str v)),(4,.t (.slice 1 (key.map I))),(11,.t (I i))],bx:=[]})
  (fun i=>i≤vars.length∧ ∀j (h:j<vars.length),j<i→VOk vars[j]) (fun i=>vars.length - i) (fun _=>{sl:=[(0,.t (vsT vars)),(1,.t (esT st)),(2,.t (esT mo)),(3,.t (.str v)),(4,.t (.slice 1 (key.map I)))],bx:=[]}) (fun _=> ∀x∈vars,VOk x) 0 ⟨by simp,fun j h hj=>by omega⟩ ?_ ?_ ?_
 ·repeat' (first|exact trivial|exact LeV.same _|exact rfl|exact fun _ _ _=>trivial|refine And.intro ?_ ?_)
 ·rintro i ⟨hi,hp⟩
  rcases Nat.lt_or_ge i vars.length with h|h
  ·have hlt:(i:Int)<((vars.map sY).length:Int):=by omega
   have hg:(vars.map sY)[i]?.getD .nil= .agg (rR vars[i]):=sU h
   have hxw:=hvw vars[i] (List.getElem_mem h)
   obtain ⟨x,hx⟩: ∃x,vars[i]=x:=⟨_,rfl⟩
   rw [hx] at hg hxw
   have hgw:((vars.map sY)[i]?.getD .nil).cells[2]?.getD .nil= .slice 1 (x.ws.map I):=by rw [hg];rfl
   have hgn:((vars.map sY)[i]?.getD .nil).cells[0]?.getD .nil= .str x.name:=by rw [hg];rfl
   have hwn:((x.ws.map I).length:Int)=x.ws.length:=by rw [List.length_map]
   have hnx:((i+1:Nat):Int)=IntKind.wrap .i64 ((i:Int)+1):=by rw [mQ] <;> omega
   have hmu:vars.length - (i+1)<vars.length - i:=by omega
   by_cases b1:((x.ws.map I).length:Int)>10
   ·repeat' ((conv=>whnf);first|exact trivial|refine qx hlt ?_|(refine nv_ (.agg (rR x)) (by first|exact hg|fail) ?_)|refine qx b1 ?_|refine rD _ (h0) ?_|refine nT_ ?_|refine rb1 ?_|refine aS ?_|fail)
   repeat' ((conv=>whnf);first|refine qx hlt ?_|(refine nv_ (.agg (rR x)) (by first|exact hg|fail) ?_)|refine qw b1 ?_|refine nT_ ?_|refine aS ?_|fail)
   refine qY 2 (α:=Nat) (β:=Unit) (fun j=>{sl:=[(0,.t (vsT vars)),(1,.t (esT st)),(2,.t (esT mo)),(3,.t (.str v)),(4,.t (.slice 1 (key.map I))),(11,.t (I i)),(12,.t (I j))],bx:=[]})
    (fun j=>j≤x.ws.length∧ ∀k (h:k<x.ws.length),k<j→1≤x.ws[k]∧x.ws[k]≤16) (fun j=>x.ws.length - j) (fun _=>{sl:=[(0,.t (vsT vars)),(1,.t (esT st)),(2,.t (esT mo)),(3,.t (.str v)),(4,.t (.slice 1 (key.map I))),(11,.t (I i))],bx:=[]}) (fun _=>VOk x) 0 ⟨by simp,fun j h hj=>by omega⟩ ?_ ?_ ?_
   ·repeat' (first|exact trivial|exact LeV.same _|exact rfl|exact fun _ _ _=>trivial|refine And.intro ?_ ?_)
   ·rintro j ⟨hj,hq⟩
    rcases Nat.lt_or_ge j x.ws.length with h2|h2
    ·have hlt2:(j:Int)<((x.ws.map I).length:Int):=by omega
     have hgj:(x.ws.map I)[j]?.getD .nil=I x.ws[j]:=by simp [h2]
     have hnx2:((j+1:Nat):Int)=IntKind.wrap .i64 ((j:Int)+1):=by rw [mQ] <;> omega
     have hmu2:x.ws.length - (j+1)<x.ws.length - j:=by omega
     by_cases c1:x.ws[j]<1
     ·generalize x.ws[j]=w at *
      repeat' ((conv=>whnf);first|exact trivial|refine qx hlt2 ?_|(refine nv_ (.agg (rR x)) (by first|exact hg|fail) ?_)|(refine nv_ (I w) (by first|exact hgj|fail) ?_)|refine qx c1 ?_|refine rD _ (h0) ?_|refine nT_ ?_|refine rb1 ?_|refine aS ?_|fail)
     by_cases c2:x.ws[j]>16
     ·generalize x.ws[j]=w at *
      repeat' ((conv=>whnf);first|exact trivial|refine qx hlt2 ?_|(refine nv_ (.agg (rR x)) (by first|exact hg|fail) ?_)|(refine nv_ (I w) (by first|exact hgj|fail) ?_)|refine qw c1 ?_|refine qx c2 ?_|refine rD _ (h0) ?_|refine nT_ ?_|refine rb1 ?_|refine aS ?_|fail)
     have inv:j+1≤x.ws.length∧ ∀k (h:k<x.ws.length),k<j+1→1≤x.ws[k]∧x.ws[k]≤16:=⟨h2,fun k hk hlt=>by
      rcases Nat.lt_or_ge k j with h4|h4
      ·exact hq k hk h4
      ·obtain rfl:k=j:=by omega
       omega⟩
     clear hq
     generalize x.ws[j]=w at *
     repeat' ((conv=>whnf);first|refine qx hlt2 ?_|(refine nv_ (.agg (rR x)) (by first|exact hg|fail) ?_)|(refine nv_ (I w) (by first|exact hgj|fail) ?_)|refine qw c1 ?_|refine qw c2 ?_|(exact ⟨j+1,inv,hmu2,by (repeat' (first|(exact leI hnx2)|exact trivial|exact LeV.same _|exact rfl|exact fun _ _ _=>trivial|refine And.intro ?_ ?_));done⟩)|refine nT_ ?_|refine aS ?_|fail)
    ·have hlt2: ¬(j:Int)<((x.ws.map I).length:Int):=by omega
     have hv:VOk x:=⟨by omega,fun w hw=>by
      obtain ⟨k,hk,rfl⟩:=List.getElem_of_mem hw
      have:=hq k hk (by omega)
      omega⟩
     repeat' ((conv=>whnf);first|refine qw hlt2 ?_|(refine nv_ (.agg (rR x)) (by first|exact hg|fail) ?_)|(exact ⟨(),hv,by (repeat' (first|exact trivial|exact LeV.same _|exact rfl|exact fun _ _ _=>trivial|refine And.intro ?_ ?_));done⟩)|refine nT_ ?_|refine aS ?_|fail)
   ·rintro _ hv
    skip
    refine qY 4 (α:=Nat) (β:=Unit) (fun j=>{sl:=[(0,.t (vsT vars)),(1,.t (esT st)),(2,.t (esT mo)),(3,.t (.str v)),(4,.t (.slice 1 (key.map I))),(11,.t (I i)),(13,.t (I j))],bx:=[]})
     (fun j=>j≤i) (fun j=>i - j) (fun _=>{sl:=[(0,.t (vsT vars)),(1,.t (esT st)),(2,.t (esT mo)),(3,.t (.str v)),(4,.t (.slice 1 (key.map I))),(11,.t (I i))],bx:=[]}) (fun _=>True) 0 (by simp) ?_ ?_ ?_
    ·repeat' (first|exact trivial|exact LeV.same _|exact rfl|exact fun _ _ _=>trivial|refine And.intro ?_ ?_)
    ·rintro j hj
     rcases Nat.lt_or_ge j i with h2|h2
     ·have hlt2:(j:Int)<(i:Int):=by omega
      have hj2:j<vars.length:=by omega
      have hgj:(vars.map sY)[j]?.getD .nil= .agg (rR vars[j]):=sU hj2
      have hgjn:((vars.map sY)[j]?.getD .nil).cells[0]?.getD .nil= .str vars[j].name:=by rw [hgj];rfl
      have hnx2:((j+1:Nat):Int)=IntKind.wrap .i64 ((j:Int)+1):=by rw [mQ] <;> omega
      have hmu2:i - (j+1)<i - j:=by omega
      have hE:=eqS vars[j].name x.name
      by_cases c:vars[j].name=x.name
      ·rw [decide_eq_true c] at hE
       repeat' ((conv=>whnf);first|exact trivial|refine qx hlt2 ?_|(refine nv_ (.agg (rR x)) (by first|exact hg|fail) ?_)|(refine nv_ (.agg (rR vars[j])) (by first|exact hgj|fail) ?_)|refine nb_ _ hE ?_|refine rD _ (h0) ?_|refine nT_ ?_|refine rb1 ?_|refine aS ?_|fail)
      ·rw [decide_eq_false c] at hE
       repeat' ((conv=>whnf);first|refine qx hlt2 ?_|(refine nv_ (.agg (rR x)) (by first|exact hg|fail) ?_)|(refine nv_ (.agg (rR vars[j])) (by first|exact hgj|fail) ?_)|refine nb_ _ hE ?_|(exact ⟨j+1,h2,hmu2,by (repeat' (first|(exact leI hnx2)|exact trivial|exact LeV.same _|exact rfl|exact fun _ _ _=>trivial|refine And.intro ?_ ?_));done⟩)|refine nT_ ?_|refine aS ?_|fail)
     ·have hlt2: ¬(j:Int)<(i:Int):=by omega
      repeat' ((conv=>whnf);first|refine qw hlt2 ?_|(exact ⟨(),trivial,by (repeat' (first|exact trivial|exact LeV.same _|exact rfl|exact fun _ _ _=>trivial|refine And.intro ?_ ?_));done⟩)|refine aS ?_|fail)
    ·rintro _ _
     have inv:i+1≤vars.length∧ ∀j (h:j<vars.length),j<i+1→VOk vars[j]:=⟨h,fun j hj hlt=>by
      rcases Nat.lt_or_ge j i with h4|h4
      ·exact hp j hj h4
      ·obtain rfl:j=i:=by omega
       rw [hx];exact hv⟩
     repeat' ((conv=>whnf);first|(exact ⟨i+1,inv,hmu,by (repeat' (first|(exact leI hnx)|exact trivial|exact LeV.same _|exact rfl|exact fun _ _ _=>trivial|refine And.intro ?_ ?_));done⟩)|fail)
  ·have hlt: ¬(i:Int)<((vars.map sY).length:Int):=by omega
   have hall: ∀x∈vars,VOk x:=fun x hx=>by
    obtain ⟨k,hk,rfl⟩:=List.getElem_of_mem hx
    exact hp k hk (by omega)
   repeat' ((conv=>whnf);first|refine qw hlt ?_|(exact ⟨(),hall,by (repeat' (first|exact trivial|exact LeV.same _|exact rfl|exact fun _ _ _=>trivial|refine And.intro ?_ ?_));done⟩)|refine aS ?_|fail)
 rintro _ hvs
 clear a1 hvn hvw
 have m1:=xI vars hvl hvs st (by omega) hsk
 have m2:=AM vars hvl hvs st (by omega) hsk
 have m3:=wu st (by omega) hsk
 have m4:=wu mo (by omega) hmk
 generalize hC:vI vars st=C at *
 skip
 refine rv (β:=Unit) (fun _=>{sl:=[(0,.t (vsT vars)),(1,.t (esT st)),(2,.t (esT mo)),(3,.t (.str v)),(4,.t (.slice 1 (key.map I))),(116,.t (.bool false))],bx:=[]}) (fun _=>True) ?_ ?_
 ·repeat' ((conv=>whnf);first|refine rD _ (m1) ?_|refine rD _ (m2) ?_|refine qA rfl ?_|(exact ⟨(),trivial,by (repeat' (first|exact trivial|exact LeV.same _|exact rfl|exact fun _ _ _=>trivial|refine And.intro ?_ ?_));done⟩)|refine aS ?_|fail)
 rintro _ _
 cases o1:sL st with
 |false=>
  rw [o1] at m3
  generalize sL mo=b at *
  repeat' ((conv=>whnf);first|exact trivial|refine rD _ (m3) ?_|refine rD _ (m4) ?_|refine rD _ (h0) ?_|refine rb1 ?_|fail)
 |true=>
 cases o2:sL mo with
 |false=>
  rw [o1] at m3
  rw [o2] at m4
  repeat' ((conv=>whnf);first|exact trivial|refine rD _ (m3) ?_|refine rD _ (m4) ?_|refine rD _ (h0) ?_|refine rb1 ?_|fail)
 |true=>
 rw [o1] at m3
 rw [o2] at m4
 have hI:=sP.1 o1
 have hJ:=sP.1 o2
 have f1:=yY st hI (by omega) hsk v key hkl
 have f2:=yR st (by omega) hsk v key hkl
 have f3:=xh st mo hI hJ (by omega) (by omega) hsk hmk
 have f4:=Bn st mo hI (by omega) (by omega) hsk hmk
 rw [Au] at f1 f2
 rw [AP] at f3 f4
 have hgk:kOk (gE (rV st v key)):=by
  cases hf:rV st v key with
  |none=>show ([]:List Int).length<2^60;decide
  |some e=>exact hsk e (td hf).1
 have hjk: ∀e∈(si st mo).getD [],kOk e:=fun e he=>by
  cases hj:si st mo with
  |none=>rw [hj] at he;simp at he
  |some w=>
   rw [hj] at he
   have he:e∈w:=he
   unfold si at hj
   split at hj
   ·cases hj
   ·cases hj
    rcases (ue (b:=mo) hI).2.2 e he with h|h
    ·exact hsk e h
    ·exact hmk e h
 have hjl:((si st mo).getD []).length<2^40:=by
  cases hj:si st mo with
  |none=>simp
  |some w=>
   unfold si at hj
   split at hj
   ·cases hj
   ·cases hj
    have:=(ue (b:=mo) hI).2.1
    show (mo.foldl (fun acc x=>rX x acc) st).length<2^40
    omega
 have s1:DCalls Tryz.prog 13 [.slice 4 [.agg (fE (rV st v key))],.slice 4 [.agg (fE (rV st v key))]] (.bool true):=by
  have:=uE [gE (rV st v key)] [gE (rV st v key)] (by simp) (by simp) (fun x hx=>by rw [List.mem_singleton.1 hx];exact hgk) (fun x hx=>by rw [List.mem_singleton.1 hx];exact hgk)
  rw [decide_eq_true rfl] at this
  exact this.lesAll ⟨yz _,yz _,trivial⟩
 have s2:DCalls Tryz.prog 13 [jT (si st mo),jT (si st mo)] (.bool true):=by
  have:=uE ((si st mo).getD []) ((si st mo).getD []) hjl hjl hjk hjk
  rw [decide_eq_true rfl] at this
  exact this.lesAll ⟨yG _,yG _,trivial⟩
 have hfl:=A9 (rV st v key)
 generalize hfe:fE (rV st v key)=fe at *
 obtain ⟨e0,e1,e2,e3,rfl⟩: ∃a b c d,fe=[a,b,c,d]:=by
  match fe,hfl with
  |[a,b,c,d],_=>exact ⟨a,b,c,d,rfl⟩
 generalize jT (si st mo)=jt at *
 generalize jI (si st mo)=ji at *
 generalize (rV st v key).isSome=fb at *
 clear hfe hgk hjk hjl hfl m1 m2
 repeat' ((conv=>whnf);first|refine rD _ (m3) ?_|refine rD _ (m4) ?_|fail)
 refine rv (β:=Unit) (fun _=>{sl:=[(0,.t (vsT vars)),(1,.t (esT st)),(2,.t (esT mo)),(3,.t (.str v)),(4,.t (.slice 1 (key.map I))),(16,.ptr 16 0),(17,.t (.bool fb))],bx:=[(16,.d 4 [e0,e1,e2,e3])]}) (fun _=>True) ?_ ?_
 ·repeat' ((conv=>whnf);first|refine rD _ (f1) ?_|(exact ⟨(),trivial,by (repeat' (first|exact trivial|exact LeV.same _|exact LeB.same _|exact rfl|exact fun _ _ _=>trivial|refine And.intro ?_ ?_));done⟩)|refine aS ?_|fail)
 rintro _ _
 skip
 refine rv (β:=Unit) (fun _=>{sl:=[(0,.t (vsT vars)),(1,.t (esT st)),(2,.t (esT mo)),(3,.t (.str v)),(4,.t (.slice 1 (key.map I))),(16,.ptr 16 0),(17,.t (.bool fb)),(18,.ptr 18 0),(19,.t (.bool fb))],bx:=[(16,.d 4 [e0,e1,e2,e3]),(18,.d 4 [e0,e1,e2,e3])]}) (fun _=>True) ?_ ?_
 ·repeat' ((conv=>whnf);first|refine rD _ (f2) ?_|(exact ⟨(),trivial,by (repeat' (first|exact trivial|exact LeV.same _|exact LeB.same _|exact rfl|exact fun _ _ _=>trivial|refine And.intro ?_ ?_));done⟩)|refine aS ?_|fail)
 rintro _ _
 skip
 refine rv (β:=Unit) (fun _=>{sl:=[(0,.t (vsT vars)),(1,.t (esT st)),(2,.t (esT mo)),(3,.t (.str v)),(4,.t (.slice 1 (key.map I))),(16,.ptr 16 0),(17,.t (.bool fb)),(18,.ptr 18 0),(19,.t (.bool fb)),(20,.t jt),(21,.t (I ji))],bx:=[(16,.d 4 [e0,e1,e2,e3]),(18,.d 4 [e0,e1,e2,e3])]}) (fun _=>True) ?_ ?_
 ·repeat' ((conv=>whnf);first|refine rD _ (f3) ?_|(exact ⟨(),trivial,by (repeat' (first|exact trivial|exact LeV.same _|exact LeB.same _|exact rfl|exact fun _ _ _=>trivial|refine And.intro ?_ ?_));done⟩)|fail)
 rintro _ _
 skip
 refine rv (β:=Unit) (fun _=>{sl:=[(0,.t (vsT vars)),(1,.t (esT st)),(2,.t (esT mo)),(3,.t (.str v)),(4,.t (.slice 1 (key.map I))),(16,.ptr 16 0),(17,.t (.bool fb)),(18,.ptr 18 0),(19,.t (.bool fb)),(20,.t jt),(21,.t (I ji)),(22,.t jt),(23,.t (I ji))],bx:=[(16,.d 4 [e0,e1,e2,e3]),(18,.d 4 [e0,e1,e2,e3])]}) (fun _=>True) ?_ ?_
 ·repeat' ((conv=>whnf);first|refine rD _ (f4) ?_|(exact ⟨(),trivial,by (repeat' (first|exact trivial|exact LeV.same _|exact LeB.same _|exact rfl|exact fun _ _ _=>trivial|refine And.intro ?_ ?_));done⟩)|fail)
 rintro _ _
 clear f1 f2 f3 f4 m3 m4
 skip
 refine rv (β:=Unit) (fun _=>{sl:=[(0,.t (vsT vars)),(1,.t (esT st)),(2,.t (esT mo)),(3,.t (.str v)),(4,.t (.slice 1 (key.map I))),(175,.t (.bool false))],bx:=[]}) (fun _=>True) ?_ ?_
 ·cases fb <;> repeat' ((conv=>whnf);first|refine rD _ (s1) ?_|refine rD _ (s2) ?_|(exact ⟨(),trivial,by (repeat' (first|exact trivial|exact LeV.same _|exact rfl|exact fun _ _ _=>trivial|refine And.intro ?_ ?_));done⟩)|refine aN0 ?_|refine aS ?_|refine nb_ false rfl ?_|fail)
 rintro _ _
 clear s1 s2
 skip
 refine qY 6 (α:=Nat) (β:=Unit) (fun j=>{sl:=[(0,.t (vsT vars)),(1,.t (esT st)),(2,.t (esT mo)),(3,.t (.str v)),(4,.t (.slice 1 (key.map I))),(24,.t (I ((j+1:Nat):Int)))],bx:=[]})
  (fun j=>j≤st.length) (fun j=>st.length - j) (fun _=>{sl:=[(0,.t (vsT vars)),(1,.t (esT st)),(2,.t (esT mo)),(3,.t (.str v)),(4,.t (.slice 1 (key.map I)))],bx:=[]}) (fun _=>True) 0 (by simp) ?_ ?_ ?_
 ·repeat' (first|exact trivial|exact LeV.same _|exact rfl|exact fun _ _ _=>trivial|refine And.intro ?_ ?_)
 ·rintro j hj
  rcases Nat.lt_or_ge (j+1) st.length with h|h
  ·have hlt:((j+1:Nat):Int)<((st.map rM).length:Int):=by omega
   have hnx:((j+1+1:Nat):Int)=IntKind.wrap .i64 (((j+1:Nat):Int)+1):=by rw [mQ] <;> omega
   have hj0:j<st.length:=by omega
   have hw:IntKind.wrap .i64 (((j+1:Nat):Int) - 1)=(j:Int):=by rw [mQ] <;> omega
   have hg0:(st.map rM)[(IntKind.wrap .i64 (((j+1:Nat):Int) - 1)).toNat]?.getD .nil= .agg (rL st[j]):=by
    rw [hw,Int.toNat_natCast,rU hj0]
   have hg1:(st.map rM)[((j+1:Nat):Int).toNat]?.getD .nil= .agg (rL st[j+1]):=by
    rw [Int.toNat_natCast,rU h]
   have hb0:0≤IntKind.wrap .i64 (((j+1:Nat):Int) - 1)∧IntKind.wrap .i64 (((j+1:Nat):Int) - 1)<((st.map rM).length:Int):=by rw [hw];omega
   have hb1:0≤((j+1:Nat):Int)∧((j+1:Nat):Int)<((st.map rM).length:Int):=by omega
   have k0:=hsk _ (List.getElem_mem hj0)
   have k1:=hsk _ (List.getElem_mem h)
   have hlt01:rQ st[j] st[j+1]= -1:=List.pairwise_iff_getElem.1 hI j (j+1) hj0 h (by omega)
   have hC1:=sK st[j] st[j+1] k0 k1
   have hC2:=sK st[j+1] st[j] k1 k0
   have hC3:=sK st[j+1] st[j+1] k1 k1
   rw [hlt01] at hC1
   rw [rO.s st[j] st[j+1],hlt01] at hC2
   rw [rO.refl] at hC3
   have hmu:st.length - (j+1)<st.length - j:=by omega
   have inv:j+1≤st.length:=by omega
   repeat' ((conv=>whnf);first|refine qx hlt ?_|refine aS ?_|fail)
   refine rv (β:=Unit) (fun _=>{sl:=[(0,.t (vsT vars)),(1,.t (esT st)),(2,.t (esT mo)),(3,.t (.str v)),(4,.t (.slice 1 (key.map I))),(24,.t (I ((j+1:Nat):Int))),(217,.t (.bool false))],bx:=[]}) (fun _=>True) ?_ ?_
   ·repeat' ((conv=>whnf);first|(refine nv_ (.agg (rL st[j])) (by first|exact hg0|fail) ?_)|(refine nv_ (.agg (rL st[j+1])) (by first|exact hg1|fail) ?_)|refine rD _ (hC1) ?_|refine rD _ (hC2) ?_|refine rD _ (hC3) ?_|(exact ⟨(),trivial,by (repeat' (first|exact trivial|exact LeV.same _|exact rfl|exact fun _ _ _=>trivial|refine And.intro ?_ ?_));done⟩)|refine nT_ ?_|refine aN0 ?_|(refine And.intro (by first|exact hb0|exact hb1|exact rN _|fail) ?_)|refine aS ?_|fail)
   rintro _ _
   repeat' ((conv=>whnf);first|(exact ⟨j+1,inv,hmu,by (repeat' (first|(exact leI hnx)|exact trivial|exact LeV.same _|exact rfl|exact fun _ _ _=>trivial|refine And.intro ?_ ?_));done⟩)|fail)
  ·have hlt: ¬((j+1:Nat):Int)<((st.map rM).length:Int):=by omega
   repeat' ((conv=>whnf);first|refine qw hlt ?_|(exact ⟨(),trivial,by (repeat' (first|exact trivial|exact LeV.same _|exact rfl|exact fun _ _ _=>trivial|refine And.intro ?_ ?_));done⟩)|refine aS ?_|fail)
 rintro _ _
 have hol:(ofE st v).length≤st.length:=List.length_filter_le _ _
 have hwl:(r9 st v).length≤st.length:=List.length_filter_le _ _
 have hok: ∀x∈ofE st v,kOk x:=fun x hx=>hsk x (List.mem_filter.1 hx).1
 have hwk: ∀x∈r9 st v,kOk x:=fun x hx=>hsk x (List.mem_filter.1 hx).1
 have q1:=Bt st v (by omega)
 have q2:=yZ st v (by omega)
 have q3:=De st v (by omega)
 have q4:=yS st v (by omega)
 have q5:=xh (ofE st v) (r9 st v) (hI.filter _) (hI.filter _) (by omega) (by omega) hok hwk
 rw [xT hI v] at q5
 have q5:DCalls Tryz.prog 27 [esT (ofE st v),esT (r9 st v)] (.tup [esT st,I 0]):=q5
 have q6:=uE (ofE st v) (ofE st v) (by omega) (by omega) hok hok
 have q7:=uE (r9 st v) (r9 st v) (by omega) (by omega) hwk hwk
 have q8:=uE st st (by omega) (by omega) hsk hsk
 rw [decide_eq_true rfl] at q6 q7 q8
 generalize ofE st v=o at *
 generalize r9 st v=w at *
 skip
 refine rv (β:=Unit) (fun _=>{sl:=[(1,.t (esT st)),(2,.t (esT mo)),(3,.t (.str v)),(25,.t (esT o))],bx:=[]}) (fun _=>True) ?_ ?_
 ·repeat' ((conv=>whnf);first|refine rD _ (q1) ?_|(exact ⟨(),trivial,by (repeat' (first|exact trivial|exact LeV.same _|exact rfl|exact fun _ _ _=>trivial|refine And.intro ?_ ?_));done⟩)|fail)
 rintro _ _
 skip
 refine rv (β:=Unit) (fun _=>{sl:=[(1,.t (esT st)),(2,.t (esT mo)),(3,.t (.str v)),(25,.t (esT o)),(26,.t (esT w))],bx:=[]}) (fun _=>True) ?_ ?_
 ·repeat' ((conv=>whnf);first|refine rD _ (q2) ?_|(exact ⟨(),trivial,by (repeat' (first|exact trivial|exact LeV.same _|exact rfl|exact fun _ _ _=>trivial|refine And.intro ?_ ?_));done⟩)|fail)
 rintro _ _
 skip
 refine rv (β:=Unit) (fun _=>{sl:=[(1,.t (esT st)),(2,.t (esT mo)),(3,.t (.str v)),(25,.t (esT o)),(26,.t (esT w)),(27,.t (esT st)),(28,.t (I 0))],bx:=[]}) (fun _=>True) ?_ ?_
 ·repeat' ((conv=>whnf);first|refine rD _ (q5) ?_|(exact ⟨(),trivial,by (repeat' (first|exact trivial|exact LeV.same _|exact rfl|exact fun _ _ _=>trivial|refine And.intro ?_ ?_));done⟩)|fail)
 rintro _ _
 clear q1 q2 q5
 repeat' ((conv=>whnf);first|exact trivial|refine rD _ (h0) ?_|refine rD _ (q3) ?_|refine rD _ (q4) ?_|refine rD _ (q6) ?_|refine rD _ (q7) ?_|refine rD _ (q8) ?_|refine aE1 ?_|refine rb1 ?_|refine aS ?_|fail)
end Go.ST
end
section
namespace Go.MM
open Go Go.DL Go.Proofs
theorem aStr {us:List T} (h:cj Tryz.prog 9 us): ∃s,mkT Tryz.prog 9 us= .str s∧s.size<aN us:=by
 obtain ⟨s,rfl⟩:=wV h
 exact ⟨s,by unfold mkT;rw [BB];rfl,by simp [aN,T.bulk]⟩
end Go.MM
end
section
namespace Go.ST
open Go Go.DL Go.MM Go.Proofs
open Go.TY hiding Fd
def typesS:List TypeId:=[22,54,36,34,39,37,42,40,44,24,30,67,59,25,64,27,9,3,4]
theorem typesS_ok:eJ Tryz.prog typesS=true:=by kernel_rfl
theorem wI:Tryz.prog.cellsOf 64=4:=by kernel_rfl
theorem yq:Tryz.prog.underlying 30=some (.slice 67):=by kernel_rfl
theorem BT (us:List T):mkT Tryz.prog 64 us= .agg us:=by unfold mkT;rw [Tryz.underlying64]
theorem BL {us:List T} (h:us.length=4): ∃a b c d,us=[a,b,c,d]:=by
 match us,h with
 |[a,b,c,d],_=>exact ⟨a,b,c,d,rfl⟩
theorem zC {us:List T} (h:cj Tryz.prog 64 us): ∃e:RE,cV us (rL e)∧e.key.length<aN us:=by
 cases h with
 |struct h us hl hf=>
  rw [Tryz.underlying64] at h
  cases h
  rw [wI] at hl
  obtain ⟨a,b,c,d,rfl⟩:=BL hl
  have f0:=hf ⟨ "Var",9,0,false, "", "",0⟩ (by simp)
  have f1:=hf ⟨ "Key",59,1,false, "", "",16⟩ (by simp)
  have f2:=hf ⟨ "N",3,2,false, "", "",40⟩ (by simp)
  have f3:=hf ⟨ "At",3,3,false, "", "",48⟩ (by simp)
  simp only [wH,yw,vV,List.drop,List.take] at f0 f1 f2 f3
  obtain ⟨v,e0⟩:=wV f0
  obtain ⟨l,g1,g2⟩:=vP f1
  obtain ⟨n,e2,_⟩:=tZ f2
  obtain ⟨m,e3,_⟩:=tZ f3
  simp only [List.cons.injEq,and_true] at e0 e2 e3
  subst e0;subst e2;subst e3
  refine ⟨⟨v,l,n,m⟩,.cons (Les.refl _) rfl (cV.append (us:=[T.slice 1 (l.map I)]) g1 (.cons (Les.refl _) rfl (.cons (Les.refl _) rfl .nil))),?_⟩
  simp only [aN,T.bulk] at g2 ⊢
  show l.length<_
  omega
 |int h|bool h|str h|nil h|slice h|array h=>rw [Tryz.underlying64] at h;cases h
theorem aEnts {us:List T} (h:cj Tryz.prog 25 us) (hb:aN us≤1048576): ∃st:List RE,Les (mkT Tryz.prog 25 us) (esT st)∧st.length≤1048576∧ ∀e∈st,kOk e:=by
 have e: ∀t,mkT Tryz.prog 25 [t]=t:=fun t=>by unfold mkT;rw [r7];rfl
 cases h with
 |nil h=>exact ⟨[],by rw [e];exact Les.nil 4,by simp,by simp⟩
 |slice h xs hx hl=>
  rw [r7] at h
  cases h
  rw [e,wI]
  have em:xs.map (mkT Tryz.prog 64)=xs.map .agg:=List.map_congr_left fun x _=>BT x
  rw [em] at hb ⊢
  simp only [aN,T.bulk] at hb
  have key: ∃l:List RE,l.length=xs.length∧l.length≤aN (xs.map .agg)∧(∀ r∈l,kOk r)∧ ∀(i:Nat) x (r:RE),xs[i]? =some x→l[i]? =some r→cV x (rL r):=by
   clear hl em
   induction xs with
   |nil=>exact ⟨[],rfl,by simp,by simp,by simp⟩
   |cons x xs ih=>
    simp only [List.map_cons,aN,T.bulk] at hb
    obtain ⟨r,h1,h2⟩:=zC (hx x (by simp))
    obtain ⟨l,k1,k2,k3,k4⟩:=ih (fun y hy=>hx y (by simp [hy])) (by omega)
    refine ⟨r::l,by simp [k1],by simp only [List.map_cons,aN,T.bulk,List.length_cons];omega,fun s hs=>?_,fun i y s hy hs=>?_⟩
    ·rcases List.mem_cons.1 hs with rfl|hs
     ·show s.key.length<2^60
      omega
     ·exact k3 s hs
    ·cases i with
     |zero=>simp at hy hs;subst hy;subst hs;exact h1
     |succ i=>exact k4 i y s (by simpa using hy) (by simpa using hs)
  obtain ⟨l,k1,k2,k3,k4⟩:=key
  refine ⟨l,Les.slice (by simp [k1]) fun i x y hx hy=>?_,by omega,k3⟩
  rw [List.getElem?_map] at hx hy
  obtain ⟨x',hx',rfl⟩:=Option.map_eq_some_iff.1 hx
  obtain ⟨r',hr',rfl⟩:=Option.map_eq_some_iff.1 hy
  exact ⟨k4 i x' r' hx' hr',rN r'⟩
 |int h|bool h|str h|array h|struct h=>rw [r7] at h;cases h
theorem aVars {us:List T} (h:cj Tryz.prog 30 us) (hb:aN us≤1048576): ∃vs:List RV,Les (mkT Tryz.prog 30 us) (vsT vs)∧vs.length≤1048576∧ ∀v∈vs,v.ws.length<2^60:=by
 have e: ∀t,mkT Tryz.prog 30 [t]=t:=fun t=>by unfold mkT;rw [yq];rfl
 cases h with
 |nil h=>exact ⟨[],by rw [e];exact Les.nil 5,by simp,by simp⟩
 |slice h xs hx hl=>
  rw [yq] at h
  cases h
  rw [e,wJ]
  have em:xs.map (mkT Tryz.prog 67)=xs.map .agg:=List.map_congr_left fun x _=>mkVar x
  rw [em] at hb ⊢
  simp only [aN,T.bulk] at hb
  have key: ∃l:List RV,l.length=xs.length∧l.length≤aN (xs.map .agg)∧(∀ r∈l,r.ws.length<2^60)∧ ∀(i:Nat) x (r:RV),xs[i]? =some x→l[i]? =some r→cV x (rR r):=by
   clear hl em
   induction xs with
   |nil=>exact ⟨[],rfl,by simp,by simp,by simp⟩
   |cons x xs ih=>
    simp only [List.map_cons,aN,T.bulk] at hb
    obtain ⟨r,h1,_,h2⟩:=Bp (hx x (by simp))
    obtain ⟨l,k1,k2,k3,k4⟩:=ih (fun y hy=>hx y (by simp [hy])) (by omega)
    refine ⟨r::l,by simp [k1],by simp only [List.map_cons,aN,T.bulk,List.length_cons];omega,fun s hs=>?_,fun i y s hy hs=>?_⟩
    ·rcases List.mem_cons.1 hs with rfl|hs
     ·omega
     ·exact k3 s hs
    ·cases i with
     |zero=>simp at hy hs;subst hy;subst hs;exact h1
     |succ i=>exact k4 i y s (by simpa using hy) (by simpa using hs)
  obtain ⟨l,k1,k2,k3,k4⟩:=key
  refine ⟨l,Les.slice (by simp [k1]) fun i x y hx hy=>?_,by omega,k3⟩
  rw [List.getElem?_map] at hx hy
  obtain ⟨x',hx',rfl⟩:=Option.map_eq_some_iff.1 hx
  obtain ⟨r',hr',rfl⟩:=Option.map_eq_some_iff.1 hy
  exact ⟨k4 i x' r' hx' hr',rT r'⟩
 |int h|bool h|str h|array h|struct h=>rw [yq] at h;cases h
theorem aInts {us:List T} (h:cj Tryz.prog 59 us) (hb:aN us≤1048576): ∃l:List Int,Les (mkT Tryz.prog 59 us) (.slice 1 (l.map I))∧l.length<2^60:=by
 have e: ∀t,mkT Tryz.prog 59 [t]=t:=fun t=>by unfold mkT;rw [uP];rfl
 have h1: ∃t,us=[t]:=by
  cases h with
  |nil h=>exact ⟨_,rfl⟩
  |slice h xs hx hl=>exact ⟨_,rfl⟩
  |int h|bool h|str h|array h|struct h=>rw [uP] at h;cases h
 obtain ⟨t,rfl⟩:=h1
 obtain ⟨l,g1,g2⟩:=vP h
 refine ⟨l,?_,by omega⟩
 rw [e]
 exact g1.le 0 _ _ rfl rfl
end Go.ST
end
