/- Joined by program: parts of a data level over the model, of the program's functions over it, and of the statement's proof. -/
import Derived.Test.YtdfkadeceaepeaaGreatProg
import Derived.Test.YtdfkadeceaepeaaGreatGc
import Derived.KernelRfl
set_option maxRecDepth 100000
set_option maxHeartbeats 8000000
noncomputable section
namespace Go.DL
abbrev Kc (n:Int):O:=.const (.int .i64 n)
abbrev Zi (n:Int):T:=.int .i64 n
abbrev Ui (n:Int):T:=.int .u8 n
abbrev tm (n:Nat):O:=.tmp n
abbrev mv (d s:Nat):DI:=⟨some d,.mov (.tmp s),none,[]⟩
abbrev mF (d s g:Nat):DI:=⟨some d,.mov (.tmp s),some (g,false),[]⟩
abbrev mT (d s g:Nat):DI:=⟨some d,.mov (.tmp s),some (g,true),[]⟩
abbrev oo (d:Nat) (p:DOp):DI:=⟨some d,p,none,[]⟩
abbrev oF (d g:Nat) (p:DOp):DI:=⟨some d,p,some (g,false),[]⟩
abbrev oT (d g:Nat) (p:DOp):DI:=⟨some d,p,some (g,true),[]⟩
abbrev o0 (p:DOp):DI:=⟨none,p,none,[]⟩
abbrev ld (d a:Nat):DI:=⟨some d,.load 1 false (.tmp a),none,[]⟩
abbrev lA (d n a:Nat):DI:=⟨some d,.load n true (.tmp a),none,[]⟩
abbrev fa (d k a:Nat):DI:=⟨some d,.offA k (.tmp a),none,[]⟩
abbrev ix (d z a b:Nat):DI:=⟨some d,.idxL z (.tmp a) (.tmp b),none,[]⟩
abbrev ln (d a:Nat):DI:=⟨some d,.len (.tmp a),none,[]⟩
abbrev kT:O:=.const (.bool true)
abbrev kF:O:=.const (.bool false)
abbrev S0:T:=.str ⟨#[]⟩
abbrev Z0:T:=.int .i64 0
end Go.DL
namespace Go.MM
open Go Go.DL Go.Proofs
def c14:aQ:=(.seq (.region [oo 1 (.box 10 (tm 0)),oo 2 (.mov kF)] []) (.seq (.seq (.region [oo 3 (.mov (Kc 0))] []) (.block 0 (.loop (.seq (.seq (.region [mv 4 3,oo 5 (.bin .lss (tm 4) (Kc 10))] []) (.cond (tm 5) .skip (.exit 0))) (.seq (.block 1 (.seq (.region [mv 8 3,oo 9 (.idxA 10 1 (tm 1) (tm 8)),ld 10 9,oo 11 (.bin .lss (tm 10) (Kc 0)),mv 12 11,mF 13 3 12,oF 14 12 (.idxA 10 1 (tm 1) (tm 13)),oF 15 12 (.load 1 false (tm 14)),oF 16 12 (.bin .gtr (tm 15) (Kc 65535)),oo 17 (.pick (tm 12) kT (tm 16))] []) (.cond (tm 17) (.seq (.region [oo 2 (.mov kF)] []) .ret) .skip))) (.region [mv 6 3,oo 7 (.bin .add (tm 6) (Kc 1)),mv 3 7] [])))))) (.seq (.region [oo 2 (.mov kT)] []) .ret)))
theorem l14:(Tryz.f14.body.bind (bk Tryz.prog 18 []))=some c14:=by kernel_rfl
def c5:aQ:=(.seq (.region [oo 0 (.mov kF)] []) (.seq (.region [oo 19 (.call 16 []),mv 1 19] []) (.seq (.region [oo 20 (.build [Z0,Z0,Z0,Z0,Z0,Z0,Z0,Z0,Z0,Z0] [(0,1,(Kc 5)),(1,1,(Kc 4660)),(2,1,(Kc 28672))]),oo 2 (.alloc [Z0,Z0,Z0,Z0,Z0,Z0,Z0,Z0,Z0,Z0]),o0 (.store 10 (tm 2) (tm 20))] []) (.seq (.region [lA 21 10 2,lA 22 10 2,lA 23 10 2,oo 3 (.alloc [Z0,Z0,Z0,Z0,Z0,Z0,Z0,Z0,Z0,Z0]),oo 4 (.alloc [Z0,Z0,Z0,Z0,Z0,Z0,Z0,Z0,Z0,Z0]),oo 5 (.alloc [Z0,Z0,Z0,Z0,Z0,Z0,Z0,Z0,Z0,Z0]),o0 (.store 10 (tm 3) (tm 21)),o0 (.store 10 (tm 4) (tm 22)),o0 (.store 10 (tm 5) (tm 23))] [[],[],[],[],[],[],[1,2],[2],[]]) (.seq (.region [oo 24 (.idxA 10 1 (tm 3) (Kc 2)),o0 (.store 1 (tm 24) (Kc 4096)),oo 25 (.idxA 10 1 (tm 4) (Kc 2)),o0 (.store 1 (tm 25) (Kc 8192)),oo 26 (.idxA 10 1 (tm 5) (Kc 2)),o0 (.store 1 (tm 26) (Kc 16384))] []) (.seq (.region [⟨some 27,.call 18 [(.const (.str ⟨#[100,115,116]⟩)),(Kc 18)],none,[]⟩,⟨some 28,.build [Z0,S0,Z0,Z0,.nil] [(0,1,(Kc 5)),(1,1,(.const (.str ⟨#[115,114,99]⟩))),(2,1,(Kc 50)),(3,1,(Kc 60))],none,[]⟩,oo 29 (.call 17 [(Kc 7),(tm 27),(tm 28)]),⟨some 6,.alloc [Z0,S0,Z0,Z0,.nil],none,[]⟩,o0 (.store 5 (tm 6) (tm 29))] []) (.seq (.region [⟨some 30,.build [Z0,S0,Z0,Z0,.nil] [(0,1,(Kc 9)),(2,1,(Kc 3)),(3,1,(Kc 5))],none,[]⟩,⟨some 7,.alloc [Z0,S0,Z0,Z0,.nil],none,[]⟩,o0 (.store 5 (tm 7) (tm 30))] []) (.seq (.seq (.region [mv 31 1,lA 32 5 6,lA 33 10 2,oo 34 (.call 19 [(tm 31),(tm 32),(tm 33),(Kc 0)]),oo 35 (.not (tm 34)),mv 36 35,mF 37 1 36,⟨some 38,.build [Z0,S0,Z0,Z0,.nil] [(0,1,(Kc 4)),(1,1,(.const (.str ⟨#[100,115,116]⟩))),(2,1,(Kc 16)),(3,1,(Kc 4))],some (36,false),[]⟩,oF 39 36 (.load 10 true (tm 2)),oF 40 36 (.call 19 [(tm 37),(tm 38),(tm 39),(Kc 0)]),oF 41 36 (.not (tm 40)),oo 42 (.pick (tm 36) kT (tm 41)),mv 43 42,mF 44 1 43,oF 45 43 (.load 5 true (tm 7)),oF 46 43 (.load 10 true (tm 2)),oF 47 43 (.call 19 [(tm 44),(tm 45),(tm 46),(Kc 4)]),oF 48 43 (.not (tm 47)),oo 49 (.pick (tm 43) kT (tm 48)),mv 50 49,mF 51 1 50,oF 52 50 (.load 5 true (tm 7)),oF 53 50 (.load 10 true (tm 2)),oF 54 50 (.call 19 [(tm 51),(tm 52),(tm 53),(Kc 5)]),oo 55 (.pick (tm 50) kT (tm 54))] []) (.cond (tm 55) (.seq (.region [oo 0 (.mov kF)] []) .ret) .skip)) (.seq (.region [lA 56 10 2,oo 8 (.alloc [Z0,Z0,Z0,Z0,Z0,Z0,Z0,Z0,Z0,Z0]),o0 (.store 10 (tm 8) (tm 56))] []) (.seq (.region [oo 57 (.idxA 10 1 (tm 8) (Kc 2)),o0 (.store 1 (tm 57) (Kc 12288))] []) (.seq (.region [mv 59 1,⟨some 60,.call 21 [(.const (.str ⟨#[107,105,110,100]⟩)),(Kc 2)],none,[]⟩,⟨some 61,.call 21 [(.const (.str ⟨#[107,105,110,100]⟩)),(Kc 3)],none,[]⟩,oo 62 (.call 20 [(tm 60),(tm 61)]),lA 63 10 2,oo 64 (.call 8 [(tm 59),(tm 62),(tm 63),(Kc 0)]),mv 58 64,oo 65 (.ext (tm 58) 0),oo 66 (.ext (tm 58) 1),mv 9 65,mv 10 66] []) (.seq (.region [⟨some 67,.call 18 [(.const (.str ⟨#[107,105,110,100]⟩)),(Kc 7)],none,[]⟩,oo 68 (.call 22 [tm 67]),⟨some 11,.alloc [Z0,Z0,S0,Z0,Z0,.nil,S0,Z0,.nil],none,[]⟩,o0 (.store 9 (tm 11) (tm 68))] []) (.seq (.region [mv 70 1,lA 71 9 11,⟨some 72,.call 21 [(.const (.str ⟨#[107,105,110,100]⟩)),(Kc 1)],none,[]⟩,oo 73 (.call 23 [(tm 71),(tm 72)]),lA 74 9 11,oo 75 (.call 23 [(tm 73),(tm 74)]),lA 76 10 2,oo 77 (.call 8 [(tm 70),(tm 75),(tm 76),(Kc 0)]),mv 69 77,oo 78 (.ext (tm 69) 0),oo 79 (.ext (tm 69) 1),mv 12 78,mv 13 79] []) (.seq (.region [lA 80 9 11,⟨some 81,.call 21 [(.const (.str ⟨#[107,105,110,100]⟩)),(Kc 1)],none,[]⟩,oo 82 (.call 23 [(tm 80),(tm 81)]),⟨some 83,.call 18 [(.const (.str ⟨#[107,105,110,100]⟩)),(Kc 1)],none,[]⟩,oo 84 (.call 22 [tm 83]),⟨some 85,.call 21 [(.const (.str ⟨#[107,105,110,100]⟩)),(Kc 4)],none,[]⟩,oo 86 (.call 23 [(tm 84),(tm 85)]),oo 87 (.call 20 [(tm 82),(tm 86)]),⟨some 14,.alloc [Z0,Z0,S0,Z0,Z0,.nil,S0,Z0,.nil],none,[]⟩,o0 (.store 9 (tm 14) (tm 87))] []) (.seq (.region [mv 89 1,lA 90 9 14,oo 91 (.call 24 [tm 90]),lA 92 10 2,oo 93 (.call 8 [(tm 89),(tm 91),(tm 92),(Kc 0)]),mv 88 93,oo 94 (.ext (tm 88) 0),oo 95 (.ext (tm 88) 1),mv 15 94,mv 16 95] []) (.seq (.cut (.region [mv 97 1,lA 98 9 14,lA 99 10 2,oo 100 (.call 25 [(tm 97),(tm 98),(tm 99),(Kc 0)]),mv 96 100,oo 101 (.ext (tm 96) 0),oo 102 (.ext (tm 96) 1),mv 17 101,mv 18 102] [])) (.seq (.region [mv 103 10,oo 104 (.bin .eql (tm 103) (Kc 0)),mv 105 104,mT 106 9 105,oT 107 105 (.load 10 true (tm 4)),oT 108 105 (.load 10 true (tm 8)),oT 109 105 (.buildS 30 10 2 [Z0,Z0,Z0,Z0,Z0,Z0,Z0,Z0,Z0,Z0] [(0,(tm 107)),(1,(tm 108))]),oT 110 105 (.call 12 [(tm 106),(tm 109)]),oo 111 (.pick (tm 105) (tm 110) kF),mv 112 111,mT 113 13 112,oT 114 112 (.bin .eql (tm 113) (Kc 0)),oo 115 (.pick (tm 112) (tm 114) kF),mv 116 115,mT 117 12 116,oT 118 116 (.len (tm 117)),oT 119 116 (.bin .eql (tm 118) (Kc 0)),oo 120 (.pick (tm 116) (tm 119) kF),mv 121 120,mT 122 16 121,oT 123 121 (.bin .eql (tm 122) (Kc 0)),oo 124 (.pick (tm 121) (tm 123) kF),mv 125 124,mT 126 15 125,oT 127 125 (.load 10 true (tm 3)),oT 128 125 (.load 10 true (tm 5)),oT 129 125 (.load 10 true (tm 2)),oT 130 125 (.buildS 30 10 3 [Z0,Z0,Z0,Z0,Z0,Z0,Z0,Z0,Z0,Z0] [(0,(tm 127)),(1,(tm 128)),(2,(tm 129))]),oT 131 125 (.call 12 [(tm 126),(tm 130)]),oo 132 (.pick (tm 125) (tm 131) kF),mv 133 132,mT 134 17 133,oT 135 133 (.bin .eql (tm 134) (Kc 2)),oo 136 (.pick (tm 133) (tm 135) kF),mv 137 136,mT 138 18 137,oT 139 137 (.bin .eql (tm 138) (Kc 0)),oo 140 (.pick (tm 137) (tm 139) kF),mv 141 140,mT 142 15 141,oT 143 141 (.load 10 true (tm 5)),oT 144 141 (.call 26 [(tm 142),(tm 143)]),oo 145 (.pick (tm 141) (tm 144) kF),mv 146 145,mT 147 15 146,oT 148 146 (.load 10 true (tm 4)),oT 149 146 (.call 26 [(tm 147),(tm 148)]),oT 150 146 (.not (tm 149)),oo 151 (.pick (tm 146) (tm 150) kF),mv 0 151] []) .ret)))))))))))))))))
theorem l5:(Tryz.f5.body.bind (bk Tryz.prog 152 [6000016]))=some c5:=by kernel_rfl
def c12:aQ:=(.seq (.region [oo 4 (.mov kF)] []) (.seq (.seq (.region [mv 6 0,ln 7 6,mv 8 1,ln 9 8,oo 10 (.bin .neq (tm 7) (tm 9))] []) (.cond (tm 10) (.seq (.region [oo 4 (.mov kF)] []) .ret) .skip)) (.seq (.seq (.region [oo 5 (.mov (Kc 0))] []) (.block 0 (.loop (.seq (.seq (.region [mv 11 5,mv 12 0,ln 13 12,oo 14 (.bin .lss (tm 11) (tm 13))] []) (.cond (tm 14) .skip (.exit 0))) (.seq (.block 1 (.seq (.region [mv 17 0,mv 18 5,ix 19 10 17 18,lA 20 10 19,mv 21 1,mv 22 5,ix 23 10 21 22,lA 24 10 23,oo 25 (.eqv true [.int .i64,.int .i64,.int .i64,.int .i64,.int .i64,.int .i64,.int .i64,.int .i64,.int .i64,.int .i64] (tm 20) (tm 24))] []) (.cond (tm 25) (.seq (.region [oo 4 (.mov kF)] []) .ret) .skip))) (.region [mv 15 5,oo 16 (.bin .add (tm 15) (Kc 1)),mv 5 16] [])))))) (.seq (.region [oo 4 (.mov kT)] []) .ret))))
theorem l12:(Tryz.f12.body.bind (bk Tryz.prog 26 []))=some c12:=by kernel_rfl
def c11:aQ:=(.seq (.region [oo 4 (.mov (.const .nil))] []) (.seq (.region [oo 7 (.buildS 30 10 0 [Z0,Z0,Z0,Z0,Z0,Z0,Z0,Z0,Z0,Z0] []),mv 8 0,oo 9 (.append 35 30 10 80 (tm 7) (tm 8)),mv 5 9] []) (.seq (.seq (.region [oo 6 (.mov (Kc 0))] []) (.block 0 (.loop (.seq (.seq (.region [mv 10 6,mv 11 1,ln 12 11,oo 13 (.bin .lss (tm 10) (tm 12))] []) (.cond (tm 13) .skip (.exit 0))) (.seq (.block 1 (.region [mv 16 5,mv 17 1,mv 18 6,ix 19 10 17 18,lA 20 10 19,oo 21 (.call 34 [(tm 16),(tm 20)]),mv 5 21] [])) (.region [mv 14 6,oo 15 (.bin .add (tm 14) (Kc 1)),mv 6 15] [])))))) (.seq (.region [mv 22 5,mv 4 22] []) .ret))))
theorem l11:(Tryz.f11.body.bind (bk Tryz.prog 23 []))=some c11:=by kernel_rfl
def c26:aQ:=(.seq (.region [oo 3 (.box 10 (tm 1)),oo 4 (.mov kF)] []) (.seq (.region [mv 8 0,lA 9 10 3,oo 10 (.call 43 [(tm 8),(tm 9),(.const (.clos 44 []))]),mv 7 10,oo 11 (.ext (tm 7) 0),oo 12 (.ext (tm 7) 1),mv 5 11,mv 6 12] []) (.seq (.region [mv 13 6,mv 4 13] []) .ret)))
theorem l26:(Tryz.f26.body.bind (bk Tryz.prog 14 []))=some c26:=by kernel_rfl
def c4:aQ:=(.seq (.region [oo 5 (.box 10 (tm 1)),oo 8 (.mov kF)] []) (.seq (.seq (.region [mv 11 0,ln 12 11,oo 13 (.bin .gtr (tm 12) (Kc 20)),mv 14 13,mF 15 0 14,oF 16 14 (.call 13 [tm 15]),oF 17 14 (.bin .neq (tm 16) (Kc 0)),oo 18 (.pick (tm 14) kT (tm 17)),mv 19 18,oF 20 19 (.load 10 true (tm 5)),oF 21 19 (.call 14 [tm 20]),oF 22 19 (.not (tm 21)),oo 23 (.pick (tm 19) kT (tm 22)),mv 24 23,mF 25 2 24,oF 26 24 (.bin .lss (tm 25) (Kc 0)),oo 27 (.pick (tm 24) kT (tm 26)),mv 28 27,mF 29 2 28,oF 30 28 (.bin .gtr (tm 29) (Kc 1073741824)),oo 31 (.pick (tm 28) kT (tm 30))] []) (.cond (tm 31) (.seq (.region [oo 8 (.mov kF)] []) .ret) .skip)) (.seq (.seq (.region [mv 32 3,ln 33 32,oo 34 (.mov (Kc 0))] []) (.block 0 (.loop (.seq (.region [oo 35 (.bin .lss (tm 34) (tm 33))] []) (.seq (.cond (tm 35) .skip (.exit 0)) (.seq (.block 1 (.seq (.region [ix 36 9 32 34,lA 37 9 36,⟨some 10,.alloc [Z0,Z0,S0,Z0,Z0,.nil,S0,Z0,.nil],none,[]⟩,o0 (.store 9 (tm 10) (tm 37))] []) (.seq (.region [mv 38 0,lA 39 9 10,oo 40 (.call 15 [(tm 38),(tm 39)]),oo 41 (.not (tm 40))] []) (.cond (tm 41) (.seq (.region [oo 8 (.mov kF)] []) .ret) .skip)))) (.region [oo 42 (.bin .add (tm 34) (Kc 1)),mv 34 42] []))))))) (.seq (.region [oo 8 (.mov kT)] []) .ret))))
theorem l4:(Tryz.f4.body.bind (bk Tryz.prog 43 []))=some c4:=by kernel_rfl
def c20:aQ:=(.seq (.region [oo 2 (.box 9 (tm 0)),oo 3 (.box 9 (tm 1)),⟨some 4,.alloc [Z0,Z0,S0,Z0,Z0,.nil,S0,Z0,.nil],none,[]⟩] []) (.seq (.region [lA 5 9 2,lA 6 9 3,⟨some 7,.buildS 28 9 2 [Z0,Z0,S0,Z0,Z0,.nil,S0,Z0,.nil] [(0,(tm 5)),(1,(tm 6))],none,[]⟩,⟨some 8,.build [Z0,Z0,S0,Z0,Z0,.nil,S0,Z0,.nil] [(0,1,(Kc 3)),(8,1,(tm 7))],none,[]⟩,o0 (.store 9 (tm 4) (tm 8))] []) .ret))
theorem l20:(Tryz.f20.body.bind (bk Tryz.prog 9 []))=some c20:=by kernel_rfl
def c23:aQ:=(.seq (.region [oo 2 (.box 9 (tm 0)),oo 3 (.box 9 (tm 1)),⟨some 4,.alloc [Z0,Z0,S0,Z0,Z0,.nil,S0,Z0,.nil],none,[]⟩] []) (.seq (.region [lA 5 9 2,lA 6 9 3,⟨some 7,.buildS 28 9 2 [Z0,Z0,S0,Z0,Z0,.nil,S0,Z0,.nil] [(0,(tm 5)),(1,(tm 6))],none,[]⟩,⟨some 8,.build [Z0,Z0,S0,Z0,Z0,.nil,S0,Z0,.nil] [(0,1,(Kc 4)),(8,1,(tm 7))],none,[]⟩,o0 (.store 9 (tm 4) (tm 8))] []) .ret))
theorem l23:(Tryz.f23.body.bind (bk Tryz.prog 9 []))=some c23:=by kernel_rfl
def c22:aQ:=(.seq (.region [oo 1 (.box 5 (tm 0)),⟨some 2,.alloc [Z0,Z0,S0,Z0,Z0,.nil,S0,Z0,.nil],none,[]⟩] []) (.seq (.region [lA 3 5 1,⟨some 4,.build [Z0,Z0,S0,Z0,Z0,.nil,S0,Z0,.nil] [(0,1,(Kc 1)),(1,5,(tm 3))],none,[]⟩,o0 (.store 9 (tm 2) (tm 4))] []) .ret))
theorem l22:(Tryz.f22.body.bind (bk Tryz.prog 5 []))=some c22:=by kernel_rfl
def c17:aQ:=(.seq (.region [oo 4 (.box 5 (tm 1)),oo 5 (.box 5 (tm 2)),⟨some 6,.alloc [Z0,S0,Z0,Z0,.nil],none,[]⟩] []) (.seq (.region [mv 7 0,lA 8 5 4,lA 9 5 5,⟨some 10,.buildS 25 5 2 [Z0,S0,Z0,Z0,.nil] [(0,(tm 8)),(1,(tm 9))],none,[]⟩,⟨some 11,.build [Z0,S0,Z0,Z0,.nil] [(0,1,(tm 7)),(4,1,(tm 10))],none,[]⟩,o0 (.store 5 (tm 6) (tm 11))] []) .ret))
theorem l17:(Tryz.f17.body.bind (bk Tryz.prog 12 []))=some c17:=by kernel_rfl
def c24:aQ:=(.seq (.region [oo 1 (.box 9 (tm 0)),⟨some 2,.alloc [Z0,Z0,S0,Z0,Z0,.nil,S0,Z0,.nil],none,[]⟩] []) (.seq (.region [lA 3 9 1,⟨some 4,.buildS 28 9 1 [Z0,Z0,S0,Z0,Z0,.nil,S0,Z0,.nil] [(0,(tm 3))],none,[]⟩,⟨some 5,.build [Z0,Z0,S0,Z0,Z0,.nil,S0,Z0,.nil] [(0,1,(Kc 5)),(8,1,(tm 4))],none,[]⟩,o0 (.store 9 (tm 2) (tm 5))] []) .ret))
theorem l24:(Tryz.f24.body.bind (bk Tryz.prog 6 []))=some c24:=by kernel_rfl
def c8:aQ:=(.seq (.region [oo 5 (.box 9 (tm 1)),oo 6 (.box 10 (tm 2)),oo 8 (.mov (.const .nil)),oo 9 (.mov (Kc 0))] []) (.seq (.region [mv 10 0,mv 11 3,oo 12 (.call 32 [(tm 10),(tm 11)]),oo 13 (.nilck (tm 12)),fa 14 1 13,ld 15 14,lA 16 9 5,lA 17 10 6,oo 18 (.bU (tm 15) [(tm 16),(tm 17)]),oo 19 (.ext (tm 18) 0),oo 20 (.ext (tm 18) 1),oo 21 (.call 31 [(tm 19),(tm 20)]),oo 22 (.ext (tm 21) 0),oo 23 (.ext (tm 21) 1),mv 8 22,mv 9 23] []) .ret))
theorem l8:(Tryz.f8.body.bind (bk Tryz.prog 24 []))=some c8:=by kernel_rfl
def c21:aQ:=(.seq (.region [⟨some 4,.alloc [Z0,Z0,S0,Z0,Z0,.nil,S0,Z0,.nil],none,[]⟩] []) (.seq (.region [mv 5 0,mv 6 1,⟨some 7,.build [Z0,Z0,S0,Z0,Z0,.nil,S0,Z0,.nil] [(0,1,(Kc 2)),(6,1,(tm 5)),(7,1,(tm 6))],none,[]⟩,o0 (.store 9 (tm 4) (tm 7))] []) .ret))
theorem l21:(Tryz.f21.body.bind (bk Tryz.prog 8 []))=some c21:=by kernel_rfl
def c18:aQ:=(.seq (.region [⟨some 4,.alloc [Z0,S0,Z0,Z0,.nil],none,[]⟩] []) (.seq (.region [mv 5 0,mv 6 1,⟨some 7,.build [Z0,S0,Z0,Z0,.nil] [(0,1,(Kc 3)),(1,1,(tm 5)),(2,1,(tm 6))],none,[]⟩,o0 (.store 5 (tm 4) (tm 7))] []) .ret))
theorem l18:(Tryz.f18.body.bind (bk Tryz.prog 8 []))=some c18:=by kernel_rfl
def c25:aQ:=(.seq (.region [oo 5 (.box 9 (tm 1)),oo 6 (.box 10 (tm 2)),oo 8 (.mov (Kc 0)),oo 9 (.mov (Kc 0))] []) (.seq (.region [mv 14 0,mv 15 3,oo 16 (.call 32 [(tm 14),(tm 15)]),lA 17 9 5,lA 18 10 6,oo 19 (.call 42 [(tm 16),(tm 17),(tm 18)]),mv 13 19,oo 20 (.ext (tm 13) 0),oo 21 (.ext (tm 13) 1),oo 22 (.ext (tm 13) 2),mv 10 20,mv 11 21,mv 12 22] []) (.seq (.seq (.region [mv 23 12,oo 24 (.not (tm 23))] []) (.cond (tm 24) (.seq (.region [oo 8 (.mov (Kc 0)),oo 9 (.mov (Kc 2))] []) .ret) .skip)) (.seq (.region [mv 25 11,mv 8 25,oo 9 (.mov (Kc 0))] []) .ret))))
theorem l25:(Tryz.f25.body.bind (bk Tryz.prog 26 []))=some c25:=by kernel_rfl
def c19:aQ:=(.seq (.region [oo 5 (.box 5 (tm 1)),oo 6 (.box 10 (tm 2)),oo 8 (.mov kF)] []) (.seq (.region [mv 9 0,mv 10 3,oo 11 (.call 32 [(tm 9),(tm 10)]),oo 12 (.nilck (tm 11)),fa 13 0 12,ld 14 13,lA 15 5 5,lA 16 10 6,oo 17 (.bU (tm 14) [(tm 15),(tm 16)]),mv 8 17] []) .ret))
theorem l19:(Tryz.f19.body.bind (bk Tryz.prog 18 []))=some c19:=by kernel_rfl
def c41:aQ:=(.seq (.region [oo 1 (.box 9 (tm 0)),oo 2 (.mov kF)] []) (.seq (.region [lA 5 9 1,oo 6 (.call 40 [tm 5]),mv 3 6] []) (.seq (.region [lA 7 9 1,oo 8 (.call 72 [tm 7]),mv 4 8] []) (.seq (.region [mv 9 3,oo 10 (.bin .eql (tm 9) (Kc 0)),mv 11 10,mF 12 3 11,oF 13 11 (.bin .eql (tm 12) (Kc 1)),mF 14 13 11,mT 15 4 14,oT 16 14 (.bin .leq (tm 15) (Kc 8)),oF 17 11 (.pick (tm 14) (tm 16) kF),oo 18 (.pick (tm 11) kT (tm 17)),mv 19 18,mF 20 3 19,oF 21 19 (.bin .eql (tm 20) (Kc 2)),mF 22 21 19,mT 23 4 22,oT 24 22 (.bin .leq (tm 23) (Kc 4)),oF 25 19 (.pick (tm 22) (tm 24) kF),oo 26 (.pick (tm 19) kT (tm 25)),mv 27 26,mF 28 3 27,oF 29 27 (.bin .eql (tm 28) (Kc 3)),mF 30 29 27,mT 31 4 30,oT 32 30 (.bin .leq (tm 31) (Kc 3)),oF 33 27 (.pick (tm 30) (tm 32) kF),oo 34 (.pick (tm 27) kT (tm 33)),mv 35 34,mF 36 3 35,oF 37 35 (.bin .eql (tm 36) (Kc 4)),mF 38 37 35,mT 39 4 38,oT 40 38 (.bin .leq (tm 39) (Kc 2)),oF 41 35 (.pick (tm 38) (tm 40) kF),oo 42 (.pick (tm 35) kT (tm 41)),mv 2 42] []) .ret))))
theorem l41:(Tryz.f41.body.bind (bk Tryz.prog 43 []))=some c41:=by kernel_rfl
def c38:aQ:=(.seq (.region [oo 3 (.box 9 (tm 1)),oo 4 (.mov (Kc 0))] []) (.seq (.region [lA 10 9 3,oo 11 (.call 67 [tm 10]),mv 5 11] []) (.seq (.seq (.region [mv 12 5,oo 13 (.bin .neq (tm 12) (Kc 0))] []) (.cond (tm 13) (.seq (.region [mv 14 5,mv 4 14] []) .ret) .skip)) (.seq (.region [lA 15 9 3,oo 16 (.call 68 [tm 15]),mv 6 16] []) (.seq (.seq (.region [oo 7 (.mov (Kc 0))] []) (.block 0 (.loop (.seq (.seq (.region [mv 17 7,mv 18 6,ln 19 18,oo 20 (.bin .lss (tm 17) (tm 19))] []) (.cond (tm 20) .skip (.exit 0))) (.seq (.block 1 (.seq (.seq (.region [mv 23 6,mv 24 7,ix 25 9 23 24,fa 26 0 25,ld 27 26,oo 28 (.bin .eql (tm 27) (Kc 1))] []) (.cond (tm 28) (.region [mv 29 0,mv 30 6,mv 31 7,ix 32 9 30 31,fa 33 1 32,lA 34 5 33,oo 35 (.call 69 [(tm 29),(tm 34)]),mv 5 35] []) .skip)) (.seq (.seq (.region [mv 36 6,mv 37 7,ix 38 9 36 37,fa 39 0 38,ld 40 39,oo 41 (.bin .eql (tm 40) (Kc 2))] []) (.cond (tm 41) (.seq (.region [mv 43 0,mv 44 6,mv 45 7,ix 46 9 44 45,fa 47 6 46,ld 48 47,oo 49 (.call 70 [(tm 43),(tm 48)]),mv 42 49,oo 50 (.ext (tm 42) 0),oo 51 (.ext (tm 42) 1),⟨some 8,.alloc [S0,Z0,Z0],none,[]⟩,o0 (.store 3 (tm 8) (tm 50)),mv 9 51] []) (.seq (.region [mv 52 9,oo 53 (.not (tm 52))] []) (.cond (tm 53) (.region [oo 5 (.mov (Kc 4))] []) (.seq (.region [mv 54 6,mv 55 7,ix 56 9 54 55,fa 57 7 56,ld 58 57,lA 59 3 8,oo 60 (.call 71 [tm 59]),oo 61 (.bin .gtr (tm 58) (tm 60))] []) (.cond (tm 61) (.region [oo 5 (.mov (Kc 1))] []) .skip))))) .skip)) (.seq (.region [mv 62 5,oo 63 (.bin .neq (tm 62) (Kc 0))] []) (.cond (tm 63) (.seq (.region [mv 64 5,mv 4 64] []) .ret) .skip))))) (.region [mv 21 7,oo 22 (.bin .add (tm 21) (Kc 1)),mv 7 22] [])))))) (.seq (.region [oo 4 (.mov (Kc 0))] []) .ret))))))
theorem l38:(Tryz.f38.body.bind (bk Tryz.prog 65 []))=some c38:=by kernel_rfl
def c66:aQ:=(.seq (.region [oo 2 (.box 10 (tm 0)),oo 3 (.box 10 (tm 1)),oo 4 (.mov (Kc 0))] []) (.seq (.seq (.region [oo 5 (.mov (Kc 0))] []) (.block 0 (.loop (.seq (.seq (.region [mv 6 5,oo 7 (.bin .lss (tm 6) (Kc 10))] []) (.cond (tm 7) .skip (.exit 0))) (.seq (.block 1 (.seq (.seq (.region [mv 10 5,oo 11 (.idxA 10 1 (tm 2) (tm 10)),ld 12 11,mv 13 5,oo 14 (.idxA 10 1 (tm 3) (tm 13)),ld 15 14,oo 16 (.bin .lss (tm 12) (tm 15))] []) (.cond (tm 16) (.seq (.region [oo 4 (.mov (.const (.int .i64 (-1))))] []) .ret) .skip)) (.seq (.region [mv 17 5,oo 18 (.idxA 10 1 (tm 2) (tm 17)),ld 19 18,mv 20 5,oo 21 (.idxA 10 1 (tm 3) (tm 20)),ld 22 21,oo 23 (.bin .gtr (tm 19) (tm 22))] []) (.cond (tm 23) (.seq (.region [oo 4 (.mov (Kc 1))] []) .ret) .skip)))) (.region [mv 8 5,oo 9 (.bin .add (tm 8) (Kc 1)),mv 5 9] [])))))) (.seq (.region [oo 4 (.mov (Kc 0))] []) .ret)))
theorem l66:(Tryz.f66.body.bind (bk Tryz.prog 24 []))=some c66:=by kernel_rfl
def c16:aQ:=(.seq (.region [oo 0 (.mov (.const .nil))] []) (.seq (.region [⟨some 1,.build [S0,Z0,Z0] [(0,1,(.const (.str ⟨#[100,115,116]⟩))),(1,1,(Kc 16)),(2,1,(Kc 8))],none,[]⟩,⟨some 2,.build [S0,Z0,Z0] [(0,1,(.const (.str ⟨#[115,114,99]⟩))),(1,1,(Kc 24)),(2,1,(Kc 8))],none,[]⟩,⟨some 3,.build [S0,Z0,Z0] [(0,1,(.const (.str ⟨#[107,105,110,100]⟩))),(1,1,(Kc 33)),(2,1,(Kc 3))],none,[]⟩,⟨some 4,.buildS 78 3 3 [S0,Z0,Z0] [(0,(tm 1)),(1,(tm 2)),(2,(tm 3))],none,[]⟩,mv 0 4] []) .ret))
theorem l16:(Tryz.f16.body.bind (bk Tryz.prog 5 []))=some c16:=by kernel_rfl
def c84:aQ:=(.seq (.region [oo 2 (.box 1 (tm 0)),oo 3 (.box 1 (tm 1)),oo 4 (.mov (.const .nilfn))] []) (.seq (.region [oo 5 (.mkfn 105 [(tm 2),(tm 3)]),mv 4 5] []) .ret))
theorem l84:(Tryz.f84.body.bind (bk Tryz.prog 6 []))=some c84:=by kernel_rfl
def c34:aQ:=(.seq (.region [oo 3 (.box 10 (tm 1)),oo 4 (.mov (.const .nil))] []) (.seq (.region [oo 5 (.mov (Kc 0))] []) (.seq (.block 0 (.loop (.seq (.seq (.region [mv 7 5,mv 8 0,ln 9 8,oo 10 (.bin .lss (tm 7) (tm 9)),mv 11 10,mT 12 0 11,mT 13 5 11,oT 14 11 (.idxL 10 (tm 12) (tm 13)),oT 15 11 (.load 10 true (tm 14)),oT 16 11 (.load 10 true (tm 3)),oT 17 11 (.call 66 [(tm 15),(tm 16)]),oT 18 11 (.bin .lss (tm 17) (Kc 0)),oo 19 (.pick (tm 11) (tm 18) kF)] []) (.cond (tm 19) .skip (.exit 0))) (.block 1 (.region [mv 20 5,oo 21 (.bin .add (tm 20) (Kc 1)),mv 5 21] []))))) (.seq (.cut (.seq (.region [mv 22 5,mv 23 0,ln 24 23,oo 25 (.bin .lss (tm 22) (tm 24)),mv 26 25,mT 27 0 26,mT 28 5 26,oT 29 26 (.idxL 10 (tm 27) (tm 28)),oT 30 26 (.load 10 true (tm 29)),oT 31 26 (.load 10 true (tm 3)),oT 32 26 (.eqv false [.int .i64,.int .i64,.int .i64,.int .i64,.int .i64,.int .i64,.int .i64,.int .i64,.int .i64,.int .i64] (tm 30) (tm 31)),oo 33 (.pick (tm 26) (tm 32) kF)] []) (.cond (tm 33) (.seq (.region [mv 34 0,mv 4 34] []) .ret) .skip))) (.seq (.region [oo 6 (.mov (.const .nil))] []) (.seq (.region [mv 35 6,mv 36 0,mv 37 5,oo 38 (.slice 10 (tm 36) none (some (tm 37))),oo 39 (.append 35 30 10 80 (tm 35) (tm 38)),mv 6 39] []) (.seq (.region [mv 40 6,lA 41 10 3,oo 42 (.buildS 30 10 1 [Z0,Z0,Z0,Z0,Z0,Z0,Z0,Z0,Z0,Z0] [(0,(tm 41))]),oo 43 (.append 35 30 10 80 (tm 40) (tm 42)),mv 6 43] []) (.seq (.region [mv 44 6,mv 45 0,mv 46 5,oo 47 (.slice 10 (tm 45) (some (tm 46)) none),oo 48 (.append 35 30 10 80 (tm 44) (tm 47)),mv 4 48] []) .ret))))))))
theorem l34:(Tryz.f34.body.bind (bk Tryz.prog 49 [5000004]))=some c34:=by kernel_rfl
def c43:aQ:=(.seq (.region [oo 4 (.box 10 (tm 1)),oo 6 (.mov (Kc 0)),oo 7 (.mov kF)] []) (.seq (.region [mv 12 0,ln 13 12,mv 8 13] []) (.seq (.region [mv 14 8,oo 9 (.mov (Kc 0)),mv 10 14] []) (.seq (.block 0 (.loop (.seq (.seq (.region [mv 15 9,mv 16 10,oo 17 (.bin .lss (tm 15) (tm 16))] []) (.cond (tm 17) .skip (.exit 0))) (.block 1 (.seq (.region [mv 18 9,mv 19 10,oo 20 (.bin .add (tm 18) (tm 19)),oo 21 (.conv .u64 (tm 20)),oo 22 (.bin .shr (tm 21) (.const (.int .u64 1))),oo 23 (.conv .i64 (tm 22)),mv 11 23] []) (.seq (.region [mv 24 2,mv 25 0,mv 26 11,ix 27 10 25 26,lA 28 10 27,lA 29 10 4,oo 30 (.bU (tm 24) [(tm 28),(tm 29)]),oo 31 (.bin .lss (tm 30) (Kc 0))] []) (.cond (tm 31) (.region [mv 32 11,oo 33 (.bin .add (tm 32) (Kc 1)),mv 9 33] []) (.region [mv 34 11,mv 10 34] [])))))))) (.seq (.region [mv 35 9,mv 36 9,mv 37 8,oo 38 (.bin .lss (tm 36) (tm 37)),mv 39 38,mT 40 2 39,mT 41 0 39,mT 42 9 39,oT 43 39 (.idxL 10 (tm 41) (tm 42)),oT 44 39 (.load 10 true (tm 43)),oT 45 39 (.load 10 true (tm 4)),oT 46 39 (.bU (tm 40) [(tm 44),(tm 45)]),oT 47 39 (.bin .eql (tm 46) (Kc 0)),oo 48 (.pick (tm 39) (tm 47) kF),mv 6 35,mv 7 48] []) .ret)))))
theorem l43:(Tryz.f43.body.bind (bk Tryz.prog 49 []))=some c43:=by kernel_rfl
def c44:aQ:=(.seq (.region [oo 2 (.box 10 (tm 0)),oo 3 (.box 10 (tm 1)),oo 4 (.mov (Kc 0))] []) (.seq (.region [oo 5 (.sliceA 10 1 (tm 2) none none),oo 6 (.sliceA 10 1 (tm 3) none none),oo 7 (.call 75 [(tm 5),(tm 6)]),mv 4 7] []) .ret))
theorem l44:(Tryz.f44.body.bind (bk Tryz.prog 8 []))=some c44:=by kernel_rfl
def c13:aQ:=(.seq (.region [oo 2 (.mov (Kc 0))] []) (.seq (.seq (.region [mv 9 0,ln 10 9,oo 11 (.bin .gtr (tm 10) (Kc 16))] []) (.cond (tm 11) (.seq (.region [oo 2 (.mov (Kc 2))] []) .ret) .skip)) (.seq (.seq (.region [oo 3 (.mov (Kc 0))] []) (.block 0 (.loop (.seq (.seq (.region [mv 12 3,mv 13 0,ln 14 13,oo 15 (.bin .lss (tm 12) (tm 14))] []) (.cond (tm 15) .skip (.exit 0))) (.seq (.block 1 (.seq (.region [mv 18 0,mv 19 3,ix 20 3 18 19,fa 21 0 20,ld 22 21,oo 23 (.call 35 [tm 22]),mv 4 23] []) (.seq (.seq (.region [mv 24 4,oo 25 (.not (tm 24)),mv 26 25,mF 27 0 26,mF 28 3 26,oF 29 26 (.idxL 3 (tm 27) (tm 28)),oF 30 26 (.offA 0 (tm 29)),oF 31 26 (.load 1 false (tm 30)),⟨some 32,.bin .eql (tm 31) (.const (.str ⟨#[112,111,114,116]⟩)),some (26,false),[]⟩,oo 33 (.pick (tm 26) kT (tm 32))] []) (.cond (tm 33) (.seq (.region [oo 2 (.mov (Kc 4))] []) .ret) .skip)) (.seq (.seq (.region [oo 5 (.mov (Kc 0))] []) (.block 2 (.loop (.seq (.seq (.region [mv 34 5,mv 35 3,oo 36 (.bin .lss (tm 34) (tm 35))] []) (.cond (tm 36) .skip (.exit 2))) (.seq (.block 3 (.seq (.region [mv 39 0,mv 40 5,ix 41 3 39 40,fa 42 0 41,ld 43 42,mv 44 0,mv 45 3,ix 46 3 44 45,fa 47 0 46,ld 48 47,oo 49 (.bin .eql (tm 43) (tm 48))] []) (.cond (tm 49) (.seq (.region [oo 2 (.mov (Kc 4))] []) .ret) .skip))) (.region [mv 37 5,oo 38 (.bin .add (tm 37) (Kc 1)),mv 5 38] [])))))) (.seq (.region [mv 50 0,mv 51 3,ix 52 3 50 51,lA 53 3 52,oo 54 (.call 36 [tm 53]),mv 6 54] []) (.seq (.seq (.region [mv 55 6,oo 56 (.not (tm 55))] []) (.cond (tm 56) (.seq (.region [oo 2 (.mov (Kc 1))] []) .ret) .skip)) (.seq (.region [oo 7 (.mov (Kc 0))] []) (.block 4 (.loop (.seq (.seq (.region [mv 57 7,mv 58 3,oo 59 (.bin .lss (tm 57) (tm 58))] []) (.cond (tm 59) .skip (.exit 4))) (.seq (.block 5 (.seq (.region [mv 62 0,mv 63 7,ix 64 3 62 63,lA 65 3 64,mv 66 0,mv 67 3,ix 68 3 66 67,lA 69 3 68,oo 70 (.call 37 [(tm 65),(tm 69)]),mv 8 70] []) (.seq (.region [mv 71 8] []) (.cond (tm 71) (.seq (.region [oo 2 (.mov (Kc 1))] []) .ret) .skip)))) (.region [mv 60 7,oo 61 (.bin .add (tm 60) (Kc 1)),mv 7 61] [])))))))))))) (.region [mv 16 3,oo 17 (.bin .add (tm 16) (Kc 1)),mv 3 17] [])))))) (.seq (.region [oo 2 (.mov (Kc 0))] []) .ret))))
theorem l13:(Tryz.f13.body.bind (bk Tryz.prog 72 []))=some c13:=by kernel_rfl
def c15:aQ:=(.seq (.region [oo 3 (.box 9 (tm 1)),oo 4 (.mov kF)] []) (.seq (.region [mv 6 0,lA 7 9 3,oo 8 (.call 38 [(tm 6),(tm 7)]),mv 5 8] []) (.seq (.region [mv 9 5,oo 10 (.bin .eql (tm 9) (Kc 0)),mv 11 10,oT 12 11 (.load 9 true (tm 3)),oT 13 11 (.call 39 [tm 12]),oT 14 11 (.bin .leq (tm 13) (Kc 40)),oo 15 (.pick (tm 11) (tm 14) kF),mv 16 15,oT 17 16 (.load 9 true (tm 3)),oT 18 16 (.call 40 [tm 17]),oT 19 16 (.bin .leq (tm 18) (Kc 2)),oo 20 (.pick (tm 16) (tm 19) kF),mv 21 20,oT 22 21 (.load 9 true (tm 3)),oT 23 21 (.call 41 [tm 22]),oo 24 (.pick (tm 21) (tm 23) kF),mv 4 24] []) .ret)))
theorem l15:(Tryz.f15.body.bind (bk Tryz.prog 25 []))=some c15:=by kernel_rfl
def c31:aQ:=(.seq (.region [oo 4 (.mov (.const .nil)),oo 5 (.mov (Kc 0))] []) (.seq (.seq (.region [mv 6 1,oo 7 (.not (tm 6))] []) (.cond (tm 7) (.seq (.region [oo 4 (.mov (.const .nil)),oo 5 (.mov (Kc 2))] []) .ret) .skip)) (.seq (.region [mv 8 0,mv 4 8,oo 5 (.mov (Kc 0))] []) .ret)))
theorem l31:(Tryz.f31.body.bind (bk Tryz.prog 9 []))=some c31:=by kernel_rfl
def c32:aQ:=(.seq (.region [oo 2 (.box 1 (tm 0)),oo 3 (.box 1 (tm 1)),oo 4 (.mov (.const .nilptr))] []) (.seq (.region [oo 6 (.build [.nilfn,.nilfn] []),oo 7 (.box 2 (tm 6)),oo 5 (.alloc [.nilptr]),o0 (.store 1 (tm 5) (tm 7))] []) (.seq (.region [ld 8 5,oo 9 (.mkfn 52 [(tm 3),(tm 5),(tm 2)]),oo 10 (.nilck (tm 8)),fa 11 0 10,o0 (.store 1 (tm 11) (tm 9))] []) (.seq (.region [ld 12 5,oo 13 (.mkfn 57 [(tm 5),(tm 2)]),oo 14 (.nilck (tm 12)),fa 15 1 14,o0 (.store 1 (tm 15) (tm 13))] []) (.seq (.region [ld 16 5,mv 4 16] []) .ret)))))
theorem l32:(Tryz.f32.body.bind (bk Tryz.prog 17 []))=some c32:=by kernel_rfl
def c70:aQ:=(.seq (.region [⟨some 4,.alloc [S0,Z0,Z0],none,[]⟩,oo 5 (.mov kF)] []) (.seq (.seq (.region [mv 7 1,⟨some 8,.bin .eql (tm 7) (.const (.str ⟨#[112,111,114,116]⟩)),none,[]⟩] []) (.cond (tm 8) (.seq (.region [oo 9 (.call 90 []),o0 (.store 3 (tm 4) (tm 9)),oo 5 (.mov kT)] []) .ret) .skip)) (.seq (.seq (.region [oo 6 (.mov (Kc 0))] []) (.block 0 (.loop (.seq (.seq (.region [mv 10 6,mv 11 0,ln 12 11,oo 13 (.bin .lss (tm 10) (tm 12))] []) (.cond (tm 13) .skip (.exit 0))) (.seq (.block 1 (.seq (.region [mv 16 0,mv 17 6,ix 18 3 16 17,fa 19 0 18,ld 20 19,mv 21 1,oo 22 (.bin .eql (tm 20) (tm 21))] []) (.cond (tm 22) (.seq (.region [mv 23 0,mv 24 6,ix 25 3 23 24,lA 26 3 25,o0 (.store 3 (tm 4) (tm 26)),oo 5 (.mov kT)] []) .ret) .skip))) (.region [mv 14 6,oo 15 (.bin .add (tm 14) (Kc 1)),mv 6 15] [])))))) (.seq (.region [⟨some 27,.build [S0,Z0,Z0] [],none,[]⟩,o0 (.store 3 (tm 4) (tm 27)),oo 5 (.mov kF)] []) .ret))))
theorem l70:(Tryz.f70.body.bind (bk Tryz.prog 28 []))=some c70:=by kernel_rfl
def c62:aQ:=(.seq (.region [oo 4 (.box 9 (tm 1)),oo 6 (.mov (.const .nil)),oo 7 (.mov kF)] []) (.seq (.region [oo 8 (.mov (.const .nil))] []) (.seq (.region [oo 9 (.mov kT)] []) (.seq (.seq (.region [mv 14 2,ln 15 14,oo 16 (.mov (Kc 0))] []) (.block 0 (.loop (.seq (.region [oo 17 (.bin .lss (tm 16) (tm 15))] []) (.seq (.cond (tm 17) .skip (.exit 0)) (.seq (.block 1 (.seq (.region [ix 18 10 14 16,lA 19 10 18,oo 11 (.alloc [Z0,Z0,Z0,Z0,Z0,Z0,Z0,Z0,Z0,Z0]),o0 (.store 10 (tm 11) (tm 19))] []) (.seq (.region [mv 21 0,oo 22 (.nilck (tm 21)),fa 23 1 22,ld 24 23,lA 25 9 4,lA 26 10 11,oo 27 (.bU (tm 24) [(tm 25),(tm 26)]),mv 20 27,oo 28 (.ext (tm 20) 0),oo 29 (.ext (tm 20) 1),mv 12 28,mv 13 29] []) (.seq (.region [mv 31 8,mv 32 12,oo 33 (.inl 61 [(tm 31),(tm 32)]),mv 34 13,oo 35 (.inl 60 [(tm 33),(tm 34)]),mv 30 35,oo 36 (.ext (tm 30) 0),oo 37 (.ext (tm 30) 1),mv 8 36,mv 9 37] []) (.seq (.region [mv 38 9,oo 39 (.not (tm 38))] []) (.cond (tm 39) (.exit 0) .skip)))))) (.region [oo 40 (.bin .add (tm 16) (Kc 1)),mv 16 40] []))))))) (.seq (.region [mv 41 8,mv 42 9,mv 6 41,mv 7 42] []) .ret)))))
theorem l62:(Tryz.f62.body.bind (bk Tryz.prog 43 [61,60]))=some c62:=by kernel_rfl
def c42:aQ:=(.seq (.region [oo 4 (.box 9 (tm 1)),oo 5 (.box 10 (tm 2)),oo 6 (.mov (.const .nil)),oo 7 (.mov (Kc 0)),oo 8 (.mov kF)] []) (.seq (.region [lA 14 10 5,oo 15 (.buildS 30 10 1 [Z0,Z0,Z0,Z0,Z0,Z0,Z0,Z0,Z0,Z0] [(0,(tm 14))]),oo 9 (.alloc [.nil]),o0 (.store 1 (tm 9) (tm 15))] []) (.seq (.region [ld 16 9,oo 10 (.mov (Kc 0)),mv 11 16] []) (.block 0 (.loop (.seq (.block 1 (.seq (.cut (.region [mv 20 0,lA 21 9 4,mv 22 11,oo 23 (.inl 62 [(tm 20),(tm 21),(tm 22)]),mv 19 23,oo 24 (.ext (tm 19) 0),oo 25 (.ext (tm 19) 1),mv 12 24,mv 13 25] [])) (.seq (.cut (.region [mv 26 12,oo 27 (.mkfn 74 [tm 9]),oo 28 (.inl 73 [(tm 26),(tm 27)]),mv 11 28] [])) (.seq (.seq (.region [ld 30 9,mv 31 11,oo 32 (.call 61 [(tm 30),(tm 31)]),mv 33 13,oo 34 (.call 60 [(tm 32),(tm 33)]),mv 29 34,oo 35 (.ext (tm 29) 0),oo 36 (.ext (tm 29) 1),o0 (.store 1 (tm 9) (tm 35)),mv 13 36] []) (.seq (.region [mv 37 13,oo 38 (.not (tm 37))] []) (.cond (tm 38) (.seq (.region [oo 6 (.mov (.const .nil)),oo 7 (.mov (Kc 0)),oo 8 (.mov kF)] []) .ret) .skip))) (.seq (.region [mv 39 11,ln 40 39,oo 41 (.bin .eql (tm 40) (Kc 0))] []) (.cond (tm 41) (.seq (.region [ld 42 9,mv 43 10,mv 6 42,mv 7 43,oo 8 (.mov kT)] []) .ret) .skip)))))) (.region [mv 17 10,oo 18 (.bin .add (tm 17) (Kc 1)),mv 10 18] [])))))))
theorem l42:(Tryz.f42.body.bind (bk Tryz.prog 44 [62,73,6000004,6000005]))=some c42:=by kernel_rfl
def c40:aQ:=(.seq (.region [oo 1 (.box 9 (tm 0)),oo 2 (.mov (Kc 0))] []) (.seq (.region [oo 3 (.mov (Kc 0))] []) (.seq (.seq (.region [oo 4 (.mov (Kc 0))] []) (.block 0 (.loop (.seq (.seq (.region [mv 5 4,fa 6 8 1,ld 7 6,ln 8 7,oo 9 (.bin .lss (tm 5) (tm 8))] []) (.cond (tm 9) .skip (.exit 0))) (.seq (.block 1 (.region [mv 12 3,fa 13 8 1,ld 14 13,mv 15 4,ix 16 9 14 15,lA 17 9 16,oo 18 (.call 40 [tm 17]),oo 19 (.maxI (tm 12) (tm 18)),mv 3 19] [])) (.region [mv 10 4,oo 11 (.bin .add (tm 10) (Kc 1)),mv 4 11] [])))))) (.seq (.seq (.region [fa 20 0 1,ld 21 20,oo 22 (.bin .eql (tm 21) (Kc 5))] []) (.cond (tm 22) (.region [mv 23 3,oo 24 (.bin .add (tm 23) (Kc 1)),mv 3 24] []) .skip)) (.seq (.region [mv 25 3,mv 2 25] []) .ret)))))
theorem l40:(Tryz.f40.body.bind (bk Tryz.prog 26 []))=some c40:=by kernel_rfl
def c72:aQ:=(.seq (.region [oo 1 (.box 9 (tm 0)),oo 2 (.mov (Kc 0))] []) (.seq (.region [oo 3 (.mov (Kc 0))] []) (.seq (.seq (.region [oo 4 (.mov (Kc 0))] []) (.block 0 (.loop (.seq (.seq (.region [mv 5 4,fa 6 8 1,ld 7 6,ln 8 7,oo 9 (.bin .lss (tm 5) (tm 8))] []) (.cond (tm 9) .skip (.exit 0))) (.seq (.block 1 (.region [mv 12 3,fa 13 8 1,ld 14 13,mv 15 4,ix 16 9 14 15,lA 17 9 16,oo 18 (.call 72 [tm 17]),oo 19 (.bin .add (tm 12) (tm 18)),mv 3 19] [])) (.region [mv 10 4,oo 11 (.bin .add (tm 10) (Kc 1)),mv 4 11] [])))))) (.seq (.seq (.region [fa 20 0 1,ld 21 20,oo 22 (.bin .eql (tm 21) (Kc 2))] []) (.cond (tm 22) (.region [mv 23 3,oo 24 (.bin .add (tm 23) (Kc 1)),mv 3 24] []) .skip)) (.seq (.region [mv 25 3,mv 2 25] []) .ret)))))
theorem l72:(Tryz.f72.body.bind (bk Tryz.prog 26 []))=some c72:=by kernel_rfl
def c67:aQ:=(.seq (.region [oo 1 (.box 9 (tm 0)),oo 2 (.mov (Kc 0))] []) (.seq (.region [lA 3 9 1,oo 4 (.call 86 [tm 3]),lA 5 9 1,oo 6 (.call 87 [tm 5]),oo 7 (.call 85 [(tm 4),(tm 6)]),mv 2 7] []) .ret))
theorem l67:(Tryz.f67.body.bind (bk Tryz.prog 8 []))=some c67:=by kernel_rfl
def c68:aQ:=(.seq (.region [oo 1 (.box 9 (tm 0)),oo 2 (.mov (.const .nil))] []) (.seq (.region [lA 5 9 1,⟨some 6,.buildS 28 9 1 [Z0,Z0,S0,Z0,Z0,.nil,S0,Z0,.nil] [(0,(tm 5))],none,[]⟩,mv 3 6] []) (.seq (.seq (.region [oo 4 (.mov (Kc 0))] []) (.block 0 (.loop (.seq (.seq (.region [mv 7 4,fa 8 8 1,ld 9 8,ln 10 9,oo 11 (.bin .lss (tm 7) (tm 10))] []) (.cond (tm 11) .skip (.exit 0))) (.seq (.block 1 (.region [mv 14 3,fa 15 8 1,ld 16 15,mv 17 4,ix 18 9 16 17,lA 19 9 18,oo 20 (.call 68 [tm 19]),oo 21 (.append 26 28 9 120 (tm 14) (tm 20)),mv 3 21] [])) (.region [mv 12 4,oo 13 (.bin .add (tm 12) (Kc 1)),mv 4 13] [])))))) (.seq (.region [mv 22 3,mv 2 22] []) .ret))))
theorem l68:(Tryz.f68.body.bind (bk Tryz.prog 23 []))=some c68:=by kernel_rfl
def c69:aQ:=(.seq (.region [oo 3 (.box 5 (tm 1)),oo 4 (.mov (Kc 0))] []) (.seq (.region [lA 8 5 3,oo 9 (.call 88 [tm 8]),mv 5 9] []) (.seq (.seq (.region [oo 6 (.mov (Kc 0))] []) (.block 0 (.loop (.seq (.seq (.region [mv 10 6,mv 11 5,ln 12 11,oo 13 (.bin .lss (tm 10) (tm 12))] []) (.cond (tm 13) .skip (.exit 0))) (.seq (.block 1 (.seq (.region [mv 16 0,mv 17 5,mv 18 6,ix 19 5 17 18,lA 20 5 19,oo 21 (.call 89 [(tm 16),(tm 20)]),mv 7 21] []) (.seq (.region [mv 22 7,oo 23 (.bin .neq (tm 22) (Kc 0))] []) (.cond (tm 23) (.seq (.region [mv 24 7,mv 4 24] []) .ret) .skip)))) (.region [mv 14 6,oo 15 (.bin .add (tm 14) (Kc 1)),mv 6 15] [])))))) (.seq (.region [oo 4 (.mov (Kc 0))] []) .ret))))
theorem l69:(Tryz.f69.body.bind (bk Tryz.prog 25 []))=some c69:=by kernel_rfl
def c71:aQ:=(.seq (.region [oo 1 (.box 3 (tm 0)),oo 2 (.mov (Kc 0))] []) (.seq (.region [fa 3 2 1,ld 4 3,oo 5 (.call 91 [tm 4]),oo 6 (.bin .sub (tm 5) (Kc 1)),mv 2 6] []) .ret))
theorem l71:(Tryz.f71.body.bind (bk Tryz.prog 7 []))=some c71:=by kernel_rfl
def CT:aQ:=(.block 0 (.loop (.seq (.cut (.seq (.region [ld 6 1,ln 7 6,oo 8 (.bin .gtr (tm 7) (Kc 0)),mv 9 8,oF 10 9 (.load 1 false (tm 2)),oF 11 9 (.len (tm 10)),oF 12 9 (.bin .gtr (tm 11) (Kc 0)),oo 13 (.pick (tm 9) kT (tm 12))] []) (.cond (tm 13) .skip (.exit 0)))) (.block 1 (.seq (.region [oo 4 (.mov (Kc 0))] []) (.seq (.cut (.block 2 (.seq (.region [ld 22 1,ln 23 22,oo 24 (.bin .eql (tm 23) (Kc 0)),mv 21 24] []) (.cond (tm 21) (.region [oo 4 (.mov (Kc 1))] []) (.seq (.region [ld 26 2,ln 27 26,oo 28 (.bin .eql (tm 27) (Kc 0)),mv 25 28] []) (.cond (tm 25) (.region [oo 4 (.mov (.const (.int .i64 (-1))))] []) (.region [ld 14 1,oo 15 (.idxL 10 (tm 14) (Kc 0)),lA 16 10 15,ld 17 2,oo 18 (.idxL 10 (tm 17) (Kc 0)),lA 19 10 18,oo 20 (.call 44 [(tm 16),(tm 19)]),mv 4 20] []))))))) (.seq (.region [oo 5 (.alloc [Z0,Z0,Z0,Z0,Z0,Z0,Z0,Z0,Z0,Z0])] []) (.seq (.cut (.seq (.region [mv 29 4,oo 30 (.bin .geq (tm 29) (Kc 0))] []) (.cond (tm 30) (.region [ld 31 2,oo 32 (.idxL 10 (tm 31) (Kc 0)),lA 33 10 32,ld 34 2,oo 35 (.slice 10 (tm 34) (some (Kc 1)) none),o0 (.store 10 (tm 5) (tm 33)),o0 (.store 1 (tm 2) (tm 35))] [[],[],[],[],[],[3],[]]) .skip))) (.seq (.cut (.seq (.region [mv 36 4,oo 37 (.bin .leq (tm 36) (Kc 0))] []) (.cond (tm 37) (.region [ld 38 1,oo 39 (.idxL 10 (tm 38) (Kc 0)),lA 40 10 39,ld 41 1,oo 42 (.slice 10 (tm 41) (some (Kc 1)) none),o0 (.store 10 (tm 5) (tm 40)),o0 (.store 1 (tm 1) (tm 42))] [[],[],[],[],[],[3],[]]) .skip))) (.seq (.sem 47 (rg0 12 Tryz.f105.body)) (.cond (tm 46) .ret .skip)))))))))))
theorem FB:(Tryz.f105.body.bind (bk Tryz.prog 47 [1000012,5000000,4000002,5000008,5000010]))=some CT:=by kernel_rfl
def c75:aQ:=(.seq (.region [oo 4 (.mov (Kc 0))] []) (.seq (.seq (.region [mv 9 0,ln 10 9,oo 11 (.mov (Kc 0))] []) (.block 0 (.loop (.seq (.region [oo 12 (.bin .lss (tm 11) (tm 10))] []) (.seq (.cond (tm 12) .skip (.exit 0)) (.seq (.block 1 (.seq (.region [mv 13 11,ix 14 1 9 11,ld 15 14,mv 5 13,mv 6 15] []) (.seq (.seq (.region [mv 16 5,mv 17 1,ln 18 17,oo 19 (.bin .geq (tm 16) (tm 18))] []) (.cond (tm 19) (.seq (.region [oo 4 (.mov (Kc 1))] []) .ret) .skip)) (.seq (.region [mv 20 1,mv 21 5,ix 22 1 20 21,ld 23 22,mv 7 23] []) (.seq (.region [mv 24 6,mv 25 7,oo 26 (.call 93 [(tm 24),(tm 25)]),mv 8 26] []) (.seq (.region [mv 27 8,oo 28 (.bin .neq (tm 27) (Kc 0))] []) (.cond (tm 28) (.seq (.region [mv 29 8,mv 4 29] []) .ret) .skip))))))) (.region [oo 30 (.bin .add (tm 11) (Kc 1)),mv 11 30] []))))))) (.seq (.seq (.region [mv 31 0,ln 32 31,mv 33 1,ln 34 33,oo 35 (.bin .lss (tm 32) (tm 34))] []) (.cond (tm 35) (.seq (.region [oo 4 (.mov (.const (.int .i64 (-1))))] []) .ret) .skip)) (.seq (.region [oo 4 (.mov (Kc 0))] []) .ret))))
theorem l75:(Tryz.f75.body.bind (bk Tryz.prog 36 []))=some c75:=by kernel_rfl
def c35:aQ:=(.seq (.region [oo 2 (.mov kF)] []) (.seq (.seq (.region [oo 3 (.mov (Kc 0))] []) (.block 0 (.loop (.seq (.seq (.region [mv 6 3,mv 7 0,oo 8 (.lenS (tm 7)),oo 9 (.bin .lss (tm 6) (tm 8))] []) (.cond (tm 9) .skip (.exit 0))) (.seq (.block 1 (.seq (.region [mv 12 0,mv 13 3,oo 14 (.idxS (tm 12) (tm 13)),oo 15 (.bin .geq (tm 14) (.const (Ui 97))),mv 16 15,mT 17 0 16,mT 18 3 16,oT 19 16 (.idxS (tm 17) (tm 18)),oT 20 16 (.bin .leq (tm 19) (.const (Ui 122))),oo 21 (.pick (tm 16) (tm 20) kF),mv 4 21] []) (.seq (.region [mv 22 0,mv 23 3,oo 24 (.idxS (tm 22) (tm 23)),oo 25 (.bin .geq (tm 24) (.const (Ui 48))),mv 26 25,mT 27 0 26,mT 28 3 26,oT 29 26 (.idxS (tm 27) (tm 28)),oT 30 26 (.bin .leq (tm 29) (.const (Ui 57))),oo 31 (.pick (tm 26) (tm 30) kF),mv 32 31,mF 33 0 32,mF 34 3 32,oF 35 32 (.idxS (tm 33) (tm 34)),oF 36 32 (.bin .eql (tm 35) (.const (Ui 95))),oo 37 (.pick (tm 32) kT (tm 36)),mv 5 37] []) (.seq (.region [mv 38 4,oo 39 (.not (tm 38)),mv 40 39,mT 41 5 40,oT 42 40 (.not (tm 41)),mT 43 42 40,mF 44 3 43,oF 45 43 (.bin .eql (tm 44) (Kc 0)),oT 46 40 (.pick (tm 43) kT (tm 45)),oo 47 (.pick (tm 40) (tm 46) kF)] []) (.cond (tm 47) (.seq (.region [oo 2 (.mov kF)] []) .ret) .skip))))) (.region [mv 10 3,oo 11 (.bin .add (tm 10) (Kc 1)),mv 3 11] [])))))) (.seq (.region [mv 48 0,oo 49 (.lenS (tm 48)),oo 50 (.bin .geq (tm 49) (Kc 1)),mv 51 50,mT 52 0 51,oT 53 51 (.lenS (tm 52)),oT 54 51 (.bin .leq (tm 53) (Kc 24)),oo 55 (.pick (tm 51) (tm 54) kF),mv 2 55] []) .ret)))
theorem l35:(Tryz.f35.body.bind (bk Tryz.prog 56 []))=some c35:=by kernel_rfl
def c36:aQ:=(.seq (.region [oo 1 (.box 3 (tm 0)),oo 2 (.mov kF)] []) (.seq (.region [fa 3 2 1,ld 4 3,oo 5 (.bin .geq (tm 4) (Kc 1)),mv 6 5,oT 7 6 (.offA 2 (tm 1)),oT 8 6 (.load 1 false (tm 7)),oT 9 6 (.bin .leq (tm 8) (Kc 16)),oo 10 (.pick (tm 6) (tm 9) kF),mv 11 10,oT 12 11 (.offA 1 (tm 1)),oT 13 11 (.load 1 false (tm 12)),oT 14 11 (.bin .geq (tm 13) (Kc 16)),oo 15 (.pick (tm 11) (tm 14) kF),mv 16 15,oT 17 16 (.offA 1 (tm 1)),oT 18 16 (.load 1 false (tm 17)),oT 19 16 (.bin .leq (tm 18) (Kc 143)),oo 20 (.pick (tm 16) (tm 19) kF),mv 21 20,oT 22 21 (.offA 1 (tm 1)),oT 23 21 (.load 1 false (tm 22)),oT 24 21 (.bin .rem (tm 23) (Kc 16)),oT 25 21 (.offA 2 (tm 1)),oT 26 21 (.load 1 false (tm 25)),oT 27 21 (.bin .add (tm 24) (tm 26)),oT 28 21 (.bin .leq (tm 27) (Kc 16)),oo 29 (.pick (tm 21) (tm 28) kF),mv 2 29] []) .ret))
theorem l36:(Tryz.f36.body.bind (bk Tryz.prog 30 []))=some c36:=by kernel_rfl
def c37:aQ:=(.seq (.region [oo 2 (.box 3 (tm 0)),oo 3 (.box 3 (tm 1)),oo 4 (.mov kF)] []) (.seq (.region [fa 5 1 2,ld 6 5,fa 7 1 3,ld 8 7,fa 9 2 3,ld 10 9,oo 11 (.bin .add (tm 8) (tm 10)),oo 12 (.bin .lss (tm 6) (tm 11)),mv 13 12,oT 14 13 (.offA 1 (tm 3)),oT 15 13 (.load 1 false (tm 14)),oT 16 13 (.offA 1 (tm 2)),oT 17 13 (.load 1 false (tm 16)),oT 18 13 (.offA 2 (tm 2)),oT 19 13 (.load 1 false (tm 18)),oT 20 13 (.bin .add (tm 17) (tm 19)),oT 21 13 (.bin .lss (tm 15) (tm 20)),oo 22 (.pick (tm 13) (tm 21) kF),mv 4 22] []) .ret))
theorem l37:(Tryz.f37.body.bind (bk Tryz.prog 23 []))=some c37:=by kernel_rfl
def c39:aQ:=(.seq (.region [oo 1 (.box 9 (tm 0)),oo 2 (.mov (Kc 0))] []) (.seq (.region [oo 3 (.mov (Kc 1))] []) (.seq (.seq (.region [oo 4 (.mov (Kc 0))] []) (.block 0 (.loop (.seq (.seq (.region [mv 5 4,fa 6 8 1,ld 7 6,ln 8 7,oo 9 (.bin .lss (tm 5) (tm 8))] []) (.cond (tm 9) .skip (.exit 0))) (.seq (.block 1 (.region [mv 12 3,fa 13 8 1,ld 14 13,mv 15 4,ix 16 9 14 15,lA 17 9 16,oo 18 (.call 39 [tm 17]),oo 19 (.bin .add (tm 12) (tm 18)),mv 3 19] [])) (.region [mv 10 4,oo 11 (.bin .add (tm 10) (Kc 1)),mv 4 11] [])))))) (.seq (.region [mv 20 3,mv 2 20] []) .ret))))
theorem l39:(Tryz.f39.body.bind (bk Tryz.prog 21 []))=some c39:=by kernel_rfl
def c52:aQ:=(.seq (.region [oo 5 (.box 5 (tm 0)),oo 6 (.box 10 (tm 1)),oo 7 (.mov kF)] []) (.seq (.seq (.region [fa 11 0 5,ld 12 11] []) (.block 0 (.seq (.seq (.region [oo 14 (.bin .eql (tm 12) (Kc 1)),mv 13 14] []) (.cond (tm 13) .skip (.region [oo 15 (.bin .eql (tm 12) (Kc 2)),mv 13 15] []))) (.cond (tm 13) (.seq (.region [fa 16 0 5,ld 17 16,oo 18 (.bin .eql (tm 17) (Kc 1)),mv 7 18] []) .ret) (.seq (.region [oo 20 (.bin .eql (tm 12) (Kc 9)),mv 19 20] []) (.cond (tm 19) (.seq (.region [ld 21 2,fa 22 2 5,ld 23 22,oo 24 (.bin .geq (tm 21) (tm 23)),mv 25 24,oT 26 25 (.load 1 false (tm 2)),oT 27 25 (.offA 3 (tm 5)),oT 28 25 (.load 1 false (tm 27)),oT 29 25 (.bin .lss (tm 26) (tm 28)),oo 30 (.pick (tm 25) (tm 29) kF),mv 7 30] []) .ret) (.seq (.region [oo 32 (.bin .eql (tm 12) (Kc 6)),mv 31 32] []) (.cond (tm 31) (.seq (.region [ld 33 3,oo 34 (.nilck (tm 33)),fa 35 0 34,ld 36 35,fa 37 4 5,ld 38 37,oo 39 (.idxL 5 (tm 38) (Kc 0)),lA 40 5 39,lA 41 10 6,oo 42 (.bU (tm 36) [(tm 40),(tm 41)]),oo 43 (.not (tm 42)),mv 7 43] []) .ret) (.seq (.seq (.region [oo 45 (.bin .eql (tm 12) (Kc 7)),mv 44 45] []) (.cond (tm 44) .skip (.region [oo 46 (.bin .eql (tm 12) (Kc 8)),mv 44 46] []))) (.cond (tm 44) (.seq (.seq (.region [ld 47 3,oo 48 (.nilck (tm 47)),fa 49 0 48,ld 50 49,fa 51 4 5,ld 52 51,oo 53 (.idxL 5 (tm 52) (Kc 0)),lA 54 5 53,lA 55 10 6,oo 56 (.bU (tm 50) [(tm 54),(tm 55)]),fa 57 0 5,ld 58 57,oo 59 (.bin .eql (tm 58) (Kc 7)),oo 60 (.eqB true (tm 56) (tm 59))] []) (.cond (tm 60) (.seq (.region [fa 61 0 5,ld 62 61,oo 63 (.bin .eql (tm 62) (Kc 8)),mv 7 63] []) .ret) .skip)) (.seq (.region [ld 64 3,oo 65 (.nilck (tm 64)),fa 66 0 65,ld 67 66,fa 68 4 5,ld 69 68,oo 70 (.idxL 5 (tm 69) (Kc 1)),lA 71 5 70,lA 72 10 6,oo 73 (.bU (tm 67) [(tm 71),(tm 72)]),mv 7 73] []) .ret)) .skip)))))))))) (.seq (.region [ld 75 4,fa 76 1 5,ld 77 76,oo 78 (.call 33 [(tm 75),(tm 77)]),mv 74 78,oo 79 (.ext (tm 74) 0),oo 80 (.ext (tm 74) 1),⟨some 8,.alloc [S0,Z0,Z0],none,[]⟩,o0 (.store 3 (tm 8) (tm 79)),mv 9 80] []) (.seq (.seq (.region [fa 81 0 5,ld 82 81] []) (.block 1 (.seq (.region [oo 84 (.bin .eql (tm 82) (Kc 3)),mv 83 84] []) (.cond (tm 83) (.seq (.region [lA 85 3 8,fa 86 2 5,ld 87 86,oo 88 (.call 54 [(tm 85),(tm 87)]),lA 89 10 6,oo 90 (.call 53 [(tm 88),(tm 89)]),mv 7 90] []) .ret) (.seq (.region [oo 92 (.bin .eql (tm 82) (Kc 4)),mv 91 92] []) (.cond (tm 91) (.seq (.region [lA 93 3 8,fa 94 2 5,ld 95 94,fa 96 3 5,ld 97 96,oo 98 (.call 55 [(tm 93),(tm 95),(tm 97)]),lA 99 10 6,oo 100 (.call 53 [(tm 98),(tm 99)]),mv 7 100] []) .ret) .skip)))))) (.seq (.region [lA 101 3 8,lA 102 10 6,oo 103 (.call 56 [(tm 101),(tm 102)]),mv 10 103] []) (.seq (.region [mv 104 10,fa 105 2 5,ld 106 105,oo 107 (.bin .geq (tm 104) (tm 106)),mv 108 107,mT 109 10 108,oT 110 108 (.offA 3 (tm 5)),oT 111 108 (.load 1 false (tm 110)),oT 112 108 (.bin .leq (tm 109) (tm 111)),oo 113 (.pick (tm 108) (tm 112) kF),mv 7 113] []) .ret))))))
theorem l52:(Tryz.f52.body.bind (bk Tryz.prog 114 []))=some c52:=by kernel_rfl
def c33:aQ:=(.seq (.region [oo 3 (.box 1 (tm 1)),⟨some 4,.alloc [S0,Z0,Z0],none,[]⟩,oo 5 (.mov kF)] []) (.seq (.seq (.region [ld 7 3,oo 8 (.call 63 []),oo 9 (.fld 0 1 false (tm 8)),oo 10 (.bin .eql (tm 7) (tm 9))] []) (.cond (tm 10) (.seq (.region [oo 11 (.call 63 []),o0 (.store 3 (tm 4) (tm 11)),oo 5 (.mov kT)] []) .ret) .skip)) (.seq (.region [mv 12 0,oo 13 (.mkfn 65 [tm 3]),oo 14 (.call 64 [(tm 12),(tm 13)]),mv 6 14] []) (.seq (.seq (.region [mv 15 6,oo 16 (.bin .lss (tm 15) (Kc 0))] []) (.cond (tm 16) (.seq (.region [⟨some 17,.build [S0,Z0,Z0] [],none,[]⟩,o0 (.store 3 (tm 4) (tm 17)),oo 5 (.mov kF)] []) .ret) .skip)) (.seq (.region [mv 18 0,mv 19 6,ix 20 3 18 19,lA 21 3 20,o0 (.store 3 (tm 4) (tm 21)),oo 5 (.mov kT)] []) .ret)))))
theorem l33:(Tryz.f33.body.bind (bk Tryz.prog 22 []))=some c33:=by kernel_rfl
def c53:aQ:=(.seq (.region [oo 2 (.box 20 (tm 0)),oo 3 (.box 10 (tm 1)),oo 4 (.mov kF)] []) (.seq (.seq (.region [oo 6 (.mov (Kc 0))] []) (.block 0 (.loop (.seq (.region [oo 7 (.bin .lss (tm 6) (Kc 10))] []) (.seq (.cond (tm 7) .skip (.exit 0)) (.seq (.block 1 (.seq (.region [mv 8 6,mv 5 8] []) (.seq (.region [mv 9 5,fa 10 10 2,oo 11 (.idxA 10 1 (tm 10) (tm 9)),ld 12 11,mv 13 5,oo 14 (.idxA 10 1 (tm 3) (tm 13)),ld 15 14,oo 16 (.bin .xor (tm 12) (tm 15)),mv 17 5,fa 18 0 2,oo 19 (.idxA 10 1 (tm 18) (tm 17)),ld 20 19,oo 21 (.bin .and (tm 16) (tm 20)),oo 22 (.bin .neq (tm 21) (Kc 0))] []) (.cond (tm 22) (.seq (.region [oo 4 (.mov kF)] []) .ret) .skip)))) (.region [oo 23 (.bin .add (tm 6) (Kc 1)),mv 6 23] []))))))) (.seq (.region [oo 4 (.mov kT)] []) .ret)))
theorem l53:(Tryz.f53.body.bind (bk Tryz.prog 24 []))=some c53:=by kernel_rfl
def c54:aQ:=(.seq (.region [oo 2 (.box 3 (tm 0)),oo 4 (.alloc [Z0,Z0,Z0,Z0,Z0,Z0,Z0,Z0,Z0,Z0,Z0,Z0,Z0,Z0,Z0,Z0,Z0,Z0,Z0,Z0])] []) (.seq (.region [lA 5 3 2,mv 6 1,fa 7 2 2,ld 8 7,oo 9 (.call 55 [(tm 5),(tm 6),(tm 8)]),o0 (.store 20 (tm 4) (tm 9))] []) .ret))
theorem l54:(Tryz.f54.body.bind (bk Tryz.prog 10 []))=some c54:=by kernel_rfl
def c55:aQ:=(.seq (.region [oo 3 (.box 3 (tm 0)),oo 6 (.alloc [Z0,Z0,Z0,Z0,Z0,Z0,Z0,Z0,Z0,Z0,Z0,Z0,Z0,Z0,Z0,Z0,Z0,Z0,Z0,Z0])] []) (.seq (.region [lA 8 3 3,oo 9 (.call 81 [tm 8]),fa 10 2 3,ld 11 10,mv 12 2,oo 13 (.bin .sub (tm 11) (tm 12)),oo 14 (.bin .shl (Kc 1) (tm 13)),oo 15 (.bin .sub (tm 14) (Kc 1)),oo 16 (.bin .andNot (tm 9) (tm 15)),mv 7 16] []) (.seq (.region [lA 17 3 3,oo 18 (.build [Z0,Z0,Z0,Z0,Z0,Z0,Z0,Z0,Z0,Z0] []),mv 19 7,oo 20 (.call 82 [(tm 17),(tm 18),(tm 19)]),lA 21 3 3,oo 22 (.build [Z0,Z0,Z0,Z0,Z0,Z0,Z0,Z0,Z0,Z0] []),mv 23 1,mv 24 7,oo 25 (.bin .and (tm 23) (tm 24)),oo 26 (.call 82 [(tm 21),(tm 22),(tm 25)]),oo 27 (.build [Z0,Z0,Z0,Z0,Z0,Z0,Z0,Z0,Z0,Z0,Z0,Z0,Z0,Z0,Z0,Z0,Z0,Z0,Z0,Z0] [(0,10,(tm 20)),(10,10,(tm 26))]),o0 (.store 20 (tm 6) (tm 27))] []) .ret)))
theorem l55:(Tryz.f55.body.bind (bk Tryz.prog 28 []))=some c55:=by kernel_rfl
def c56:aQ:=(.seq (.region [oo 2 (.box 3 (tm 0)),oo 3 (.box 10 (tm 1)),oo 4 (.mov (Kc 0))] []) (.seq (.region [fa 5 1 2,ld 6 5,oo 7 (.bin .quo (tm 6) (Kc 16)),oo 8 (.idxA 10 1 (tm 3) (tm 7)),ld 9 8,lA 10 3 2,oo 11 (.call 83 [tm 10]),oo 12 (.bin .shr (tm 9) (tm 11)),lA 13 3 2,oo 14 (.call 81 [tm 13]),oo 15 (.bin .and (tm 12) (tm 14)),mv 4 15] []) .ret))
theorem l56:(Tryz.f56.body.bind (bk Tryz.prog 16 []))=some c56:=by kernel_rfl
def c57:aQ:=(.seq (.region [oo 4 (.box 9 (tm 0)),oo 5 (.box 10 (tm 1)),oo 6 (.mov (.const .nil)),oo 7 (.mov kF)] []) (.seq (.seq (.region [fa 19 0 4,ld 20 19] []) (.block 0 (.seq (.region [oo 22 (.bin .eql (tm 20) (Kc 1)),mv 21 22] []) (.cond (tm 21) (.seq (.seq (.region [ld 23 2,oo 24 (.nilck (tm 23)),fa 25 0 24,ld 26 25,fa 27 1 4,lA 28 5 27,lA 29 10 5,oo 30 (.bU (tm 26) [(tm 28),(tm 29)]),oo 31 (.not (tm 30))] []) (.cond (tm 31) (.seq (.region [oo 6 (.mov (.const .nil)),oo 7 (.mov kT)] []) .ret) .skip)) (.seq (.region [lA 32 10 5,oo 33 (.buildS 30 10 1 [Z0,Z0,Z0,Z0,Z0,Z0,Z0,Z0,Z0,Z0] [(0,(tm 32))]),mv 6 33,oo 7 (.mov kT)] []) .ret)) (.seq (.region [oo 35 (.bin .eql (tm 20) (Kc 2)),mv 34 35] []) (.cond (tm 34) (.seq (.region [ld 37 3,fa 38 6 4,ld 39 38,oo 40 (.call 33 [(tm 37),(tm 39)]),mv 36 40,oo 41 (.ext (tm 36) 0),oo 42 (.ext (tm 36) 1),⟨some 8,.alloc [S0,Z0,Z0],none,[]⟩,o0 (.store 3 (tm 8) (tm 41)),mv 9 42] []) (.seq (.region [lA 43 3 8,fa 44 7 4,ld 45 44,oo 46 (.call 59 [(tm 43),(tm 45)]),lA 47 10 5,oo 48 (.call 58 [(tm 46),(tm 47)]),oo 49 (.buildT 10 1 [Z0,Z0,Z0,Z0,Z0,Z0,Z0,Z0,Z0,Z0] [(0,(tm 48))]),mv 6 49,oo 7 (.mov kT)] []) .ret)) (.seq (.region [oo 51 (.bin .eql (tm 20) (Kc 3)),mv 50 51] []) (.cond (tm 50) (.seq (.region [ld 53 2,oo 54 (.nilck (tm 53)),fa 55 1 54,ld 56 55,fa 57 8 4,ld 58 57,oo 59 (.idxL 9 (tm 58) (Kc 0)),lA 60 9 59,lA 61 10 5,oo 62 (.bU (tm 56) [(tm 60),(tm 61)]),mv 52 62,oo 63 (.ext (tm 52) 0),oo 64 (.ext (tm 52) 1),mv 10 63,mv 11 64] []) (.seq (.region [ld 66 2,oo 67 (.nilck (tm 66)),fa 68 1 67,ld 69 68,fa 70 8 4,ld 71 70,oo 72 (.idxL 9 (tm 71) (Kc 1)),lA 73 9 72,lA 74 10 5,oo 75 (.bU (tm 69) [(tm 73),(tm 74)]),mv 65 75,oo 76 (.ext (tm 65) 0),oo 77 (.ext (tm 65) 1),mv 12 76,mv 13 77] []) (.seq (.region [mv 78 10,mv 79 12,oo 80 (.call 61 [(tm 78),(tm 79)]),mv 81 11,mv 82 81,mT 83 13 82,oo 84 (.pick (tm 82) (tm 83) kF),oo 85 (.call 60 [(tm 80),(tm 84)]),oo 86 (.ext (tm 85) 0),oo 87 (.ext (tm 85) 1),mv 6 86,mv 7 87] []) .ret))) (.seq (.region [oo 89 (.bin .eql (tm 20) (Kc 4)),mv 88 89] []) (.cond (tm 88) (.seq (.region [ld 91 2,oo 92 (.nilck (tm 91)),fa 93 1 92,ld 94 93,fa 95 8 4,ld 96 95,oo 97 (.idxL 9 (tm 96) (Kc 0)),lA 98 9 97,lA 99 10 5,oo 100 (.bU (tm 94) [(tm 98),(tm 99)]),mv 90 100,oo 101 (.ext (tm 90) 0),oo 102 (.ext (tm 90) 1),mv 14 101,mv 15 102] []) (.seq (.seq (.region [mv 103 15,oo 104 (.not (tm 103))] []) (.cond (tm 104) (.seq (.region [oo 6 (.mov (.const .nil)),oo 7 (.mov kF)] []) .ret) .skip)) (.seq (.region [ld 105 2,fa 106 8 4,ld 107 106,oo 108 (.idxL 9 (tm 107) (Kc 1)),lA 109 9 108,mv 110 14,oo 111 (.call 62 [(tm 105),(tm 109),(tm 110)]),oo 112 (.ext (tm 111) 0),oo 113 (.ext (tm 111) 1),mv 6 112,mv 7 113] []) .ret))) .skip)))))))))) (.seq (.region [ld 115 2,fa 116 8 4,ld 117 116,oo 118 (.idxL 9 (tm 117) (Kc 0)),lA 119 9 118,lA 120 10 5,oo 121 (.call 42 [(tm 115),(tm 119),(tm 120)]),mv 114 121,oo 122 (.ext (tm 114) 0),oo 123 (.ext (tm 114) 1),oo 124 (.ext (tm 114) 2),mv 16 122,mv 17 123,mv 18 124] []) (.seq (.region [mv 125 16,mv 126 18,mv 6 125,mv 7 126] []) .ret))))
theorem l57:(Tryz.f57.body.bind (bk Tryz.prog 127 []))=some c57:=by kernel_rfl
def c58:aQ:=(.seq (.region [oo 2 (.box 20 (tm 0)),oo 3 (.box 10 (tm 1)),oo 4 (.alloc [Z0,Z0,Z0,Z0,Z0,Z0,Z0,Z0,Z0,Z0])] []) (.seq (.seq (.region [oo 6 (.mov (Kc 0))] []) (.block 0 (.loop (.seq (.region [oo 7 (.bin .lss (tm 6) (Kc 10))] []) (.seq (.cond (tm 7) .skip (.exit 0)) (.seq (.block 1 (.seq (.region [mv 8 6,mv 5 8] []) (.region [mv 9 5,mv 10 5,oo 11 (.idxA 10 1 (tm 3) (tm 10)),ld 12 11,mv 13 5,fa 14 0 2,oo 15 (.idxA 10 1 (tm 14) (tm 13)),ld 16 15,oo 17 (.bin .andNot (tm 12) (tm 16)),mv 18 5,fa 19 10 2,oo 20 (.idxA 10 1 (tm 19) (tm 18)),ld 21 20,oo 22 (.bin .or (tm 17) (tm 21)),oo 23 (.idxA 10 1 (tm 3) (tm 9)),o0 (.store 1 (tm 23) (tm 22))] []))) (.region [oo 24 (.bin .add (tm 6) (Kc 1)),mv 6 24] []))))))) (.seq (.region [lA 25 10 3,o0 (.store 10 (tm 4) (tm 25))] []) .ret)))
theorem l58:(Tryz.f58.body.bind (bk Tryz.prog 26 []))=some c58:=by kernel_rfl
def c59:aQ:=(.seq (.region [oo 2 (.box 3 (tm 0)),oo 4 (.alloc [Z0,Z0,Z0,Z0,Z0,Z0,Z0,Z0,Z0,Z0,Z0,Z0,Z0,Z0,Z0,Z0,Z0,Z0,Z0,Z0])] []) (.seq (.region [lA 5 3 2,mv 6 1,oo 7 (.call 54 [(tm 5),(tm 6)]),o0 (.store 20 (tm 4) (tm 7))] []) .ret))
theorem l59:(Tryz.f59.body.bind (bk Tryz.prog 8 []))=some c59:=by kernel_rfl
def c60:aQ:=(.seq (.region [oo 4 (.mov (.const .nil)),oo 5 (.mov kF)] []) (.seq (.seq (.region [mv 6 1,oo 7 (.not (tm 6)),mv 8 7,mF 9 0 8,oF 10 8 (.len (tm 9)),oF 11 8 (.bin .gtr (tm 10) (Kc 256)),oo 12 (.pick (tm 8) kT (tm 11))] []) (.cond (tm 12) (.seq (.region [oo 4 (.mov (.const .nil)),oo 5 (.mov kF)] []) .ret) .skip)) (.seq (.region [mv 13 0,mv 4 13,oo 5 (.mov kT)] []) .ret)))
theorem l60:(Tryz.f60.body.bind (bk Tryz.prog 14 []))=some c60:=by kernel_rfl
def c90:aQ:=(.seq (.region [⟨some 0,.alloc [S0,Z0,Z0],none,[]⟩] []) (.seq (.region [⟨some 1,.build [S0,Z0,Z0] [(0,1,(.const (.str ⟨#[112,111,114,116]⟩))),(1,1,(Kc 0)),(2,1,(Kc 16))],none,[]⟩,o0 (.store 3 (tm 0) (tm 1))] []) .ret))
theorem l90:(Tryz.f90.body.bind (bk Tryz.prog 2 []))=some c90:=by kernel_rfl
def c73:aQ:=(.seq (.region [oo 4 (.mov (.const .nil))] []) (.seq (.region [mv 8 0,mv 9 1,oo 10 (.call 92 [(tm 8),(tm 9)]),mv 5 10] []) (.seq (.seq (.region [mv 11 5,oo 12 (.bin .eql (tm 11) (.const (.int .i64 (-1))))] []) (.cond (tm 12) (.seq (.region [mv 13 0,mv 4 13] []) .ret) .skip)) (.seq (.seq (.region [mv 14 5,oo 15 (.bin .add (tm 14) (Kc 1)),mv 6 15] []) (.block 0 (.loop (.seq (.seq (.region [mv 16 6,mv 17 0,ln 18 17,oo 19 (.bin .lss (tm 16) (tm 18))] []) (.cond (tm 19) .skip (.exit 0))) (.seq (.block 1 (.seq (.region [mv 22 0,mv 23 6,ix 24 10 22 23,lA 25 10 24,oo 7 (.alloc [Z0,Z0,Z0,Z0,Z0,Z0,Z0,Z0,Z0,Z0]),o0 (.store 10 (tm 7) (tm 25))] []) (.seq (.region [mv 26 1,lA 27 10 7,oo 28 (.bU (tm 26) [tm 27]),oo 29 (.not (tm 28))] []) (.cond (tm 29) (.seq (.region [mv 30 0,mv 31 5,lA 32 10 7,ix 33 10 30 31,o0 (.store 10 (tm 33) (tm 32))] []) (.region [mv 34 5,oo 35 (.bin .add (tm 34) (Kc 1)),mv 5 35] [])) .skip)))) (.region [mv 20 6,oo 21 (.bin .add (tm 20) (Kc 1)),mv 6 21] [])))))) (.seq (.region [mv 36 0,mv 37 5,oo 38 (.slice 10 (tm 36) (some (tm 37)) none),o0 (.clr 10 [Z0,Z0,Z0,Z0,Z0,Z0,Z0,Z0,Z0,Z0] (tm 38))] []) (.seq (.region [mv 39 0,mv 40 5,oo 41 (.slice 10 (tm 39) none (some (tm 40))),mv 4 41] []) .ret))))))
theorem l73:(Tryz.f73.body.bind (bk Tryz.prog 42 []))=some c73:=by kernel_rfl
def c74:aQ:=(.seq (.region [oo 2 (.box 10 (tm 0)),oo 3 (.mov kF)] []) (.seq (.region [ld 4 1,lA 5 10 2,oo 6 (.call 26 [(tm 4),(tm 5)]),mv 3 6] []) .ret))
theorem l74:(Tryz.f74.body.bind (bk Tryz.prog 7 []))=some c74:=by kernel_rfl
def c91:aQ:=(.seq (.region [oo 2 (.mov (Kc 0))] []) (.seq (.region [oo 3 (.mov (Kc 1))] []) (.seq (.seq (.region [oo 4 (.mov (Kc 0))] []) (.block 0 (.loop (.seq (.seq (.region [mv 5 4,mv 6 0,oo 7 (.bin .lss (tm 5) (tm 6))] []) (.cond (tm 7) .skip (.exit 0))) (.seq (.block 1 (.region [mv 10 3,oo 11 (.bin .mul (tm 10) (Kc 2)),mv 3 11] [])) (.region [mv 8 4,oo 9 (.bin .add (tm 8) (Kc 1)),mv 4 9] [])))))) (.seq (.region [mv 12 3,mv 2 12] []) .ret))))
theorem l91:(Tryz.f91.body.bind (bk Tryz.prog 13 []))=some c91:=by kernel_rfl
def c85:aQ:=(.seq (.region [oo 2 (.box 2 (tm 0)),oo 4 (.mov (Kc 0))] []) (.seq (.region [lA 6 2 2,oo 7 (.call 106 [tm 6]),mv 5 7] []) (.seq (.seq (.region [mv 8 5,oo 9 (.bin .eql (tm 8) (Kc 0)),mv 10 9,mT 11 1 10,oT 12 10 (.not (tm 11)),oo 13 (.pick (tm 10) (tm 12) kF)] []) (.cond (tm 13) (.seq (.region [oo 4 (.mov (Kc 1))] []) .ret) .skip)) (.seq (.region [mv 14 5,mv 4 14] []) .ret))))
theorem l85:(Tryz.f85.body.bind (bk Tryz.prog 15 []))=some c85:=by kernel_rfl
def c86:aQ:=(.seq (.region [oo 1 (.box 9 (tm 0)),oo 2 (.alloc [Z0,Z0])] []) (.seq (.region [oo 5 (.build [Z0,Z0] [(0,1,(Kc 1)),(1,1,(Kc 1))]),oo 3 (.alloc [Z0,Z0]),o0 (.store 2 (tm 3) (tm 5))] []) (.seq (.seq (.region [fa 6 0 1,ld 7 6,oo 8 (.bin .eql (tm 7) (Kc 1))] []) (.cond (tm 8) (.region [lA 9 2 3,fa 10 1 1,lA 11 5 10,oo 12 (.call 108 [tm 11]),oo 13 (.call 107 [(tm 9),(tm 12)]),o0 (.store 2 (tm 3) (tm 13))] []) .skip)) (.seq (.seq (.region [oo 4 (.mov (Kc 0))] []) (.block 0 (.loop (.seq (.seq (.region [mv 14 4,fa 15 8 1,ld 16 15,ln 17 16,oo 18 (.bin .lss (tm 14) (tm 17))] []) (.cond (tm 18) .skip (.exit 0))) (.seq (.block 1 (.region [lA 21 2 3,fa 22 8 1,ld 23 22,mv 24 4,ix 25 9 23 24,lA 26 9 25,oo 27 (.call 86 [tm 26]),oo 28 (.call 107 [(tm 21),(tm 27)]),o0 (.store 2 (tm 3) (tm 28))] [])) (.region [mv 19 4,oo 20 (.bin .add (tm 19) (Kc 1)),mv 4 20] [])))))) (.seq (.region [lA 29 2 3,o0 (.store 2 (tm 2) (tm 29))] []) .ret)))))
theorem l86:(Tryz.f86.body.bind (bk Tryz.prog 30 []))=some c86:=by kernel_rfl
def c87:aQ:=(.seq (.region [oo 1 (.box 9 (tm 0)),oo 2 (.mov kF)] []) (.seq (.region [fa 10 6 1,ld 11 10,oo 12 (.call 109 [tm 11]),mv 3 12] []) (.seq (.region [fa 13 1 1,lA 14 5 13,⟨some 15,.build [Z0,S0,Z0,Z0,.nil] [],none,[]⟩,oo 16 (.call 110 [(tm 14),(tm 15)]),mv 4 16] []) (.seq (.cut (.region [fa 17 6 1,ld 18 17,⟨some 19,.bin .eql (tm 18) (.const S0),none,[]⟩,mv 20 19,oT 21 20 (.offA 7 (tm 1)),oT 22 20 (.load 1 false (tm 21)),oT 23 20 (.bin .eql (tm 22) (Kc 0)),oo 24 (.pick (tm 20) (tm 23) kF),mv 5 24] [])) (.seq (.region [oo 6 (.mov (Kc 0))] []) (.seq (.region [oo 7 (.mov kF)] []) (.seq (.seq (.region [fa 25 0 1,ld 26 25] []) (.cut (.block 0 (.seq (.region [oo 28 (.bin .eql (tm 26) (Kc 1)),mv 27 28] []) (.cond (tm 27) (.region [fa 29 1 1,lA 30 5 29,oo 31 (.call 111 [tm 30]),mv 32 31,mT 33 5 32,oo 34 (.pick (tm 32) (tm 33) kF),mv 7 34] []) (.seq (.region [oo 36 (.bin .eql (tm 26) (Kc 2)),mv 35 36] []) (.cond (tm 35) (.region [mv 37 3,mv 38 37,mT 39 4 38,oo 40 (.pick (tm 38) (tm 39) kF),mv 41 40,oT 42 41 (.offA 7 (tm 1)),oT 43 41 (.load 1 false (tm 42)),oT 44 41 (.bin .geq (tm 43) (Kc 0)),oo 45 (.pick (tm 41) (tm 44) kF),mv 46 45,oT 47 46 (.offA 7 (tm 1)),oT 48 46 (.load 1 false (tm 47)),oT 49 46 (.bin .leq (tm 48) (Kc 65535)),oo 50 (.pick (tm 46) (tm 49) kF),mv 7 50] []) (.seq (.seq (.region [oo 52 (.bin .eql (tm 26) (Kc 3)),mv 51 52] []) (.cond (tm 51) .skip (.region [oo 53 (.bin .eql (tm 26) (Kc 4)),mv 51 53] []))) (.cond (tm 51) (.seq (.region [mv 54 4,mv 55 54,mT 56 5 55,oo 57 (.pick (tm 55) (tm 56) kF),mv 7 57] []) (.region [oo 6 (.mov (Kc 2))] [])) (.seq (.region [oo 59 (.bin .eql (tm 26) (Kc 5)),mv 58 59] []) (.cond (tm 58) (.seq (.region [mv 60 4,mv 61 60,mT 62 5 61,oo 63 (.pick (tm 61) (tm 62) kF),mv 7 63] []) (.region [oo 6 (.mov (Kc 1))] [])) .skip))))))))))) (.seq (.seq (.region [mv 64 7,oo 65 (.not (tm 64)),mv 66 65,oF 67 66 (.offA 8 (tm 1)),oF 68 66 (.load 1 false (tm 67)),oF 69 66 (.len (tm 68)),mF 70 6 66,oF 71 66 (.bin .neq (tm 69) (tm 70)),oo 72 (.pick (tm 66) kT (tm 71))] []) (.cond (tm 72) (.seq (.region [oo 2 (.mov kF)] []) .ret) .skip)) (.seq (.seq (.region [oo 8 (.mov (Kc 0))] []) (.block 1 (.loop (.seq (.seq (.region [mv 73 8,mv 74 6,oo 75 (.bin .lss (tm 73) (tm 74))] []) (.cond (tm 75) .skip (.exit 1))) (.seq (.block 2 (.seq (.region [fa 78 8 1,ld 79 78,mv 80 8,ix 81 9 79 80,lA 82 9 81,oo 83 (.call 87 [tm 82]),mv 9 83] []) (.seq (.region [mv 84 9,oo 85 (.not (tm 84))] []) (.cond (tm 85) (.seq (.region [oo 2 (.mov kF)] []) .ret) .skip)))) (.region [mv 76 8,oo 77 (.bin .add (tm 76) (Kc 1)),mv 8 77] [])))))) (.seq (.region [oo 2 (.mov kT)] []) .ret))))))))))
theorem l87:(Tryz.f87.body.bind (bk Tryz.prog 86 [6000003,4000000]))=some c87:=by kernel_rfl
def c88:aQ:=(.seq (.region [oo 1 (.box 5 (tm 0)),oo 2 (.mov (.const .nil))] []) (.seq (.region [lA 5 5 1,⟨some 6,.buildS 25 5 1 [Z0,S0,Z0,Z0,.nil] [(0,(tm 5))],none,[]⟩,mv 3 6] []) (.seq (.seq (.region [oo 4 (.mov (Kc 0))] []) (.block 0 (.loop (.seq (.seq (.region [mv 7 4,fa 8 4 1,ld 9 8,ln 10 9,oo 11 (.bin .lss (tm 7) (tm 10))] []) (.cond (tm 11) .skip (.exit 0))) (.seq (.block 1 (.region [mv 14 3,fa 15 4 1,ld 16 15,mv 17 4,ix 18 5 16 17,lA 19 5 18,oo 20 (.call 88 [tm 19]),oo 21 (.append 23 25 5 64 (tm 14) (tm 20)),mv 3 21] [])) (.region [mv 12 4,oo 13 (.bin .add (tm 12) (Kc 1)),mv 4 13] [])))))) (.seq (.region [mv 22 3,mv 2 22] []) .ret))))
theorem l88:(Tryz.f88.body.bind (bk Tryz.prog 23 []))=some c88:=by kernel_rfl
def c89:aQ:=(.seq (.region [oo 3 (.box 5 (tm 1)),oo 4 (.mov (Kc 0))] []) (.seq (.seq (.region [fa 8 0 3,ld 9 8,oo 10 (.bin .neq (tm 9) (Kc 3)),mv 11 10,oT 12 11 (.offA 0 (tm 3)),oT 13 11 (.load 1 false (tm 12)),oT 14 11 (.bin .neq (tm 13) (Kc 4)),oo 15 (.pick (tm 11) (tm 14) kF),mv 16 15,oT 17 16 (.offA 0 (tm 3)),oT 18 16 (.load 1 false (tm 17)),oT 19 16 (.bin .neq (tm 18) (Kc 5)),oo 20 (.pick (tm 16) (tm 19) kF)] []) (.cond (tm 20) (.seq (.region [oo 4 (.mov (Kc 0))] []) .ret) .skip)) (.seq (.region [mv 22 0,fa 23 1 3,ld 24 23,oo 25 (.call 70 [(tm 22),(tm 24)]),mv 21 25,oo 26 (.ext (tm 21) 0),oo 27 (.ext (tm 21) 1),⟨some 5,.alloc [S0,Z0,Z0],none,[]⟩,o0 (.store 3 (tm 5) (tm 26)),mv 6 27] []) (.seq (.seq (.region [mv 28 6,oo 29 (.not (tm 28))] []) (.cond (tm 29) (.seq (.region [oo 4 (.mov (Kc 4))] []) .ret) .skip)) (.seq (.region [fa 30 2 3,ld 31 30,mv 7 31] []) (.seq (.seq (.region [fa 32 0 3,ld 33 32,oo 34 (.bin .eql (tm 33) (Kc 5))] []) (.cond (tm 34) (.region [fa 35 3 3,ld 36 35,mv 7 36] []) .skip)) (.seq (.seq (.region [mv 37 7,lA 38 3 5,oo 39 (.call 71 [tm 38]),oo 40 (.bin .gtr (tm 37) (tm 39)),mv 41 40,oF 42 41 (.offA 0 (tm 3)),oF 43 41 (.load 1 false (tm 42)),oF 44 41 (.bin .eql (tm 43) (Kc 4)),mF 45 44 41,oT 46 45 (.offA 3 (tm 3)),oT 47 45 (.load 1 false (tm 46)),oT 48 45 (.offA 2 (tm 5)),oT 49 45 (.load 1 false (tm 48)),oT 50 45 (.bin .gtr (tm 47) (tm 49)),oF 51 41 (.pick (tm 45) (tm 50) kF),oo 52 (.pick (tm 41) kT (tm 51))] []) (.cond (tm 52) (.seq (.region [oo 4 (.mov (Kc 1))] []) .ret) .skip)) (.seq (.region [oo 4 (.mov (Kc 0))] []) .ret))))))))
theorem l89:(Tryz.f89.body.bind (bk Tryz.prog 53 []))=some c89:=by kernel_rfl
def c93:aQ:=(.seq (.region [oo 4 (.mov (Kc 0))] []) (.seq (.region [mv 7 0,oo 8 (.call 112 [tm 7]),mv 5 8] []) (.seq (.region [mv 9 1,oo 10 (.call 112 [tm 9]),mv 6 10] []) (.seq (.seq (.region [mv 11 5] []) (.cond (tm 11) (.seq (.seq (.region [mv 12 6] []) (.cond (tm 12) (.seq (.region [oo 4 (.mov (Kc 0))] []) .ret) .skip)) (.seq (.region [oo 4 (.mov (.const (.int .i64 (-1))))] []) .ret)) .skip)) (.seq (.seq (.region [mv 13 6] []) (.cond (tm 13) (.seq (.region [oo 4 (.mov (Kc 1))] []) .ret) .skip)) (.seq (.seq (.region [mv 14 0,mv 15 1,oo 16 (.bin .lss (tm 14) (tm 15))] []) (.cond (tm 16) (.seq (.region [oo 4 (.mov (.const (.int .i64 (-1))))] []) .ret) .skip)) (.seq (.seq (.region [mv 17 0,mv 18 1,oo 19 (.bin .gtr (tm 17) (tm 18))] []) (.cond (tm 19) (.seq (.region [oo 4 (.mov (Kc 1))] []) .ret) .skip)) (.seq (.region [oo 4 (.mov (Kc 0))] []) .ret))))))))
theorem l93:(Tryz.f93.body.bind (bk Tryz.prog 20 []))=some c93:=by kernel_rfl
def c63:aQ:=(.seq (.region [⟨some 0,.alloc [S0,Z0,Z0],none,[]⟩] []) (.seq (.region [⟨some 1,.build [S0,Z0,Z0] [(0,1,(.const (.str ⟨#[112,111,114,116]⟩))),(2,1,(Kc 16))],none,[]⟩,o0 (.store 3 (tm 0) (tm 1))] []) .ret))
theorem l63:(Tryz.f63.body.bind (bk Tryz.prog 2 []))=some c63:=by kernel_rfl
def c64:aQ:=(.seq (.region [oo 4 (.mov (Kc 0))] []) (.seq (.seq (.region [mv 6 0,ln 7 6,oo 8 (.mov (Kc 0))] []) (.block 0 (.loop (.seq (.region [oo 9 (.bin .lss (tm 8) (tm 7))] []) (.seq (.cond (tm 9) .skip (.exit 0)) (.seq (.block 1 (.seq (.region [mv 10 8,mv 5 10] []) (.seq (.region [mv 11 1,mv 12 0,mv 13 5,ix 14 3 12 13,lA 15 3 14,oo 16 (.bU (tm 11) [tm 15])] []) (.cond (tm 16) (.seq (.region [mv 17 5,mv 4 17] []) .ret) .skip)))) (.region [oo 18 (.bin .add (tm 8) (Kc 1)),mv 8 18] []))))))) (.seq (.region [oo 4 (.mov (.const (.int .i64 (-1))))] []) .ret)))
theorem l64:(Tryz.f64.body.bind (bk Tryz.prog 19 []))=some c64:=by kernel_rfl
def c65:aQ:=(.seq (.region [oo 2 (.box 3 (tm 0)),oo 3 (.mov kF)] []) (.seq (.region [fa 4 0 2,ld 5 4,ld 6 1,oo 7 (.bin .eql (tm 5) (tm 6)),mv 3 7] []) .ret))
theorem l65:(Tryz.f65.body.bind (bk Tryz.prog 8 []))=some c65:=by kernel_rfl
def c81:aQ:=(.seq (.region [oo 1 (.box 3 (tm 0)),oo 2 (.mov (Kc 0))] []) (.seq (.region [fa 3 2 1,ld 4 3,oo 5 (.bin .shl (Kc 1) (tm 4)),oo 6 (.bin .sub (tm 5) (Kc 1)),mv 2 6] []) .ret))
theorem l81:(Tryz.f81.body.bind (bk Tryz.prog 7 []))=some c81:=by kernel_rfl
def c82:aQ:=(.seq (.region [oo 3 (.box 3 (tm 0)),oo 4 (.box 10 (tm 1)),oo 6 (.alloc [Z0,Z0,Z0,Z0,Z0,Z0,Z0,Z0,Z0,Z0])] []) (.seq (.region [fa 8 1 3,ld 9 8,oo 10 (.bin .quo (tm 9) (Kc 16)),oo 11 (.idxA 10 1 (tm 4) (tm 10)),mv 7 11] []) (.seq (.region [mv 12 7,mv 13 7,oo 14 (.nilck (tm 13)),ld 15 14,lA 16 3 3,oo 17 (.call 81 [tm 16]),lA 18 3 3,oo 19 (.call 83 [tm 18]),oo 20 (.bin .shl (tm 17) (tm 19)),oo 21 (.bin .andNot (tm 15) (tm 20)),mv 22 2,lA 23 3 3,oo 24 (.call 83 [tm 23]),oo 25 (.bin .shl (tm 22) (tm 24)),oo 26 (.bin .or (tm 21) (tm 25)),oo 27 (.nilck (tm 12)),o0 (.store 1 (tm 27) (tm 26))] []) (.seq (.region [lA 28 10 4,o0 (.store 10 (tm 6) (tm 28))] []) .ret))))
theorem l82:(Tryz.f82.body.bind (bk Tryz.prog 29 []))=some c82:=by kernel_rfl
def c83:aQ:=(.seq (.region [oo 1 (.box 3 (tm 0)),oo 2 (.mov (Kc 0))] []) (.seq (.region [fa 3 1 1,ld 4 3,oo 5 (.bin .rem (tm 4) (Kc 16)),oo 6 (.bin .sub (Kc 16) (tm 5)),fa 7 2 1,ld 8 7,oo 9 (.bin .sub (tm 6) (tm 8)),mv 2 9] []) .ret))
theorem l83:(Tryz.f83.body.bind (bk Tryz.prog 10 []))=some c83:=by kernel_rfl
def c92:aQ:=(.seq (.region [oo 4 (.mov (Kc 0))] []) (.seq (.seq (.region [mv 6 0,ln 7 6,oo 8 (.mov (Kc 0))] []) (.block 0 (.loop (.seq (.region [oo 9 (.bin .lss (tm 8) (tm 7))] []) (.seq (.cond (tm 9) .skip (.exit 0)) (.seq (.block 1 (.seq (.region [mv 10 8,mv 5 10] []) (.seq (.region [mv 11 1,mv 12 0,mv 13 5,ix 14 10 12 13,lA 15 10 14,oo 16 (.bU (tm 11) [tm 15])] []) (.cond (tm 16) (.seq (.region [mv 17 5,mv 4 17] []) .ret) .skip)))) (.region [oo 18 (.bin .add (tm 8) (Kc 1)),mv 8 18] []))))))) (.seq (.region [oo 4 (.mov (.const (.int .i64 (-1))))] []) .ret)))
theorem l92:(Tryz.f92.body.bind (bk Tryz.prog 19 []))=some c92:=by kernel_rfl
def Fe:aQ:=(.seq (.region [oo 1 (.box 2 (tm 0)),oo 2 (.mov (Kc 0))] []) (.seq (.seq (.region [fa 3 0 1,ld 4 3,oo 5 (.bin .gtr (tm 4) (Kc 200)),mv 6 5,oF 7 6 (.offA 1 (tm 1)),oF 8 6 (.load 1 false (tm 7)),oF 9 6 (.bin .gtr (tm 8) (Kc 20)),oo 10 (.pick (tm 6) kT (tm 9))] []) (.cond (tm 10) (.seq (.region [oo 2 (.mov (Kc 2))] []) .ret) .skip)) (.seq (.region [oo 2 (.mov (Kc 0))] []) .ret)))
theorem FC:(Tryz.f106.body.bind (bk Tryz.prog 11 []))=some Fe:=by kernel_rfl
def Ff:aQ:=(.seq (.region [oo 2 (.box 2 (tm 0)),oo 3 (.box 2 (tm 1)),oo 4 (.alloc [Z0,Z0])] []) (.seq (.region [fa 5 0 2,ld 6 5,fa 7 0 3,ld 8 7,oo 9 (.bin .add (tm 6) (tm 8)),fa 10 1 2,ld 11 10,fa 12 1 3,ld 13 12,oo 14 (.bin .add (tm 13) (Kc 1)),oo 15 (.maxI (tm 11) (tm 14)),oo 16 (.build [Z0,Z0] [(0,1,(tm 9)),(1,1,(tm 15))]),o0 (.store 2 (tm 4) (tm 16))] []) .ret))
theorem FD:(Tryz.f107.body.bind (bk Tryz.prog 17 []))=some Ff:=by kernel_rfl
def Fg:aQ:=(.seq (.region [oo 1 (.box 5 (tm 0)),oo 2 (.alloc [Z0,Z0])] []) (.seq (.region [oo 5 (.build [Z0,Z0] [(0,1,(Kc 1)),(1,1,(Kc 1))]),oo 3 (.alloc [Z0,Z0]),o0 (.store 2 (tm 3) (tm 5))] []) (.seq (.seq (.region [oo 4 (.mov (Kc 0))] []) (.block 0 (.loop (.seq (.seq (.region [mv 6 4,fa 7 4 1,ld 8 7,ln 9 8,oo 10 (.bin .lss (tm 6) (tm 9))] []) (.cond (tm 10) .skip (.exit 0))) (.seq (.block 1 (.region [lA 13 2 3,fa 14 4 1,ld 15 14,mv 16 4,ix 17 5 15 16,lA 18 5 17,oo 19 (.call 108 [tm 18]),oo 20 (.call 107 [(tm 13),(tm 19)]),o0 (.store 2 (tm 3) (tm 20))] [])) (.region [mv 11 4,oo 12 (.bin .add (tm 11) (Kc 1)),mv 4 12] [])))))) (.seq (.region [lA 21 2 3,o0 (.store 2 (tm 2) (tm 21))] []) .ret))))
theorem FE:(Tryz.f108.body.bind (bk Tryz.prog 22 []))=some Fg:=by kernel_rfl
def Fh:aQ:=(.seq (.region [oo 2 (.mov kF)] []) (.seq (.region [mv 4 0,oo 5 (.call 119 [tm 4]),mv 3 5] []) (.seq (.region [mv 6 3,mv 7 6,mF 8 0 7,⟨some 9,.bin .eql (tm 8) (.const (.str ⟨#[112,111,114,116]⟩)),some (7,false),[]⟩,oo 10 (.pick (tm 7) kT (tm 9)),mv 2 10] []) .ret)))
theorem FF:(Tryz.f109.body.bind (bk Tryz.prog 11 []))=some Fh:=by kernel_rfl
def Fi:aQ:=(.seq (.region [oo 2 (.box 5 (tm 0)),oo 3 (.box 5 (tm 1)),oo 4 (.mov kF)] []) (.seq (.seq (.region [fa 7 0 2,ld 8 7,fa 9 0 3,ld 10 9,oo 11 (.bin .neq (tm 8) (tm 10)),mv 12 11,oF 13 12 (.offA 1 (tm 2)),oF 14 12 (.load 1 false (tm 13)),oF 15 12 (.offA 1 (tm 3)),oF 16 12 (.load 1 false (tm 15)),oF 17 12 (.bin .neq (tm 14) (tm 16)),oo 18 (.pick (tm 12) kT (tm 17)),mv 19 18,oF 20 19 (.offA 2 (tm 2)),oF 21 19 (.load 1 false (tm 20)),oF 22 19 (.offA 2 (tm 3)),oF 23 19 (.load 1 false (tm 22)),oF 24 19 (.bin .neq (tm 21) (tm 23)),oo 25 (.pick (tm 19) kT (tm 24)),mv 26 25,oF 27 26 (.offA 3 (tm 2)),oF 28 26 (.load 1 false (tm 27)),oF 29 26 (.offA 3 (tm 3)),oF 30 26 (.load 1 false (tm 29)),oF 31 26 (.bin .neq (tm 28) (tm 30)),oo 32 (.pick (tm 26) kT (tm 31)),mv 33 32,oF 34 33 (.offA 4 (tm 2)),oF 35 33 (.load 1 false (tm 34)),oF 36 33 (.len (tm 35)),oF 37 33 (.offA 4 (tm 3)),oF 38 33 (.load 1 false (tm 37)),oF 39 33 (.len (tm 38)),oF 40 33 (.bin .neq (tm 36) (tm 39)),oo 41 (.pick (tm 33) kT (tm 40))] []) (.cond (tm 41) (.seq (.region [oo 4 (.mov kF)] []) .ret) .skip)) (.seq (.seq (.region [oo 5 (.mov (Kc 0))] []) (.block 0 (.loop (.seq (.seq (.region [mv 42 5,fa 43 4 2,ld 44 43,ln 45 44,oo 46 (.bin .lss (tm 42) (tm 45))] []) (.cond (tm 46) .skip (.exit 0))) (.seq (.block 1 (.seq (.region [fa 49 4 2,ld 50 49,mv 51 5,ix 52 5 50 51,lA 53 5 52,fa 54 4 3,ld 55 54,mv 56 5,ix 57 5 55 56,lA 58 5 57,oo 59 (.call 110 [(tm 53),(tm 58)]),mv 6 59] []) (.seq (.region [mv 60 6,oo 61 (.not (tm 60))] []) (.cond (tm 61) (.seq (.region [oo 4 (.mov kF)] []) .ret) .skip)))) (.region [mv 47 5,oo 48 (.bin .add (tm 47) (Kc 1)),mv 5 48] [])))))) (.seq (.region [oo 4 (.mov kT)] []) .ret))))
theorem FG:(Tryz.f110.body.bind (bk Tryz.prog 62 []))=some Fi:=by kernel_rfl
def Fj:aQ:=(.seq (.region [oo 1 (.box 5 (tm 0)),oo 2 (.mov kF)] []) (.seq (.region [fa 10 1 1,ld 11 10,oo 12 (.call 109 [tm 11]),mv 3 12] []) (.seq (.cut (.region [fa 13 2 1,ld 14 13,oo 15 (.bin .geq (tm 14) (Kc 0)),mv 16 15,oT 17 16 (.offA 2 (tm 1)),oT 18 16 (.load 1 false (tm 17)),oT 19 16 (.bin .leq (tm 18) (Kc 65535)),oo 20 (.pick (tm 16) (tm 19) kF),mv 4 20] [])) (.seq (.cut (.region [fa 21 1 1,ld 22 21,⟨some 23,.bin .eql (tm 22) (.const S0),none,[]⟩,mv 24 23,oT 25 24 (.offA 2 (tm 1)),oT 26 24 (.load 1 false (tm 25)),oT 27 24 (.bin .eql (tm 26) (Kc 0)),oo 28 (.pick (tm 24) (tm 27) kF),mv 29 28,oT 30 29 (.offA 3 (tm 1)),oT 31 29 (.load 1 false (tm 30)),oT 32 29 (.bin .eql (tm 31) (Kc 0)),oo 33 (.pick (tm 29) (tm 32) kF),mv 5 33] [])) (.seq (.region [oo 6 (.mov (Kc 0))] []) (.seq (.region [oo 7 (.mov kF)] []) (.seq (.seq (.region [fa 34 0 1,ld 35 34] []) (.cut (.block 0 (.seq (.seq (.region [oo 37 (.bin .eql (tm 35) (Kc 1)),mv 36 37] []) (.cond (tm 36) .skip (.region [oo 38 (.bin .eql (tm 35) (Kc 2)),mv 36 38] []))) (.cond (tm 36) (.region [mv 39 5,mv 7 39] []) (.seq (.region [oo 41 (.bin .eql (tm 35) (Kc 3)),mv 40 41] []) (.cond (tm 40) (.region [mv 42 3,mv 43 42,mT 44 4 43,oo 45 (.pick (tm 43) (tm 44) kF),mv 46 45,oT 47 46 (.offA 3 (tm 1)),oT 48 46 (.load 1 false (tm 47)),oT 49 46 (.bin .eql (tm 48) (Kc 0)),oo 50 (.pick (tm 46) (tm 49) kF),mv 7 50] []) (.seq (.region [oo 52 (.bin .eql (tm 35) (Kc 4)),mv 51 52] []) (.cond (tm 51) (.region [mv 53 3,mv 54 53,mT 55 4 54,oo 56 (.pick (tm 54) (tm 55) kF),mv 57 56,oT 58 57 (.offA 3 (tm 1)),oT 59 57 (.load 1 false (tm 58)),oT 60 57 (.bin .geq (tm 59) (Kc 0)),oo 61 (.pick (tm 57) (tm 60) kF),mv 62 61,oT 63 62 (.offA 3 (tm 1)),oT 64 62 (.load 1 false (tm 63)),oT 65 62 (.bin .leq (tm 64) (Kc 16)),oo 66 (.pick (tm 62) (tm 65) kF),mv 7 66] []) (.seq (.region [oo 68 (.bin .eql (tm 35) (Kc 5)),mv 67 68] []) (.cond (tm 67) (.region [mv 69 3,mv 70 69,oT 71 70 (.offA 2 (tm 1)),oT 72 70 (.load 1 false (tm 71)),oT 73 70 (.bin .geq (tm 72) (Kc 0)),oo 74 (.pick (tm 70) (tm 73) kF),mv 75 74,oT 76 75 (.offA 2 (tm 1)),oT 77 75 (.load 1 false (tm 76)),oT 78 75 (.offA 3 (tm 1)),oT 79 75 (.load 1 false (tm 78)),oT 80 75 (.bin .leq (tm 77) (tm 79)),oo 81 (.pick (tm 75) (tm 80) kF),mv 82 81,oT 83 82 (.offA 3 (tm 1)),oT 84 82 (.load 1 false (tm 83)),oT 85 82 (.bin .leq (tm 84) (Kc 65535)),oo 86 (.pick (tm 82) (tm 85) kF),mv 7 86] []) (.seq (.region [oo 88 (.bin .eql (tm 35) (Kc 6)),mv 87 88] []) (.cond (tm 87) (.seq (.region [mv 89 5,mv 7 89] []) (.region [oo 6 (.mov (Kc 1))] [])) (.seq (.seq (.region [oo 91 (.bin .eql (tm 35) (Kc 7)),mv 90 91] []) (.cond (tm 90) .skip (.region [oo 92 (.bin .eql (tm 35) (Kc 8)),mv 90 92] []))) (.cond (tm 90) (.seq (.region [mv 93 5,mv 7 93] []) (.region [oo 6 (.mov (Kc 2))] [])) (.seq (.region [oo 95 (.bin .eql (tm 35) (Kc 9)),mv 94 95] []) (.cond (tm 94) (.region [fa 96 1 1,ld 97 96,⟨some 98,.bin .eql (tm 97) (.const S0),none,[]⟩,mv 99 98,oT 100 99 (.offA 2 (tm 1)),oT 101 99 (.load 1 false (tm 100)),oT 102 99 (.bin .geq (tm 101) (Kc 0)),oo 103 (.pick (tm 99) (tm 102) kF),mv 104 103,oT 105 104 (.offA 2 (tm 1)),oT 106 104 (.load 1 false (tm 105)),oT 107 104 (.offA 3 (tm 1)),oT 108 104 (.load 1 false (tm 107)),oT 109 104 (.bin .lss (tm 106) (tm 108)),oo 110 (.pick (tm 104) (tm 109) kF),mv 111 110,oT 112 111 (.offA 3 (tm 1)),oT 113 111 (.load 1 false (tm 112)),oT 114 111 (.bin .leq (tm 113) (Kc 1073741824)),oo 115 (.pick (tm 111) (tm 114) kF),mv 7 115] []) .skip))))))))))))))))) (.seq (.seq (.region [mv 116 7,oo 117 (.not (tm 116)),mv 118 117,oF 119 118 (.offA 4 (tm 1)),oF 120 118 (.load 1 false (tm 119)),oF 121 118 (.len (tm 120)),mF 122 6 118,oF 123 118 (.bin .neq (tm 121) (tm 122)),oo 124 (.pick (tm 118) kT (tm 123))] []) (.cond (tm 124) (.seq (.region [oo 2 (.mov kF)] []) .ret) .skip)) (.seq (.seq (.region [oo 8 (.mov (Kc 0))] []) (.block 1 (.loop (.seq (.seq (.region [mv 125 8,mv 126 6,oo 127 (.bin .lss (tm 125) (tm 126))] []) (.cond (tm 127) .skip (.exit 1))) (.seq (.block 2 (.seq (.region [fa 130 4 1,ld 131 130,mv 132 8,ix 133 5 131 132,lA 134 5 133,oo 135 (.call 111 [tm 134]),mv 9 135] []) (.seq (.region [mv 136 9,oo 137 (.not (tm 136))] []) (.cond (tm 137) (.seq (.region [oo 2 (.mov kF)] []) .ret) .skip)))) (.region [mv 128 8,oo 129 (.bin .add (tm 128) (Kc 1)),mv 8 129] [])))))) (.seq (.region [oo 2 (.mov kT)] []) .ret))))))))))
theorem FH:(Tryz.f111.body.bind (bk Tryz.prog 138 [6000002,6000003,4000000]))=some Fj:=by kernel_rfl
def Fk:aQ:=(.seq (.region [oo 2 (.mov kF)] []) (.seq (.region [mv 3 0,mv 4 0,oo 5 (.bin .neq (tm 3) (tm 4)),mv 2 5] []) .ret))
theorem FI:(Tryz.f112.body.bind (bk Tryz.prog 6 []))=some Fk:=by kernel_rfl
def Fl:aQ:=(.seq (.region [oo 2 (.mov kF)] []) (.seq (.region [mv 3 0,oo 4 (.call 121 [tm 3]),mv 2 4] []) .ret))
theorem FJ:(Tryz.f119.body.bind (bk Tryz.prog 5 []))=some Fl:=by kernel_rfl
def Fm:aQ:=(.seq (.region [oo 2 (.mov kF)] []) (.seq (.seq (.region [mv 5 0,oo 6 (.lenS (tm 5)),oo 7 (.bin .eql (tm 6) (Kc 0)),mv 8 7,mF 9 0 8,oF 10 8 (.lenS (tm 9)),oF 11 8 (.bin .gtr (tm 10) (Kc 24)),oo 12 (.pick (tm 8) kT (tm 11))] []) (.cond (tm 12) (.seq (.region [oo 2 (.mov kF)] []) .ret) .skip)) (.seq (.region [mv 13 0,oo 14 (.idxS (tm 13) (Kc 0)),oo 15 (.call 122 [tm 14]),mv 3 15] []) (.seq (.region [mv 16 0,oo 17 (.call 123 [tm 16]),mv 4 17] []) (.seq (.region [mv 18 3,mv 19 18,mT 20 0 19,oT 21 19 (.call 124 [tm 20]),mT 22 0 19,oT 23 19 (.lenS (tm 22)),oT 24 19 (.bin .eql (tm 21) (tm 23)),oo 25 (.pick (tm 19) (tm 24) kF),mv 26 25,mT 27 4 26,oT 28 26 (.not (tm 27)),oo 29 (.pick (tm 26) (tm 28) kF),mv 2 29] []) .ret)))))
theorem FK:(Tryz.f121.body.bind (bk Tryz.prog 30 []))=some Fm:=by kernel_rfl
def Fo:aQ:=(.seq (.region [oo 2 (.mov kF)] []) (.seq (.region [mv 3 0,oo 4 (.bin .geq (tm 3) (.const (Ui 97))),mv 5 4,mT 6 0 5,oT 7 5 (.bin .leq (tm 6) (.const (Ui 122))),oo 8 (.pick (tm 5) (tm 7) kF),mv 2 8] []) .ret))
theorem FL:(Tryz.f122.body.bind (bk Tryz.prog 9 []))=some Fo:=by kernel_rfl
def Fp:aQ:=(.seq (.region [oo 2 (.mov kF)] []) (.seq (.region [oo 5 (.call 125 []),mv 3 5] []) (.seq (.seq (.region [oo 4 (.mov (Kc 0))] []) (.block 0 (.loop (.seq (.seq (.region [mv 6 4,mv 7 3,ln 8 7,oo 9 (.bin .lss (tm 6) (tm 8))] []) (.cond (tm 9) .skip (.exit 0))) (.seq (.block 1 (.seq (.region [mv 12 3,mv 13 4,ix 14 1 12 13,ld 15 14,mv 16 0,oo 17 (.bin .eql (tm 15) (tm 16))] []) (.cond (tm 17) (.seq (.region [oo 2 (.mov kT)] []) .ret) .skip))) (.region [mv 10 4,oo 11 (.bin .add (tm 10) (Kc 1)),mv 4 11] [])))))) (.seq (.region [oo 2 (.mov kF)] []) .ret))))
theorem FM:(Tryz.f123.body.bind (bk Tryz.prog 18 []))=some Fp:=by kernel_rfl
def Fq:aQ:=(.seq (.region [oo 2 (.mov (Kc 0))] []) (.seq (.region [oo 3 (.mov (Kc 0))] []) (.seq (.block 0 (.loop (.seq (.seq (.region [mv 5 3,mv 6 0,oo 7 (.lenS (tm 6)),oo 8 (.bin .lss (tm 5) (tm 7))] []) (.cond (tm 8) .skip (.exit 0))) (.block 1 (.seq (.region [mv 9 0,mv 10 3,oo 11 (.idxS (tm 9) (tm 10)),oo 12 (.call 126 [tm 11]),mv 4 12] []) (.seq (.seq (.region [mv 13 4,oo 14 (.not (tm 13))] []) (.cond (tm 14) (.exit 0) .skip)) (.region [mv 15 3,oo 16 (.bin .add (tm 15) (Kc 1)),mv 3 16] []))))))) (.seq (.region [mv 17 3,mv 2 17] []) .ret))))
theorem FN:(Tryz.f124.body.bind (bk Tryz.prog 18 []))=some Fq:=by kernel_rfl
def Fs:aQ:=(.seq (.region [oo 0 (.mov (.const .nil))] []) (.seq (.region [⟨some 1,.buildS 9 1 49 [S0] [(0,(.const (.str ⟨#[97,110,100]⟩))),(1,(.const (.str ⟨#[97,110,121]⟩))),(2,(.const (.str ⟨#[97,116]⟩))),(3,(.const (.str ⟨#[98,97,99,107]⟩))),(4,(.const (.str ⟨#[98,111,120]⟩))),(5,(.const (.str ⟨#[98,117,114,115,116]⟩))),(6,(.const (.str ⟨#[98,121]⟩))),(7,(.const (.str ⟨#[99,97,112,97,99,105,116,121]⟩))),(8,(.const (.str ⟨#[99,101,105,108,105,110,103]⟩))),(9,(.const (.str ⟨#[99,104,101,99,107]⟩))),(10,(.const (.str ⟨#[99,111,110,116,114,97,99,116]⟩))),(11,(.const (.str ⟨#[99,111,117,110,116]⟩))),(12,(.const (.str ⟨#[100,101,109,97,110,100]⟩))),(13,(.const (.str ⟨#[100,114,111,112]⟩))),(14,(.const (.str ⟨#[101,97,99,104]⟩))),(15,(.const (.str ⟨#[101,100,103,101]⟩))),(16,(.const (.str ⟨#[101,110,116,114,105,101,115]⟩))),(17,(.const (.str ⟨#[102,97,108,115,101]⟩))),(18,(.const (.str ⟨#[102,105,101,108,100]⟩))),(19,(.const (.str ⟨#[102,108,111,111,114]⟩))),(20,(.const (.str ⟨#[102,114,111,109]⟩))),(21,(.const (.str ⟨#[105,100]⟩))),(22,(.const (.str ⟨#[105,110]⟩))),(23,(.const (.str ⟨#[105,110,110,101,114]⟩))),(24,(.const (.str ⟨#[105,110,116,111]⟩))),(25,(.const (.str ⟨#[108,105,110,107]⟩))),(26,(.const (.str ⟨#[110,101,116,119,111,114,107]⟩))),(27,(.const (.str ⟨#[110,111,100,101]⟩))),(28,(.const (.str ⟨#[110,111,116]⟩))),(29,(.const (.str ⟨#[111,112,101,110]⟩))),(30,(.const (.str ⟨#[111,114]⟩))),(31,(.const (.str ⟨#[112,97,116,104]⟩))),(32,(.const (.str ⟨#[112,111,114,116]⟩))),(33,(.const (.str ⟨#[112,114,105,99,101]⟩))),(34,(.const (.str ⟨#[114,111,117,116,101]⟩))),(35,(.const (.str ⟨#[114,117,108,101,115]⟩))),(36,(.const (.str ⟨#[115,116,97,103,101]⟩))),(37,(.const (.str ⟨#[116,97,107,101]⟩))),(38,(.const (.str ⟨#[116,101,110,97,110,116]⟩))),(39,(.const (.str ⟨#[116,104,101,110]⟩))),(40,(.const (.str ⟨#[116,105,109,101]⟩))),(41,(.const (.str ⟨#[116,111]⟩))),(42,(.const (.str ⟨#[116,111,107,101,110]⟩))),(43,(.const (.str ⟨#[116,114,97,110,115,108,97,116,101]⟩))),(44,(.const (.str ⟨#[116,114,117,101]⟩))),(45,(.const (.str ⟨#[118,105,97]⟩))),(46,(.const (.str ⟨#[119,105,100,116,104]⟩))),(47,(.const (.str ⟨#[119,105,114,101]⟩))),(48,(.const (.str ⟨#[119,105,116,104,105,110]⟩)))],none,[]⟩,mv 0 1] []) .ret))
theorem FO:(Tryz.f125.body.bind (bk Tryz.prog 2 []))=some Fs:=by kernel_rfl
def Ft:aQ:=(.seq (.region [oo 2 (.mov kF)] []) (.seq (.region [mv 5 0,oo 6 (.call 122 [tm 5]),mv 3 6] []) (.seq (.region [mv 7 0,oo 8 (.call 127 [tm 7]),mv 4 8] []) (.seq (.region [mv 9 3,mv 10 9,mF 11 4 10,oo 12 (.pick (tm 10) kT (tm 11)),mv 13 12,mF 14 0 13,oF 15 13 (.bin .eql (tm 14) (.const (Ui 95))),oo 16 (.pick (tm 13) kT (tm 15)),mv 2 16] []) .ret))))
theorem FP:(Tryz.f126.body.bind (bk Tryz.prog 17 []))=some Ft:=by kernel_rfl
def Fu:aQ:=(.seq (.region [oo 2 (.mov kF)] []) (.seq (.region [mv 3 0,oo 4 (.bin .geq (tm 3) (.const (Ui 48))),mv 5 4,mT 6 0 5,oT 7 5 (.bin .leq (tm 6) (.const (Ui 57))),oo 8 (.pick (tm 5) (tm 7) kF),mv 2 8] []) .ret))
theorem FQ:(Tryz.f127.body.bind (bk Tryz.prog 9 []))=some Fu:=by kernel_rfl
end Go.MM
end
section
namespace Go.MM
open Go Go.DL
instance : Glb := ⟨fun _ => none⟩
end Go.MM
end
section
namespace Go.MM
open Go Go.DL Go.Proofs
theorem mixed:Tryz.prog.follows .mixedOrders=true:=by kernel_rfl
abbrev I (n:Int):T:=.int .i64 n
def hd (h:List Int):T:=.agg (h.map I)
def sd (hs:List (List Int)):T:=.slice 10 (hs.map hd)
theorem getD_map {α β:Type} (f:α→β) (l:List α) (i:Nat) (d:β) (h:i<l.length):(l.map f)[i]?.getD d=f l[i]:=by simp [h]
theorem wk: ∀{h:List Int} {n:Nat},h.length=n→fits (List.replicate n (.int .i64)) (h.map I)
 |[],_,e=>by subst e;trivial
 |x::h,_,e=>by subst e;exact ⟨rfl,wk rfl⟩
theorem za: ∀{a b:List Int},a.length=b.length→eqL (a.map I) (b.map I)=(a==b)
 |[],[],_=>rfl
 |x::a,y::b,e=>by
  show ((x==y)&&eqL (a.map I) (b.map I))=_
  rw [za (by simpa using e)]
  rfl
def cmp (x y:Int):Int:=if x<y then -1 else if x>y then 1 else 0
def su:List Int→List Int→Int
 |x::a,y::b=>if cmp x y≠0 then cmp x y else su a b
 |_,_=>0
def tR (h:List Int):Bool:=h.all fun x=>decide (0≤x)&&decide (x≤65535)
theorem yD {a b:List Int} {i:Nat} (h1:i<a.length) (h2:i<b.length):su (a.drop i) (b.drop i)=if cmp a[i] b[i]≠0 then cmp a[i] b[i] else su (a.drop (i+1)) (b.drop (i+1)):=by
 rw [List.drop_eq_getElem_cons h1,List.drop_eq_getElem_cons h2];rfl
theorem y6: ∀(l:List Int) (n:Nat),l.length=n→chunk 1 n (l.map I)=l.map I
 |[],0,_=>rfl
 |x::l,n+1,h=>by
  show DL.elemOf 1 [I x]::chunk 1 n (l.map I)=I x::l.map I
  rw [y6 l n (by simpa using h)];rfl
 |x::l,0,h=>by simp at h
 |[],n+1,h=>by simp at h
def tf:List (List Int)→List Int→List (List Int)
 |[],h=>[h]
 |x::xs,h=>if su x h<0 then x::tf xs h else if x=h then x::xs else h::x::xs
def below (h:List Int):List (List Int)→Nat
 |[]=>0
 |x::xs=>if su x h<0 then below h xs+1 else 0
theorem wy (h:List Int): ∀l,below h l≤l.length
 |[]=>Nat.le_refl _
 |x::xs=>by unfold below;split <;> simp;exact wy h xs
theorem vI {h:List Int}: ∀{l:List (List Int)} {i:Nat} (_:i<below h l) (hi:i<l.length),su l[i] h<0
 |[],i,_,hi=>by simp at hi
 |x::xs,i,hb,hi=>by
  unfold below at hb
  split at hb
  ·rename_i hx
   cases i with
   |zero=>exact hx
   |succ i=>exact vI (l:=xs) (by omega) (by simpa using hi)
  ·omega
theorem vH {h:List Int}: ∀{l:List (List Int)} (hi:below h l<l.length), ¬su l[below h l] h<0
 |[],hi=>by simp at hi
 |x::xs,hi=>by
  by_cases hx:su x h<0
  ·have e:below h (x::xs)=below h xs+1:=by rw [below,if_pos hx]
   have h2:below h xs<xs.length:=by rw [e] at hi;simpa using hi
   have:=vH (h:=h) (l:=xs) h2
   simp only [e]
   simpa using this
  ·have e:below h (x::xs)=0:=by rw [below,if_neg hx]
   simp only [e]
   simpa using hx
theorem yz {h:List Int}: ∀(l:List (List Int)),tf l h=if hb:below h l<l.length then (if l[below h l]=h then l else l.take (below h l)++h::l.drop (below h l)) else l.take (below h l)++h::l.drop (below h l)
 |[]=>by simp [tf,below]
 |x::xs=>by
  by_cases hx:su x h<0
  ·have e:below h (x::xs)=below h xs+1:=by rw [below,if_pos hx]
   rw [tf,if_pos hx,yz xs]
   simp only [e]
   by_cases hb:below h xs<xs.length
   ·have hb':below h xs+1<(x::xs).length:=by simpa using hb
    rw [dif_pos hb,dif_pos hb']
    simp only [List.getElem_cons_succ]
    split <;> simp
   ·have hb': ¬below h xs+1<(x::xs).length:=by simpa using hb
    rw [dif_neg hb,dif_neg hb'];simp
  ·have e:below h (x::xs)=0:=by rw [below,if_neg hx]
   simp only [e]
   rw [tf,if_neg hx]
   simp
theorem Bq (h:List Int) (l:List (List Int)):(tf l h).length≤l.length+1:=by
 induction l with
 |nil=>simp [tf]
 |cons x xs ih=>
  unfold tf
  split
  ·simp;omega
  ·split <;> simp
theorem zo {h x:List Int}: ∀{l:List (List Int)},x∈tf l h→x=h∨x∈l
 |[],hx=>by simp [tf] at hx;exact .inl hx
 |y::ys,hx=>by
  unfold tf at hx
  split at hx
  ·rcases List.mem_cons.1 hx with e|hx
   ·exact .inr (by simp [e])
   ·exact (zo hx).imp id fun h=>List.mem_cons_of_mem _ h
  ·split at hx
   ·exact .inr hx
   ·exact List.mem_cons.1 hx
theorem Cu (x y:Int):cmp y x= - cmp x y:=by unfold cmp;split <;> split <;> (try split) <;> omega
theorem xS {x y:Int} (h:cmp x y=0):x=y:=by unfold cmp at h;split at h <;> (try split at h) <;> omega
theorem y7 {x y:Int}:cmp x y<0↔x<y:=by unfold cmp;split <;> (try split) <;> omega
theorem vJ: ∀a b:List Int,su b a= - su a b
 |[],[]=>rfl
 |[],_::_=>rfl
 |_::_,[]=>rfl
 |x::a,y::b=>by
  unfold su
  rw [Cu x y]
  by_cases h:cmp x y=0
  ·rw [if_neg (by omega),if_neg (by omega)];exact vJ a b
  ·rw [if_pos (by omega),if_pos (by omega)]
theorem uM: ∀{a b:List Int},a.length=b.length→su a b=0→a=b
 |[],[],_,_=>rfl
 |x::a,y::b,hl,h=>by
  unfold su at h
  by_cases hx:cmp x y=0
  ·rw [if_neg (by omega)] at h
   rw [xS hx,uM (by simpa using hl) h]
  ·rw [if_pos (by omega)] at h
   exact absurd h hx
theorem uL (a:List Int):su a a=0:=by have:=vJ a a;omega
theorem uo: ∀{a b c:List Int},a.length=b.length→b.length=c.length→su a b<0→su b c<0→su a c<0
 |[],[],[],_,_,h,_=>h
 |x::a,y::b,z::c,h1,h2,k1,k2=>by
  unfold su at k1 k2 ⊢
  by_cases hx:cmp x y=0
  ·have e:=xS hx;subst e
   rw [if_neg (by omega)] at k1
   by_cases hy:cmp x z=0
   ·rw [if_neg (by omega)] at k2 ⊢
    exact uo (by simpa using h1) (by simpa using h2) k1 k2
   ·rw [if_pos (by omega)] at k2 ⊢;exact k2
  ·rw [if_pos (by omega)] at k1
   have l1:=y7.1 k1
   by_cases hy:cmp y z=0
   ·have e:=xS hy;subst e
    rw [if_pos (by omega)];exact k1
   ·rw [if_pos (by omega)] at k2
    have l2:=y7.1 k2
    have l3:cmp x z<0:=y7.2 (by omega)
    rw [if_pos (by omega)];exact l3
def Srt (hs:List (List Int)):Prop:=hs.Pairwise fun a b=>su a b<0
def sC (hs:List (List Int)):Prop:= ∀x∈hs,x.length=10
theorem Srt.get {hs:List (List Int)} (h:Srt hs) {i j:Nat} (hi:i<hs.length) (hj:j<hs.length) (hij:i<j):su hs[i] hs[j]<0:=List.pairwise_iff_getElem.1 h i j hi hj hij
theorem Bf {h:List Int} {hs:List (List Int)} (hsr:Srt hs) (hw:sC hs) (hh:h.length=10) {k:Nat} (hk:below h hs≤k) (hl:k<hs.length): ¬su hs[k] h<0:=fun hc=>by
 have hb:below h hs<hs.length:=by omega
 rcases Nat.lt_or_ge (below h hs) k with h1|h1
 ·have:=hsr.get hb hl h1
  exact vH hb (uo ((hw _ (List.getElem_mem _)).trans (hw _ (List.getElem_mem _)).symm) ((hw _ (List.getElem_mem _)).trans hh.symm) this hc)
 ·obtain rfl:k=below h hs:=by omega
  exact vH hb hc
theorem AK {h:List Int} {hs:List (List Int)} (hsr:Srt hs) (hw:sC hs) (hh:h.length=10):hs.contains h=(if hb:below h hs<hs.length then decide (su hs[below h hs] h=0) else false):=by
 split
 ·rename_i hb
  by_cases he:su hs[below h hs] h=0
  ·rw [decide_eq_true he]
   have:=uM ((hw _ (List.getElem_mem _)).trans hh.symm) he
   exact List.contains_iff_mem.2 (this▸List.getElem_mem _)
  ·rw [decide_eq_false he]
   refine Bool.eq_false_iff.2 fun hc=>?_
   obtain ⟨k,hk,rfl⟩:=List.mem_iff_getElem.1 (List.contains_iff_mem.1 hc)
   rcases Nat.lt_trichotomy k (below hs[k] hs) with h1|h1|h1
   ·have:=vI h1 hk
    rw [uL] at this;omega
   ·exact he (by simp only [← h1];exact uL _)
   ·have h2:=hsr.get hb hk h1
    exact vH hb h2
 ·rename_i hb
  refine Bool.eq_false_iff.2 fun hc=>?_
  obtain ⟨k,hk,rfl⟩:=List.mem_iff_getElem.1 (List.contains_iff_mem.1 hc)
  have:=vI (h:=hs[k]) (l:=hs) (i:=k) (by have:=wy hs[k] hs;omega) hk
  rw [uL] at this;omega
end Go.MM
end
section
namespace Go.MM
open Go Go.DL Go.Proofs
theorem t107 (x:Int):DCalls Tryz.prog 112 [I x] (.bool false):=by
 refine qB (rs:=[.tmp 2]) mixed Tryz.func112 FI rfl rfl rfl (r:=[.bool false]) (nlZ rfl) ?_
 exact rN false trivial (by simp) ⟨rfl,trivial⟩
theorem t93 (x y:Int):DCalls Tryz.prog 93 [I x,I y] (I (cmp x y)):=by
 refine qB (rs:=[.tmp 4]) mixed Tryz.func93 l93 rfl rfl rfl (r:=[I (cmp x y)]) (nlZ rfl) ?_
 refine rq _ (t107 x) ?_
 refine rq _ (t107 y) ?_
 unfold cmp
 refine rM trivial (fun h=>?_) (fun h=>?_)
 ·have:x<y:=by simpa using h
  rw [if_pos this];exact ⟨rfl,trivial⟩
 have: ¬x<y:=by simpa using h
 rw [if_neg this]
 refine rM trivial (fun h=>?_) (fun h=>?_)
 ·have:x>y:=by simpa using h
  rw [if_pos this];exact ⟨rfl,trivial⟩
 ·have: ¬x>y:=by simpa using h
  rw [if_neg this];exact ⟨rfl,trivial⟩
theorem t68 (a b:List Int) (h:a.length=b.length) (hl:a.length<2^62):DCalls Tryz.prog 75 [.slice 1 (a.map I),.slice 1 (b.map I)] (I (su a b)):=by
 refine qB (rs:=[.tmp 4]) mixed Tryz.func75 l75 rfl rfl rfl (r:=[I (su a b)]) (nlZ rfl) ?_
 refine qX (α:=Nat) (fun i=>{sl:=[(0,.t (.slice 1 (a.map I))),(1,.t (.slice 1 (b.map I))),(9,.t (.slice 1 (a.map I))),(10,.t (I a.length)),(11,.t (I i))],bx:=[]}) (fun i=>i≤a.length∧su (a.drop i) (b.drop i)=su a b) (fun i=>a.length - i) 0 (by simp) ?_ ?_
 ·exact ⟨⟨.same _,.same _,.same _,leI (by simp),.same _,trivial⟩,trivial,trivial,rfl,fun _ _ _=>trivial,rfl⟩
 rintro i ⟨hi,hc⟩
 refine rM trivial (fun hb=>?_) (fun hb=>?_)
 ·have hlt:i<a.length:=by simpa using hb
  have hlt2:i<b.length:=by omega
  refine r8 (I a[i]) (by simpa using hlt) (by simp [hlt]) ?_
  refine r8 (I a[i]) (Nat.lt_succ_self 0) rfl ?_
  refine rN false trivial (by simp;omega) ?_
  refine r8 (I b[i]) (by simpa using hlt2) (by simp [hlt2]) ?_
  refine r8 (I b[i]) (Nat.lt_succ_self 0) rfl ?_
  refine rq _ (t93 a[i] b[i]) ?_
  rw [yD hlt hlt2] at hc
  refine rM trivial (fun hb=>?_) (fun hb=>?_)
  ·have:cmp a[i] b[i]≠0:=by simpa using hb
   rw [if_pos this] at hc
   rw [← hc];exact ⟨rfl,trivial⟩
  ·have: ¬cmp a[i] b[i]≠0:=by simpa using hb
   rw [if_neg this] at hc
   refine ⟨i+1,⟨hlt,hc⟩,by omega,?_⟩
   exact ⟨⟨.same _,.same _,.same _,.same _,leI (by rw [mj] <;> omega),trivial⟩,trivial,trivial,rfl,fun _ _ _=>trivial,rfl⟩
 ·have hge:a.length≤i:=by simpa using hb
  refine rN false trivial (by simp [h]) ?_
  rw [List.drop_eq_nil_of_le hge,List.drop_eq_nil_of_le (by omega)] at hc
  rw [← hc]
  exact ⟨rfl,trivial⟩
theorem t46 (a b:List Int) (ha:a.length=10) (hb:b.length=10):DCalls Tryz.prog 44 [hd a,hd b] (I (su a b)):=by
 refine qB (rs:=[.tmp 4]) mixed Tryz.func44 l44 rfl rfl rfl (r:=[I (su a b)]) (nlZ rfl) ?_
 refine And.intro (by simp [ha]) ?_
 refine And.intro (by simp [hb]) ?_
 refine ⟨I (su a b),?_,rfl,rfl,trivial⟩
 have:=t68 a b (ha.trans hb.symm) (by omega)
 rw [← y6 a 10 ha, ←y6 b 10 hb] at this
 exact this
theorem t41 (a b:List Int) (ha:a.length=10) (hb:b.length=10):DCalls Tryz.prog 66 [hd a,hd b] (I (su a b)):=by
 refine qB (rs:=[.tmp 4]) mixed Tryz.func66 l66 rfl rfl rfl (r:=[I (su a b)]) (nlZ rfl) ?_
 refine And.intro (by simp [ha]) ?_
 refine And.intro (by simp [hb]) ?_
 refine qX (α:=Nat) (fun i=>{sl:=[(2,.ptr 2 0),(3,.ptr 3 0),(5,.t (I i))],bx:=[(2,.d 10 (a.map I)),(3,.d 10 (b.map I))]}) (fun i=>i≤10∧su (a.drop i) (b.drop i)=su a b) (fun i=>10 - i) 0 (by simp) ?_ ?_
 ·exact ⟨⟨.same _,.same _,.same _,trivial⟩,⟨.same _,.same _,trivial⟩,trivial,rfl,fun _ _ _=>trivial,rfl⟩
 rintro i ⟨hi,hc⟩
 refine rM trivial (fun hl=>?_) (fun hl=>?_)
 ·have hlt:i<10:=by simp at hl;omega
  have h1:i<a.length:=by omega
  have h2:i<b.length:=by omega
  rw [yD h1 h2] at hc
  refine And.intro (by omega) ?_
  refine r8 (I a[i]) (by simp;omega) (by simp [h1]) ?_
  refine And.intro (by omega) ?_
  refine r8 (I b[i]) (by simp;omega) (by simp [h2]) ?_
  refine rM trivial (fun hx=>?_) (fun hx=>?_)
  ·have hx:a[i]<b[i]:=by simpa using hx
   have e:cmp a[i] b[i]= -1:=by unfold cmp;rw [if_pos hx]
   rw [e,if_pos (by decide)] at hc
   rw [← hc];exact ⟨rfl,trivial⟩
  have hx: ¬a[i]<b[i]:=by simpa using hx
  refine And.intro (by omega) ?_
  refine r8 (I a[i]) (by simp;omega) (by simp [h1]) ?_
  refine And.intro (by omega) ?_
  refine r8 (I b[i]) (by simp;omega) (by simp [h2]) ?_
  refine rM trivial (fun hy=>?_) (fun hy=>?_)
  ·have hy:a[i]>b[i]:=by simpa using hy
   have e:cmp a[i] b[i]=1:=by unfold cmp;rw [if_neg hx,if_pos hy]
   rw [e,if_pos (by decide)] at hc
   rw [← hc];exact ⟨rfl,trivial⟩
  have hy: ¬a[i]>b[i]:=by simpa using hy
  have e:cmp a[i] b[i]=0:=by unfold cmp;rw [if_neg hx,if_neg hy]
  rw [e,if_neg (by decide)] at hc
  refine ⟨i+1,⟨hlt,hc⟩,by omega,?_⟩
  exact ⟨⟨.same _,.same _,leI (by rw [mj] <;> omega),trivial⟩,⟨.same _,.same _,trivial⟩,trivial,rfl,fun _ _ _=>trivial,rfl⟩
 ·have hge:10≤i:=by simp at hl;omega
  rw [List.drop_eq_nil_of_le (by omega),List.drop_eq_nil_of_le (by omega)] at hc
  rw [← hc]
  exact ⟨rfl,trivial⟩
theorem t11 (h:List Int) (hh:h.length=10):DCalls Tryz.prog 14 [hd h] (.bool (tR h)):=by
 refine qB (rs:=[.tmp 2]) mixed Tryz.func14 l14 rfl rfl rfl (r:=[.bool (tR h)]) (nlZ rfl) ?_
 refine And.intro (by simp [hh]) ?_
 refine qX (α:=Nat) (fun i=>{sl:=[(1,.ptr 1 0),(3,.t (I i))],bx:=[(1,.d 10 (h.map I))]}) (fun i=>i≤10∧tR (h.drop i)=tR h) (fun i=>10 - i) 0 (by simp) ?_ ?_
 ·exact ⟨⟨.same _,.same _,trivial⟩,⟨.same _,trivial⟩,trivial,rfl,fun _ _ _=>trivial,rfl⟩
 rintro i ⟨hi,hc⟩
 refine rM trivial (fun hl=>?_) (fun hl=>?_)
 ·have hlt:i<10:=by simp at hl;omega
  have h1:i<h.length:=by omega
  have hc:(decide (0≤h[i])&&decide (h[i]≤65535)&&tR (h.drop (i+1)))=tR h:=by
   rw [← hc,List.drop_eq_getElem_cons h1];rfl
  refine And.intro (by omega) ?_
  refine r8 (I h[i]) (by simp;omega) (by simp [h1]) ?_
  refine rM trivial (fun hx=>?_) (fun hx=>?_)
  ·have hx:h[i]<0:=by simpa using hx
   rw [← hc,decide_eq_false (by omega)]
   exact ⟨rfl,trivial⟩
  have hx: ¬h[i]<0:=by simpa using hx
  refine And.intro (by omega) ?_
  refine r8 (I h[i]) (by simp;omega) (by simp [h1]) ?_
  refine rM trivial (fun hy=>?_) (fun hy=>?_)
  ·have hy:h[i]>65535:=by simpa using hy
   rw [← hc,decide_eq_false (p:=h[i]≤65535) (by omega),Bool.and_false,Bool.false_and]
   exact ⟨rfl,trivial⟩
  have hy: ¬h[i]>65535:=by simpa using hy
  refine ⟨i+1,⟨hlt,?_⟩,by omega,?_⟩
  ·rw [← hc,decide_eq_true (by omega),decide_eq_true (by omega)];rfl
  ·exact ⟨⟨.same _,leI (by rw [mj] <;> omega),trivial⟩,⟨.same _,trivial⟩,trivial,rfl,fun _ _ _=>trivial,rfl⟩
 ·have hge:10≤i:=by simp at hl;omega
  rw [List.drop_eq_nil_of_le (by omega)] at hc
  rw [← hc]
  exact ⟨rfl,trivial⟩
theorem t14 (a b:List (List Int)) (ha: ∀x∈a,x.length=10) (hb: ∀x∈b,x.length=10) (hl:a.length<2^62):DCalls Tryz.prog 12 [sd a,sd b] (.bool (a==b)):=by
 refine qB (rs:=[.tmp 4]) mixed Tryz.func12 l12 rfl rfl rfl (r:=[.bool (a==b)]) (nlZ rfl) ?_
 refine rM trivial (fun h=>?_) (fun h=>?_)
 ·have h:a.length≠b.length:=by simp at h;omega
  have:(a==b)=false:=by
   refine Bool.eq_false_iff.2 fun e=>h ?_
   rw [eq_of_beq e]
  rw [this];exact ⟨rfl,trivial⟩
 have h:a.length=b.length:=by simp at h;omega
 refine qX (α:=Nat) (fun i=>{sl:=[(0,.t (sd a)),(1,.t (sd b)),(5,.t (I i))],bx:=[]}) (fun i=>i≤a.length∧(a.drop i==b.drop i)=(a==b)) (fun i=>a.length - i) 0 (by simp) ?_ ?_
 ·exact ⟨⟨.same _,.same _,.same _,trivial⟩,trivial,trivial,rfl,fun _ _ _=>trivial,rfl⟩
 rintro i ⟨hi,hc⟩
 refine rM trivial (fun hq=>?_) (fun hq=>?_)
 ·have h1:i<a.length:=by simpa using hq
  have h2:i<b.length:=by omega
  have x1:=ha _ (List.getElem_mem h1)
  have x2:=hb _ (List.getElem_mem h2)
  have hc:(a[i]==b[i]&&a.drop (i+1)==b.drop (i+1))=(a==b):=by
   rw [← hc,List.drop_eq_getElem_cons h1,List.drop_eq_getElem_cons h2];rfl
  refine r8 (hd a[i]) (by simpa using h1) (by simp [h1]) ?_
  refine r8 (hd a[i]) (by simpa [hd,T.cells] using x1) rfl ?_
  refine r8 (hd b[i]) (by simpa using h2) (by simp [h2]) ?_
  refine r8 (hd b[i]) (by simpa [hd,T.cells] using x2) rfl ?_
  have he:=za (x1.trans x2.symm)
  refine rM ⟨wk x1,wk x2⟩ (fun hx=>?_) (fun hx=>?_)
  ·have hx:(!(a[i]==b[i]))=true:=by rw [← he];exact hx
   have hx:(a[i]==b[i])=false:=by simpa using hx
   rw [← hc,hx];exact ⟨rfl,trivial⟩
  ·have hx:(!(a[i]==b[i]))=false:=by rw [← he];exact hx
   have hx:(a[i]==b[i])=true:=by simpa using hx
   refine ⟨i+1,⟨h1,by rw [← hc,hx];rfl⟩,by omega,?_⟩
   exact ⟨⟨.same _,.same _,leI (by rw [mj] <;> omega),trivial⟩,trivial,trivial,rfl,fun _ _ _=>trivial,rfl⟩
 ·have hge:a.length≤i:=by simpa using hq
  rw [List.drop_eq_nil_of_le (by omega),List.drop_eq_nil_of_le (by omega)] at hc
  rw [← hc]
  exact ⟨rfl,trivial⟩
theorem t44 (hs:List (List Int)) (h:List Int) (hw: ∀x∈hs,x.length=10) (hh:h.length=10) (hl:hs.length<2^40):DCalls Tryz.prog 34 [sd hs,hd h] (sd (tf hs h)):=by
 refine qB (rs:=[.tmp 4]) mixed Tryz.func34 l34 rfl rfl rfl (r:=[sd (tf hs h)]) (nlZ rfl) ?_
 refine And.intro (by simp [hh]) ?_
 have hble:=wy h hs
 refine qN (α:=Nat) (β:=Unit) 0 (fun i=>{sl:=[(0,.t (sd hs)),(3,.ptr 3 0),(5,.t (I i))],bx:=[(3,.d 10 (h.map I))]}) (fun i=>i≤below h hs) (fun i=>hs.length - i)
  (fun _=>{sl:=[(0,.t (sd hs)),(3,.ptr 3 0),(5,.t (I (below h hs)))],bx:=[(3,.d 10 (h.map I))]}) (fun _=>True) 0 (by simp) ?_ ?_ ?_
 ·exact ⟨⟨.same _,.same _,.same _,trivial⟩,⟨.same _,trivial⟩,trivial,rfl,fun _ _ _=>trivial,rfl⟩
 ·rintro i hi
  refine rM trivial (fun hq=>?_) (fun hq=>?_)
  ·have h1:i<hs.length:=by simpa using hq
   have x1:=hw _ (List.getElem_mem h1)
   refine r8 (hd hs[i]) (by simpa using h1) (by simp [h1]) ?_
   refine r8 (hd hs[i]) (by simpa [hd,T.cells] using x1) rfl ?_
   refine rq _ (t41 hs[i] h x1 hh) ?_
   refine rM trivial (fun hc=>?_) (fun hc=>?_)
   ·have hc:su hs[i] h<0:=by simpa using hc
    have hlt:i<below h hs:=by
     rcases Nat.lt_or_ge i (below h hs) with h2|h2
     ·exact h2
     ·exfalso
      obtain rfl:i=below h hs:=by omega
      exact vH h1 hc
    refine ⟨i+1,hlt,by omega,?_⟩
    exact ⟨⟨.same _,.same _,leI (by rw [mj] <;> omega),trivial⟩,⟨.same _,trivial⟩,trivial,rfl,fun _ _ _=>trivial,rfl⟩
   ·have hc: ¬su hs[i] h<0:=by simpa using hc
    have e:i=below h hs:=by
     rcases Nat.lt_or_ge i (below h hs) with h2|h2
     ·exact absurd (vI h2 h1) hc
     ·omega
    subst e
    exact ⟨(),trivial,⟨.same _,.same _,.same _,trivial⟩,⟨.same _,trivial⟩,trivial,rfl,fun _ _ _=>trivial,rfl⟩
  ·have hge:hs.length≤i:=by simpa using hq
   have e:i=below h hs:=by omega
   subst e
   exact ⟨(),trivial,⟨.same _,.same _,.same _,trivial⟩,⟨.same _,trivial⟩,trivial,rfl,fun _ _ _=>trivial,rfl⟩
 ·rintro - -
  refine rf (β:=Unit) (fun _=>{sl:=[(0,.t (sd hs)),(3,.ptr 3 0),(5,.t (I (below h hs)))],bx:=[(3,.d 10 (h.map I))]}) (fun _=>tf hs h=hs.take (below h hs)++h::hs.drop (below h hs)) ?_ ?_
  ·refine rM trivial (fun hq=>?_) (fun hq=>?_)
   ·have h1:below h hs<hs.length:=by simpa using hq
    have x1:=hw _ (List.getElem_mem h1)
    refine r8 (hd hs[below h hs]) (by simpa using h1) (by simp [h1]) ?_
    refine r8 (hd hs[below h hs]) (by simpa [hd,T.cells] using x1) rfl ?_
    have he:=za (x1.trans hh.symm)
    have hp:=yz (h:=h) hs
    rw [dif_pos h1] at hp
    refine rM ⟨wk x1,wk hh⟩ (fun hx=>?_) (fun hx=>?_)
    ·have hx:hs[below h hs]=h:=eq_of_beq (he.symm.trans hx)
     rw [if_pos hx] at hp
     rw [hp]
     exact ⟨rfl,trivial⟩
    ·have hx: ¬hs[below h hs]=h:=fun e=>by
      have:=he.symm.trans hx
      rw [e] at this;simp at this
     rw [if_neg hx] at hp
     exact ⟨(),hp,⟨.same _,.same _,.same _,trivial⟩,⟨.same _,trivial⟩,trivial,rfl,fun _ _ _=>trivial,rfl⟩
   ·have h1: ¬below h hs<hs.length:=by simpa using hq
    have hp:=yz (h:=h) hs
    rw [dif_neg h1] at hp
    exact ⟨(),hp,⟨.same _,.same _,.same _,trivial⟩,⟨.same _,trivial⟩,trivial,rfl,fun _ _ _=>trivial,rfl⟩
  ·rintro - hp
   refine r8 (.slice 10 ((hs.take (below h hs)).map hd)) (by simp;omega) (by simp [List.map_take]) ?_
   refine ⟨.inl rfl,by simp;omega,?_⟩
   refine And.intro (by simp [hh]) ?_
   refine ⟨.inl rfl,by simp;omega,?_⟩
   refine r8 (.slice 10 ((hs.drop (below h hs)).map hd)) (by simp;omega) (by simp [List.map_drop,List.take_of_length_le]) ?_
   refine ⟨.inl rfl,by simp;omega,?_⟩
   have e:T.slice 10 (((hs.take (below h hs)).map hd++[.agg (h.map I)])++(hs.drop (below h hs)).map hd)=sd (tf hs h):=by rw [hp];simp [sd,hd]
   exact ⟨congrArg some e,trivial⟩
theorem t15 (a b:List (List Int)) (ha: ∀x∈a,x.length=10) (hb: ∀x∈b,x.length=10) (hl:a.length+b.length<2^40):DCalls Tryz.prog 11 [sd a,sd b] (sd (b.foldl tf a)):=by
 refine qB (rs:=[.tmp 4]) mixed Tryz.func11 l11 rfl rfl rfl (r:=[sd (b.foldl tf a)]) (nlZ rfl) ?_
 refine And.intro trivial ?_
 refine ⟨.inl rfl,by simp;omega,?_⟩
 have inv: ∀i,i≤b.length→(∀ x∈(b.take i).foldl tf a,x.length=10)∧((b.take i).foldl tf a).length≤a.length+i:=fun i=>by
  induction i with
  |zero=>exact fun _=>⟨ha,by simp⟩
  |succ i ih=>
   intro hi
   obtain ⟨h1,h2⟩:=ih (by omega)
   rw [List.take_succ_eq_append_getElem (by omega),List.foldl_append]
   refine ⟨fun x hx=>?_,?_⟩
   ·rcases zo hx with rfl|hx
    ·exact hb _ (List.getElem_mem _)
    ·exact h1 x hx
   ·have:=Bq (b[i]'(by omega)) ((b.take i).foldl tf a)
    simp only [List.foldl_cons,List.foldl_nil]
    omega
 refine qX (α:=Nat) (fun i=>{sl:=[(1,.t (sd b)),(5,.t (sd ((b.take i).foldl tf a))),(6,.t (I i))],bx:=[]}) (fun i=>i≤b.length) (fun i=>b.length - i) 0 (by simp) ?_ ?_
 ·exact ⟨⟨.same _,.conv _ (sd a) [] rfl (by simp),.same _,trivial⟩,trivial,trivial,rfl,fun _ _ _=>trivial,rfl⟩
 rintro i hi
 obtain ⟨i1,i2⟩:=inv i hi
 refine rM trivial (fun hq=>?_) (fun hq=>?_)
 ·have h1:i<b.length:=by simpa using hq
  have x1:=hb _ (List.getElem_mem h1)
  refine r8 (hd b[i]) (by simpa using h1) (by simp [h1]) ?_
  refine r8 (hd b[i]) (by simpa [hd,T.cells] using x1) rfl ?_
  refine rq _ (t44 _ b[i] i1 x1 (by omega)) ?_
  refine ⟨i+1,h1,by omega,?_⟩
  exact ⟨⟨.same _,leT (by rw [List.take_succ_eq_append_getElem h1,List.foldl_append];rfl),leI (by rw [mj] <;> omega),trivial⟩,trivial,trivial,rfl,fun _ _ _=>trivial,rfl⟩
 ·have hge:b.length≤i:=by simpa using hq
  have e:sd ((b.take i).foldl tf a)=sd (b.foldl tf a):=by rw [List.take_of_length_le hge]
  exact ⟨congrArg some e,trivial⟩
theorem t45 (hs:List (List Int)) (h:List Int) (hsr:Srt hs) (hw:sC hs) (hh:h.length=10) (hl:hs.length<2^40):
  DCalls Tryz.prog 43 [sd hs,hd h,.clos 44 []] (.tup [I (below h hs),.bool (hs.contains h)]):=by
 refine qB (rs:=[.tmp 6,.tmp 7]) mixed Tryz.func43 l43 rfl rfl rfl (r:=[I (below h hs),.bool (hs.contains h)]) (nlZ rfl) ?_
 have hble:=wy h hs
 refine And.intro (by simp [hh]) ?_
 refine qX (α:=Nat×Nat) (fun p=>{sl:=[(0,.t (sd hs)),(2,.t (.clos 44 [])),(4,.ptr 4 0),(8,.t (I hs.length)),(9,.t (I p.1)),(10,.t (I p.2))],bx:=[(4,.d 10 (h.map I))]})
  (fun p=>p.1≤below h hs∧below h hs≤p.2∧p.2≤hs.length) (fun p=>p.2 - p.1) (0,hs.length) (by simp;omega) ?_ ?_
 ·exact ⟨⟨.same _,.same _,.same _,leI (by simp),.same _,leI (by simp),trivial⟩,⟨.same _,trivial⟩,trivial,rfl,fun _ _ _=>trivial,rfl⟩
 rintro ⟨i,j⟩ ⟨h1,h2,h3⟩
 dsimp only at h1 h2 h3
 refine rM trivial (fun hq=>?_) (fun hq=>?_)
 ·have hij:i<j:=by simp at hq;omega
  refine And.intro (by decide) ?_
  have e1:IntKind.wrap .i64 ((IntKind.wrap .u64 (IntKind.wrap .i64 ((i:Int)+(j:Int)))).fdiv (2^(min (1:Int).toNat (IntKind.bits .u64))))=(((i+j) / 2:Nat):Int):=by
   rw [mj (n:=(i:Int)+j) (by omega) (by omega)]
   have u1: ∀n:Int,0≤n→n<18446744073709551616→IntKind.wrap .u64 n=n:=fun n h0 h1=>by
    unfold IntKind.wrap
    simp [IntKind.bits,IntKind.signed]
    omega
   rw [u1 ((i:Int)+j) (by omega) (by omega)]
   have e2:((i:Int)+(j:Int)).fdiv (2^(min (1:Int).toNat (IntKind.bits .u64)))=(((i+j) / 2:Nat):Int):=by
    show ((i:Int)+(j:Int)).fdiv 2=_
    rw [Int.fdiv_eq_ediv_of_nonneg _ (by omega)];omega
   rw [e2,mj (by omega) (by omega)]
  have h4:(i+j) / 2<hs.length:=by omega
  have x1:=hw _ (List.getElem_mem h4)
  refine r8 (hd hs[(i+j) / 2]) (show 0≤IntKind.wrap .i64 _∧_ by dsimp only;rw [e1];simp;omega) (show (hs.map hd)[(IntKind.wrap .i64 _).toNat]?.getD .nil=_ by dsimp only;rw [e1,Int.toNat_natCast];simp [h4]) ?_
  refine r8 (hd hs[(i+j) / 2]) (by simpa [hd,T.cells] using x1) rfl ?_
  refine rq _ (t46 hs[(i+j) / 2] h x1 hh) ?_
  refine rM trivial (fun hc=>?_) (fun hc=>?_)
  ·have hc:su hs[(i+j) / 2] h<0:=by simpa using hc
   have:(i+j) / 2<below h hs:=by
    rcases Nat.lt_or_ge ((i+j) / 2) (below h hs) with h5|h5
    ·exact h5
    ·exact absurd hc (Bf hsr hw hh h5 h4)
   refine ⟨((i+j) / 2+1,j),⟨this,h2,h3⟩,by simp;omega,?_⟩
   refine ⟨⟨.same _,.same _,.same _,.same _,leI ?_,.same _,trivial⟩,⟨.same _,trivial⟩,trivial,rfl,fun _ _ _=>trivial,rfl⟩
   show (((i+j) / 2+1:Nat):Int)=IntKind.wrap .i64 (IntKind.wrap .i64 _+1)
   dsimp only
   rw [e1,mj] <;> omega
  ·have hc: ¬su hs[(i+j) / 2] h<0:=by simpa using hc
   have:below h hs≤(i+j) / 2:=by
    rcases Nat.lt_or_ge ((i+j) / 2) (below h hs) with h5|h5
    ·exact absurd (vI h5 h4) hc
    ·exact h5
   refine ⟨(i,(i+j) / 2),⟨h1,this,by simp;omega⟩,by simp;omega,?_⟩
   refine ⟨⟨.same _,.same _,.same _,.same _,.same _,leI ?_,trivial⟩,⟨.same _,trivial⟩,trivial,rfl,fun _ _ _=>trivial,rfl⟩
   exact e1.symm
 ·have hij: ¬i<j:=by simp at hq;omega
  obtain rfl:i=below h hs:=by omega
  have hm:=AK hsr hw hh
  refine rM trivial (fun hq=>?_) (fun hq=>?_)
  ·have hb:below h hs<hs.length:=by simp at hq;omega
   have x1:=hw _ (List.getElem_mem hb)
   rw [dif_pos hb] at hm
   refine r8 (hd hs[below h hs]) (by simp;omega) (by simp [hb]) ?_
   refine r8 (hd hs[below h hs]) (by simpa [hd,T.cells] using x1) rfl ?_
   refine rq _ (t46 hs[below h hs] h x1 hh) ?_
   refine rN (hs.contains h) trivial (by rw [hm];by_cases e:su hs[below h hs] h=0 <;> simp [e]) ?_
   exact ⟨rfl,rfl,trivial⟩
  ·have hb: ¬below h hs<hs.length:=by simpa using hq
   rw [dif_neg hb] at hm
   exact ⟨rfl,congrArg (fun b=>some (T.bool b)) hm.symm,trivial⟩
theorem t16 (hs:List (List Int)) (h:List Int) (hsr:Srt hs) (hw:sC hs) (hh:h.length=10) (hl:hs.length<2^40):
  DCalls Tryz.prog 26 [sd hs,hd h] (.bool (hs.contains h)):=by
 refine qB (rs:=[.tmp 4]) mixed Tryz.func26 l26 rfl rfl rfl (r:=[.bool (hs.contains h)]) (nlZ rfl) ?_
 refine And.intro (by simp [hh]) ?_
 refine rq _ (t45 hs h hsr hw hh hl) ?_
 exact ⟨rfl,trivial⟩
end Go.MM
end
section
namespace Go.MM
open Go Go.DL Go.Proofs
def BV (x:List Int) (rest:List (List Int)→List (List Int)) (xa:List (List Int)):List (List Int)→List (List Int)
 |[]=>xa
 |y::b=>if su x y<0 then x::rest (y::b) else if su x y>0 then y::BV x rest xa b else x::rest b
def mrg:List (List Int)→List (List Int)→List (List Int)
 |[]=>fun b=>b
 |x::a=>BV x (mrg a) (x::a)
def nx:List (List Int)→List (List Int)→Int
 |[],_=>1
 |_::_,[]=> -1
 |x::_,y::_=>su x y
theorem vE: ∀a,mrg a []=a
 |[]=>rfl
 |_::_=>rfl
theorem xX (x y:List Int) (a b:List (List Int)):mrg (x::a) (y::b)=if su x y<0 then x::mrg a (y::b) else if su x y>0 then y::mrg (x::a) b else x::mrg a b:=rfl
theorem yf {x:List Int} {a b:List (List Int)} (h:nx (x::a) b<0):mrg (x::a) b=x::mrg a b:=by
 cases b with
 |nil=>rw [vE,vE]
 |cons y b=>rw [xX,if_pos (show su x y<0 from h)]
theorem ye {y:List Int} {a b:List (List Int)} (h:0<nx a (y::b)):mrg a (y::b)=y::mrg a b:=by
 cases a with
 |nil=>rfl
 |cons x a=>
  have h:0<su x y:=h
  rw [xX,if_neg (by omega),if_pos h]
theorem zh {x y:List Int} {a b:List (List Int)} (h:nx (x::a) (y::b)=0):mrg (x::a) (y::b)=x::mrg a b:=by
 have h:su x y=0:=h
 rw [xX,if_neg (by omega),if_neg (by omega)]
def sY (id:Nat) (c:Option Code):Array Oper:=match rg0 id c with
 |.region _ ops _=>ops
 |_=> #[]
theorem b13:Tryz.f61.body=some (.seq (.region 0 (sY 0 Tryz.f61.body) false) (.seq (.region 1 (sY 1 Tryz.f61.body) false) (.seq (.seq (.region 2 (sY 2 Tryz.f61.body) false)
  (.block 0 (.rangeFunc (.tmp 9) #[10] (.region 3 (sY 3 Tryz.f61.body) false) (.block 1 (.region 4 (sY 4 Tryz.f61.body) false))))) (.seq (.region 5 (sY 5 Tryz.f61.body) false) .ret)))):=by kernel_rfl
abbrev u5:List T:=[I 0,I 0,I 0,I 0,I 0,I 0,I 0,I 0,I 0,I 0]
theorem DA:bN Tryz.prog 16 [] (sY 3 Tryz.f61.body) (sY 3 Tryz.f61.body).toList=some [⟨some 6,.alloc u5,none,[]⟩,⟨none,.store 10 (.tmp 6) (.tmp 10),none,[0,0]⟩]:=by kernel_rfl
theorem DB:bN Tryz.prog 16 [] (sY 4 Tryz.f61.body) (sY 4 Tryz.f61.body).toList=some [⟨some 11,.load 1 false (.tmp 5),none,[]⟩,⟨some 12,.load 10 true (.tmp 6),none,[]⟩,
  ⟨some 13,.buildS 30 10 1 u5 [(0,.tmp 12)],none,[1]⟩,⟨some 14,.append 35 30 10 80 (.tmp 11) (.tmp 13),none,[0,2]⟩,⟨none,.store 1 (.tmp 5) (.tmp 14),none,[3,3,0,1,2,3]⟩]:=by kernel_rfl
noncomputable abbrev y67:Array Oper:=sY 12 Tryz.f105.body
theorem b67:rg0 12 Tryz.f105.body= .region 12 y67 false:=by kernel_rfl
theorem DD:dK Tryz.prog 47 y67 [0,1]=some [⟨some 43,.mov (.tmp 0),none,[]⟩,⟨some 44,.load 10 true (.tmp 5),none,[]⟩]:=by kernel_rfl
theorem DE:dK Tryz.prog 47 y67 [3]=some [⟨some 46,.not (.tmp 45),none,[2]⟩]:=by kernel_rfl
theorem DF: ∃o ats,y67[2]? =some o∧o.guard=none∧o.op= .call {callee:=.value (.tmp 43),args:= #[.tmp 44],argTypes:=ats }∧o.dst=some 45:=by
 refine ⟨((sY 12 Tryz.f105.body)[2]?).getD default,(match (((sY 12 Tryz.f105.body)[2]?).getD default).op with|.call c=>c.argTypes|_=> #[]),by kernel_rfl,by kernel_rfl,by kernel_rfl,by kernel_rfl⟩
abbrev FA (l d:Nat) (f:FuncId) (tmps:Array Value):aa→World→Prop:=mX l (cK f tmps 10 (.region 3 (sY 3 Tryz.f61.body) false) (.block 1 (.region 4 (sY 4 Tryz.f61.body) false)) d)
abbrev W67 (l:Nat) (C:aa→World→Prop) (a b out:List (List Int)) (sl:List (Nat×V)) (bx:List (Nat×BX)):Wk:=
 {sl:=(0,.raw (.func (.yield l) #[] #[]))::(1,.ptr 1002 0)::(2,.ptr 1003 0)::sl,bx:=(5,.v [.own 3014 30 10 (out.map hd)])::(1002,.d 1 [sd a])::(1003,.d 1 [sd b])::bx,
  gh:=[(0,[(5,.ptr 5 0)])],off:=2000,cx:=C }
theorem CU (l d:Nat) (f:FuncId) (tmps:Array Value) (ht:tmps.size=16) (C:aa→World→Prop) (hC: ∀S w,C S w→FA l d f tmps S w) (a b:List (List Int)) (ha:sC a) (hb:sC b) (hl:a.length+b.length<2^40) (K:St→Prop) (st st0:St) (hw0:bQ (W67 l C a b [] [] []) st0)
  (hK: ∀st2:St,st2.gh 0=lk .top [(5,.ptr 5 0)]→st2.bx=lk none [(5,some (.v [.own 3014 30 10 ((mrg a b).map hd)])),(1002,some (.d 1 [sd []])),(1003,some (.d 1 [sd []]))]→K (st2.back st)):
  wpC Tryz.prog CT st0 (qw st K):=by
 refine qX (α:=List (List Int)×List (List Int)×List (List Int)) (fun p=>W67 l C p.1 p.2.1 p.2.2 [] [])
  (fun p=>sC p.1∧sC p.2.1∧p.2.2++mrg p.1 p.2.1=mrg a b∧p.2.2.length+p.1.length+p.2.1.length≤a.length+b.length) (fun p=>p.1.length+p.2.1.length) (a,b,[]) ⟨ha,hb,rfl,by simp⟩ hw0 ?_
 rintro ⟨a1,b1,out⟩ ⟨q1,q2,q3,q4⟩
 dsimp only at q1 q2 q3 q4
 refine rf (β:=Unit) (fun _=>W67 l C a1 b1 out [] []) (fun _=>a1≠[]∨b1≠[]) ?_ ?_
 ·refine r8 (sd a1) (by decide) rfl ?_
  rcases a1 with _|⟨x,a1⟩
  ·refine rN false trivial rfl ?_
   refine r8 (sd b1) (by decide) rfl ?_
   rcases b1 with _|⟨y,b1⟩
   ·refine rN false trivial rfl ?_
    have e:out=mrg a b:=by rw [← q3,vE,List.append_nil]
    subst e
    exact hK _ rfl rfl
   ·refine rN true trivial (by simp) ?_
    exact ⟨(),.inr (by simp),⟨.same _,.same _,.same _,trivial⟩,⟨.same _,.same _,.same _,trivial⟩,⟨⟨.same _,trivial⟩,trivial⟩,rfl,fun _ _ h=>h,rfl⟩
  ·refine rN true trivial (by simp) ?_
   exact ⟨(),.inl (by simp),⟨.same _,.same _,.same _,trivial⟩,⟨.same _,.same _,.same _,trivial⟩,⟨⟨.same _,trivial⟩,trivial⟩,rfl,fun _ _ h=>h,rfl⟩
 rintro - hne
 refine rf (β:=Unit) (fun _=>W67 l C a1 b1 out [(4,.t (I (nx a1 b1)))] []) (fun _=>True) ?_ ?_
 ·refine r8 (sd a1) (by decide) rfl ?_
  rcases a1 with _|⟨x,a1⟩
  ·refine rN true trivial rfl ?_
   exact ⟨(),trivial,⟨.same _,.same _,.same _,.same _,trivial⟩,⟨.same _,.same _,.same _,trivial⟩,⟨⟨.same _,trivial⟩,trivial⟩,rfl,fun _ _ h=>h,rfl⟩
  ·refine rN false trivial (by simp;omega) ?_
   refine r8 (sd b1) (by decide) rfl ?_
   rcases b1 with _|⟨y,b1⟩
   ·refine rN true trivial rfl ?_
    exact ⟨(),trivial,⟨.same _,.same _,.same _,.same _,trivial⟩,⟨.same _,.same _,.same _,trivial⟩,⟨⟨.same _,trivial⟩,trivial⟩,rfl,fun _ _ h=>h,rfl⟩
   ·refine rN false trivial (by simp;omega) ?_
    refine r8 (sd (x::a1)) (by decide) rfl ?_
    refine r8 (hd x) (by simp) rfl ?_
    refine r8 (hd x) (by simpa [hd,T.cells] using q1 x (by simp)) rfl ?_
    refine r8 (sd (y::b1)) (by decide) rfl ?_
    refine r8 (hd y) (by simp) rfl ?_
    refine r8 (hd y) (by simpa [hd,T.cells] using q2 y (by simp)) rfl ?_
    refine rq _ (t46 x y (q1 x (by simp)) (q2 y (by simp))) ?_
    exact ⟨(),trivial,⟨.same _,.same _,.same _,.same _,trivial⟩,⟨.same _,.same _,.same _,trivial⟩,⟨⟨.same _,trivial⟩,trivial⟩,rfl,fun _ _ h=>h,rfl⟩
 rintro - -
 have z10:(List.replicate 10 (0:Int)).map I=u5:=rfl
 refine rf (β:=List Int×List (List Int)) (fun q=>W67 l C a1 q.2 out [(4,.t (I (nx a1 b1))),(5,.ptr 2005 0)] [(2005,.d 10 (q.1.map I))])
  (fun q=>q.1.length=10∧sC q.2∧(nx a1 b1<0→q.2=b1)∧(0≤nx a1 b1→b1=q.1::q.2)) ?_ ?_
 ·by_cases hn:0≤nx a1 b1
  ·rcases b1 with _|⟨y,b1⟩
   ·exfalso
    rcases a1 with _|⟨x,a1⟩
    ·exact hne.elim (fun h=>h rfl) (fun h=>h rfl)
    ·have:(0:Int)≤ -1:=hn
     omega
   have hy:=q2 y (by simp)
   refine rN true trivial (by simpa using hn) ?_
   refine And.intro rfl ?_
   refine r8 (sd (y::b1)) (by decide) rfl ?_
   refine And.intro rfl ?_
   refine r8 (hd y) (by simp) rfl ?_
   refine And.intro rfl ?_
   refine r8 (hd y) (by simpa [hd,T.cells] using hy) rfl ?_
   refine And.intro rfl ?_
   refine r8 (sd (y::b1)) (by decide) rfl ?_
   refine And.intro rfl ?_
   refine r8 (sd b1) (by simp;omega) (by simp [sd,List.take_of_length_le]) ?_
   refine And.intro rfl ?_
   refine And.intro ⟨by simp [hy],by decide⟩ ?_
   refine And.intro rfl ?_
   refine And.intro (by decide) ?_
   refine ⟨(y,b1),⟨hy,fun x hx=>q2 x (by simp [hx]),fun h=>absurd hn (by omega),fun _=>rfl⟩,?_⟩
   exact ⟨⟨.same _,.same _,.same _,.same _,.same _,trivial⟩,⟨.same _,.same _,.same _,r9 (by simp [aJ]),trivial⟩,⟨⟨.same _,trivial⟩,trivial⟩,rfl,fun _ _ h=>h,rfl⟩
  ·refine rN false trivial (by simpa using hn) ?_
   refine ⟨(List.replicate 10 0,b1),⟨rfl,q2,fun _=>rfl,fun h=>absurd h hn⟩,?_⟩
   exact ⟨⟨.same _,.same _,.same _,.same _,.same _,trivial⟩,⟨.same _,.same _,.same _,.same _,trivial⟩,⟨⟨.same _,trivial⟩,trivial⟩,rfl,fun _ _ h=>h,rfl⟩
 rintro ⟨h1,b2⟩ ⟨r1,r2,r3,r4⟩
 dsimp only at r1 r2 r3 r4
 refine rf (β:=List Int×List (List Int)) (fun q=>W67 l C q.2 b2 out [(5,.ptr 2005 0)] [(2005,.d 10 (q.1.map I))])
  (fun q=>q.1.length=10∧sC q.2∧mrg a1 b1=q.1::mrg q.2 b2∧q.2.length+b2.length+1≤a1.length+b1.length) ?_ ?_
 ·by_cases hn:nx a1 b1≤0
  ·rcases a1 with _|⟨x,a1⟩
   ·exfalso
    have:(1:Int)≤0:=hn
    omega
   have hx:=q1 x (by simp)
   have hm:mrg (x::a1) b1=x::mrg a1 b2:=by
    rcases Int.lt_or_eq_of_le hn with h|h
    ·rw [r3 h];exact yf h
    ·have e:=r4 (by omega)
     rw [e] at h ⊢
     exact zh h
   have hlen:b2.length≤b1.length:=by
    rcases Int.lt_or_eq_of_le hn with h|h
    ·rw [r3 h];exact Nat.le_refl _
    ·rw [r4 (by omega)];simp
   refine rN true trivial (by simpa using hn) ?_
   refine And.intro rfl ?_
   refine r8 (sd (x::a1)) (by decide) rfl ?_
   refine And.intro rfl ?_
   refine r8 (hd x) (by simp) rfl ?_
   refine And.intro rfl ?_
   refine r8 (hd x) (by simpa [hd,T.cells] using hx) rfl ?_
   refine And.intro rfl ?_
   refine r8 (sd (x::a1)) (by decide) rfl ?_
   refine And.intro rfl ?_
   refine r8 (sd a1) (by simp;omega) (by simp [sd,List.take_of_length_le]) ?_
   refine And.intro rfl ?_
   refine And.intro ⟨by simp [hx],by decide⟩ ?_
   refine And.intro rfl ?_
   refine And.intro (by decide) ?_
   refine ⟨(x,a1),⟨hx,fun x hx=>q1 x (by simp [hx]),hm,by simp;omega⟩,?_⟩
   exact ⟨⟨.same _,.same _,.same _,.same _,trivial⟩,⟨.same _,.same _,.same _,r9 (by simp [aJ,r1]),trivial⟩,⟨⟨.same _,trivial⟩,trivial⟩,rfl,fun _ _ h=>h,rfl⟩
  ·have hn':0<nx a1 b1:=by omega
   have e:=r4 (by omega)
   refine rN false trivial (by simpa using hn) ?_
   refine ⟨(h1,a1),⟨r1,q1,?_,?_⟩,?_⟩
   ·rw [e] at hn' ⊢;exact ye hn'
   ·rw [e];simp;omega
   ·exact ⟨⟨.same _,.same _,.same _,.same _,trivial⟩,⟨.same _,.same _,.same _,.same _,trivial⟩,⟨⟨.same _,trivial⟩,trivial⟩,rfl,fun _ _ h=>h,rfl⟩
 rintro ⟨h2,a2⟩ ⟨s1,s2,s3,s4⟩
 dsimp only at s1 s2 s3 s4
 obtain ⟨o,ats,o1,o2,o3,o4⟩:=DF
 have hsem: ∀(st:St) (Q:av→St→Prop),pP Tryz.prog 47 (.region 12 y67 false) st Q→pP Tryz.prog 47 (rg0 12 Tryz.f105.body) st Q:=fun st Q h=>by rw [b67];exact h
 refine hsem _ _ ?_
 refine qO (P:=Tryz.prog) (k1:=[0,1]) (k:=2) (k2:=[3]) (by kernel_rfl) DD rfl DE rfl o1 o2 o3 o4 (by decide) (p:=10) ht (by decide) DA rfl DB rfl 3000 (l:=l) (fn:=f) (dd:=d) (id1:=3) (id2:=4) (bl:=1) ?_
 refine ⟨hC,rfl,?_⟩
 refine And.intro ⟨by simp [s1],by decide⟩ ?_
 refine ⟨fun _ _=>trivial,?_⟩
 have hlen:out.length+1<2^40:=by omega
 refine And.intro (by simp [aJ,s1]) ?_
 refine And.intro (.inl rfl) ?_
 refine And.intro (by simp;omega) ?_
 refine And.intro (Nat.lt_succ_self 0) ?_
 refine ⟨fun _ _=>trivial,?_⟩
 refine ⟨(a2,b2,out++[h2]),⟨s2,r2,?_,?_⟩,by simp;omega,?_⟩
 ·rw [← q3,s3];simp
 ·simp;omega
 ·refine ⟨⟨.same _,.same _,.same _,trivial⟩,⟨?_,.same _,.same _,trivial⟩,⟨⟨.same _,trivial⟩,trivial⟩,rfl,fun _ _ h=>h,rfl⟩
  refine .v _ _ ⟨rO ?_,trivial⟩
  simp [aJ,hd]
theorem Dx:bN Tryz.prog 16 [] (sY 0 Tryz.f61.body) (sY 0 Tryz.f61.body).toList=some [⟨some 4,.mov (.const .nil),none,[]⟩]:=by kernel_rfl
abbrev CZ:List DI:=[⟨some 5,.alloc [.nil],none,[]⟩]
abbrev C0:List DI:=[⟨some 7,.mov (.tmp 0),none,[]⟩,⟨some 8,.mov (.tmp 1),none,[]⟩,⟨some 9,.inl 84 [.tmp 7,.tmp 8],none,[0,1]⟩]
theorem Dy:bN Tryz.prog 16 [] (sY 1 Tryz.f61.body) (sY 1 Tryz.f61.body).toList=some [⟨some 5,.alloc [.nil],none,[]⟩]:=by kernel_rfl
theorem Dz:bN Tryz.prog 16 [84] (sY 2 Tryz.f61.body) (sY 2 Tryz.f61.body).toList=some [⟨some 7,.mov (.tmp 0),none,[]⟩,⟨some 8,.mov (.tmp 1),none,[]⟩,⟨some 9,.inl 84 [.tmp 7,.tmp 8],none,[0,1]⟩]:=by kernel_rfl
theorem DC:bN Tryz.prog 16 [] (sY 5 Tryz.f61.body) (sY 5 Tryz.f61.body).toList=some [⟨some 15,.load 1 false (.tmp 5),none,[]⟩,⟨some 4,.mov (.tmp 15),none,[0,0]⟩]:=by kernel_rfl
theorem wG (hs:List (List Int)): ∀t∈(hs.map hd).flatMap T.cells,t.flat=true:=fun t ht=>by
 simp only [List.mem_flatMap,List.mem_map] at ht
 obtain ⟨x,⟨h,_,rfl⟩,hx⟩:=ht
 simp only [hd,T.cells,List.mem_map] at hx
 obtain ⟨n,_,rfl⟩:=hx
 rfl
theorem t13 (a b:List (List Int)) (ha:sC a) (hb:sC b) (hl:a.length+b.length<2^40):eJ Tryz.prog 61 [sd a,sd b] 30 10 ((mrg a b).map hd) []:=by
 refine qp Tryz.func61 b13 rfl (nlZ rfl) (wG _) (fun t h=>by cases h) ?_
 intro S w a0 hsr hdf
 let K0:St→Prop:=fun st=>aw Tryz.prog CZ st fun st=>aw Tryz.prog C0 st fun st=>
  bQ {sl:=[(5,.ptr 5 0),(9,.fn 105 [.ptr 1002 0,.ptr 1003 0])],bx:=[(5,.d 1 [.nil]),(1002,.d 1 [sd a]),(1003,.d 1 [sd b])]} st
 have hK0:aw Tryz.prog [⟨some 4,.mov (.const .nil),none,[]⟩] (dC [sd a,sd b]) K0:=by
  refine rh mixed Tryz.func84 l84 rfl rfl (rs:=[.tmp 4]) rfl 1000 (nlZ rfl) ?_
  refine And.intro trivial ?_
  refine And.intro trivial ?_
  refine ⟨_,rfl,?_⟩
  exact ⟨⟨.same _,.same _,trivial⟩,⟨.same _,.same _,.same _,trivial⟩,trivial,rfl,fun _ _ _=>trivial,rfl⟩
 refine wp_seq (nq (X:=[]) (N:=16) hsr Dx (fun a1 w1 h1=>?_) hK0)
 obtain ⟨E1,s1,rfl,k1,k2,k3⟩:=h1
 refine wp_seq (nq (X:=[]) k1 Dy (fun a2 w2 h2=>?_) k3)
 obtain ⟨E2,s2,rfl,k4,k5,k6⟩:=h2
 refine wp_seq (wp_seq (nq (X:=[84]) k4 Dz (fun a3 w3 h3=>?_) k6))
 obtain ⟨E3,s3,rfl,k7,k8,k9⟩:=h3
 obtain ⟨E4,e4,k10⟩:=k7.bQ k9
 rw [← e4]
 refine wp_block ?_
 refine qS mixed k10 (fun _ _=>trivial) (y:=.tmp 9) rfl (gf:=105) (caps:=[.ptr 1002 0,.ptr 1003 0]) rfl Tryz.func105 FB rfl rfl rfl (by decide) 2000
  (K:=fun st=>st.sl=lk .top [(5,.ptr 5 0)]∧st.bx=lk none [(5,some (.v [.own 3014 30 10 ((mrg a b).map hd)])),(1002,some (.d 1 [sd []])),(1003,some (.d 1 [sd []]))]∧ ∀S w,st.cx S w) (fun l d f tmps ht=>?_) (fun a5 w5 h5=>?_)
 ·refine CU l d f tmps ht _ (fun _ _ h=>h) a b ha hb hl _ _ _ ?_ (fun st2 h1 h2=>⟨h1,h2,fun _ _=>trivial⟩)
  exact ⟨⟨.same _,.same _,.same _,trivial⟩,⟨.dv _ _ _ ⟨.nil _ _ _,trivial⟩,.same _,.same _,trivial⟩,⟨⟨.same _,trivial⟩,trivial⟩,rfl,fun _ _ h=>h,rfl⟩
 ·obtain ⟨S0',E5,s5,D,rfl,q1,q2,q3,q4,q5,q6,r1,r2,r3⟩:=h5
  have q6':a5.defers=[{target:=.collected D,args:= #[]}]:=by rw [q6,k8,k5,k2,hdf]
  show Code.wp _ _ _ _ _
  refine wp_seq (nq (X:=[]) q1 DC (K:=fun st=>(∀ S w,st.cx S w)∧st.sl 4= .own 3014 30 10 ((mrg a b).map hd)) (fun a6 w6 h6=>?_) ?_)
  ·obtain ⟨E6,s6,rfl,p1,p2,p3,p4⟩:=h6
   refine wp_ret ⟨.inr rfl,S0',E6,s6,D,rfl,p1,q2,q3,q4,q5,by rw [p2,q6'],p3,_,?_,.inl ⟨3014,rfl⟩⟩
   have:b8 s6 Tryz.f61.results.toList=some [s6.sl 4]:=by
    rw [show Tryz.f61.results.toList=[.tmp 4] from rfl];rfl
   rw [this,p4];rfl
  ·obtain ⟨sl5,bx5,gh5,off5,cx5⟩:=s5
   dsimp only at r1 r2 r3
   subst r1;subst r2
   exact ⟨r3,rfl⟩
end Go.MM
end
section
namespace Go.MM
open Go Go.DL Go.Proofs
theorem ua {n:Nat} (h:n<2^63):IntKind.wrap .i64 (n:Int)=n:=mj (by omega) (by omega)
theorem tT (x:Nat):BitVec.ofInt 64 (x:Int)=BitVec.ofNat 64 x:=by simp
theorem xp {x y:Nat} (hx:x<2^63) (hy:y<2^63):ir .and .i64 x y=((x &&& y:Nat):Int):=by
 show IntKind.wrap .i64 (((BitVec.ofInt 64 (x:Int) &&& BitVec.ofInt 64 (y:Int)).toNat:Nat):Int)=_
 rw [tT,tT]
 rw [BitVec.toNat_and,BitVec.toNat_ofNat,BitVec.toNat_ofNat,Nat.mod_eq_of_lt (by omega),Nat.mod_eq_of_lt (by omega)]
 exact ua (Nat.lt_of_le_of_lt Nat.and_le_left hx)
theorem AM {x y:Nat} (hx:x<2^63) (hy:y<2^63):ir .or .i64 x y=((x ||| y:Nat):Int):=by
 show IntKind.wrap .i64 (((BitVec.ofInt 64 (x:Int) ||| BitVec.ofInt 64 (y:Int)).toNat:Nat):Int)=_
 rw [tT,tT]
 rw [BitVec.toNat_or,BitVec.toNat_ofNat,BitVec.toNat_ofNat,Nat.mod_eq_of_lt (by omega),Nat.mod_eq_of_lt (by omega)]
 exact ua (Nat.or_lt_two_pow hx hy)
theorem zL {x y:Nat} (hx:x<2^63) (hy:y<2^63):ir .xor .i64 x y=((x ^^^ y:Nat):Int):=by
 show IntKind.wrap .i64 (((BitVec.ofInt 64 (x:Int) ^^^ BitVec.ofInt 64 (y:Int)).toNat:Nat):Int)=_
 rw [tT,tT]
 rw [BitVec.toNat_xor,BitVec.toNat_ofNat,BitVec.toNat_ofNat,Nat.mod_eq_of_lt (by omega),Nat.mod_eq_of_lt (by omega)]
 exact ua (Nat.xor_lt_two_pow hx hy)
def clr (x y:Nat):Nat:=x ^^^ (x &&& y)
theorem yv (x y j:Nat):(clr x y).testBit j=(x.testBit j&& !y.testBit j):=by
 unfold clr
 rw [Nat.testBit_xor,Nat.testBit_and]
 cases x.testBit j <;> cases y.testBit j <;> rfl
theorem wz {x y:Nat} (hx:x<2^63) (_:y<2^63):ir .andNot .i64 x y=((clr x y:Nat):Int):=by
 show IntKind.wrap .i64 (((BitVec.ofInt 64 (x:Int) &&& ~~~BitVec.ofInt 64 (y:Int)).toNat:Nat):Int)=_
 rw [tT,tT]
 have e:(BitVec.ofNat 64 x &&& ~~~BitVec.ofNat 64 y).toNat=clr x y:=by
  refine Nat.eq_of_testBit_eq fun j=>?_
  rw [yv,BitVec.testBit_toNat,BitVec.getLsbD_and,BitVec.getLsbD_not,BitVec.getLsbD_ofNat,BitVec.getLsbD_ofNat]
  by_cases hj:j<64
  ·simp [hj]
  ·have:x.testBit j=false:=Nat.testBit_lt_two_pow (Nat.lt_of_lt_of_le hx (Nat.pow_le_pow_right (by decide) (by omega)))
   simp [hj,this]
 rw [e]
 have:clr x y<2^63:=Nat.xor_lt_two_pow hx (Nat.lt_of_le_of_lt Nat.and_le_left hx)
 exact ua this
def tX (x s w:Nat):Nat:=(x / 2^s) % 2^w
def tK (x s w n:Nat):Nat:=(x / 2^(s+w)) * 2^(s+w)+n * 2^s+x % 2^s
theorem CL (x s w:Nat):x=(x / 2^(s+w)) * 2^(s+w)+tX x s w * 2^s+x % 2^s:=by
 unfold tX
 have h1:=Nat.div_add_mod x (2^s)
 have h2:=Nat.div_add_mod (x / 2^s) (2^w)
 rw [Nat.div_div_eq_div_mul, ←Nat.pow_add] at h2
 have h3:x / 2^(s+w) * 2^(s+w)=2^s * (2^w * (x / 2^(s+w))):=by
  rw [Nat.pow_add];rw [Nat.mul_comm,Nat.mul_assoc]
 rw [h3,Nat.mul_comm (x / 2^s % 2^w)]
 rw [← Nat.mul_add,h2];exact h1.symm
theorem tC {x s w n:Nat} (hn:n<2^w) (j:Nat):(tK x s w n).testBit j=if j<s then x.testBit j else if j<s+w then n.testBit (j - s) else x.testBit j:=by
 have hlo:x % 2^s<2^s:=Nat.mod_lt _ (Nat.two_pow_pos _)
 have hmid:n * 2^s+x % 2^s<2^(s+w):=by
  rw [Nat.pow_add,Nat.mul_comm (2^s)]
  calc n * 2^s+x % 2^s<n * 2^s+2^s:=by omega
   _=(n+1) * 2^s:=by rw [Nat.add_mul,Nat.one_mul]
   _≤2^w * 2^s:=Nat.mul_le_mul_right _ hn
 unfold tK
 rw [Nat.add_assoc,Nat.mul_comm (x / 2^(s+w)),Nat.testBit_two_pow_mul_add _ hmid]
 by_cases h1:j<s+w
 ·rw [if_pos h1,Nat.mul_comm n,Nat.testBit_two_pow_mul_add _ hlo]
  by_cases h2:j<s
  ·rw [if_pos h2,if_pos h2,Nat.testBit_mod_two_pow];simp [h2]
  ·rw [if_neg h2,if_neg h2,if_pos h1]
 ·rw [if_neg h1,if_neg (by omega),if_neg h1,Nat.testBit_div_two_pow]
  congr 1;omega
theorem vb (x s w j:Nat):(tX x s w).testBit j=(decide (j<w)&&x.testBit (j+s)):=by
 unfold tX
 rw [Nat.testBit_mod_two_pow,Nat.testBit_div_two_pow]
end Go.MM
end
section
namespace Go.MM
open Go Go.DL Go.Proofs
structure Fd where
 name:ByteArray
 a:Nat
 w:Nat
deriving Inhabited
def fd (f:Fd):T:=.agg [.str f.name,I f.a,I f.w]
structure FOk (f:Fd):Prop where
 a:f.a<160
 w1:1≤f.w
 w2:f.a % 16+f.w≤16
def Fd.s (f:Fd):Nat:=16 - f.a % 16 - f.w
def Fd.i (f:Fd):Nat:=f.a / 16
theorem FOk.i {f:Fd} (h:FOk f):f.i<10:=by have:=h.a;unfold Fd.i;omega
theorem FOk.sw {f:Fd} (h:FOk f):f.s+f.w≤16:=by have:=h.w2;unfold Fd.s;omega
structure HOk (h:List Int):Prop where
 len:h.length=10
 right:tR h=true
def wd (h:List Int) (i:Nat):Nat:=(h[i]?.getD 0).toNat
theorem HOk.wd {h:List Int} (hh:HOk h) (i:Nat):MM.wd h i<65536:=by
 unfold MM.wd
 cases hx:h[i]? with
 |none=>simp
 |some x=>
  have:=hh.right
  unfold tR at this
  rw [List.all_eq_true] at this
  have:=this x (List.mem_of_getElem? hx)
  simp at this ⊢
  omega
theorem HOk.get {h:List Int} (hh:HOk h) {i:Nat} (hi:i<10):h[i]'(by rw [hh.len];exact hi)=(MM.wd h i:Int):=by
 have hl:i<h.length:=by rw [hh.len];exact hi
 unfold MM.wd
 have:=hh.right
 unfold tR at this
 rw [List.all_eq_true] at this
 have:=this h[i] (List.getElem_mem _)
 simp at this
 simp [hl]
 omega
def sL (f:Fd) (h:List Int):Nat:=tX (wd h f.i) f.s f.w
def sB (f:Fd) (h:List Int) (n:Nat):List Int:=h.set f.i (tK (wd h f.i) f.s f.w n:Nat)
theorem Cy (f:Fd) (h:List Int):sL f h<2^f.w:=Nat.mod_lt _ (Nat.two_pow_pos _)
theorem t87 (n:Nat) (hn:n≤60):DCalls Tryz.prog 91 [I n] (I (2^n:Nat)):=by
 refine qB (rs:=[.tmp 2]) mixed Tryz.func91 l91 rfl rfl rfl (r:=[I (2^n:Nat)]) (nlZ rfl) ?_
 refine qX (α:=Nat) (fun i=>{sl:=[(0,.t (I n)),(3,.t (I (2^i:Nat))),(4,.t (I i))],bx:=[]}) (fun i=>i≤n) (fun i=>n - i) 0 (by simp) ?_ ?_
 ·exact ⟨⟨.same _,.same _,.same _,trivial⟩,trivial,trivial,rfl,fun _ _ _=>trivial,rfl⟩
 rintro i hi
 refine rM trivial (fun hq=>?_) (fun hq=>?_)
 ·have h1:i<n:=by simpa using hq
  refine ⟨i+1,h1,by omega,?_⟩
  have h2:(2:Nat)^(i+1)≤2^60:=Nat.pow_le_pow_right (by decide) (by omega)
  refine ⟨⟨.same _,leI ?_,leI (by rw [mj] <;> omega),trivial⟩,trivial,trivial,rfl,fun _ _ _=>trivial,rfl⟩
  have e:((2^i:Nat):Int) * 2=((2^(i+1):Nat):Int):=by rw [Nat.pow_succ];push_cast;rfl
  rw [e,ua (by omega)]
 ·have h1:i=n:=by simp at hq;omega
  subst h1
  exact ⟨rfl,trivial⟩
theorem BH {f:Fd} (h:FOk f):IntKind.wrap .i64 (IntKind.wrap .i64 (16 - ((f.a:Int).tmod 16)) - (f.w:Int))=(f.s:Int):=by
 have h1:(f.a:Int).tmod 16=((f.a % 16:Nat):Int):=by rw [Int.tmod_eq_emod_of_nonneg (by omega)];omega
 have:=h.w2
 rw [h1,mj (n:=16 - ((f.a % 16:Nat):Int)) (by omega) (by omega),mj (by omega) (by omega)]
 unfold Fd.s;omega
theorem ug {f:Fd} (h:FOk f):IntKind.wrap .i64 ((f.a:Int).tdiv 16)=(f.i:Int):=by
 have h1:(f.a:Int).tdiv 16=((f.a / 16:Nat):Int):=by rw [Int.tdiv_eq_ediv_of_nonneg (by omega)];omega
 have:=h.a
 rw [h1,ua (by omega)];rfl
theorem t99 (f:Fd) (h:FOk f):DCalls Tryz.prog 83 [fd f] (I f.s):=by
 refine qB (rs:=[.tmp 2]) mixed Tryz.func83 l83 rfl rfl rfl (r:=[I f.s]) (nlZ rfl) ?_
 refine And.intro rfl ?_
 refine r8 (I f.a) (by decide) rfl ?_
 refine And.intro (by decide) ?_
 refine r8 (I f.w) (by decide) rfl ?_
 exact ⟨congrArg (fun n=>some (I n)) (BH h),trivial⟩
theorem xx {w:Nat} (h:w≤16):2^w≤65536:=Nat.pow_le_pow_right (by decide) h
theorem t66 (f:Fd) (h:FOk f):DCalls Tryz.prog 71 [fd f] (I (2^f.w - 1:Nat)):=by
 refine qB (rs:=[.tmp 2]) mixed Tryz.func71 l71 rfl rfl rfl (r:=[I (2^f.w - 1:Nat)]) (nlZ rfl) ?_
 have hw:f.w≤16:=by have:=h.w2;omega
 have hp:=Nat.two_pow_pos f.w
 refine And.intro rfl ?_
 refine r8 (I f.w) (by decide) rfl ?_
 refine rq _ (t87 f.w (by omega)) ?_
 exact ⟨congrArg (fun n=>some (I n)) (by have:=xx hw;rw [mj] <;> omega),trivial⟩
theorem t97 (f:Fd) (h:FOk f):DCalls Tryz.prog 81 [fd f] (I (2^f.w - 1:Nat)):=by
 refine qB (rs:=[.tmp 2]) mixed Tryz.func81 l81 rfl rfl rfl (r:=[I (2^f.w - 1:Nat)]) (nlZ rfl) ?_
 have hw:f.w≤16:=by have:=h.w2;omega
 have hp:=Nat.two_pow_pos f.w
 have:=xx hw
 refine And.intro rfl ?_
 refine r8 (I f.w) (by decide) rfl ?_
 refine And.intro (by omega) ?_
 refine ⟨congrArg (fun n=>some (I n)) ?_,trivial⟩
 have e:(1:Int) * 2^(min (f.w:Int).toNat (IntKind.bits .i64))=((2^f.w:Nat):Int):=by
  have:min (f.w:Int).toNat (IntKind.bits .i64)=f.w:=by show min _ 64=_;simp;omega
  rw [this];push_cast;rw [Int.one_mul]
 rw [e,ua (by omega),mj] <;> omega
theorem Bi (x s:Nat) (hs:s≤64):((x:Int)).fdiv (2^(min (s:Int).toNat (IntKind.bits .i64)))=((x / 2^s:Nat):Int):=by
 have:min (s:Int).toNat (IntKind.bits .i64)=s:=by show min _ 64=_;simp;omega
 rw [this,Int.fdiv_eq_ediv_of_nonneg _ (by exact_mod_cast Nat.zero_le _)]
 push_cast;rfl
theorem xv (x s:Nat) (hs:s≤64):(x:Int) * 2^(min (s:Int).toNat (IntKind.bits .i64))=((x * 2^s:Nat):Int):=by
 have:min (s:Int).toNat (IntKind.bits .i64)=s:=by show min _ 64=_;simp;omega
 rw [this];push_cast;rfl
theorem t78 (f:Fd) (hf:FOk f) (h:List Int) (hh:HOk h):DCalls Tryz.prog 56 [fd f,hd h] (I (sL f h)):=by
 refine qB (rs:=[.tmp 4]) mixed Tryz.func56 l56 rfl rfl rfl (r:=[I (sL f h)]) (nlZ rfl) ?_
 have hi:=hf.i
 have hw:f.w≤16:=by have:=hf.w2;omega
 have hsw:=hf.sw
 have hx:=hh.wd f.i
 have hil:f.i<h.length:=by rw [hh.len];exact hi
 refine And.intro rfl ?_
 refine And.intro (by simp [hh.len]) ?_
 refine r8 (I f.a) (by decide) rfl ?_
 refine And.intro (by decide) ?_
 refine And.intro (show 0≤IntKind.wrap .i64 _∧_ by rw [ug hf];omega) ?_
 refine r8 (I (wd h f.i)) (show 0+(IntKind.wrap .i64 _).toNat * 1<10 by rw [ug hf];simp;omega) (show (h.map I)[0+(IntKind.wrap .i64 _).toNat * 1]?.getD .nil=_ by
  rw [ug hf,Int.toNat_natCast,Nat.zero_add,Nat.mul_one,getD_map I h f.i .nil hil,hh.get hi]) ?_
 refine rq _ (t99 f hf) ?_
 refine And.intro (by omega) ?_
 refine rq _ (t97 f hf) ?_
 refine ⟨congrArg (fun n=>some (I n)) ?_,trivial⟩
 have e2:wd h f.i / 2^f.s≤wd h f.i:=Nat.div_le_self _ _
 have hp:=xx hw
 rw [Bi _ _ (by omega),xp (Nat.lt_of_le_of_lt e2 (by omega)) (by omega),Nat.and_two_pow_sub_one_eq_mod]
 rfl
theorem yN {x s w n:Nat} (hn:n<2^w):clr x ((2^w - 1) * 2^s) ||| (n * 2^s)=tK x s w n:=by
 refine Nat.eq_of_testBit_eq fun j=>?_
 rw [Nat.testBit_or,yv,tC hn,Nat.testBit_mul_two_pow,Nat.testBit_mul_two_pow,Nat.testBit_two_pow_sub_one]
 by_cases h1:j<s
 ·rw [if_pos h1]
  have: ¬s≤j:=by omega
  simp [this]
 ·rw [if_neg h1]
  have h2:s≤j:=by omega
  by_cases h3:j<s+w
  ·rw [if_pos h3]
   have h4:j - s<w:=by omega
   simp [h2,h4]
  ·rw [if_neg h3]
   have h4: ¬j - s<w:=by omega
   have h5:n.testBit (j - s)=false:=Nat.testBit_lt_two_pow (Nat.lt_of_lt_of_le hn (Nat.pow_le_pow_right (by decide) (by omega)))
   simp [h4,h5]
theorem CD {x s w n:Nat} (hx:x<65536) (hsw:s+w≤16) (hn:n<2^w):tK x s w n<65536:=by
 refine Nat.lt_pow_two_of_testBit (n:=16) _ fun j hj=>?_
 rw [tC hn,if_neg (by omega),if_neg (by omega)]
 exact Nat.testBit_lt_two_pow (Nat.lt_of_lt_of_le hx (Nat.pow_le_pow_right (by decide) hj:2^16≤2^j))
theorem map_set (h:List Int) (i:Nat) (n:Int):(h.map I).set i (I n)=(h.set i n).map I:=by rw [List.map_set]
theorem t98 (f:Fd) (hf:FOk f) (h:List Int) (hh:HOk h) (n:Nat) (hn:n<2^f.w):DCalls Tryz.prog 82 [fd f,hd h,I n] (hd (sB f h n)):=by
 refine qB (rs:=[.cell 6 30]) mixed Tryz.func82 l82 rfl rfl rfl (r:=[hd (sB f h n)]) (nlZ rfl) ?_
 have hi:=hf.i
 have hw:f.w≤16:=by have:=hf.w2;omega
 have hsw:=hf.sw
 have hx:=hh.wd f.i
 have hil:f.i<h.length:=by rw [hh.len];exact hi
 have hp:=xx hw
 have hs2:2^f.s≤2^16:=Nat.pow_le_pow_right (by decide) (by omega)
 have m1:(2^f.w - 1) * 2^f.s≤65536 * 65536:=Nat.mul_le_mul (by omega) hs2
 have m2:n * 2^f.s≤65536 * 65536:=Nat.mul_le_mul (by omega) hs2
 refine And.intro rfl ?_
 refine And.intro (by simp [hh.len]) ?_
 refine r8 (I f.a) (by decide) rfl ?_
 refine And.intro (by decide) ?_
 refine And.intro (show 0≤IntKind.wrap .i64 _∧_ by rw [ug hf];omega) ?_
 refine r8 (I (wd h f.i)) (show 0+(IntKind.wrap .i64 _).toNat * 1<10 by rw [ug hf];simp;omega) (show (h.map I)[0+(IntKind.wrap .i64 _).toNat * 1]?.getD .nil=_ by
  rw [ug hf,Int.toNat_natCast,Nat.zero_add,Nat.mul_one,getD_map I h f.i .nil hil,hh.get hi]) ?_
 refine rq _ (t97 f hf) ?_
 refine rq _ (t99 f hf) ?_
 refine And.intro (by omega) ?_
 refine rq _ (t99 f hf) ?_
 refine And.intro (by omega) ?_
 have ew:ir .or .i64 (ir .andNot .i64 (wd h f.i) (IntKind.wrap .i64 (((2^f.w - 1:Nat):Int) * 2^(min (f.s:Int).toNat (IntKind.bits .i64))))) (IntKind.wrap .i64 ((n:Int) * 2^(min (f.s:Int).toNat (IntKind.bits .i64))))=(tK (wd h f.i) f.s f.w n:Nat):=by
  rw [xv _ _ (by omega),xv _ _ (by omega),ua (by omega),ua (by omega),wz (by omega) (by omega),AM ?_ (by omega),yN hn]
  exact Nat.xor_lt_two_pow (by omega) (Nat.lt_of_le_of_lt Nat.and_le_left (by omega))
 refine And.intro (show 0+(IntKind.wrap .i64 _).toNat * 1<10 by rw [ug hf];simp;omega) ?_
 refine And.intro ⟨by simp [hh.len],by decide⟩ ?_
 refine ⟨?_,trivial⟩
 refine congrArg some ?_
 show T.agg (aJ u5 0 10 ((h.map I).set (0+(IntKind.wrap .i64 _).toNat * 1) (I (ir _ _ _ _))))=_
 rw [ew,ug hf,Int.toNat_natCast,Nat.zero_add,Nat.mul_one,map_set]
 simp [aJ,hd,sB]
end Go.MM
end
section
namespace Go.MM
open Go Go.DL Go.Proofs
def pat (mk bs:List Int):T:=.agg (mk.map I++bs.map I)
def z10:List Int:=[0,0,0,0,0,0,0,0,0,0]
theorem vq:HOk z10:=⟨rfl,rfl⟩
def sr (f:Fd) (m:Nat):Nat:=clr (2^f.w - 1) (2^(f.w - m) - 1)
theorem wK (f:Fd) (m:Nat):sr f m<2^f.w:=Nat.xor_lt_two_pow (by have:=Nat.two_pow_pos f.w;omega) (Nat.lt_of_le_of_lt Nat.and_le_left (by have:=Nat.two_pow_pos f.w;omega))
theorem uk (f:Fd) (h:List Int) (n:Nat):(sB f h n).length=h.length:=by simp [sB]
theorem t77 (f:Fd) (hf:FOk f) (n m:Nat) (hm:m≤f.w) (hn:n<2^f.w):DCalls Tryz.prog 55 [fd f,I n,I m] (pat (sB f z10 (sr f m)) (sB f z10 (n &&& sr f m))):=by
 refine qB (rs:=[.cell 6 98]) mixed Tryz.func55 l55 rfl rfl rfl (r:=[pat (sB f z10 (sr f m)) (sB f z10 (n &&& sr f m))]) (nlZ rfl) ?_
 have hw:f.w≤16:=by have:=hf.w2;omega
 have hp:=xx hw
 have hq:2^(f.w - m)≤65536:=xx (by omega)
 have hq0:=Nat.two_pow_pos (f.w - m)
 have hml:=wK f m
 refine And.intro rfl ?_
 refine rq _ (t97 f hf) ?_
 refine r8 (I f.w) (by decide) rfl ?_
 have e0:IntKind.wrap .i64 ((f.w:Int) - (m:Int))=((f.w - m:Nat):Int):=by rw [mj (by omega) (by omega)];omega
 refine And.intro (show 0≤IntKind.wrap .i64 _ by rw [e0];omega) ?_
 have e1:ir .andNot .i64 ((2^f.w - 1:Nat):Int) (IntKind.wrap .i64 (IntKind.wrap .i64 (1 * 2^(min (IntKind.wrap .i64 ((f.w:Int) - (m:Int))).toNat (IntKind.bits .i64))) - 1))=(sr f m:Int):=by
  have a1:=xv 1 (f.w - m) (by omega)
  rw [e0]
  have a2:(1:Int) * 2^(min ((f.w - m:Nat):Int).toNat (IntKind.bits .i64))=((2^(f.w - m):Nat):Int):=by rw [Nat.one_mul] at a1;exact a1
  rw [a2,ua (by omega)]
  have a3:((2^(f.w - m):Nat):Int) - 1=((2^(f.w - m) - 1:Nat):Int):=by omega
  rw [a3,ua (by omega),wz (by omega) (by omega)]
  rfl
 have c1:=t98 f hf z10 vq (sr f m) hml
 rw [← e1] at c1
 refine And.intro trivial ?_
 refine rq _ c1 ?_
 refine And.intro trivial ?_
 have e2:ir .and .i64 (n:Int) (ir .andNot .i64 ((2^f.w - 1:Nat):Int) (IntKind.wrap .i64 (IntKind.wrap .i64 (1 * 2^(min (IntKind.wrap .i64 ((f.w:Int) - (m:Int))).toNat (IntKind.bits .i64))) - 1)))=((n &&& sr f m:Nat):Int):=by
  rw [e1,xp (by omega) (by omega)]
 have c2:=t98 f hf z10 vq (n &&& sr f m) (Nat.lt_of_le_of_lt Nat.and_le_left hn)
 rw [← e2] at c2
 refine rq _ c2 ?_
 have l1:=uk f z10 (sr f m)
 have l2:=uk f z10 (n &&& sr f m)
 have lz:z10.length=10:=rfl
 refine And.intro ⟨⟨trivial,by simp [l1,lz]⟩,by simp [l2,lz]⟩ ?_
 refine And.intro ⟨by simp [aJ,l1,l2,lz],by decide⟩ ?_
 refine ⟨congrArg some ?_,trivial⟩
 simp [aJ,pat,l1,lz]
theorem vF {a b:List Int} (ha:a.length=10) (hb:b.length=10):(a.map I++b.map I).length=20:=by simp [ha,hb]
theorem t76 (f:Fd) (hf:FOk f) (n:Nat) (hn:n<2^f.w):DCalls Tryz.prog 54 [fd f,I n] (pat (sB f z10 (sr f f.w)) (sB f z10 (n &&& sr f f.w))):=by
 refine qB (rs:=[.cell 4 98]) mixed Tryz.func54 l54 rfl rfl rfl (r:=[pat (sB f z10 (sr f f.w)) (sB f z10 (n &&& sr f f.w))]) (nlZ rfl) ?_
 have l1:=uk f z10 (sr f f.w)
 have l2:=uk f z10 (n &&& sr f f.w)
 refine And.intro rfl ?_
 refine r8 (I f.w) (by decide) rfl ?_
 refine rq _ (t77 f hf n f.w (Nat.le_refl _) hn) ?_
 refine And.intro ⟨vF l1 l2,by decide⟩ ?_
 refine ⟨congrArg some ?_,trivial⟩
 have:=vF l1 l2
 simp [aJ,pat,z10]
theorem t81 (f:Fd) (hf:FOk f) (n:Nat) (hn:n<2^f.w):DCalls Tryz.prog 59 [fd f,I n] (pat (sB f z10 (sr f f.w)) (sB f z10 (n &&& sr f f.w))):=by
 refine qB (rs:=[.cell 4 103]) mixed Tryz.func59 l59 rfl rfl rfl (r:=[pat (sB f z10 (sr f f.w)) (sB f z10 (n &&& sr f f.w))]) (nlZ rfl) ?_
 have l1:=uk f z10 (sr f f.w)
 have l2:=uk f z10 (n &&& sr f f.w)
 refine And.intro rfl ?_
 refine rq _ (t76 f hf n hn) ?_
 refine And.intro ⟨vF l1 l2,by decide⟩ ?_
 refine ⟨congrArg some ?_,trivial⟩
 have:=vF l1 l2
 simp [aJ,pat,z10]
def ui (x b m:Nat):Bool:=(x ^^^ b) &&& m==0
def uA (mk bs h:List Int):Bool:=(List.range 10).all fun i=>ui (wd bs i) (wd h i) (wd mk i)
theorem zy (l1 l2:List Int) (h1:HOk l1) (h2:HOk l2) {i:Nat} (hi:i<10):(l1.map I++l2.map I)[i]?.getD .nil=I (wd l1 i)∧(l1.map I++l2.map I)[10+i]?.getD .nil=I (wd l2 i):=by
 constructor
 ·rw [List.getElem?_append_left (by simp [h1.len,hi]),getD_map I l1 i .nil (by rw [h1.len];exact hi),h1.get hi]
 ·rw [List.getElem?_append_right (by simp [h1.len]),List.length_map,h1.len,Nat.add_sub_cancel_left,getD_map I l2 i .nil (by rw [h2.len];exact hi),h2.get hi]
theorem t75 (mk bs h:List Int) (h1:HOk mk) (h2:HOk bs) (hh:HOk h):DCalls Tryz.prog 53 [pat mk bs,hd h] (.bool (uA mk bs h)):=by
 refine qB (rs:=[.tmp 4]) mixed Tryz.func53 l53 rfl rfl rfl (r:=[.bool (uA mk bs h)]) (nlZ rfl) ?_
 refine And.intro (vF h1.len h2.len) ?_
 refine And.intro (by simp [hh.len]) ?_
 refine qX (α:=Nat) (fun i=>{sl:=[(2,.ptr 2 0),(3,.ptr 3 0),(6,.t (I i))],bx:=[(2,.d 20 (mk.map I++bs.map I)),(3,.d 10 (h.map I))]}) (fun i=>i≤10∧ ∀j,j<i→ui (wd bs j) (wd h j) (wd mk j)=true) (fun i=>10 - i) 0 (by simp) ?_ ?_
 ·exact ⟨⟨.same _,.same _,.same _,trivial⟩,⟨.same _,.same _,trivial⟩,trivial,rfl,fun _ _ _=>trivial,rfl⟩
 rintro i ⟨hi,hp⟩
 refine rM trivial (fun hq=>?_) (fun hq=>?_)
 ·have hlt:i<10:=by simp at hq;omega
  obtain ⟨g1,g2⟩:=zy mk bs h1 h2 hlt
  have b1:=h1.wd i
  have b2:=h2.wd i
  have b3:=hh.wd i
  refine And.intro (by omega) ?_
  refine r8 (I (wd bs i)) (by simp;omega) (show (mk.map I++bs.map I)[10+(i:Int).toNat * 1]?.getD .nil=_ by rw [Int.toNat_natCast,Nat.mul_one,g2]) ?_
  refine And.intro (by omega) ?_
  refine r8 (I (wd h i)) (by simp;omega) (show (h.map I)[0+(i:Int).toNat * 1]?.getD .nil=_ by rw [Int.toNat_natCast,Nat.mul_one,Nat.zero_add,getD_map I h i .nil (by rw [hh.len];exact hlt),hh.get hlt]) ?_
  refine And.intro (by omega) ?_
  refine r8 (I (wd mk i)) (by simp;omega) (show (mk.map I++bs.map I)[0+(i:Int).toNat * 1]?.getD .nil=_ by rw [Int.toNat_natCast,Nat.mul_one,Nat.zero_add,g1]) ?_
  have e:ir .and .i64 (ir .xor .i64 (wd bs i) (wd h i)) (wd mk i)=(((wd bs i ^^^ wd h i) &&& wd mk i:Nat):Int):=by
   rw [zL (by omega) (by omega),xp (Nat.xor_lt_two_pow (by omega) (by omega)) (by omega)]
  refine rN (!ui (wd bs i) (wd h i) (wd mk i)) trivial (show (ir .and .i64 (ir .xor .i64 _ _) _ !=0)=_ by rw [e];unfold ui;generalize (wd bs i ^^^ wd h i) &&& wd mk i=z;cases z <;> rfl) ?_
  cases hm:ui (wd bs i) (wd h i) (wd mk i) with
  |false=>
   have:uA mk bs h=false:=by
    unfold uA
    refine Bool.eq_false_iff.2 fun hc=>?_
    rw [List.all_eq_true] at hc
    have:=hc i (by simp [hlt])
    rw [hm] at this;cases this
   exact ⟨congrArg (fun b=>some (T.bool b)) this.symm,trivial⟩
  |true=>
   refine ⟨i+1,⟨hlt,fun j hj=>?_⟩,by omega,?_⟩
   ·rcases Nat.lt_or_ge j i with h4|h4
    ·exact hp j h4
    ·obtain rfl:j=i:=by omega
     exact hm
   ·exact ⟨⟨.same _,.same _,leI (by rw [mj] <;> omega),trivial⟩,⟨.same _,.same _,trivial⟩,trivial,rfl,fun _ _ _=>trivial,rfl⟩
 ·have hge:10≤i:=by simp at hq;omega
  have:uA mk bs h=true:=by
   unfold uA
   rw [List.all_eq_true]
   intro j hj
   exact hp j (by simp at hj;omega)
  exact ⟨congrArg (fun b=>some (T.bool b)) this.symm,trivial⟩
def x5 (x m b:Nat):Nat:=clr x m ||| b
def tH (mk bs h:List Int):List Int:=(List.range 10).map fun i=>(x5 (wd h i) (wd mk i) (wd bs i):Int)
theorem BI (new old:List Int) (i:Nat) (h1:i<new.length) (h2:i<old.length):(new.take i++old.drop i).set i new[i]=new.take (i+1)++old.drop (i+1):=by
 rw [List.drop_eq_getElem_cons h2,List.set_append_right _ _ (by simp;omega),List.length_take,Nat.min_eq_left (by omega),Nat.sub_self,List.set_cons_zero,List.take_succ_eq_append_getElem h1]
 simp only [List.append_assoc,List.cons_append,List.nil_append]
theorem CX {x y n:Nat} (h:x<2^n):clr x y<2^n:=Nat.xor_lt_two_pow h (Nat.lt_of_le_of_lt Nat.and_le_left h)
theorem t80 (mk bs h:List Int) (h1:HOk mk) (h2:HOk bs) (hh:HOk h):DCalls Tryz.prog 58 [pat mk bs,hd h] (hd (tH mk bs h)):=by
 refine qB (rs:=[.cell 4 30]) mixed Tryz.func58 l58 rfl rfl rfl (r:=[hd (tH mk bs h)]) (nlZ rfl) ?_
 have hn:(tH mk bs h).length=10:=by simp [tH]
 refine And.intro (vF h1.len h2.len) ?_
 refine And.intro (by simp [hh.len]) ?_
 refine qX (α:=Nat) (fun i=>{sl:=[(2,.ptr 2 0),(3,.ptr 3 0),(4,.ptr 4 0),(6,.t (I i))],bx:=[(2,.d 20 (mk.map I++bs.map I)),(3,.d 10 (((tH mk bs h).take i++h.drop i).map I)),(4,.d 10 u5)]}) (fun i=>i≤10) (fun i=>10 - i) 0 (by simp) ?_ ?_
 ·exact ⟨⟨.same _,.same _,.same _,.same _,trivial⟩,⟨.same _,r9 (by simp),.same _,trivial⟩,trivial,rfl,fun _ _ _=>trivial,rfl⟩
 rintro i hi
 refine rM trivial (fun hq=>?_) (fun hq=>?_)
 ·have hlt:i<10:=by simp at hq;omega
  obtain ⟨g1,g2⟩:=zy mk bs h1 h2 hlt
  have b1:=h1.wd i
  have b2:=h2.wd i
  have b3:=hh.wd i
  have hil:i<h.length:=by rw [hh.len];exact hlt
  refine And.intro (by omega) ?_
  refine r8 (I (wd h i)) (by simp;omega) (show (((tH mk bs h).take i++h.drop i).map I)[0+(i:Int).toNat * 1]?.getD .nil=_ by
   rw [Int.toNat_natCast,Nat.mul_one,Nat.zero_add,getD_map I _ i .nil (by simp [hh.len];omega)]
   rw [List.getElem_append_right (by simp [hn];omega)]
   simp only [List.length_take,hn,List.getElem_drop]
   have:i+(i - min i 10)=i:=by omega
   simp only [this]
   rw [hh.get hlt]) ?_
  refine And.intro (by omega) ?_
  refine r8 (I (wd mk i)) (by simp;omega) (show (mk.map I++bs.map I)[0+(i:Int).toNat * 1]?.getD .nil=_ by rw [Int.toNat_natCast,Nat.mul_one,Nat.zero_add,g1]) ?_
  refine And.intro (by omega) ?_
  refine r8 (I (wd bs i)) (by simp;omega) (show (mk.map I++bs.map I)[10+(i:Int).toNat * 1]?.getD .nil=_ by rw [Int.toNat_natCast,Nat.mul_one,g2]) ?_
  refine And.intro (by omega) ?_
  refine And.intro (by simp;omega) ?_
  refine ⟨i+1,hlt,by omega,?_⟩
  refine ⟨⟨.same _,.same _,.same _,leI (by rw [mj] <;> omega),trivial⟩,⟨.same _,r9 ?_,.same _,trivial⟩,trivial,rfl,fun _ _ _=>trivial,rfl⟩
  show _=(((tH mk bs h).take i++h.drop i).map I).set (0+(i:Int).toNat * 1) (I (ir .or .i64 (ir .andNot .i64 (wd h i) (wd mk i)) (wd bs i)))
  rw [wz (by omega) (by omega),AM (CX (by omega)) (by omega),Int.toNat_natCast,Nat.mul_one,Nat.zero_add,map_set, ←BI (tH mk bs h) h i (by omega) hil]
  simp [tH,x5]
 ·have hge:i=10:=by simp at hq;omega
  subst hge
  refine And.intro ⟨by simp [hn,hh.len],by decide⟩ ?_
  refine ⟨congrArg some ?_,trivial⟩
  simp [aJ,hd,hn,hh.len,List.take_of_length_le]
end Go.MM
end
section
namespace Go.MM
open Go Go.DL Go.Proofs
def tM:ByteArray:=⟨#[112,111,114,116]⟩
def xw:Fd:=⟨tM,0,16⟩
def yY:Fd:=⟨⟨#[]⟩,0,0⟩
def sk (a b:ByteArray):Bool:=a.data.toList==b.data.toList
theorem sZ (a b:ByteArray):(a.toList==b.toList)=sk a b:=by unfold sk;rw [ByteArray.toList_eq,ByteArray.toList_eq]
def fds (l:List Fd):T:=.slice 3 (l.map fd)
def findF (l:List Fd) (s:ByteArray):Option Fd:=if sk s tM then some xw else l.find? fun f=>sk f.name s
def uR (l:List Fd) (s:ByteArray):T:=match findF l s with
 |some f=>.tup [fd f,.bool true]
 |none=>.tup [fd yY,.bool false]
theorem t94:DCalls Tryz.prog 63 [] (fd xw):=by
 refine qB (rs:=[.cell 0 78]) mixed Tryz.func63 l63 rfl rfl rfl (r:=[fd xw]) (nlZ rfl) ?_
 refine And.intro trivial ?_
 refine And.intro ⟨rfl,by decide⟩ ?_
 exact ⟨rfl,trivial⟩
theorem t83:DCalls Tryz.prog 90 [] (fd xw):=by
 refine qB (rs:=[.cell 0 78]) mixed Tryz.func90 l90 rfl rfl rfl (r:=[fd xw]) (nlZ rfl) ?_
 refine And.intro trivial ?_
 refine And.intro ⟨rfl,by decide⟩ ?_
 exact ⟨rfl,trivial⟩
theorem t96 (f:Fd) (s:ByteArray):DCalls Tryz.prog 65 [fd f,.cptr [.str s] 0] (.bool (sk f.name s)):=by
 refine qB (rs:=[.tmp 3]) mixed Tryz.func65 l65 rfl rfl rfl (r:=[.bool (sk f.name s)]) (nlZ rfl) ?_
 refine And.intro rfl ?_
 refine r8 (.str f.name) (by decide) rfl ?_
 refine r8 (.str s) (Nat.lt_succ_self 0) rfl ?_
 refine rN (sk f.name s) trivial (sZ _ _) ?_
 exact ⟨rfl,trivial⟩
def uH (l:List Fd) (s:ByteArray):Int:=match l.findIdx? fun f=>sk f.name s with
 |some i=>i
 |none=> -1
theorem t95 (l:List Fd) (s:ByteArray) (hl:l.length<2^60):DCalls Tryz.prog 64 [fds l,.clos 65 [.cptr [.str s] 0]] (I (uH l s)):=by
 refine qB (rs:=[.tmp 4]) mixed Tryz.func64 l64 rfl rfl rfl (r:=[I (uH l s)]) (nlZ rfl) ?_
 refine qX (α:=Nat) (fun i=>{sl:=[(0,.t (fds l)),(1,.t (.clos 65 [.cptr [.str s] 0])),(7,.t (I l.length)),(8,.t (I i))],bx:=[]}) (fun i=>i≤l.length∧ ∀j (h:j<l.length),j<i→sk l[j].name s=false) (fun i=>l.length - i) 0 (by simp) ?_ ?_
 ·exact ⟨⟨.same _,.same _,leI (by simp),.same _,trivial⟩,trivial,trivial,rfl,fun _ _ _=>trivial,rfl⟩
 rintro i ⟨hi,hp⟩
 refine rM trivial (fun hq=>?_) (fun hq=>?_)
 ·have h1:i<l.length:=by simpa using hq
  refine r8 (fd l[i]) (by simpa using h1) (by simp [h1]) ?_
  refine r8 (fd l[i]) rfl rfl ?_
  refine rq _ (t96 l[i] s) ?_
  cases hm:sk l[i].name s with
  |true=>
   have:uH l s=i:=by
    unfold uH
    rw [List.findIdx?_eq_some_iff_getElem.2 ⟨h1,hm,fun j hj=>by simp [hp j (by omega) hj]⟩]
   exact ⟨congrArg (fun n=>some (I n)) this.symm,trivial⟩
  |false=>
   refine ⟨i+1,⟨h1,fun j hj hlt=>?_⟩,by omega,?_⟩
   ·rcases Nat.lt_or_ge j i with h4|h4
    ·exact hp j hj h4
    ·obtain rfl:j=i:=by omega
     exact hm
   ·exact ⟨⟨.same _,.same _,.same _,leI (by rw [mj] <;> omega),trivial⟩,trivial,trivial,rfl,fun _ _ _=>trivial,rfl⟩
 ·have hge:l.length≤i:=by simpa using hq
  have:uH l s= -1:=by
   unfold uH
   rw [List.findIdx?_eq_none_iff.2 fun f hf=>by
    obtain ⟨j,hj,rfl⟩:=List.mem_iff_getElem.1 hf
    exact hp j hj (by omega)]
  exact ⟨congrArg (fun n=>some (I n)) this.symm,trivial⟩
theorem zd (l:List Fd) (s:ByteArray):(uH l s= -1∧l.find? (fun f=>sk f.name s)=none)∨ ∃(i:Nat) (h:i<l.length),uH l s=i∧l.find? (fun f=>sk f.name s)=some l[i]:=by
 unfold uH
 cases hf:l.findIdx? fun f=>sk f.name s with
 |none=>exact .inl ⟨rfl,by rw [List.find?_eq_none];intro f hm;simpa using List.findIdx?_eq_none_iff.1 hf f hm⟩
 |some i=>
  obtain ⟨h1,h2,h3⟩:=List.findIdx?_eq_some_iff_getElem.1 hf
  refine .inr ⟨i,h1,rfl,?_⟩
  rw [List.find?_eq_some_iff_getElem]
  exact ⟨h2,i,h1,rfl,fun j hj=>by simpa using h3 j hj⟩
theorem t74 (l:List Fd) (s:ByteArray) (hl:l.length<2^60):DCalls Tryz.prog 33 [fds l,.str s] (uR l s):=by
 unfold uR findF
 have go: ∀(f:Fd) (b:Bool),wpC Tryz.prog c33 (dC [fds l,.str s]) (nK (dp Tryz.prog) [.cell 4 78,.tmp 5] [fd f,.bool b])→DCalls Tryz.prog 33 [fds l,.str s] (.tup [fd f,.bool b]):=fun f b h=>
  qB (rs:=[.cell 4 78,.tmp 5]) mixed Tryz.func33 l33 rfl rfl rfl (r:=[fd f,.bool b]) (nlZ rfl) h
 by_cases hp:sk s tM=true
 ·rw [if_pos hp]
  refine go _ _ ?_
  refine And.intro trivial ?_
  refine r8 (.str s) (by decide) rfl ?_
  refine rq _ t94 ?_
  refine r8 (.str tM) (by decide) rfl ?_
  refine rN true trivial ((sZ _ _).trans hp) ?_
  refine rq _ t94 ?_
  refine And.intro ⟨rfl,by decide⟩ ?_
  exact ⟨rfl,rfl,trivial⟩
 ·rw [if_neg hp]
  have hp:sk s tM=false:=by simpa using hp
  have pre: ∀(f:Fd) (b:Bool),(∃ i,uH l s=i∧(i= -1∧f=yY∧b=false∨ ∃(k:Nat) (h:k<l.length),i=k∧f=l[k]∧b=true))→wpC Tryz.prog c33 (dC [fds l,.str s]) (nK (dp Tryz.prog) [.cell 4 78,.tmp 5] [fd f,.bool b]):=fun f b ⟨i,hi,h⟩=>by
   refine And.intro trivial ?_
   refine r8 (.str s) (by decide) rfl ?_
   refine rq _ t94 ?_
   refine r8 (.str tM) (by decide) rfl ?_
   refine rN false trivial ((sZ _ _).trans hp) ?_
   refine ⟨I i,hi▸t95 l s hl,rfl,?_⟩
   rcases h with ⟨rfl,rfl,rfl⟩|⟨k,hk,rfl,rfl,rfl⟩
   ·refine rN true trivial (by decide) ?_
    refine And.intro trivial ?_
    refine And.intro ⟨rfl,by decide⟩ ?_
    exact ⟨rfl,rfl,trivial⟩
   ·refine rN false trivial (by simp) ?_
    refine r8 (fd l[k]) (by simpa using hk) (by simp [hk]) ?_
    refine r8 (fd l[k]) rfl rfl ?_
    refine And.intro ⟨rfl,by decide⟩ ?_
    exact ⟨rfl,rfl,trivial⟩
  rcases zd l s with ⟨h1,h2⟩|⟨k,hk,h1,h2⟩
  ·rw [h2]
   exact go _ _ (pre _ _ ⟨-1,h1,.inl ⟨rfl,rfl,rfl⟩⟩)
  ·rw [h2]
   exact go _ _ (pre _ _ ⟨k,h1,.inr ⟨k,hk,rfl,rfl,rfl⟩⟩)
theorem t51 (l:List Fd) (s:ByteArray) (hl:l.length<2^60):DCalls Tryz.prog 70 [fds l,.str s] (uR l s):=by
 unfold uR findF
 have go: ∀(f:Fd) (b:Bool),wpC Tryz.prog c70 (dC [fds l,.str s]) (nK (dp Tryz.prog) [.cell 4 78,.tmp 5] [fd f,.bool b])→DCalls Tryz.prog 70 [fds l,.str s] (.tup [fd f,.bool b]):=fun f b h=>
  qB (rs:=[.cell 4 78,.tmp 5]) mixed Tryz.func70 l70 rfl rfl rfl (r:=[fd f,.bool b]) (nlZ rfl) h
 by_cases hp:sk s tM=true
 ·rw [if_pos hp]
  refine go _ _ ?_
  refine rN true trivial ((sZ _ _).trans hp) ?_
  refine rq _ t83 ?_
  refine And.intro ⟨rfl,by decide⟩ ?_
  exact ⟨rfl,rfl,trivial⟩
 ·rw [if_neg hp]
  have hp:sk s tM=false:=by simpa using hp
  have pre: ∀(f:Fd) (b:Bool),(∃ i,uH l s=i∧(i= -1∧f=yY∧b=false∨ ∃(k:Nat) (h:k<l.length),i=k∧f=l[k]∧b=true))→wpC Tryz.prog c70 (dC [fds l,.str s]) (nK (dp Tryz.prog) [.cell 4 78,.tmp 5] [fd f,.bool b]):=fun f b ⟨i,hi,h⟩=>by
   refine rN false trivial ((sZ _ _).trans hp) ?_
   refine qX (α:=Nat) (fun i=>{sl:=[(0,.t (fds l)),(1,.t (.str s)),(4,.ptr 4 0),(6,.t (I i))],bx:=[(4,.d 3 [.str ⟨#[]⟩,I 0,I 0])]}) (fun i=>i≤l.length∧ ∀j (h:j<l.length),j<i→sk l[j].name s=false) (fun i=>l.length - i) 0 (by simp) ?_ ?_
   ·exact ⟨⟨.same _,.same _,.same _,.same _,trivial⟩,⟨.same _,trivial⟩,trivial,rfl,fun _ _ _=>trivial,rfl⟩
   rintro j ⟨hj,hpj⟩
   refine rM trivial (fun hq=>?_) (fun hq=>?_)
   ·have h1:j<l.length:=by simpa using hq
    refine r8 (fd l[j]) (by simpa using h1) (by simp [h1]) ?_
    refine r8 (.str l[j].name) (show 0+0<3 by decide) rfl ?_
    cases hm:sk l[j].name s with
    |true=>
     refine rN true trivial ((sZ _ _).trans hm) ?_
     refine r8 (fd l[j]) (by simpa using h1) (by simp [h1]) ?_
     refine r8 (fd l[j]) rfl rfl ?_
     refine And.intro ⟨rfl,by decide⟩ ?_
     have e:uH l s=j:=by
      unfold uH
      rw [List.findIdx?_eq_some_iff_getElem.2 ⟨h1,hm,fun j' hj'=>by simp [hpj j' (by omega) hj']⟩]
     rcases h with ⟨rfl,rfl,rfl⟩|⟨k,hk,rfl,rfl,rfl⟩
     ·omega
     ·obtain rfl:k=j:=by omega
      exact ⟨rfl,rfl,trivial⟩
    |false=>
     refine rN false trivial ((sZ _ _).trans hm) ?_
     refine ⟨j+1,⟨h1,fun j' hj' hlt=>?_⟩,by omega,?_⟩
     ·rcases Nat.lt_or_ge j' j with h4|h4
      ·exact hpj j' hj' h4
      ·obtain rfl:j'=j:=by omega
       exact hm
     ·exact ⟨⟨.same _,.same _,.same _,leI (by rw [mj] <;> omega),trivial⟩,⟨.same _,trivial⟩,trivial,rfl,fun _ _ _=>trivial,rfl⟩
   ·have hge:l.length≤j:=by simpa using hq
    have e:uH l s= -1:=by
     unfold uH
     rw [List.findIdx?_eq_none_iff.2 fun f hf=>by
      obtain ⟨j',hj',rfl⟩:=List.mem_iff_getElem.1 hf
      exact hpj j' hj' (by omega)]
    rcases h with ⟨rfl,rfl,rfl⟩|⟨k,hk,rfl,rfl,rfl⟩
    ·refine And.intro trivial ?_
     refine And.intro ⟨rfl,by decide⟩ ?_
     exact ⟨rfl,rfl,trivial⟩
    ·omega
  rcases zd l s with ⟨h1,h2⟩|⟨k,hk,h1,h2⟩
  ·rw [h2]
   exact go _ _ (pre _ _ ⟨-1,h1,.inl ⟨rfl,rfl,rfl⟩⟩)
  ·rw [h2]
   exact go _ _ (pre _ _ ⟨k,h1,.inr ⟨k,hk,rfl,rfl,rfl⟩⟩)
theorem A7 (s w k:Nat):tK 0 s w k=k * 2^s:=by unfold tK;simp
theorem vG {f:Fd} (hf:FOk f) (k i:Nat):wd (sB f z10 k) i=if i=f.i then k * 2^f.s else 0:=by
 have hi:=hf.i
 have hz:wd z10 f.i=0:=by
  unfold wd z10
  revert hi
  generalize f.i=j
  intro hj
  match j,hj with
  |0,_|1,_|2,_|3,_|4,_|5,_|6,_|7,_|8,_|9,_=>rfl
 unfold sB
 rw [hz,A7]
 unfold wd
 rw [List.getElem?_set]
 by_cases h:f.i=i
 ·subst h
  rw [if_pos rfl,if_pos rfl,if_pos (by exact hi),Option.getD_some,Int.toNat_natCast]
 ·rw [if_neg h,if_neg (fun e=>h e.symm)]
  unfold z10
  match i with
  |0|1|2|3|4|5|6|7|8|9=>rfl
  |n+10=>rfl
theorem vS (f:Fd) (m j:Nat):(sr f m).testBit j=(decide (j<f.w)&& !decide (j<f.w - m)):=by
 unfold sr
 rw [yv,Nat.testBit_two_pow_sub_one,Nat.testBit_two_pow_sub_one]
theorem HOk.set {f:Fd} (hf:FOk f) {h:List Int} (hh:HOk h) {n:Nat} (hn:n<2^f.w):HOk (sB f h n):=by
 refine ⟨by rw [uk,hh.len],?_⟩
 unfold sB tR
 rw [List.all_eq_true]
 intro x hx
 rcases List.mem_or_eq_of_mem_set hx with hx|rfl
 ·have:=hh.right
  unfold tR at this
  exact List.all_eq_true.1 this x hx
 ·have:=CD (hh.wd f.i) hf.sw hn
  simp
  omega
theorem y0 {a b:Nat}:a &&& b=0↔ ∀j,a.testBit j=true→b.testBit j=false:=by
 constructor
 ·intro h j hj
  have:=congrArg (fun n=>n.testBit j) h
  simp [hj] at this
  exact this
 ·intro h
  refine Nat.eq_of_testBit_eq fun j=>?_
  rw [Nat.testBit_and,Nat.zero_testBit]
  cases hj:a.testBit j with
  |false=>rfl
  |true=>rw [h j hj];rfl
theorem xF {f:Fd} (hf:FOk f) {h:List Int} (n m:Nat) (_:m≤f.w) (hn:n<2^f.w):
  uA (sB f z10 (sr f m)) (sB f z10 (n &&& sr f m)) h=decide (sL f h / 2^(f.w - m)=n / 2^(f.w - m)):=by
 have hi:=hf.i
 have one:ui ((n &&& sr f m) * 2^f.s) (wd h f.i) (sr f m * 2^f.s)=decide (sL f h / 2^(f.w - m)=n / 2^(f.w - m)):=by
  have key:ui ((n &&& sr f m) * 2^f.s) (wd h f.i) (sr f m * 2^f.s)=true↔sL f h / 2^(f.w - m)=n / 2^(f.w - m):=by
   unfold ui
   rw [beq_iff_eq,y0]
   constructor
   ·intro hz
    refine Nat.eq_of_testBit_eq fun j=>?_
    rw [Nat.testBit_div_two_pow,Nat.testBit_div_two_pow]
    unfold sL
    rw [vb]
    by_cases hj:j+(f.w - m)<f.w
    ·rw [decide_eq_true hj,Bool.true_and]
     have:=hz (j+(f.w - m)+f.s)
     rw [Nat.testBit_xor,Nat.testBit_mul_two_pow,Nat.testBit_mul_two_pow,Nat.testBit_and,Nat.add_sub_cancel,vS,decide_eq_true hj,decide_eq_false (p:=j+(f.w - m)<f.w - m) (by omega),decide_eq_true (p:=f.s≤j+(f.w - m)+f.s) (by omega)] at this
     revert this
     cases n.testBit (j+(f.w - m)) <;> cases (wd h f.i).testBit (j+(f.w - m)+f.s) <;> simp
    ·rw [decide_eq_false hj,Bool.false_and]
     exact (Nat.testBit_lt_two_pow (Nat.lt_of_lt_of_le hn (Nat.pow_le_pow_right (by decide) (by omega)))).symm
   ·intro he j hj
    rw [Nat.testBit_mul_two_pow,vS]
    by_cases h1:f.s≤j
    ·by_cases h2:j - f.s<f.w
     ·by_cases h3:j - f.s<f.w - m
      ·simp [h3]
      ·exfalso
       rw [Nat.testBit_xor,Nat.testBit_mul_two_pow,Nat.testBit_and,vS,decide_eq_true h1,decide_eq_true h2,decide_eq_false h3] at hj
       have e:=congrArg (fun x=>x.testBit (j - f.s - (f.w - m))) he
       simp only [Nat.testBit_div_two_pow] at e
       unfold sL at e
       rw [vb,Nat.sub_add_cancel (by omega),decide_eq_true h2,Bool.true_and,Nat.sub_add_cancel h1] at e
       rw [e] at hj
       revert hj
       cases n.testBit (j - f.s) <;> simp
     ·simp [h2]
    ·simp [h1]
  cases hm:ui ((n &&& sr f m) * 2^f.s) (wd h f.i) (sr f m * 2^f.s) with
  |true=>exact (decide_eq_true (key.1 hm)).symm
  |false=>exact (decide_eq_false fun hc=>by rw [key.2 hc] at hm;cases hm).symm
 rw [← one]
 unfold uA
 cases hc:ui ((n &&& sr f m) * 2^f.s) (wd h f.i) (sr f m * 2^f.s) with
 |true=>
  rw [List.all_eq_true]
  intro i hi'
  rw [vG hf,vG hf]
  by_cases he:i=f.i
  ·rw [if_pos he,if_pos he,he];exact hc
  ·rw [if_neg he,if_neg he];unfold ui;simp
 |false=>
  refine Bool.eq_false_iff.2 fun ha=>?_
  rw [List.all_eq_true] at ha
  have:=ha f.i (by simp [hi])
  rw [vG hf,vG hf,if_pos rfl,if_pos rfl,hc] at this
  cases this
theorem zz {f:Fd} (hf:FOk f) {h:List Int} (hh:HOk h) (n:Nat) (hn:n<2^f.w):tH (sB f z10 (sr f f.w)) (sB f z10 (n &&& sr f f.w)) h=sB f h n:=by
 have hi:=hf.i
 have hm:sr f f.w=2^f.w - 1:=by
  refine Nat.eq_of_testBit_eq fun j=>?_
  rw [vS,Nat.testBit_two_pow_sub_one]
  simp
 have hnm:n &&& sr f f.w=n:=by
  rw [hm,Nat.and_two_pow_sub_one_eq_mod,Nat.mod_eq_of_lt hn]
 rw [hnm,hm]
 refine List.ext_getElem (by simp [tH,uk,hh.len]) fun i h1 h2=>?_
 have hi':i<10:=by simpa [tH] using h1
 simp only [tH,List.getElem_map,List.getElem_range]
 rw [vG hf,vG hf]
 have hil:i<h.length:=by rw [hh.len];exact hi'
 have e:(sB f h n)[i]=if f.i=i then ((tK (wd h f.i) f.s f.w n:Nat):Int) else h[i]:=List.getElem_set _
 rw [e]
 by_cases he:f.i=i
 ·subst he
  rw [if_pos rfl,if_pos rfl,if_pos rfl]
  unfold x5
  rw [yN hn]
 ·rw [if_neg (fun e=>he e.symm),if_neg (fun e=>he e.symm),if_neg he,hh.get hi']
  unfold x5 clr
  simp
end Go.MM
end
section
namespace Go.MM
open Go Go.DL Go.Proofs
inductive Pr where
 |tt|ff
 |eq (f:ByteArray) (n:Nat)
 |pre (f:ByteArray) (n m:Nat)
 |rng (f:ByteArray) (n m:Nat)
 |not (p:Pr)
 |and (p q:Pr)
 |or (p q:Pr)
 |time (n m:Int)
abbrev nm0:T:=.str ⟨#[]⟩
def sF:Pr→T
 |.tt=>.agg [I 1,nm0,I 0,I 0,.slice 5 []]
 |.ff=>.agg [I 2,nm0,I 0,I 0,.slice 5 []]
 |.eq f n=>.agg [I 3,.str f,I n,I 0,.slice 5 []]
 |.pre f n m=>.agg [I 4,.str f,I n,I m,.slice 5 []]
 |.rng f n m=>.agg [I 5,.str f,I n,I m,.slice 5 []]
 |.not p=>.agg [I 6,nm0,I 0,I 0,.slice 5 [sF p]]
 |.and p q=>.agg [I 7,nm0,I 0,I 0,.slice 5 [sF p,sF q]]
 |.or p q=>.agg [I 8,nm0,I 0,I 0,.slice 5 [sF p,sF q]]
 |.time n m=>.agg [I 9,nm0,I n,I m,.slice 5 []]
theorem ta (p:Pr):T.agg (sF p).cells=sF p∧(sF p).cells.length=5:=by cases p <;> exact ⟨rfl,rfl⟩
def fld (l:List Fd) (f:ByteArray):Fd:=(findF l f).getD yY
def holds (l:List Fd) (tick:Int) (h:List Int):Pr→Bool
 |.tt=>true
 |.ff=>false
 |.eq f n=>decide (sL (fld l f) h=n)
 |.pre f n m=>decide (sL (fld l f) h / 2^((fld l f).w - m)=n / 2^((fld l f).w - m))
 |.rng f n m=>decide (n≤sL (fld l f) h)&&decide (sL (fld l f) h≤m)
 |.not p=> !holds l tick h p
 |.and p q=>holds l tick h p&&holds l tick h q
 |.or p q=>holds l tick h p||holds l tick h q
 |.time n m=>decide (n≤tick)&&decide (tick<m)
def POk (l:List Fd):Pr→Prop
 |.tt|.ff|.time _ _=>True
 |.eq f n=> ∃F,findF l f=some F∧n<2^F.w
 |.pre f n m=> ∃F,findF l f=some F∧n<2^F.w∧m≤F.w
 |.rng f n m=> ∃F,findF l f=some F∧n≤m∧m<2^F.w
 |.not p=>POk l p
 |.and p q=>POk l p∧POk l q
 |.or p q=>POk l p∧POk l q
structure LOk (l:List Fd):Prop where
 len:l.length<2^60
 ok: ∀f∈l,FOk f
theorem tA {l:List Fd} {f:ByteArray} {F:Fd} (h:findF l f=some F):fld l f=F:=by unfold fld;rw [h];rfl
theorem Dm:FOk xw:=⟨by decide,by decide,by decide⟩
theorem LOk.find {l:List Fd} (h:LOk l) {s:ByteArray} {f:Fd} (hf:findF l s=some f):FOk f:=by
 unfold findF at hf
 split at hf
 ·cases hf;exact Dm
 ·exact h.ok f (List.mem_of_find?_eq_some hf)
def W73 (l:List Fd) (tick:Int) (off:Nat):T:=.wrld 52 [.cptr [I tick] 0] [.cptr [fds l] 0] 57 [] [.cptr [fds l] 0] off
theorem t73 (l:List Fd) (hl:LOk l) (tick:Int) (h:List Int) (hh:HOk h): ∀p:Pr,POk l p→DCalls Tryz.prog 52 [sF p,hd h,.cptr [I tick] 0,.cptr [W73 l tick 0] 0,.cptr [fds l] 0] (.bool (holds l tick h p)):=by
 have go: ∀(p:Pr) (b:Bool),wpC Tryz.prog c52 (dC [sF p,hd h,.cptr [I tick] 0,.cptr [W73 l tick 0] 0,.cptr [fds l] 0]) (nK (dp Tryz.prog) [.tmp 7] [.bool b])→DCalls Tryz.prog 52 [sF p,hd h,.cptr [I tick] 0,.cptr [W73 l tick 0] 0,.cptr [fds l] 0] (.bool b):=fun p b hw=>
  qB (rs:=[.tmp 7]) mixed Tryz.func52 l52 rfl rfl rfl (r:=[.bool b]) (nlZ rfl) hw
 intro p
 induction p with
 |tt=>
  intro _
  refine go _ _ ?_
  refine And.intro rfl ?_
  refine And.intro (by simp [hh.len]) ?_
  refine r8 (I 1) (by decide) rfl ?_
  refine rN true trivial rfl ?_
  refine r8 (I 1) (by decide) rfl ?_
  refine rN true trivial rfl ?_
  exact ⟨rfl,trivial⟩
 |ff=>
  intro _
  refine go _ _ ?_
  refine And.intro rfl ?_
  refine And.intro (by simp [hh.len]) ?_
  refine r8 (I 2) (by decide) rfl ?_
  refine rN false trivial rfl ?_
  refine rN true trivial rfl ?_
  refine r8 (I 2) (by decide) rfl ?_
  refine rN false trivial rfl ?_
  exact ⟨rfl,trivial⟩
 |time n m=>
  intro _
  refine go _ _ ?_
  refine And.intro rfl ?_
  refine And.intro (by simp [hh.len]) ?_
  refine r8 (I 9) (by decide) rfl ?_
  refine rN false trivial rfl ?_
  refine rN false trivial rfl ?_
  refine rN true trivial rfl ?_
  refine r8 (I tick) (Nat.lt_succ_self 0) rfl ?_
  refine r8 (I n) (by decide) rfl ?_
  have e:holds l tick h (.time n m)=(decide (tick≥n)&&decide (tick<m)):=rfl
  refine rM trivial (fun hb=>?_) (fun hb=>?_)
  ·refine r8 (I tick) (Nat.lt_succ_self 0) rfl ?_
   refine r8 (I m) (by decide) rfl ?_
   refine rN (decide (tick<m)) trivial rfl ?_
   exact ⟨congrArg (fun b=>some (T.bool b)) (by rw [e,hb];rfl),trivial⟩
  ·exact ⟨congrArg (fun b=>some (T.bool b)) (by rw [e,hb];rfl),trivial⟩
 |not p ih=>
  intro hp
  refine go _ _ ?_
  refine And.intro rfl ?_
  refine And.intro (by simp [hh.len]) ?_
  refine r8 (I 6) (by decide) rfl ?_
  refine rN false trivial rfl ?_
  refine rN false trivial rfl ?_
  refine rN false trivial rfl ?_
  refine rN true trivial rfl ?_
  refine r8 (W73 l tick 0) (Nat.lt_succ_self 0) rfl ?_
  refine r8 (.slice 5 [sF p]) (by decide) rfl ?_
  refine r8 (sF p) (by simp) rfl ?_
  refine r8 (sF p) (ta p).2 (ta p).1 ?_
  refine rq _ (ih hp) ?_
  exact ⟨rfl,trivial⟩
 |and p q ihp ihq=>
  intro hp
  refine go _ _ ?_
  refine And.intro rfl ?_
  refine And.intro (by simp [hh.len]) ?_
  refine r8 (I 7) (by decide) rfl ?_
  refine rN false trivial rfl ?_
  refine rN false trivial rfl ?_
  refine rN false trivial rfl ?_
  refine rN false trivial rfl ?_
  refine rN true trivial rfl ?_
  refine r8 (W73 l tick 0) (Nat.lt_succ_self 0) rfl ?_
  refine r8 (.slice 5 [sF p,sF q]) (by decide) rfl ?_
  refine r8 (sF p) (by simp) rfl ?_
  refine r8 (sF p) (ta p).2 (ta p).1 ?_
  refine rq _ (ihp hp.1) ?_
  refine r8 (I 7) (by decide) rfl ?_
  refine rN true trivial rfl ?_
  have e:holds l tick h (.and p q)=(holds l tick h p&&holds l tick h q):=rfl
  cases hb:holds l tick h p with
  |true=>
   refine rN false trivial rfl ?_
   refine r8 (W73 l tick 0) (Nat.lt_succ_self 0) rfl ?_
   refine r8 (.slice 5 [sF p,sF q]) (by decide) rfl ?_
   refine r8 (sF q) (by simp) rfl ?_
   refine r8 (sF q) (ta q).2 (ta q).1 ?_
   refine rq _ (ihq hp.2) ?_
   exact ⟨congrArg (fun b=>some (T.bool b)) (by rw [e,hb];rfl),trivial⟩
  |false=>
   refine rN true trivial rfl ?_
   refine r8 (I 7) (by decide) rfl ?_
   refine rN false trivial rfl ?_
   exact ⟨congrArg (fun b=>some (T.bool b)) (by rw [e,hb];rfl),trivial⟩
 |or p q ihp ihq=>
  intro hp
  refine go _ _ ?_
  refine And.intro rfl ?_
  refine And.intro (by simp [hh.len]) ?_
  refine r8 (I 8) (by decide) rfl ?_
  refine rN false trivial rfl ?_
  refine rN false trivial rfl ?_
  refine rN false trivial rfl ?_
  refine rN false trivial rfl ?_
  refine rN false trivial rfl ?_
  refine rN true trivial rfl ?_
  refine r8 (W73 l tick 0) (Nat.lt_succ_self 0) rfl ?_
  refine r8 (.slice 5 [sF p,sF q]) (by decide) rfl ?_
  refine r8 (sF p) (by simp) rfl ?_
  refine r8 (sF p) (ta p).2 (ta p).1 ?_
  refine rq _ (ihp hp.1) ?_
  refine r8 (I 8) (by decide) rfl ?_
  refine rN false trivial rfl ?_
  have e:holds l tick h (.or p q)=(holds l tick h p||holds l tick h q):=rfl
  cases hb:holds l tick h p with
  |false=>
   refine rN false trivial rfl ?_
   refine r8 (W73 l tick 0) (Nat.lt_succ_self 0) rfl ?_
   refine r8 (.slice 5 [sF p,sF q]) (by decide) rfl ?_
   refine r8 (sF q) (by simp) rfl ?_
   refine r8 (sF q) (ta q).2 (ta q).1 ?_
   refine rq _ (ihq hp.2) ?_
   exact ⟨congrArg (fun b=>some (T.bool b)) (by rw [e,hb];rfl),trivial⟩
  |true=>
   refine rN true trivial rfl ?_
   refine r8 (I 8) (by decide) rfl ?_
   refine rN true trivial rfl ?_
   exact ⟨congrArg (fun b=>some (T.bool b)) (by rw [e,hb];rfl),trivial⟩
 |eq f n=>
  rintro ⟨F,hF,hn⟩
  have hok:=hl.find hF
  have ht:=t74 l f hl.len
  unfold uR at ht
  rw [hF] at ht
  refine go _ _ ?_
  refine And.intro rfl ?_
  refine And.intro (by simp [hh.len]) ?_
  refine r8 (I 3) (by decide) rfl ?_
  refine rN false trivial rfl ?_
  refine rN false trivial rfl ?_
  refine rN false trivial rfl ?_
  refine rN false trivial rfl ?_
  refine rN false trivial rfl ?_
  refine rN false trivial rfl ?_
  refine r8 (fds l) (Nat.lt_succ_self 0) rfl ?_
  refine r8 (.str f) (by decide) rfl ?_
  refine rq _ ht ?_
  refine And.intro ⟨rfl,by decide⟩ ?_
  refine r8 (I 3) (by decide) rfl ?_
  refine rN true trivial rfl ?_
  refine r8 (I n) (by decide) rfl ?_
  refine rq _ (t76 F hok n hn) ?_
  have h1:=HOk.set hok vq (wK F F.w)
  have h2:=HOk.set hok vq (Nat.lt_of_le_of_lt (Nat.and_le_left (n:=n) (m:=sr F F.w)) hn)
  refine rq _ (t75 _ _ h h1 h2 hh) ?_
  have e:uA (sB F z10 (sr F F.w)) (sB F z10 (n &&& sr F F.w)) h=holds l tick h (.eq f n):=by
   rw [xF hok n F.w (Nat.le_refl _) hn]
   simp only [holds,tA hF,Nat.sub_self,Nat.pow_zero,Nat.div_one]
  exact ⟨congrArg (fun b=>some (T.bool b)) e,trivial⟩
 |pre f n m=>
  rintro ⟨F,hF,hn,hm⟩
  have hok:=hl.find hF
  have ht:=t74 l f hl.len
  unfold uR at ht
  rw [hF] at ht
  refine go _ _ ?_
  refine And.intro rfl ?_
  refine And.intro (by simp [hh.len]) ?_
  refine r8 (I 4) (by decide) rfl ?_
  refine rN false trivial rfl ?_
  refine rN false trivial rfl ?_
  refine rN false trivial rfl ?_
  refine rN false trivial rfl ?_
  refine rN false trivial rfl ?_
  refine rN false trivial rfl ?_
  refine r8 (fds l) (Nat.lt_succ_self 0) rfl ?_
  refine r8 (.str f) (by decide) rfl ?_
  refine rq _ ht ?_
  refine And.intro ⟨rfl,by decide⟩ ?_
  refine r8 (I 4) (by decide) rfl ?_
  refine rN false trivial rfl ?_
  refine rN true trivial rfl ?_
  refine r8 (I n) (by decide) rfl ?_
  refine r8 (I m) (by decide) rfl ?_
  refine rq _ (t77 F hok n m hm hn) ?_
  have h1:=HOk.set hok vq (wK F m)
  have h2:=HOk.set hok vq (Nat.lt_of_le_of_lt (Nat.and_le_left (n:=n) (m:=sr F m)) hn)
  refine rq _ (t75 _ _ h h1 h2 hh) ?_
  have e:uA (sB F z10 (sr F m)) (sB F z10 (n &&& sr F m)) h=holds l tick h (.pre f n m):=by
   rw [xF hok n m hm hn]
   simp only [holds,tA hF]
  exact ⟨congrArg (fun b=>some (T.bool b)) e,trivial⟩
 |rng f n m=>
  rintro ⟨F,hF,hn,hm⟩
  have hok:=hl.find hF
  have ht:=t74 l f hl.len
  unfold uR at ht
  rw [hF] at ht
  refine go _ _ ?_
  refine And.intro rfl ?_
  refine And.intro (by simp [hh.len]) ?_
  refine r8 (I 5) (by decide) rfl ?_
  refine rN false trivial rfl ?_
  refine rN false trivial rfl ?_
  refine rN false trivial rfl ?_
  refine rN false trivial rfl ?_
  refine rN false trivial rfl ?_
  refine rN false trivial rfl ?_
  refine r8 (fds l) (Nat.lt_succ_self 0) rfl ?_
  refine r8 (.str f) (by decide) rfl ?_
  refine rq _ ht ?_
  refine And.intro ⟨rfl,by decide⟩ ?_
  refine r8 (I 5) (by decide) rfl ?_
  refine rN false trivial rfl ?_
  refine rN false trivial rfl ?_
  refine rq _ (t78 F hok h hh) ?_
  refine r8 (I n) (by decide) rfl ?_
  have e:holds l tick h (.rng f n m)=(decide (n≤sL F h)&&decide (sL F h≤m)):=by simp only [holds,tA hF]
  refine rM trivial (fun hb=>?_) (fun hb=>?_)
  ·have hb:n≤sL F h:=by simpa using hb
   refine r8 (I m) (by decide) rfl ?_
   refine rN (decide (sL F h≤m)) trivial (by rw [Bool.eq_iff_iff];simp) ?_
   exact ⟨congrArg (fun b=>some (T.bool b)) (by rw [e,decide_eq_true hb];rfl),trivial⟩
  ·have hb: ¬n≤sL F h:=by simpa using hb
   exact ⟨congrArg (fun b=>some (T.bool b)) (by rw [e,decide_eq_false hb];rfl),trivial⟩
theorem t50 (l:List Fd) (tick:Int):DCalls Tryz.prog 32 [fds l,I tick] (W73 l tick 0):=by
 refine qB (rs:=[.tmp 4]) mixed Tryz.func32 l32 rfl rfl rfl (r:=[W73 l tick 0]) (nlZ rfl) ?_
 refine And.intro trivial ?_
 refine And.intro trivial ?_
 refine And.intro trivial ?_
 refine And.intro rfl ?_
 refine And.intro (by decide) ?_
 refine And.intro (by decide) ?_
 refine And.intro (Nat.lt_succ_self 1) ?_
 exact ⟨rfl,trivial⟩
theorem t36 (l:List Fd) (hl:LOk l) (tick:Int) (h:List Int) (hh:HOk h) (p:Pr) (hp:POk l p):DCalls Tryz.prog 19 [fds l,sF p,hd h,I tick] (.bool (holds l tick h p)):=by
 refine qB (rs:=[.tmp 8]) mixed Tryz.func19 l19 rfl rfl rfl (r:=[.bool (holds l tick h p)]) (nlZ rfl) ?_
 have go: ∀(q:Pr),q=p→wpC Tryz.prog c19 (dC [fds l,sF q,hd h,I tick]) (nK (dp Tryz.prog) [.tmp 8] [.bool (holds l tick h p)]):=fun q e=>by
  have ht:=t73 l hl tick h hh p hp
  rw [← e] at ht ⊢
  cases q with
  |_=>
   refine And.intro rfl ?_
   refine And.intro (by simp [hh.len]) ?_
   refine rq _ (t50 l tick) ?_
   refine rq _ ht ?_
   exact ⟨rfl,trivial⟩
 exact go p rfl
end Go.MM
end
section
namespace Go.MM
open Go Go.DL Go.Proofs
def tL (hs:List (List Int)):Prop:= ∀h∈hs,HOk h
theorem tL.len {hs:List (List Int)} (h:tL hs):sC hs:=fun x hx=>(h x hx).len
theorem tn: ∀{a b:List (List Int)} {h:List Int},sC a→sC b→(h∈mrg a b↔h∈a∨h∈b)
 |[],b,h,_,_=>by simp [mrg]
 |x::a,[],h,_,_=>by rw [vE];simp
 |x::a,y::b,h,ha,hb=>by
  rcases Int.lt_trichotomy (nx (x::a) (y::b)) 0 with hn|hn|hn
  ·rw [yf hn,List.mem_cons,tn (fun z hz=>ha z (by simp [hz])) hb]
   simp only [List.mem_cons]
   exact ⟨fun h=>by rcases h with h|h|h|h <;> simp [h],fun h=>by rcases h with (h|h)|h|h <;> simp [h]⟩
  ·have e:x=y:=uM ((ha x (by simp)).trans (hb y (by simp)).symm) hn
   rw [zh hn,List.mem_cons,tn (fun z hz=>ha z (by simp [hz])) (fun z hz=>hb z (by simp [hz]))]
   subst e
   simp only [List.mem_cons]
   exact ⟨fun h=>by rcases h with h|h|h <;> simp [h],fun h=>by rcases h with (h|h)|h|h <;> simp [h]⟩
  ·rw [ye hn,List.mem_cons,tn ha (fun z hz=>hb z (by simp [hz]))]
   simp only [List.mem_cons]
   exact ⟨fun h=>by rcases h with h|(h|h)|h <;> simp [h],fun h=>by rcases h with (h|h)|h|h <;> simp [h]⟩
termination_by a b=>a.length+b.length
theorem Srt.tail {x:List Int} {a:List (List Int)} (h:Srt (x::a)):Srt a:=(List.pairwise_cons.1 h).2
theorem Srt.head {x:List Int} {a:List (List Int)} (h:Srt (x::a)): ∀y∈a,su x y<0:=(List.pairwise_cons.1 h).1
theorem tq: ∀{a b:List (List Int)},sC a→sC b→Srt a→Srt b→Srt (mrg a b)
 |[],b,_,_,_,hb=>hb
 |x::a,[],_,_,ha,_=>by rw [vE];exact ha
 |x::a,y::b,la,lb,ha,hb=>by
  have lx:=la x (by simp)
  have ly:=lb y (by simp)
  have la':sC a:=fun z hz=>la z (by simp [hz])
  have lb':sC b:=fun z hz=>lb z (by simp [hz])
  rcases Int.lt_trichotomy (nx (x::a) (y::b)) 0 with hn|hn|hn
  ·rw [yf hn]
   refine List.pairwise_cons.2 ⟨fun z hz=>?_,tq la' lb ha.tail hb⟩
   rcases (tn la' lb).1 hz with hz|hz
   ·exact ha.head z hz
   ·rcases List.mem_cons.1 hz with rfl|hz
    ·exact hn
    ·exact uo (lx.trans ly.symm) (ly.trans (lb' z hz).symm) hn (hb.head z hz)
  ·have e:x=y:=uM (lx.trans ly.symm) hn
   rw [zh hn]
   refine List.pairwise_cons.2 ⟨fun z hz=>?_,tq la' lb' ha.tail hb.tail⟩
   rcases (tn la' lb').1 hz with hz|hz
   ·exact ha.head z hz
   ·rw [e];exact hb.head z hz
  ·have hn':su y x<0:=by rw [vJ x y];have h:0<su x y:=hn;omega
   rw [ye hn]
   refine List.pairwise_cons.2 ⟨fun z hz=>?_,tq la lb' ha hb.tail⟩
   rcases (tn la lb').1 hz with hz|hz
   ·rcases List.mem_cons.1 hz with rfl|hz
    ·exact hn'
    ·exact uo (ly.trans lx.symm) (lx.trans (la' z hz).symm) hn' (ha.head z hz)
   ·exact hb.head z hz
termination_by a b=>a.length+b.length
theorem zV: ∀{a b:List (List Int)},Srt a→Srt b→(∀ h,h∈a↔h∈b)→a=b
 |[],[],_,_,_=>rfl
 |[],y::b,_,_,h=>by have:=(h y).2 (by simp);simp at this
 |x::a,[],_,_,h=>by have:=(h x).1 (by simp);simp at this
 |x::a,y::b,ha,hb,h=>by
  have irr: ∀z:List Int, ¬su z z<0:=fun z=>by rw [uL];omega
  have e:x=y:=by
   rcases List.mem_cons.1 ((h x).1 (by simp)) with e|h1
   ·exact e
   ·rcases List.mem_cons.1 ((h y).2 (by simp)) with e|h2
    ·exact e.symm
    ·have k1:=hb.head x h1
     have k2:=ha.head y h2
     have:=vJ x y
     omega
  subst e
  refine congrArg (x:: ·) (zV ha.tail hb.tail fun z=>⟨fun hz=>?_,fun hz=>?_⟩)
  ·rcases List.mem_cons.1 ((h z).1 (by simp [hz])) with e|hz'
   ·exact absurd (ha.head z hz) (e▸irr _)
   ·exact hz'
  ·rcases List.mem_cons.1 ((h z).2 (by simp [hz])) with e|hz'
   ·exact absurd (hb.head z hz) (e▸irr _)
   ·exact hz'
structure SOk (s:List (List Int)):Prop where
 srt:Srt s
 ok:tL s
 len:s.length≤256
def small (s:List (List Int)):Option (List (List Int)):=if s.length>256 then none else some s
theorem tu {a b:List (List Int)} (ha:tL a) (hb:tL b):tL (mrg a b):=fun h hh=>((tn ha.len hb.len).1 hh).elim (ha h) (hb h)
theorem um {s t:List (List Int)} (hs:Srt s) (ho:tL s) (h:small s=some t):SOk t∧t=s:=by
 unfold small at h
 split at h
 ·cases h
 ·cases h;exact ⟨⟨hs,ho,by omega⟩,rfl⟩
def image (g:List Int→Option (List (List Int))):List (List Int)→List (List Int)→Option (List (List Int))
 |[],out=>some out
 |h::hs,out=>match g h with
  |none=>none
  |some a=>match small (mrg out a) with
   |none=>none
   |some out'=>image g hs out'
def rounds (im:List (List Int)→Option (List (List Int))):Nat→List (List Int)→List (List Int)→Nat→Option (List (List Int)×Nat)
 |0,_,_,_=>none
 |n+1,all,last,r=>match im last with
  |none=>none
  |some next=>match small (mrg all (next.filter fun x=> !all.contains x)) with
   |none=>none
   |some all'=>if (next.filter fun x=> !all.contains x)=[] then some (all',r) else rounds im n all' (next.filter fun x=> !all.contains x) (r+1)
inductive Po where
 |filter (p:Pr)
 |set (f:ByteArray) (n:Nat)
 |union (a b:Po)
 |seq (a b:Po)
 |star (a:Po)
def gives (l:List Fd) (tick:Int):Po→List Int→Option (List (List Int))
 |.filter p,h=>some (if holds l tick h p then [h] else [])
 |.set f n,h=>some [sB (fld l f) h n]
 |.union a b,h=>match gives l tick a h,gives l tick b h with
  |some x,some y=>small (mrg x y)
  |_,_=>none
 |.seq a b,h=>match gives l tick a h with
  |some x=>image (gives l tick b) x []
  |none=>none
 |.star a,h=>(rounds (fun s=>image (gives l tick a) s []) 300 [h] [h] 0).map (·.1)
def OOk (l:List Fd):Po→Prop
 |.filter p=>POk l p
 |.set f n=> ∃F,findF l f=some F∧n<2^F.w
 |.union a b=>OOk l a∧OOk l b
 |.seq a b=>OOk l a∧OOk l b
 |.star a=>OOk l a
theorem xA (h:List Int):Srt [h]:=List.pairwise_singleton _ _
theorem yC:Srt []:=List.Pairwise.nil
theorem tG {h:List Int} (hh:HOk h):SOk [h]:=⟨xA h,fun x hx=>by rw [List.mem_singleton.1 hx];exact hh,by simp⟩
theorem tk:SOk []:=⟨yC,fun x hx=>(by cases hx),by simp⟩
theorem uI {g:List Int→Option (List (List Int))} (hg: ∀h s,HOk h→g h=some s→SOk s): ∀{hs out s:List (List Int)},tL hs→SOk out→image g hs out=some s→SOk s
 |[],out,s,_,ho,h=>by cases h;exact ho
 |x::hs,out,s,hx,ho,h=>by
  unfold image at h
  cases hgx:g x with
  |none=>rw [hgx] at h;cases h
  |some a=>
   rw [hgx] at h
   simp only at h
   have ha:=hg x a (hx x (by simp)) hgx
   cases hsm:small (mrg out a) with
   |none=>rw [hsm] at h;cases h
   |some o=>
    rw [hsm] at h
    simp only at h
    have:=(um (tq ho.ok.len ha.ok.len ho.srt ha.srt) (tu ho.ok ha.ok) hsm).1
    exact uI hg (fun z hz=>hx z (by simp [hz])) this h
theorem wF {s:List (List Int)} (p:List Int→Bool) (h:SOk s):SOk (s.filter p):=
 ⟨List.Pairwise.filter _ h.srt,fun x hx=>h.ok x (List.mem_filter.1 hx).1,Nat.le_trans (List.length_filter_le _ _) h.len⟩
theorem yP {im:List (List Int)→Option (List (List Int))} (hi: ∀a s,SOk a→im a=some s→SOk s): ∀{n:Nat} {all last:List (List Int)} {r:Nat} {s:List (List Int)} {k:Nat},SOk all→SOk last→rounds im n all last r=some (s,k)→SOk s
 |0,_,_,_,_,_,_,_,h=>by cases h
 |n+1,all,last,r,s,k,ha,hl,h=>by
  unfold rounds at h
  cases him:im last with
  |none=>rw [him] at h;cases h
  |some next=>
   rw [him] at h
   have hn:=wF (fun x=> !all.contains x) (hi last next hl him)
   simp only at h
   cases hsm:small (mrg all (next.filter fun x=> !all.contains x)) with
   |none=>rw [hsm] at h;cases h
   |some o=>
    rw [hsm] at h
    have ho:=(um (tq ha.ok.len hn.ok.len ha.srt hn.srt) (tu ha.ok hn.ok) hsm).1
    simp only at h
    split at h
    ·cases h;exact ho
    ·exact yP hi ho hn h
theorem tc {l:List Fd} (hl:LOk l) {tick:Int}: ∀{p:Po},OOk l p→ ∀{h:List Int} {s:List (List Int)},HOk h→gives l tick p h=some s→SOk s
 |.filter p,_,h,s,hh,e=>by
  simp only [gives,Option.some.injEq] at e
  subst e
  split
  ·exact tG hh
  ·exact tk
 |.set f n,⟨F,hF,hn⟩,h,s,hh,e=>by
  simp only [gives,Option.some.injEq,tA hF] at e
  subst e
  exact tG (HOk.set (hl.find hF) hh hn)
 |.union a b,⟨ha,hb⟩,h,s,hh,e=>by
  unfold gives at e
  cases e1:gives l tick a h with
  |none=>rw [e1] at e;cases e
  |some x=>
   cases e2:gives l tick b h with
   |none=>rw [e1,e2] at e;cases e
   |some y=>
    rw [e1,e2] at e
    have hx:=tc hl ha hh e1
    have hy:=tc hl hb hh e2
    exact (um (tq hx.ok.len hy.ok.len hx.srt hy.srt) (tu hx.ok hy.ok) e).1
 |.seq a b,⟨ha,hb⟩,h,s,hh,e=>by
  unfold gives at e
  cases e1:gives l tick a h with
  |none=>rw [e1] at e;cases e
  |some x=>
   rw [e1] at e
   have hx:=tc hl ha hh e1
   exact uI (fun h s hh e=>tc hl hb hh e) hx.ok tk e
 |.star a,ha,h,s,hh,e=>by
  unfold gives at e
  cases e1:rounds (fun s=>image (gives l tick a) s []) 300 [h] [h] 0 with
  |none=>rw [e1] at e;cases e
  |some q=>
   rw [e1] at e
   cases e
   exact yP (im:=fun s=>image (gives l tick a) s []) (fun x s hx e=>uI (g:=gives l tick a) (fun h s hh e=>tc (p:=a) hl ha hh e) hx.ok tk e) (tG hh) (tG hh) (s:=q.1) (k:=q.2) e1
end Go.MM
end
section
namespace Go.MM
open Go Go.DL Go.Proofs
inductive RP where
 |mk (kind:Int) (field:ByteArray) (n m:Int) (args:List RP)
namespace RP
def kind:RP→Int|.mk k _ _ _ _=>k
def field:RP→ByteArray|.mk _ f _ _ _=>f
def n:RP→Int|.mk _ _ n _ _=>n
def m:RP→Int|.mk _ _ _ m _=>m
def args:RP→List RP|.mk _ _ _ _ a=>a
end RP
mutual
def sR:RP→T
 |.mk k f n m a=>.agg [I k,.str f,I n,I m,.slice 5 (xq a)]
def xq:List RP→List T
 |[]=>[]
 |r::rs=>sR r::xq rs
end
theorem y8: ∀l:List RP,xq l=l.map sR
 |[]=>rfl
 |r::rs=>congrArg (sR r:: ·) (y8 rs)
def sj:RP→List T
 |.mk k f n m a=>[I k,.str f,I n,I m,.slice 5 (a.map sR)]
theorem sD (r:RP):sR r= .agg (sj r):=by
 cases r;simp only [sR,sj,y8]
theorem sQ (r:RP):(sj r).length=5:=by cases r;rfl
inductive RO where
 |mk (kind:Int) (pred:RP) (field:ByteArray) (n:Int) (args:List RO)
namespace RO
def kind:RO→Int|.mk k _ _ _ _=>k
def pred:RO→RP|.mk _ p _ _ _=>p
def field:RO→ByteArray|.mk _ _ f _ _=>f
def args:RO→List RO|.mk _ _ _ _ a=>a
end RO
mutual
def tQ:RO→T
 |.mk k p f n a=>.agg (I k::(sj p++[.str f,I n,.slice 9 (wE a)]))
def wE:List RO→List T
 |[]=>[]
 |r::rs=>tQ r::wE rs
end
theorem y9: ∀l:List RO,wE l=l.map tQ
 |[]=>rfl
 |r::rs=>congrArg (tQ r:: ·) (y9 rs)
def sg:RO→List T
 |.mk k p f n a=>I k::(sj p++[.str f,I n,.slice 9 (a.map tQ)])
theorem sM (r:RO):tQ r= .agg (sg r):=by
 cases r;simp only [tQ,sg,y9]
theorem sm (r:RO):(sg r).length=9:=by cases r;simp [sg,sQ]
mutual
def RP.nodes:RP→Nat
 |.mk _ _ _ _ a=>1+sG a
def sG:List RP→Nat
 |[]=>0
 |r::rs=>r.nodes+sG rs
end
mutual
def RP.depth:RP→Nat
 |.mk _ _ _ _ a=>1+tP a
def tP:List RP→Nat
 |[]=>0
 |r::rs=>max r.depth (tP rs)
end
mutual
theorem RP.wD: ∀r:RP,r.depth≤r.nodes
 |.mk _ _ _ _ a=>by have:=wC a;simp only [RP.depth,RP.nodes];omega
theorem wC: ∀l:List RP,tP l≤sG l
 |[]=>Nat.le_refl _
 |r::rs=>by have:=RP.wD r;have:=wC rs;simp only [tP,sG];omega
end
theorem uW: ∀{l:List RP} {j:Nat} (h:j<l.length),sG (l.take (j+1))=sG (l.take j)+l[j].nodes
 |r::rs,0,h=>by simp [sG]
 |r::rs,j+1,h=>by
  have:=uW (l:=rs) (j:=j) (by simpa using h)
  simp only [List.take_succ_cons,sG,List.getElem_cons_succ]
  omega
theorem wU: ∀{l:List RP} {j:Nat} (h:j<l.length),tP (l.take (j+1))=max (tP (l.take j)) l[j].depth
 |r::rs,0,h=>by simp [tP]
 |r::rs,j+1,h=>by
  have:=wU (l:=rs) (j:=j) (by simpa using h)
  simp only [List.take_succ_cons,tP,List.getElem_cons_succ]
  omega
theorem uV: ∀{l:List RP} {j:Nat},sG (l.take j)≤sG l
 |[],j=>by simp
 |r::rs,0=>by simp [sG]
 |r::rs,j+1=>by
  have:=uV (l:=rs) (j:=j)
  simp only [List.take_succ_cons,sG]
  omega
theorem RP.tS (r:RP):1≤r.nodes:=by cases r;simp only [RP.nodes];omega
theorem vi: ∀l:List RP,l.length≤sG l
 |[]=>Nat.le_refl _
 |r::rs=>by have:=vi rs;have:=r.tS;simp only [sG,List.length_cons];omega
def sz (n d:Nat):T:=.agg [I n,I d]
theorem t102 (a b c d:Nat) (h1:a+c<2^62) (_:b<2^62) (h3:d<2^62):DCalls Tryz.prog 107 [sz a b,sz c d] (sz (a+c) (max b (d+1))):=by
 refine qB (rs:=[.cell 4 126]) mixed Tryz.func107 FD rfl rfl rfl (r:=[sz (a+c) (max b (d+1))]) (nlZ rfl) ?_
 repeat' ((conv=>whnf);first|exact trivial|refine nT_ ?_|refine aE1 ?_|refine aE0 ?_|refine aN1 ?_|refine aN0 ?_|refine aD1 ?_|refine aD0 ?_|refine nE_ (fun hq=>?_) (fun hq=>?_)|refine nN_ (fun hq=>?_) (fun hq=>?_)|refine nD_ (fun hq=>?_) (fun hq=>?_)|refine rb1 ?_|refine rb0 ?_|refine rbx ?_|refine rix ?_|refine aS ?_|fail)
 refine And.intro (congrArg some ?_) trivial
 simp (disch:=omega) only [mj,aJ,List.take,List.drop,List.nil_append,List.cons_append]
 unfold sz I
 have e:(if (d:Int)+1>(b:Int) then (d:Int)+1 else (b:Int))=((max b (d+1):Nat):Int):=by split <;> omega
 rw [e,Int.natCast_add]
theorem t103 (N:Nat): ∀r:RP,r.nodes≤N→N<2^60→DCalls Tryz.prog 108 [.agg (sj r)] (sz r.nodes r.depth):=by
 induction N with
 |zero=>intro r h;have:=r.tS;omega
 |succ N ih=>
  rintro ⟨k,f,n,m,l⟩ hr hN
  refine qB (rs:=[.cell 2 126]) mixed Tryz.func108 FE rfl rfl rfl (r:=[sz _ _]) (nlZ rfl) ?_
  simp only [RP.nodes,RP.depth] at hr ⊢
  repeat' ((conv=>whnf);first|exact trivial|refine nT_ ?_|refine aE1 ?_|refine aE0 ?_|refine aN1 ?_|refine aN0 ?_|refine aD1 ?_|refine aD0 ?_|refine nE_ (fun hq=>?_) (fun hq=>?_)|refine nN_ (fun hq=>?_) (fun hq=>?_)|refine nD_ (fun hq=>?_) (fun hq=>?_)|refine rb1 ?_|refine rb0 ?_|refine rbx ?_|refine rix ?_|refine aS ?_|fail)
  refine qX (α:=Nat) (fun i=>{sl:=[(1,.ptr 1 0),(2,.ptr 2 0),(3,.ptr 3 0),(4,.t (I i))],bx:=[(1,.d 5 (sj (.mk k f n m l))),(2,.d 2 [I 0,I 0]),(3,.d 2 [I (1+sG (l.take i):Nat),I (1+tP (l.take i):Nat)])]})
   (fun i=>i≤l.length) (fun i=>l.length - i) 0 (by omega) ?_ ?_
  ·repeat' (first|exact trivial|exact LeV.same _|exact LeB.same _|exact rfl|exact fun _ _ _=>trivial|exact lI|exact LeV.nil _ _ _|exact lB|refine r9 ?_|refine rO ?_|refine And.intro ?_ ?_)
  rintro i hi
  rcases Nat.lt_or_ge i l.length with h|h
  ·have hn:=uW h
   have hd:=wU h
   have hm:=uV (l:=l) (j:=i+1)
   have hp:=l[i].tS
   have hl:=vi l
   have hdn:=l[i].wD
   have hd1:=wC (l.take i)
   repeat' ((conv=>whnf);first|exact trivial|(refine nv_ (.agg (sj l[i])) (by first|(simp [h,sD];done)|fail) ?_)|refine rq _ (ih l[i] (by omega) (by omega)) ?_|refine rq _ (t102 _ _ _ _ (by omega) (by omega) (by omega)) ?_|refine nT_ ?_|refine aE1 ?_|refine aE0 ?_|refine aN1 ?_|refine aN0 ?_|refine aD1 ?_|refine aD0 ?_|refine nE_ (fun hq=>?_) (fun hq=>?_)|refine nN_ (fun hq=>?_) (fun hq=>?_)|refine nD_ (fun hq=>?_) (fun hq=>?_)|refine rb1 ?_|refine rb0 ?_|refine rbx ?_|refine rix ?_|(refine And.intro (by first|exact sQ _|fail) ?_)|refine aS ?_|fail)
   refine ⟨i+1,by omega,by omega,?_⟩
   repeat' (first|exact trivial|exact LeV.same _|exact LeB.same _|exact rfl|exact fun _ _ _=>trivial|exact lI|exact LeV.nil _ _ _|exact lB|refine r9 ?_|refine rO ?_|refine And.intro ?_ ?_)
   rw [hn,hd,show 1+(sG (l.take i)+l[i].nodes)=1+sG (l.take i)+l[i].nodes by omega,show 1+max (tP (l.take i)) l[i].depth=max (1+tP (l.take i)) (l[i].depth+1) by omega]
   rfl
  ·have:i=l.length:=by omega
   subst this
   rw [List.take_length]
   repeat' ((conv=>whnf);first|exact trivial|refine nT_ ?_|refine aE1 ?_|refine aE0 ?_|refine aN1 ?_|refine aN0 ?_|refine aD1 ?_|refine aD0 ?_|refine nE_ (fun hq=>?_) (fun hq=>?_)|refine nN_ (fun hq=>?_) (fun hq=>?_)|refine nD_ (fun hq=>?_) (fun hq=>?_)|refine rb1 ?_|refine rb0 ?_|refine rbx ?_|refine rix ?_|refine aS ?_|fail)
end Go.MM
end
section
namespace Go.MM
open Go Go.DL Go.Proofs
def xm:List ByteArray:=[⟨#[97,110,100]⟩,
 ⟨#[97,110,121]⟩,
 ⟨#[97,116]⟩,
 ⟨#[98,97,99,107]⟩,
 ⟨#[98,111,120]⟩,
 ⟨#[98,117,114,115,116]⟩,
 ⟨#[98,121]⟩,
 ⟨#[99,97,112,97,99,105,116,121]⟩,
 ⟨#[99,101,105,108,105,110,103]⟩,
 ⟨#[99,104,101,99,107]⟩,
 ⟨#[99,111,110,116,114,97,99,116]⟩,
 ⟨#[99,111,117,110,116]⟩,
 ⟨#[100,101,109,97,110,100]⟩,
 ⟨#[100,114,111,112]⟩,
 ⟨#[101,97,99,104]⟩,
 ⟨#[101,100,103,101]⟩,
 ⟨#[101,110,116,114,105,101,115]⟩,
 ⟨#[102,97,108,115,101]⟩,
 ⟨#[102,105,101,108,100]⟩,
 ⟨#[102,108,111,111,114]⟩,
 ⟨#[102,114,111,109]⟩,
 ⟨#[105,100]⟩,
 ⟨#[105,110]⟩,
 ⟨#[105,110,110,101,114]⟩,
 ⟨#[105,110,116,111]⟩,
 ⟨#[108,105,110,107]⟩,
 ⟨#[110,101,116,119,111,114,107]⟩,
 ⟨#[110,111,100,101]⟩,
 ⟨#[110,111,116]⟩,
 ⟨#[111,112,101,110]⟩,
 ⟨#[111,114]⟩,
 ⟨#[112,97,116,104]⟩,
 ⟨#[112,111,114,116]⟩,
 ⟨#[112,114,105,99,101]⟩,
 ⟨#[114,111,117,116,101]⟩,
 ⟨#[114,117,108,101,115]⟩,
 ⟨#[115,116,97,103,101]⟩,
 ⟨#[116,97,107,101]⟩,
 ⟨#[116,101,110,97,110,116]⟩,
 ⟨#[116,104,101,110]⟩,
 ⟨#[116,105,109,101]⟩,
 ⟨#[116,111]⟩,
 ⟨#[116,111,107,101,110]⟩,
 ⟨#[116,114,97,110,115,108,97,116,101]⟩,
 ⟨#[116,114,117,101]⟩,
 ⟨#[118,105,97]⟩,
 ⟨#[119,105,100,116,104]⟩,
 ⟨#[119,105,114,101]⟩,
 ⟨#[119,105,116,104,105,110]⟩]
def uf (c:Int):Bool:=decide (97≤c)&&decide (c≤122)
def vl (c:Int):Bool:=decide (48≤c)&&decide (c≤57)
def wT (c:Int):Bool:=uf c||vl c||c==95
def tI (s:ByteArray) (i:Nat):Int:=((s.toList[i]?.getD 0).toNat:Int)
abbrev U (n:Int):T:=.int .u8 n
theorem t110 (c:Int):DCalls Tryz.prog 122 [U c] (.bool (uf c)):=by
 refine qB (rs:=[.tmp 2]) mixed Tryz.func122 FL rfl rfl rfl (r:=[.bool _]) (nlZ rfl) ?_
 unfold uf
 repeat' ((conv=>whnf);first|exact trivial|refine nT_ ?_|refine aE1 ?_|refine aE0 ?_|refine aN1 ?_|refine aN0 ?_|refine aD1 ?_|refine aD0 ?_|refine nE_ (fun hq=>?_) (fun hq=>?_)|refine nN_ (fun hq=>?_) (fun hq=>?_)|refine nD_ (fun hq=>?_) (fun hq=>?_)|refine rb1 ?_|refine rb0 ?_|refine rbx ?_|refine rix ?_|refine aS ?_|fail)
theorem t115 (c:Int):DCalls Tryz.prog 127 [U c] (.bool (vl c)):=by
 refine qB (rs:=[.tmp 2]) mixed Tryz.func127 FQ rfl rfl rfl (r:=[.bool _]) (nlZ rfl) ?_
 unfold vl
 repeat' ((conv=>whnf);first|exact trivial|refine nT_ ?_|refine aE1 ?_|refine aE0 ?_|refine aN1 ?_|refine aN0 ?_|refine aD1 ?_|refine aD0 ?_|refine nE_ (fun hq=>?_) (fun hq=>?_)|refine nN_ (fun hq=>?_) (fun hq=>?_)|refine nD_ (fun hq=>?_) (fun hq=>?_)|refine rb1 ?_|refine rb0 ?_|refine rbx ?_|refine rix ?_|refine aS ?_|fail)
theorem t114 (c:Int):DCalls Tryz.prog 126 [U c] (.bool (wT c)):=by
 refine qB (rs:=[.tmp 2]) mixed Tryz.func126 FP rfl rfl rfl (r:=[.bool _]) (nlZ rfl) ?_
 unfold wT
 have h1:=t110 c
 have h2:=t115 c
 generalize uf c=a at *
 generalize vl c=b at *
 cases a <;> cases b
 all_goals repeat' ((conv=>whnf);first|exact trivial|refine rq _ (h1) ?_|refine rq _ (h2) ?_|refine nT_ ?_|refine aE1 ?_|refine aE0 ?_|refine aN1 ?_|refine aN0 ?_|refine aD1 ?_|refine aD0 ?_|refine nE_ (fun hq=>?_) (fun hq=>?_)|refine nN_ (fun hq=>?_) (fun hq=>?_)|refine nD_ (fun hq=>?_) (fun hq=>?_)|refine rb1 ?_|refine rb0 ?_|refine rbx ?_|refine rix ?_|refine aS ?_|fail)
theorem t113:DCalls Tryz.prog 125 [] (.slice 1 (xm.map .str)):=by
 refine qB (rs:=[.tmp 0]) mixed Tryz.func125 FO rfl rfl rfl (r:=[.slice 1 (xm.map .str)]) (nlZ rfl) ?_
 repeat' ((conv=>whnf);first|exact trivial|refine nT_ ?_|refine aE1 ?_|refine aE0 ?_|refine aN1 ?_|refine aN0 ?_|refine aD1 ?_|refine aD0 ?_|refine nE_ (fun hq=>?_) (fun hq=>?_)|refine nN_ (fun hq=>?_) (fun hq=>?_)|refine nD_ (fun hq=>?_) (fun hq=>?_)|refine rb1 ?_|refine rb0 ?_|refine rbx ?_|refine rix ?_|refine aS ?_|fail)
def xr (s:ByteArray):Bool:=xm.any fun w=>sk w s
theorem t111 (s:ByteArray):DCalls Tryz.prog 123 [.str s] (.bool (xr s)):=by
 refine qB (rs:=[.tmp 2]) mixed Tryz.func123 FM rfl rfl rfl (r:=[.bool _]) (nlZ rfl) ?_
 unfold xr
 have hw:xm.length=49:=rfl
 have h0:=t113
 generalize xm=ws at *
 repeat' ((conv=>whnf);first|exact trivial|refine rq _ (h0) ?_|refine nT_ ?_|refine aE1 ?_|refine aE0 ?_|refine aN1 ?_|refine aN0 ?_|refine aD1 ?_|refine aD0 ?_|refine nE_ (fun hq=>?_) (fun hq=>?_)|refine nN_ (fun hq=>?_) (fun hq=>?_)|refine nD_ (fun hq=>?_) (fun hq=>?_)|refine rb1 ?_|refine rb0 ?_|refine rbx ?_|refine rix ?_|refine aS ?_|fail)
 refine qX (α:=Nat) (fun i=>{sl:=[(0,.t (.str s)),(3,.t (.slice 1 (ws.map .str))),(4,.t (I i))],bx:=[]})
  (fun i=>i≤ws.length∧ ∀j (h:j<ws.length),j<i→sk ws[j] s=false) (fun i=>ws.length - i) 0 (by simp) ?_ ?_
 ·repeat' (first|exact trivial|exact LeV.same _|exact LeB.same _|exact rfl|exact fun _ _ _=>trivial|exact lI|exact LeV.nil _ _ _|exact lB|refine r9 ?_|refine rO ?_|refine And.intro ?_ ?_)
 rintro i ⟨hi,hp⟩
 rcases Nat.lt_or_ge i ws.length with h|h
 ·cases hb:sk ws[i] s with
  |true=>
   have e:(ws.any fun w=>sk w s)=true:=List.any_eq_true.2 ⟨_,List.getElem_mem h,hb⟩
   rw [e]
   repeat' ((conv=>whnf);first|exact trivial|(refine nv_ (.str ws[i]) (by first|(simp [h];done)|fail) ?_)|refine nb_ true ((sZ _ _).trans hb) ?_|refine nT_ ?_|refine aE1 ?_|refine aE0 ?_|refine aN1 ?_|refine aN0 ?_|refine aD1 ?_|refine aD0 ?_|refine nE_ (fun hq=>?_) (fun hq=>?_)|refine nN_ (fun hq=>?_) (fun hq=>?_)|refine nD_ (fun hq=>?_) (fun hq=>?_)|refine rb1 ?_|refine rb0 ?_|refine rbx ?_|refine rix ?_|refine aS ?_|fail)
  |false=>
   repeat' ((conv=>whnf);first|exact trivial|(refine nv_ (.str ws[i]) (by first|(simp [h];done)|fail) ?_)|refine nb_ false ((sZ _ _).trans hb) ?_|refine nT_ ?_|refine aE1 ?_|refine aE0 ?_|refine aN1 ?_|refine aN0 ?_|refine aD1 ?_|refine aD0 ?_|refine nE_ (fun hq=>?_) (fun hq=>?_)|refine nN_ (fun hq=>?_) (fun hq=>?_)|refine nD_ (fun hq=>?_) (fun hq=>?_)|refine rb1 ?_|refine rb0 ?_|refine rbx ?_|refine rix ?_|refine aS ?_|fail)
   refine ⟨i+1,⟨h,fun j hj hlt=>?_⟩,by omega,?_⟩
   ·rcases Nat.lt_or_ge j i with h4|h4
    ·exact hp j hj h4
    ·obtain rfl:j=i:=by omega
     exact hb
   ·repeat' (first|exact trivial|exact LeV.same _|exact LeB.same _|exact rfl|exact fun _ _ _=>trivial|exact lI|exact LeV.nil _ _ _|exact lB|refine r9 ?_|refine rO ?_|refine And.intro ?_ ?_)
 ·have e:(ws.any fun w=>sk w s)=false:=by
   rw [List.any_eq_false]
   intro w hw
   obtain ⟨j,hj,rfl⟩:=List.getElem_of_mem hw
   simp [hp j hj (by omega)]
  rw [e]
  repeat' ((conv=>whnf);first|exact trivial|refine nT_ ?_|refine aE1 ?_|refine aE0 ?_|refine aN1 ?_|refine aN0 ?_|refine aD1 ?_|refine aD0 ?_|refine nE_ (fun hq=>?_) (fun hq=>?_)|refine nN_ (fun hq=>?_) (fun hq=>?_)|refine nD_ (fun hq=>?_) (fun hq=>?_)|refine rb1 ?_|refine rb0 ?_|refine rbx ?_|refine rix ?_|refine aS ?_|fail)
def wc:List UInt8→Nat
 |[]=>0
 |b::bs=>if wT (b.toNat:Int) then 1+wc bs else 0
theorem xj: ∀{l:List UInt8} {n:Nat},n≤l.length→(∀ j,j<n→wT ((l[j]?.getD 0).toNat:Int)=true)→(n=l.length∨wT ((l[n]?.getD 0).toNat:Int)=false)→wc l=n
 |[],n,hn,_,_=>by simp at hn;simp [wc,hn]
 |b::bs,0,hn,_,h=>by
  rcases h with h|h
  ·simp at h
  ·simp at h;simp [wc,h]
 |b::bs,n+1,hn,hp,h=>by
  have h0:=hp 0 (by omega)
  simp at h0
  have:=xj (l:=bs) (n:=n) (by simpa using hn) (fun j hj=>by simpa using hp (j+1) (by omega)) (by simpa using h)
  simp [wc,h0,this];omega
theorem zI (s:ByteArray):s.toList.length=s.size:=by rw [ByteArray.toList_eq];rfl
theorem t112 (s:ByteArray) (hs:s.size<2^62):DCalls Tryz.prog 124 [.str s] (I (wc s.toList)):=by
 refine qB (rs:=[.tmp 2]) mixed Tryz.func124 FN rfl rfl rfl (r:=[.int _ _]) (nlZ rfl) ?_
 have hl:=zI s
 repeat' ((conv=>whnf);first|exact trivial|refine nT_ ?_|refine aE1 ?_|refine aE0 ?_|refine aN1 ?_|refine aN0 ?_|refine aD1 ?_|refine aD0 ?_|refine nE_ (fun hq=>?_) (fun hq=>?_)|refine nN_ (fun hq=>?_) (fun hq=>?_)|refine nD_ (fun hq=>?_) (fun hq=>?_)|refine rb1 ?_|refine rb0 ?_|refine rbx ?_|refine rix ?_|refine aS ?_|fail)
 refine qX (α:=Nat) (fun i=>{sl:=[(0,.t (.str s)),(3,.t (I i))],bx:=[]})
  (fun i=>i≤s.size∧ ∀j,j<i→wT (tI s j)=true) (fun i=>s.size - i) 0 (by simp) ?_ ?_
 ·repeat' (first|exact trivial|exact LeV.same _|exact LeB.same _|exact rfl|exact fun _ _ _=>trivial|exact lI|exact LeV.nil _ _ _|exact lB|refine r9 ?_|refine rO ?_|refine And.intro ?_ ?_)
 rintro i ⟨hi,hp⟩
 rcases Nat.lt_or_ge i s.size with h|h
 ·have h0:=t114 (tI s i)
  cases hb:wT (tI s i) with
  |true=>
   rw [hb] at h0
   repeat' ((conv=>whnf);first|exact trivial|refine vx (U (tI s i)) ?_|refine rq _ (h0) ?_|refine nT_ ?_|refine aE1 ?_|refine aE0 ?_|refine aN1 ?_|refine aN0 ?_|refine aD1 ?_|refine aD0 ?_|refine nE_ (fun hq=>?_) (fun hq=>?_)|refine nN_ (fun hq=>?_) (fun hq=>?_)|refine nD_ (fun hq=>?_) (fun hq=>?_)|refine rb1 ?_|refine rb0 ?_|refine rbx ?_|refine rix ?_|refine aS ?_|fail)
   refine ⟨i+1,⟨h,fun j hj=>?_⟩,by omega,?_⟩
   ·rcases Nat.lt_or_ge j i with h4|h4
    ·exact hp j h4
    ·obtain rfl:j=i:=by omega
     exact hb
   ·repeat' (first|exact trivial|exact LeV.same _|exact LeB.same _|exact rfl|exact fun _ _ _=>trivial|exact lI|exact LeV.nil _ _ _|exact lB|refine r9 ?_|refine rO ?_|refine And.intro ?_ ?_)
  |false=>
   rw [hb] at h0
   have e:wc s.toList=i:=xj (by omega) hp (.inr hb)
   rw [e]
   repeat' ((conv=>whnf);first|exact trivial|refine vx (U (tI s i)) ?_|refine rq _ (h0) ?_|refine nT_ ?_|refine aE1 ?_|refine aE0 ?_|refine aN1 ?_|refine aN0 ?_|refine aD1 ?_|refine aD0 ?_|refine nE_ (fun hq=>?_) (fun hq=>?_)|refine nN_ (fun hq=>?_) (fun hq=>?_)|refine nD_ (fun hq=>?_) (fun hq=>?_)|refine rb1 ?_|refine rb0 ?_|refine rbx ?_|refine rix ?_|refine aS ?_|fail)
 ·have e:wc s.toList=i:=xj (by omega) hp (.inl (by omega))
  rw [e]
  repeat' ((conv=>whnf);first|exact trivial|refine nT_ ?_|refine aE1 ?_|refine aE0 ?_|refine aN1 ?_|refine aN0 ?_|refine aD1 ?_|refine aD0 ?_|refine nE_ (fun hq=>?_) (fun hq=>?_)|refine nN_ (fun hq=>?_) (fun hq=>?_)|refine nD_ (fun hq=>?_) (fun hq=>?_)|refine rb1 ?_|refine rb0 ?_|refine rbx ?_|refine rix ?_|refine aS ?_|fail)
def xd (s:ByteArray):Bool:=decide (0<s.size)&&decide (s.size≤24)&&uf (tI s 0)&&(wc s.toList==s.size)&& !xr s
theorem t109 (s:ByteArray) (hs:s.size<2^62):DCalls Tryz.prog 121 [.str s] (.bool (xd s)):=by
 refine qB (rs:=[.tmp 2]) mixed Tryz.func121 FK rfl rfl rfl (r:=[.bool _]) (nlZ rfl) ?_
 unfold xd
 have h1:=t110 (tI s 0)
 have h2:=t111 s
 have h3:=t112 s hs
 generalize uf (tI s 0)=a at *
 generalize xr s=w at *
 generalize wc s.toList=n at *
 by_cases hz:s.size=0
 ·simp [hz]
  repeat' ((conv=>whnf);first|exact trivial|refine nT_ ?_|refine aE1 ?_|refine aE0 ?_|refine aN1 ?_|refine aN0 ?_|refine aD1 ?_|refine aD0 ?_|refine nE_ (fun hq=>?_) (fun hq=>?_)|refine nN_ (fun hq=>?_) (fun hq=>?_)|refine nD_ (fun hq=>?_) (fun hq=>?_)|refine rb1 ?_|refine rb0 ?_|refine rbx ?_|refine rix ?_|refine aS ?_|fail)
 ·by_cases h24:s.size≤24
  ·simp [h24,show 0<s.size by omega]
   cases a <;> cases w <;> repeat' ((conv=>whnf);first|exact trivial|refine vx (U (tI s 0)) ?_|refine rq _ (h1) ?_|refine rq _ (h2) ?_|refine rq _ (h3) ?_|refine nT_ ?_|refine aE1 ?_|refine aE0 ?_|refine aN1 ?_|refine aN0 ?_|refine aD1 ?_|refine aD0 ?_|refine nE_ (fun hq=>?_) (fun hq=>?_)|refine nN_ (fun hq=>?_) (fun hq=>?_)|refine nD_ (fun hq=>?_) (fun hq=>?_)|refine rb1 ?_|refine rb0 ?_|refine rbx ?_|refine rix ?_|refine aS ?_|fail)
  ·simp [h24]
   repeat' ((conv=>whnf);first|exact trivial|refine nT_ ?_|refine aE1 ?_|refine aE0 ?_|refine aN1 ?_|refine aN0 ?_|refine aD1 ?_|refine aD0 ?_|refine nE_ (fun hq=>?_) (fun hq=>?_)|refine nN_ (fun hq=>?_) (fun hq=>?_)|refine nD_ (fun hq=>?_) (fun hq=>?_)|refine rb1 ?_|refine rb0 ?_|refine rbx ?_|refine rix ?_|refine aS ?_|fail)
theorem t108 (s:ByteArray) (hs:s.size<2^62):DCalls Tryz.prog 119 [.str s] (.bool (xd s)):=by
 refine qB (rs:=[.tmp 2]) mixed Tryz.func119 FJ rfl rfl rfl (r:=[.bool _]) (nlZ rfl) ?_
 have h1:=t109 s hs
 repeat' ((conv=>whnf);first|exact trivial|refine rq _ (h1) ?_|refine nT_ ?_|refine aE1 ?_|refine aE0 ?_|refine aN1 ?_|refine aN0 ?_|refine aD1 ?_|refine aD0 ?_|refine nE_ (fun hq=>?_) (fun hq=>?_)|refine nN_ (fun hq=>?_) (fun hq=>?_)|refine nD_ (fun hq=>?_) (fun hq=>?_)|refine rb1 ?_|refine rb0 ?_|refine rbx ?_|refine rix ?_|refine aS ?_|fail)
def uj (s:ByteArray):Bool:=xd s||sk s tM
theorem t104 (s:ByteArray) (hs:s.size<2^62):DCalls Tryz.prog 109 [.str s] (.bool (uj s)):=by
 refine qB (rs:=[.tmp 2]) mixed Tryz.func109 FF rfl rfl rfl (r:=[.bool _]) (nlZ rfl) ?_
 have h1:=t108 s hs
 unfold uj
 have h2:=sZ s tM
 generalize xd s=a at *
 generalize sk s tM=b at *
 cases a <;> cases b <;> repeat' ((conv=>whnf);first|exact trivial|refine rq _ (h1) ?_|refine nb_ _ h2 ?_|refine nT_ ?_|refine aE1 ?_|refine aE0 ?_|refine aN1 ?_|refine aN0 ?_|refine aD1 ?_|refine aD0 ?_|refine nE_ (fun hq=>?_) (fun hq=>?_)|refine nN_ (fun hq=>?_) (fun hq=>?_)|refine nD_ (fun hq=>?_) (fun hq=>?_)|refine rb1 ?_|refine rb0 ?_|refine rbx ?_|refine rix ?_|refine aS ?_|fail)
end Go.MM
end
section
namespace Go.MM
open Go Go.DL Go.Proofs
abbrev e0:ByteArray:=⟨#[]⟩
def vm:RP→Bool
 |.mk k f n m a=>(k==0)&&sk f e0&&(n==0)&&(m==0)&&(a.length==0)
theorem t105 (r:RP):DCalls Tryz.prog 110 [.agg (sj r),.agg [I 0,.str e0,I 0,I 0,.nil]] (.bool (vm r)):=by
 obtain ⟨k,f,n,m,l⟩:=r
 refine qB (rs:=[.tmp 4]) mixed Tryz.func110 FG rfl rfl rfl (r:=[.bool _]) (nlZ rfl) ?_
 simp only [vm]
 have h2:=sZ f e0
 generalize sk f e0=b at *
 cases l <;> repeat' ((conv=>whnf);first|exact trivial|refine nb_ (!b) (congrArg _ h2) ?_|refine nT_ ?_|refine aE1 ?_|refine aE0 ?_|refine aN1 ?_|refine aN0 ?_|refine aD1 ?_|refine aD0 ?_|refine nE_ (fun hq=>?_) (fun hq=>?_)|refine nN_ (fun hq=>?_) (fun hq=>?_)|refine nD_ (fun hq=>?_) (fun hq=>?_)|refine rb1 ?_|refine rb0 ?_|refine rbx ?_|refine rix ?_|refine aS ?_|(cases b)|fail)
 refine qX (α:=Unit) (fun _=>{sl:=[(2,.ptr 2 0),(3,.ptr 3 0),(5,.t (I 0))],bx:=[(2,.d 5 (sj (.mk k f n m []))),(3,.d 5 [I 0,.str e0,I 0,I 0,.nil])]}) (fun _=>True) (fun _=>0) () trivial ?_ ?_
 ·repeat' (first|exact trivial|exact LeV.same _|exact LeB.same _|exact rfl|exact fun _ _ _=>trivial|exact lI|exact LeV.nil _ _ _|exact lB|refine r9 ?_|refine rO ?_|refine And.intro ?_ ?_)
 rintro _ _
 repeat' ((conv=>whnf);first|exact trivial|refine nT_ ?_|refine aE1 ?_|refine aE0 ?_|refine aN1 ?_|refine aN0 ?_|refine aD1 ?_|refine aD0 ?_|refine nE_ (fun hq=>?_) (fun hq=>?_)|refine nN_ (fun hq=>?_) (fun hq=>?_)|refine nD_ (fun hq=>?_) (fun hq=>?_)|refine rb1 ?_|refine rb0 ?_|refine rbx ?_|refine rix ?_|refine aS ?_|fail)
def w4 (n:Int):Bool:=decide (0≤n)&&decide (n≤65535)
def wN (f:ByteArray) (n m:Int):Bool:=sk f e0&&(n==0)&&(m==0)
def xo (k:Int):Nat:=if k=6 then 1 else if k=7∨k=8 then 2 else 0
def okP (k:Int) (f:ByteArray) (n m:Int):Bool:=
 if k=1∨k=2 then wN f n m
 else if k=3 then uj f&&w4 n&&(m==0)
 else if k=4 then uj f&&w4 n&&decide (0≤m)&&decide (m≤16)
 else if k=5 then uj f&&decide (0≤n)&&decide (n≤m)&&decide (m≤65535)
 else if k=6∨k=7∨k=8 then wN f n m
 else if k=9 then sk f e0&&decide (0≤n)&&decide (n<m)&&decide (m≤1073741824)
 else false
mutual
def tw:RP→Bool
 |.mk k f n m a=>okP k f n m&&(a.length==xo k)&&sX a
def sX:List RP→Bool
 |[]=>true
 |r::rs=>tw r&&sX rs
end
theorem vN: ∀{l:List RP},sX l=true↔ ∀(i:Nat) (h:i<l.length),tw l[i]=true
 |[]=>by simp [sX]
 |r::rs=>by
  simp only [sX,Bool.and_eq_true,vN (l:=rs)]
  constructor
  ·rintro ⟨h0,h⟩ i hi
   cases i with
   |zero=>exact h0
   |succ i=>simpa using h i (by simpa using hi)
  ·intro h
   exact ⟨h 0 (by simp),fun i hi=>h (i+1) (by simpa using hi)⟩
mutual
def wX:RP→Prop
 |.mk _ f _ _ a=>f.size<2^62∧wq a
def wq:List RP→Prop
 |[]=>True
 |r::rs=>wX r∧wq rs
end
theorem xH: ∀{l:List RP},wq l→ ∀(i:Nat) (h:i<l.length),wX l[i]
 |[],_,i,h=>by simp at h
 |r::rs,h,i,hi=>by
  cases i with
  |zero=>exact h.1
  |succ i=>simpa using xH h.2 i (by simpa using hi)
theorem t106 (N:Nat): ∀r:RP,r.nodes≤N→N<2^60→wX r→DCalls Tryz.prog 111 [.agg (sj r)] (.bool (tw r)):=by
 induction N with
 |zero=>intro r h;have:=r.tS;omega
 |succ N ih=>
  rintro ⟨k,f,n,m,l⟩ hr hN hnm
  refine qB (rs:=[.tmp 2]) mixed Tryz.func111 FH rfl rfl rfl (r:=[.bool _]) (nlZ rfl) ?_
  simp only [RP.nodes,tw] at hr ⊢
  have h104:=t104 f hnm.1
  repeat' ((conv=>whnf);first|exact trivial|refine rq _ (h104) ?_|refine nT_ ?_|refine aE1 ?_|refine aE0 ?_|refine aN1 ?_|refine aN0 ?_|refine aD1 ?_|refine aD0 ?_|refine nE_ (fun hq=>?_) (fun hq=>?_)|refine nN_ (fun hq=>?_) (fun hq=>?_)|refine nD_ (fun hq=>?_) (fun hq=>?_)|refine rb1 ?_|refine rb0 ?_|refine rbx ?_|refine rix ?_|refine aS ?_|fail)
  refine rf (β:=Unit) (fun _=>{sl:=[(1,.ptr 1 0),(3,.t (.bool (uj f))),(4,.t (.bool (w4 n)))],bx:=[(1,.d 5 (sj (.mk k f n m l)))]}) (fun _=>True) ?_ ?_
  ·repeat' ((conv=>whnf);first|exact trivial|refine nT_ ?_|refine aE1 ?_|refine aE0 ?_|refine aN1 ?_|refine aN0 ?_|refine aD1 ?_|refine aD0 ?_|refine nE_ (fun hq=>?_) (fun hq=>?_)|refine nN_ (fun hq=>?_) (fun hq=>?_)|refine nD_ (fun hq=>?_) (fun hq=>?_)|refine rb1 ?_|refine rb0 ?_|refine rbx ?_|refine rix ?_|refine aS ?_|fail)
   all_goals refine ⟨(),trivial,?_⟩
   all_goals unfold w4
   all_goals repeat' (first|exact trivial|exact LeV.same _|exact LeB.same _|exact rfl|exact fun _ _ _=>trivial|exact lI|exact LeV.nil _ _ _|exact lB|refine r9 ?_|refine rO ?_|refine And.intro ?_ ?_)
  rintro _ _
  repeat' ((conv=>whnf);first|exact trivial|refine nT_ ?_|refine aE1 ?_|refine aE0 ?_|refine aN1 ?_|refine aN0 ?_|refine aD1 ?_|refine aD0 ?_|refine nE_ (fun hq=>?_) (fun hq=>?_)|refine nN_ (fun hq=>?_) (fun hq=>?_)|refine nD_ (fun hq=>?_) (fun hq=>?_)|refine rb1 ?_|refine rb0 ?_|refine rbx ?_|refine rix ?_|refine aS ?_|fail)
  refine rf (β:=Unit) (fun _=>{sl:=[(1,.ptr 1 0),(3,.t (.bool (uj f))),(4,.t (.bool (w4 n))),(5,.t (.bool (wN f n m)))],bx:=[(1,.d 5 (sj (.mk k f n m l)))]}) (fun _=>True) ?_ ?_
  ·unfold wN
   have h2:=sZ f e0
   generalize sk f e0=b at *
   repeat' ((conv=>whnf);first|exact trivial|refine nb_ b h2 ?_|(exact ⟨(),trivial,by (repeat' (first|exact trivial|exact LeV.same _|exact LeB.same _|exact rfl|exact fun _ _ _=>trivial|exact lI|exact LeV.nil _ _ _|exact lB|refine r9 ?_|refine rO ?_|refine And.intro ?_ ?_));done⟩)|refine nT_ ?_|refine aE1 ?_|refine aE0 ?_|refine aN1 ?_|refine aN0 ?_|refine aD1 ?_|refine aD0 ?_|refine nE_ (fun hq=>?_) (fun hq=>?_)|refine nN_ (fun hq=>?_) (fun hq=>?_)|refine nD_ (fun hq=>?_) (fun hq=>?_)|refine rb1 ?_|refine rb0 ?_|refine rbx ?_|refine rix ?_|refine aS ?_|(cases b)|fail)
  rintro _ _
  repeat' ((conv=>whnf);first|exact trivial|refine nT_ ?_|refine aE1 ?_|refine aE0 ?_|refine aN1 ?_|refine aN0 ?_|refine aD1 ?_|refine aD0 ?_|refine nE_ (fun hq=>?_) (fun hq=>?_)|refine nN_ (fun hq=>?_) (fun hq=>?_)|refine nD_ (fun hq=>?_) (fun hq=>?_)|refine rb1 ?_|refine rb0 ?_|refine rbx ?_|refine rix ?_|refine aS ?_|fail)
  refine rf (β:=Unit) (fun _=>{sl:=[(1,.ptr 1 0),(6,.t (I (xo k))),(7,.t (.bool (okP k f n m)))],bx:=[(1,.d 5 (sj (.mk k f n m l)))]}) (fun _=>True) ?_ ?_
  ·have h2:=sZ f e0
   unfold okP xo
   generalize uj f=a at *
   generalize w4 n=b at *
   generalize wN f n m=c at *
   generalize sk f e0=d at *
   repeat' ((conv=>whnf);first|exact trivial|refine nb_ d h2 ?_|(exact ⟨(),trivial,by (repeat' (first|exact trivial|exact LeV.same _|exact LeB.same _|exact rfl|exact fun _ _ _=>trivial|exact lI|exact LeV.nil _ _ _|exact lB|refine r9 ?_|refine rO ?_|refine And.intro ?_ ?_));done⟩)|refine nT_ ?_|refine aE1 ?_|refine aE0 ?_|refine aN1 ?_|refine aN0 ?_|refine aD1 ?_|refine aD0 ?_|refine nE_ (fun hq=>?_) (fun hq=>?_)|refine nN_ (fun hq=>?_) (fun hq=>?_)|refine nD_ (fun hq=>?_) (fun hq=>?_)|refine rb1 ?_|refine rb0 ?_|refine rbx ?_|refine rix ?_|refine aS ?_|(cases a)|(cases b)|(cases d)|fail)
  rintro _ _
  generalize okP k f n m=ok at *
  cases ok with
  |false=>repeat' ((conv=>whnf);first|exact trivial|refine nT_ ?_|refine aE1 ?_|refine aE0 ?_|refine aN1 ?_|refine aN0 ?_|refine aD1 ?_|refine aD0 ?_|refine nE_ (fun hq=>?_) (fun hq=>?_)|refine nN_ (fun hq=>?_) (fun hq=>?_)|refine nD_ (fun hq=>?_) (fun hq=>?_)|refine rb1 ?_|refine rb0 ?_|refine rbx ?_|refine rix ?_|refine aS ?_|fail)
  |true=>
  by_cases hlen:l.length=xo k
  ·have e:(true&&(l.length==xo k)&&sX l)=sX l:=by simp [hlen]
   rw [e, ←hlen]
   have hnp:=vi l
   repeat' ((conv=>whnf);first|exact trivial|refine nT_ ?_|refine aE1 ?_|refine aE0 ?_|refine aN1 ?_|refine aN0 ?_|refine aD1 ?_|refine aD0 ?_|refine nE_ (fun hq=>?_) (fun hq=>?_)|refine nN_ (fun hq=>?_) (fun hq=>?_)|refine nD_ (fun hq=>?_) (fun hq=>?_)|refine rb1 ?_|refine rb0 ?_|refine rbx ?_|refine rix ?_|refine aS ?_|fail)
   refine qX (α:=Nat) (fun i=>{sl:=[(1,.ptr 1 0),(6,.t (I l.length)),(8,.t (I i))],bx:=[(1,.d 5 (sj (.mk k f n m l)))]})
    (fun i=>i≤l.length∧ ∀j (h:j<l.length),j<i→tw l[j]=true) (fun i=>l.length - i) 0 (by simp) ?_ ?_
   ·repeat' (first|exact trivial|exact LeV.same _|exact LeB.same _|exact rfl|exact fun _ _ _=>trivial|exact lI|exact LeV.nil _ _ _|exact lB|refine r9 ?_|refine rO ?_|refine And.intro ?_ ?_)
   rintro i ⟨hi,hp⟩
   rcases Nat.lt_or_ge i l.length with h|h
   ·have hn:=uW h
    have hm:=uV (l:=l) (j:=i+1)
    have hc:=ih l[i] (by omega) (by omega) (xH hnm.2 i h)
    cases hb:tw l[i] with
    |true=>
     rw [hb] at hc
     repeat' ((conv=>whnf);first|exact trivial|(refine nv_ (.agg (sj l[i])) (by first|(simp [h,sD];done)|fail) ?_)|refine rq _ (hc) ?_|refine nT_ ?_|refine aE1 ?_|refine aE0 ?_|refine aN1 ?_|refine aN0 ?_|refine aD1 ?_|refine aD0 ?_|refine nE_ (fun hq=>?_) (fun hq=>?_)|refine nN_ (fun hq=>?_) (fun hq=>?_)|refine nD_ (fun hq=>?_) (fun hq=>?_)|refine rb1 ?_|refine rb0 ?_|refine rbx ?_|refine rix ?_|(refine And.intro (by first|exact sQ _|fail) ?_)|refine aS ?_|fail)
     refine ⟨i+1,⟨h,fun j hj hlt=>?_⟩,by omega,?_⟩
     ·rcases Nat.lt_or_ge j i with h4|h4
      ·exact hp j hj h4
      ·obtain rfl:j=i:=by omega
       exact hb
     ·repeat' (first|exact trivial|exact LeV.same _|exact LeB.same _|exact rfl|exact fun _ _ _=>trivial|exact lI|exact LeV.nil _ _ _|exact lB|refine r9 ?_|refine rO ?_|refine And.intro ?_ ?_)
    |false=>
     rw [hb] at hc
     have e2:sX l=false:=by
      cases hx:sX l with
      |false=>rfl
      |true=>rw [vN.1 hx i h] at hb;cases hb
     rw [e2]
     repeat' ((conv=>whnf);first|exact trivial|(refine nv_ (.agg (sj l[i])) (by first|(simp [h,sD];done)|fail) ?_)|refine rq _ (hc) ?_|refine nT_ ?_|refine aE1 ?_|refine aE0 ?_|refine aN1 ?_|refine aN0 ?_|refine aD1 ?_|refine aD0 ?_|refine nE_ (fun hq=>?_) (fun hq=>?_)|refine nN_ (fun hq=>?_) (fun hq=>?_)|refine nD_ (fun hq=>?_) (fun hq=>?_)|refine rb1 ?_|refine rb0 ?_|refine rbx ?_|refine rix ?_|(refine And.intro (by first|exact sQ _|fail) ?_)|refine aS ?_|fail)
   ·have e2:sX l=true:=vN.2 fun j hj=>hp j hj (by omega)
    rw [e2]
    repeat' ((conv=>whnf);first|exact trivial|refine nT_ ?_|refine aE1 ?_|refine aE0 ?_|refine aN1 ?_|refine aN0 ?_|refine aD1 ?_|refine aD0 ?_|refine nE_ (fun hq=>?_) (fun hq=>?_)|refine nN_ (fun hq=>?_) (fun hq=>?_)|refine nD_ (fun hq=>?_) (fun hq=>?_)|refine rb1 ?_|refine rb0 ?_|refine rbx ?_|refine rix ?_|refine aS ?_|fail)
  ·have e:(true&&(l.length==xo k)&&sX l)=false:=by simp [hlen]
   rw [e]
   repeat' ((conv=>whnf);first|exact trivial|refine nT_ ?_|refine aE1 ?_|refine aE0 ?_|refine aN1 ?_|refine aN0 ?_|refine aD1 ?_|refine aD0 ?_|refine nE_ (fun hq=>?_) (fun hq=>?_)|refine nN_ (fun hq=>?_) (fun hq=>?_)|refine nD_ (fun hq=>?_) (fun hq=>?_)|refine rb1 ?_|refine rb0 ?_|refine rbx ?_|refine rix ?_|refine aS ?_|fail)
end Go.MM
end
section
namespace Go.MM
open Go Go.DL Go.Proofs
mutual
def RO.wt:RO→Nat
 |.mk _ p _ _ a=>1+p.nodes+s9 a
def s9:List RO→Nat
 |[]=>0
 |r::rs=>r.wt+s9 rs
end
mutual
def RO.size:RO→Nat
 |.mk k p _ _ a=>1+(if k=1 then p.nodes else 0)+ud a
def ud:List RO→Nat
 |[]=>0
 |r::rs=>r.size+ud rs
end
mutual
def RO.deep:RO→Nat
 |.mk k p _ _ a=>1+max (if k=1 then p.depth else 0) (uc a)
def uc:List RO→Nat
 |[]=>0
 |r::rs=>max r.deep (uc rs)
end
mutual
theorem RO.size_le: ∀r:RO,r.size≤r.wt
 |.mk k p _ _ a=>by have:=vU a;simp only [RO.size,RO.wt];split <;> omega
theorem vU: ∀l:List RO,ud l≤s9 l
 |[]=>Nat.le_refl _
 |r::rs=>by have:=RO.size_le r;have:=vU rs;simp only [ud,s9];omega
end
mutual
theorem RO.yw: ∀r:RO,r.deep≤r.wt
 |.mk k p _ _ a=>by have:=vQ a;have:=p.wD;simp only [RO.deep,RO.wt];split <;> omega
theorem vQ: ∀l:List RO,uc l≤s9 l
 |[]=>Nat.le_refl _
 |r::rs=>by have:=RO.yw r;have:=vQ rs;simp only [uc,s9];omega
end
theorem tV: ∀{l:List RO} {j:Nat} (h:j<l.length),s9 (l.take (j+1))=s9 (l.take j)+l[j].wt
 |r::rs,0,h=>by simp [s9]
 |r::rs,j+1,h=>by
  have:=tV (l:=rs) (j:=j) (by simpa using h)
  simp only [List.take_succ_cons,s9,List.getElem_cons_succ]
  omega
theorem we: ∀{l:List RO} {j:Nat} (h:j<l.length),ud (l.take (j+1))=ud (l.take j)+l[j].size
 |r::rs,0,h=>by simp [ud]
 |r::rs,j+1,h=>by
  have:=we (l:=rs) (j:=j) (by simpa using h)
  simp only [List.take_succ_cons,ud,List.getElem_cons_succ]
  omega
theorem vY: ∀{l:List RO} {j:Nat} (h:j<l.length),uc (l.take (j+1))=max (uc (l.take j)) l[j].deep
 |r::rs,0,h=>by simp [uc]
 |r::rs,j+1,h=>by
  have:=vY (l:=rs) (j:=j) (by simpa using h)
  simp only [List.take_succ_cons,uc,List.getElem_cons_succ]
  omega
theorem tU: ∀{l:List RO} {j:Nat},s9 (l.take j)≤s9 l
 |[],j=>by simp
 |r::rs,0=>by simp [s9]
 |r::rs,j+1=>by
  have:=tU (l:=rs) (j:=j)
  simp only [List.take_succ_cons,s9]
  omega
theorem RO.uE (r:RO):1≤r.wt:=by cases r;simp only [RO.wt];omega
theorem uK: ∀l:List RO,l.length≤s9 l
 |[]=>Nat.le_refl _
 |r::rs=>by have:=uK rs;have:=r.uE;simp only [s9,List.length_cons];omega
theorem two {a b c d:Nat} (h1:a=c) (h2:b=d):[I (a:Int),I (b:Int)]=[I (c:Int),I (d:Int)]:=by rw [h1,h2]
theorem t89 (N:Nat): ∀r:RO,r.wt≤N→N<2^60→DCalls Tryz.prog 86 [.agg (sg r)] (sz r.size r.deep):=by
 induction N with
 |zero=>intro r h;have:=r.uE;omega
 |succ N ih=>
  rintro ⟨k,⟨pk,pf,pn,pm,pa⟩,f,n,l⟩ hr hN
  refine qB (rs:=[.cell 2 126]) mixed Tryz.func86 l86 rfl rfl rfl (r:=[sz _ _]) (nlZ rfl) ?_
  simp only [RO.size,RO.deep,RO.wt] at hr ⊢
  have h103:=t103 _ (.mk pk pf pn pm pa) (Nat.le_refl _) (by omega)
  have hpd:=(RP.mk pk pf pn pm pa).wD
  have hlen:=uK l
  by_cases hk:k=1
  ·simp only [hk,if_true]
   repeat' ((conv=>whnf);first|exact trivial|refine rq _ (h103) ?_|refine rq _ (t102 1 1 _ _ (by omega) (by omega) (by omega)) ?_|refine nT_ ?_|refine aE1 ?_|refine aE0 ?_|refine aN1 ?_|refine aN0 ?_|refine aD1 ?_|refine aD0 ?_|refine nE_ (fun hq=>?_) (fun hq=>?_)|refine nN_ (fun hq=>?_) (fun hq=>?_)|refine nD_ (fun hq=>?_) (fun hq=>?_)|refine rb1 ?_|refine rb0 ?_|refine rbx ?_|refine rix ?_|refine aS ?_|fail)
   refine qX (α:=Nat) (fun i=>{sl:=[(1,.ptr 1 0),(2,.ptr 2 0),(3,.ptr 3 0),(4,.t (I i))],bx:=[(1,.d 9 (sg (.mk 1 (.mk pk pf pn pm pa) f n l))),(2,.d 2 [I 0,I 0]),(3,.d 2 [I (1+(RP.mk pk pf pn pm pa).nodes+ud (l.take i):Nat),I (1+max (RP.mk pk pf pn pm pa).depth (uc (l.take i)):Nat)])]})
    (fun i=>i≤l.length) (fun i=>l.length - i) 0 (by omega) ?_ ?_
   ·repeat' (first|exact trivial|exact LeV.same _|exact LeB.same _|exact rfl|exact fun _ _ _=>trivial|exact lI|exact LeV.nil _ _ _|exact lB|refine r9 ?_|refine rO ?_|refine And.intro ?_ ?_)
    all_goals exact two (by simp [ud]) (by simp [uc];try omega)
   rintro i hi
   rcases Nat.lt_or_ge i l.length with h|h
   ·have hn:=we h
    have hd:=vY h
    have hw:=tV h
    have hm:=tU (l:=l) (j:=i+1)
    have hp:=l[i].uE
    have h1:=l[i].size_le
    have h2:=l[i].yw
    have h3:=vQ (l.take i)
    have h4:=vU (l.take i)
    repeat' ((conv=>whnf);first|exact trivial|(refine nv_ (.agg (sg l[i])) (by first|(simp [h,sM];done)|fail) ?_)|refine rq _ (ih l[i] (by omega) (by omega)) ?_|refine rq _ (t102 _ _ _ _ (by omega) (by omega) (by omega)) ?_|refine nT_ ?_|refine aE1 ?_|refine aE0 ?_|refine aN1 ?_|refine aN0 ?_|refine aD1 ?_|refine aD0 ?_|refine nE_ (fun hq=>?_) (fun hq=>?_)|refine nN_ (fun hq=>?_) (fun hq=>?_)|refine nD_ (fun hq=>?_) (fun hq=>?_)|refine rb1 ?_|refine rb0 ?_|refine rbx ?_|refine rix ?_|(refine And.intro (by first|exact sm _|fail) ?_)|refine aS ?_|fail)
    refine ⟨i+1,by omega,by omega,?_⟩
    repeat' (first|exact trivial|exact LeV.same _|exact LeB.same _|exact rfl|exact fun _ _ _=>trivial|exact lI|exact LeV.nil _ _ _|exact lB|refine r9 ?_|refine rO ?_|refine And.intro ?_ ?_)
    exact two (by omega) (by omega)
   ·have:i=l.length:=by omega
    subst this
    rw [List.take_length]
    repeat' ((conv=>whnf);first|exact trivial|refine nT_ ?_|refine aE1 ?_|refine aE0 ?_|refine aN1 ?_|refine aN0 ?_|refine aD1 ?_|refine aD0 ?_|refine nE_ (fun hq=>?_) (fun hq=>?_)|refine nN_ (fun hq=>?_) (fun hq=>?_)|refine nD_ (fun hq=>?_) (fun hq=>?_)|refine rb1 ?_|refine rb0 ?_|refine rbx ?_|refine rix ?_|refine aS ?_|fail)
  ·simp only [hk,if_false]
   repeat' ((conv=>whnf);first|exact trivial|refine nT_ ?_|refine aE1 ?_|refine aE0 ?_|refine aN1 ?_|refine aN0 ?_|refine aD1 ?_|refine aD0 ?_|refine nE_ (fun hq=>?_) (fun hq=>?_)|refine nN_ (fun hq=>?_) (fun hq=>?_)|refine nD_ (fun hq=>?_) (fun hq=>?_)|refine rb1 ?_|refine rb0 ?_|refine rbx ?_|refine rix ?_|refine aS ?_|fail)
   refine qX (α:=Nat) (fun i=>{sl:=[(1,.ptr 1 0),(2,.ptr 2 0),(3,.ptr 3 0),(4,.t (I i))],bx:=[(1,.d 9 (sg (.mk k (.mk pk pf pn pm pa) f n l))),(2,.d 2 [I 0,I 0]),(3,.d 2 [I (1+0+ud (l.take i):Nat),I (1+max 0 (uc (l.take i)):Nat)])]})
    (fun i=>i≤l.length) (fun i=>l.length - i) 0 (by omega) ?_ ?_
   ·repeat' (first|exact trivial|exact LeV.same _|exact LeB.same _|exact rfl|exact fun _ _ _=>trivial|exact lI|exact LeV.nil _ _ _|exact lB|refine r9 ?_|refine rO ?_|refine And.intro ?_ ?_)
    all_goals exact two (by simp [ud]) (by simp [uc];try omega)
   rintro i hi
   rcases Nat.lt_or_ge i l.length with h|h
   ·have hn:=we h
    have hd:=vY h
    have hw:=tV h
    have hm:=tU (l:=l) (j:=i+1)
    have hp:=l[i].uE
    have h1:=l[i].size_le
    have h2:=l[i].yw
    have h3:=vQ (l.take i)
    have h4:=vU (l.take i)
    repeat' ((conv=>whnf);first|exact trivial|(refine nv_ (.agg (sg l[i])) (by first|(simp [h,sM];done)|fail) ?_)|refine rq _ (ih l[i] (by omega) (by omega)) ?_|refine rq _ (t102 _ _ _ _ (by omega) (by omega) (by omega)) ?_|refine nT_ ?_|refine aE1 ?_|refine aE0 ?_|refine aN1 ?_|refine aN0 ?_|refine aD1 ?_|refine aD0 ?_|refine nE_ (fun hq=>?_) (fun hq=>?_)|refine nN_ (fun hq=>?_) (fun hq=>?_)|refine nD_ (fun hq=>?_) (fun hq=>?_)|refine rb1 ?_|refine rb0 ?_|refine rbx ?_|refine rix ?_|(refine And.intro (by first|exact sm _|fail) ?_)|refine aS ?_|fail)
    refine ⟨i+1,by omega,by omega,?_⟩
    repeat' (first|exact trivial|exact LeV.same _|exact LeB.same _|exact rfl|exact fun _ _ _=>trivial|exact lI|exact LeV.nil _ _ _|exact lB|refine r9 ?_|refine rO ?_|refine And.intro ?_ ?_)
    exact two (by omega) (by omega)
   ·have:i=l.length:=by omega
    subst this
    rw [List.take_length]
    repeat' ((conv=>whnf);first|exact trivial|refine nT_ ?_|refine aE1 ?_|refine aE0 ?_|refine aN1 ?_|refine aN0 ?_|refine aD1 ?_|refine aD0 ?_|refine nE_ (fun hq=>?_) (fun hq=>?_)|refine nN_ (fun hq=>?_) (fun hq=>?_)|refine nD_ (fun hq=>?_) (fun hq=>?_)|refine rb1 ?_|refine rb0 ?_|refine rbx ?_|refine rix ?_|refine aS ?_|fail)
def yy (n d:Nat):Int:=if n≤200∧d≤20 then 0 else 2
theorem t101 (n d:Nat):DCalls Tryz.prog 106 [sz n d] (I (yy n d)):=by
 refine qB (rs:=[.tmp 2]) mixed Tryz.func106 FC rfl rfl rfl (r:=[.int _ _]) (nlZ rfl) ?_
 unfold yy
 by_cases h1:n≤200
 ·by_cases h2:d≤20
  ·rw [if_pos ⟨h1,h2⟩];repeat' ((conv=>whnf);first|exact trivial|refine nT_ ?_|refine aE1 ?_|refine aE0 ?_|refine aN1 ?_|refine aN0 ?_|refine aD1 ?_|refine aD0 ?_|refine nE_ (fun hq=>?_) (fun hq=>?_)|refine nN_ (fun hq=>?_) (fun hq=>?_)|refine nD_ (fun hq=>?_) (fun hq=>?_)|refine rb1 ?_|refine rb0 ?_|refine rbx ?_|refine rix ?_|refine aS ?_|fail)
  ·rw [if_neg (by omega)];repeat' ((conv=>whnf);first|exact trivial|refine nT_ ?_|refine aE1 ?_|refine aE0 ?_|refine aN1 ?_|refine aN0 ?_|refine aD1 ?_|refine aD0 ?_|refine nE_ (fun hq=>?_) (fun hq=>?_)|refine nN_ (fun hq=>?_) (fun hq=>?_)|refine nD_ (fun hq=>?_) (fun hq=>?_)|refine rb1 ?_|refine rb0 ?_|refine rbx ?_|refine rix ?_|refine aS ?_|fail)
 ·rw [if_neg (by omega)];repeat' ((conv=>whnf);first|exact trivial|refine nT_ ?_|refine aE1 ?_|refine aE0 ?_|refine aN1 ?_|refine aN0 ?_|refine aD1 ?_|refine aD0 ?_|refine nE_ (fun hq=>?_) (fun hq=>?_)|refine nN_ (fun hq=>?_) (fun hq=>?_)|refine nD_ (fun hq=>?_) (fun hq=>?_)|refine rb1 ?_|refine rb0 ?_|refine rbx ?_|refine rix ?_|refine aS ?_|fail)
def yQ (e:Int) (b:Bool):Int:=if e=0 then (if b then 0 else 1) else e
theorem t88 (n d:Nat) (b:Bool):DCalls Tryz.prog 85 [sz n d,.bool b] (I (yQ (yy n d) b)):=by
 refine qB (rs:=[.tmp 4]) mixed Tryz.func85 l85 rfl rfl rfl (r:=[.int _ _]) (nlZ rfl) ?_
 have h:=t101 n d
 generalize yy n d=e at *
 unfold yQ
 by_cases h0:e=0
 ·subst h0
  cases b <;> repeat' ((conv=>whnf);first|exact trivial|refine rq _ (h) ?_|refine nT_ ?_|refine aE1 ?_|refine aE0 ?_|refine aN1 ?_|refine aN0 ?_|refine aD1 ?_|refine aD0 ?_|refine nE_ (fun hq=>?_) (fun hq=>?_)|refine nN_ (fun hq=>?_) (fun hq=>?_)|refine nD_ (fun hq=>?_) (fun hq=>?_)|refine rb1 ?_|refine rb0 ?_|refine rbx ?_|refine rix ?_|refine aS ?_|fail)
 ·rw [if_neg h0]
  repeat' ((conv=>whnf);first|exact trivial|refine rq _ (h) ?_|refine nT_ ?_|refine aE1 ?_|refine aE0 ?_|refine aN1 ?_|refine aN0 ?_|refine aD1 ?_|refine aD0 ?_|refine nE_ (fun hq=>?_) (fun hq=>?_)|refine nN_ (fun hq=>?_) (fun hq=>?_)|refine nD_ (fun hq=>?_) (fun hq=>?_)|refine rb1 ?_|refine rb0 ?_|refine rbx ?_|refine rix ?_|refine aS ?_|fail)
def xn (k:Int):Nat:=if k=3∨k=4 then 2 else if k=5 then 1 else 0
def wO (f:ByteArray) (n:Int):Bool:=sk f e0&&(n==0)
def okO (k:Int) (p:RP) (f:ByteArray) (n:Int):Bool:=
 if k=1 then tw p&&wO f n
 else if k=2 then uj f&&vm p&&decide (0≤n)&&decide (n≤65535)
 else if k=3∨k=4∨k=5 then vm p&&wO f n
 else false
mutual
def tj:RO→Bool
 |.mk k p f n a=>okO k p f n&&(a.length==xn k)&&sW a
def sW:List RO→Bool
 |[]=>true
 |r::rs=>tj r&&sW rs
end
theorem vM: ∀{l:List RO},sW l=true↔ ∀(i:Nat) (h:i<l.length),tj l[i]=true
 |[]=>by simp [sW]
 |r::rs=>by
  simp only [sW,Bool.and_eq_true,vM (l:=rs)]
  constructor
  ·rintro ⟨h0,h⟩ i hi
   cases i with
   |zero=>exact h0
   |succ i=>simpa using h i (by simpa using hi)
  ·intro h
   exact ⟨h 0 (by simp),fun i hi=>h (i+1) (by simpa using hi)⟩
mutual
def uU:RO→Prop
 |.mk _ p f _ a=>wX p∧f.size<2^62∧wo a
def wo:List RO→Prop
 |[]=>True
 |r::rs=>uU r∧wo rs
end
theorem xG: ∀{l:List RO},wo l→ ∀(i:Nat) (h:i<l.length),uU l[i]
 |[],_,i,h=>by simp at h
 |r::rs,h,i,hi=>by
  cases i with
  |zero=>exact h.1
  |succ i=>simpa using xG h.2 i (by simpa using hi)
theorem t90 (N:Nat): ∀r:RO,r.wt≤N→N<2^60→uU r→DCalls Tryz.prog 87 [.agg (sg r)] (.bool (tj r)):=by
 induction N with
 |zero=>intro r h;have:=r.uE;omega
 |succ N ih=>
  rintro ⟨k,⟨pk,pf,pn,pm,pa⟩,f,n,l⟩ hr hN ⟨hn1,hn2,hn3⟩
  refine qB (rs:=[.tmp 2]) mixed Tryz.func87 l87 rfl rfl rfl (r:=[.bool _]) (nlZ rfl) ?_
  simp only [RO.wt,tj] at hr ⊢
  have h104:=t104 f hn2
  have h105:=t105 (.mk pk pf pn pm pa)
  have h106:=t106 _ (.mk pk pf pn pm pa) (Nat.le_refl _) (by omega) hn1
  repeat' ((conv=>whnf);first|exact trivial|refine rq _ (h104) ?_|refine rq _ (h105) ?_|refine nT_ ?_|refine aE1 ?_|refine aE0 ?_|refine aN1 ?_|refine aN0 ?_|refine aD1 ?_|refine aD0 ?_|refine nE_ (fun hq=>?_) (fun hq=>?_)|refine nN_ (fun hq=>?_) (fun hq=>?_)|refine nD_ (fun hq=>?_) (fun hq=>?_)|refine rb1 ?_|refine rb0 ?_|refine rbx ?_|refine rix ?_|refine aS ?_|fail)
  refine rf (β:=Unit) (fun _=>{sl:=[(1,.ptr 1 0),(3,.t (.bool (uj f))),(4,.t (.bool (vm (.mk pk pf pn pm pa)))),(5,.t (.bool (wO f n)))],bx:=[(1,.d 9 (sg (.mk k (.mk pk pf pn pm pa) f n l)))]}) (fun _=>True) ?_ ?_
  ·unfold wO
   have h2:=sZ f e0
   generalize sk f e0=b at *
   repeat' ((conv=>whnf);first|exact trivial|refine nb_ b h2 ?_|(exact ⟨(),trivial,by (repeat' (first|exact trivial|exact LeV.same _|exact LeB.same _|exact rfl|exact fun _ _ _=>trivial|exact lI|exact LeV.nil _ _ _|exact lB|refine r9 ?_|refine rO ?_|refine And.intro ?_ ?_));done⟩)|refine nT_ ?_|refine aE1 ?_|refine aE0 ?_|refine aN1 ?_|refine aN0 ?_|refine aD1 ?_|refine aD0 ?_|refine nE_ (fun hq=>?_) (fun hq=>?_)|refine nN_ (fun hq=>?_) (fun hq=>?_)|refine nD_ (fun hq=>?_) (fun hq=>?_)|refine rb1 ?_|refine rb0 ?_|refine rbx ?_|refine rix ?_|refine aS ?_|(cases b)|fail)
  rintro _ _
  repeat' ((conv=>whnf);first|exact trivial|refine nT_ ?_|refine aE1 ?_|refine aE0 ?_|refine aN1 ?_|refine aN0 ?_|refine aD1 ?_|refine aD0 ?_|refine nE_ (fun hq=>?_) (fun hq=>?_)|refine nN_ (fun hq=>?_) (fun hq=>?_)|refine nD_ (fun hq=>?_) (fun hq=>?_)|refine rb1 ?_|refine rb0 ?_|refine rbx ?_|refine rix ?_|refine aS ?_|fail)
  refine rf (β:=Unit) (fun _=>{sl:=[(1,.ptr 1 0),(6,.t (I (xn k))),(7,.t (.bool (okO k (.mk pk pf pn pm pa) f n)))],bx:=[(1,.d 9 (sg (.mk k (.mk pk pf pn pm pa) f n l)))]}) (fun _=>True) ?_ ?_
  ·unfold okO xn
   generalize uj f=a at *
   generalize tw (.mk pk pf pn pm pa)=b at *
   generalize wO f n=c at *
   generalize vm (.mk pk pf pn pm pa)=d at *
   repeat' ((conv=>whnf);first|exact trivial|refine rq _ (h106) ?_|(exact ⟨(),trivial,by (repeat' (first|exact trivial|exact LeV.same _|exact LeB.same _|exact rfl|exact fun _ _ _=>trivial|exact lI|exact LeV.nil _ _ _|exact lB|refine r9 ?_|refine rO ?_|refine And.intro ?_ ?_));done⟩)|refine nT_ ?_|refine aE1 ?_|refine aE0 ?_|refine aN1 ?_|refine aN0 ?_|refine aD1 ?_|refine aD0 ?_|refine nE_ (fun hq=>?_) (fun hq=>?_)|refine nN_ (fun hq=>?_) (fun hq=>?_)|refine nD_ (fun hq=>?_) (fun hq=>?_)|refine rb1 ?_|refine rb0 ?_|refine rbx ?_|refine rix ?_|refine aS ?_|(cases a)|(cases b)|(cases d)|fail)
  rintro _ _
  generalize okO k (.mk pk pf pn pm pa) f n=ok at *
  cases ok with
  |false=>repeat' ((conv=>whnf);first|exact trivial|refine nT_ ?_|refine aE1 ?_|refine aE0 ?_|refine aN1 ?_|refine aN0 ?_|refine aD1 ?_|refine aD0 ?_|refine nE_ (fun hq=>?_) (fun hq=>?_)|refine nN_ (fun hq=>?_) (fun hq=>?_)|refine nD_ (fun hq=>?_) (fun hq=>?_)|refine rb1 ?_|refine rb0 ?_|refine rbx ?_|refine rix ?_|refine aS ?_|fail)
  |true=>
  by_cases hlen:l.length=xn k
  ·have e:(true&&(l.length==xn k)&&sW l)=sW l:=by simp [hlen]
   rw [e, ←hlen]
   have hnp:=uK l
   repeat' ((conv=>whnf);first|exact trivial|refine nT_ ?_|refine aE1 ?_|refine aE0 ?_|refine aN1 ?_|refine aN0 ?_|refine aD1 ?_|refine aD0 ?_|refine nE_ (fun hq=>?_) (fun hq=>?_)|refine nN_ (fun hq=>?_) (fun hq=>?_)|refine nD_ (fun hq=>?_) (fun hq=>?_)|refine rb1 ?_|refine rb0 ?_|refine rbx ?_|refine rix ?_|refine aS ?_|fail)
   refine qX (α:=Nat) (fun i=>{sl:=[(1,.ptr 1 0),(6,.t (I l.length)),(8,.t (I i))],bx:=[(1,.d 9 (sg (.mk k (.mk pk pf pn pm pa) f n l)))]})
    (fun i=>i≤l.length∧ ∀j (h:j<l.length),j<i→tj l[j]=true) (fun i=>l.length - i) 0 (by simp) ?_ ?_
   ·repeat' (first|exact trivial|exact LeV.same _|exact LeB.same _|exact rfl|exact fun _ _ _=>trivial|exact lI|exact LeV.nil _ _ _|exact lB|refine r9 ?_|refine rO ?_|refine And.intro ?_ ?_)
   rintro i ⟨hi,hp⟩
   rcases Nat.lt_or_ge i l.length with h|h
   ·have hn:=tV h
    have hm:=tU (l:=l) (j:=i+1)
    have hc:=ih l[i] (by omega) (by omega) (xG hn3 i h)
    cases hb:tj l[i] with
    |true=>
     rw [hb] at hc
     repeat' ((conv=>whnf);first|exact trivial|(refine nv_ (.agg (sg l[i])) (by first|(simp [h,sM];done)|fail) ?_)|refine rq _ (hc) ?_|refine nT_ ?_|refine aE1 ?_|refine aE0 ?_|refine aN1 ?_|refine aN0 ?_|refine aD1 ?_|refine aD0 ?_|refine nE_ (fun hq=>?_) (fun hq=>?_)|refine nN_ (fun hq=>?_) (fun hq=>?_)|refine nD_ (fun hq=>?_) (fun hq=>?_)|refine rb1 ?_|refine rb0 ?_|refine rbx ?_|refine rix ?_|(refine And.intro (by first|exact sm _|fail) ?_)|refine aS ?_|fail)
     refine ⟨i+1,⟨h,fun j hj hlt=>?_⟩,by omega,?_⟩
     ·rcases Nat.lt_or_ge j i with h4|h4
      ·exact hp j hj h4
      ·obtain rfl:j=i:=by omega
       exact hb
     ·repeat' (first|exact trivial|exact LeV.same _|exact LeB.same _|exact rfl|exact fun _ _ _=>trivial|exact lI|exact LeV.nil _ _ _|exact lB|refine r9 ?_|refine rO ?_|refine And.intro ?_ ?_)
    |false=>
     rw [hb] at hc
     have e2:sW l=false:=by
      cases hx:sW l with
      |false=>rfl
      |true=>rw [vM.1 hx i h] at hb;cases hb
     rw [e2]
     repeat' ((conv=>whnf);first|exact trivial|(refine nv_ (.agg (sg l[i])) (by first|(simp [h,sM];done)|fail) ?_)|refine rq _ (hc) ?_|refine nT_ ?_|refine aE1 ?_|refine aE0 ?_|refine aN1 ?_|refine aN0 ?_|refine aD1 ?_|refine aD0 ?_|refine nE_ (fun hq=>?_) (fun hq=>?_)|refine nN_ (fun hq=>?_) (fun hq=>?_)|refine nD_ (fun hq=>?_) (fun hq=>?_)|refine rb1 ?_|refine rb0 ?_|refine rbx ?_|refine rix ?_|(refine And.intro (by first|exact sm _|fail) ?_)|refine aS ?_|fail)
   ·have e2:sW l=true:=vM.2 fun j hj=>hp j hj (by omega)
    rw [e2]
    repeat' ((conv=>whnf);first|exact trivial|refine nT_ ?_|refine aE1 ?_|refine aE0 ?_|refine aN1 ?_|refine aN0 ?_|refine aD1 ?_|refine aD0 ?_|refine nE_ (fun hq=>?_) (fun hq=>?_)|refine nN_ (fun hq=>?_) (fun hq=>?_)|refine nD_ (fun hq=>?_) (fun hq=>?_)|refine rb1 ?_|refine rb0 ?_|refine rbx ?_|refine rix ?_|refine aS ?_|fail)
  ·have e:(true&&(l.length==xn k)&&sW l)=false:=by simp [hlen]
   rw [e]
   repeat' ((conv=>whnf);first|exact trivial|refine nT_ ?_|refine aE1 ?_|refine aE0 ?_|refine aN1 ?_|refine aN0 ?_|refine aD1 ?_|refine aD0 ?_|refine nE_ (fun hq=>?_) (fun hq=>?_)|refine nN_ (fun hq=>?_) (fun hq=>?_)|refine nD_ (fun hq=>?_) (fun hq=>?_)|refine rb1 ?_|refine rb0 ?_|refine rbx ?_|refine rix ?_|refine aS ?_|fail)
def uz (r:RO):Int:=yQ (yy r.size r.deep) (tj r)
theorem t63 (r:RO) (hr:r.wt<2^60) (hn:uU r):DCalls Tryz.prog 67 [.agg (sg r)] (I (uz r)):=by
 refine qB (rs:=[.tmp 2]) mixed Tryz.func67 l67 rfl rfl rfl (r:=[.int _ _]) (nlZ rfl) ?_
 have h1:=t89 _ r (Nat.le_refl _) hr
 have h2:=t90 _ r (Nat.le_refl _) hr hn
 have h3:=t88 r.size r.deep (tj r)
 have hl:=sm r
 unfold uz
 repeat' ((conv=>whnf);first|exact trivial|refine rq _ (h1) ?_|refine rq _ (h2) ?_|refine rq _ (h3) ?_|refine nT_ ?_|refine aE1 ?_|refine aE0 ?_|refine aN1 ?_|refine aN0 ?_|refine aD1 ?_|refine aD0 ?_|refine nE_ (fun hq=>?_) (fun hq=>?_)|refine nN_ (fun hq=>?_) (fun hq=>?_)|refine nD_ (fun hq=>?_) (fun hq=>?_)|refine rb1 ?_|refine rb0 ?_|refine rbx ?_|refine rix ?_|refine aS ?_|fail)
end Go.MM
end
section
namespace Go.MM
open Go Go.DL Go.Proofs
structure RF where
 name:ByteArray
 a:Int
 w:Int
deriving Inhabited
def tD (f:RF):List T:=[.str f.name,I f.a,I f.w]
def tW (f:RF):T:=.agg (tD f)
def vf (l:List RF):T:=.slice 3 (l.map tW)
def at8 (s:ByteArray) (i:Nat):Bool:=uf (tI s i)||((vl (tI s i)||tI s i==95)&& !(i==0))
def yZ (s:ByteArray):Bool:=(List.range s.size).all fun i=>at8 s i
def vh (s:ByteArray):Bool:=yZ s&&(decide (1≤s.size)&&decide (s.size≤24))
theorem t69 (s:ByteArray) (hs:s.size<2^62):DCalls Tryz.prog 35 [.str s] (.bool (vh s)):=by
 refine qB (rs:=[.tmp 2]) mixed Tryz.func35 l35 rfl rfl rfl (r:=[.bool _]) (nlZ rfl) ?_
 repeat' ((conv=>whnf);first|exact trivial|refine nT_ ?_|refine aE1 ?_|refine aE0 ?_|refine aN1 ?_|refine aN0 ?_|refine aD1 ?_|refine aD0 ?_|refine nE_ (fun hq=>?_) (fun hq=>?_)|refine nN_ (fun hq=>?_) (fun hq=>?_)|refine nD_ (fun hq=>?_) (fun hq=>?_)|refine rb1 ?_|refine rb0 ?_|refine rbx ?_|refine rix ?_|refine aS ?_|fail)
 refine qX (α:=Nat) (fun i=>{sl:=[(0,.t (.str s)),(3,.t (I i))],bx:=[]})
  (fun i=>i≤s.size∧ ∀j,j<i→at8 s j=true) (fun i=>s.size - i) 0 (by simp) ?_ ?_
 ·repeat' (first|exact trivial|exact LeV.same _|exact LeB.same _|exact rfl|exact fun _ _ _=>trivial|exact lI|exact LeV.nil _ _ _|exact lB|refine r9 ?_|refine rO ?_|refine And.intro ?_ ?_)
 rintro i ⟨hi,hp⟩
 rcases Nat.lt_or_ge i s.size with h|h
 ·have good:at8 s i=true→i+1≤s.size∧ ∀j,j<i+1→at8 s j=true:=fun hb=>by
   refine ⟨h,fun j hj=>?_⟩
   rcases Nat.lt_or_ge j i with h4|h4
   ·exact hp j h4
   ·obtain rfl:j=i:=by omega
    exact hb
  have bad:at8 s i=false→vh s=false:=fun hb=>by
   unfold vh
   have:yZ s=false:=by
    unfold yZ
    rw [List.all_eq_false]
    exact ⟨i,by simpa using h,by simp [hb]⟩
   rw [this];rfl
  have bad':at8 s i=false→false=vh s:=fun hb=>(bad hb).symm
  clear bad
  rw [show at8 s i=(uf (tI s i)||((vl (tI s i)||tI s i==95)&& !(i==0))) from rfl] at good bad'
  have hc:((s.toList[i]?.getD 0).toNat:Int)=tI s i:=rfl
  generalize vh s=N at *
  generalize tI s i=c at *
  repeat' ((conv=>whnf);first|exact trivial|(refine nv_ (U c) (by first|exact congrArg U hc|fail) ?_)|(exact rb (x:=false) (bad' (by simp [uf,vl];omega)) trivial)|(exact ⟨i+1,good (by simp [uf,vl];omega),by omega,by (repeat' (first|exact trivial|exact LeV.same _|exact LeB.same _|exact rfl|exact fun _ _ _=>trivial|exact lI|exact LeV.nil _ _ _|exact lB|refine r9 ?_|refine rO ?_|refine And.intro ?_ ?_));done⟩)|refine nT_ ?_|refine aE1 ?_|refine aE0 ?_|refine aN1 ?_|refine aN0 ?_|refine aD1 ?_|refine aD0 ?_|refine nE_ (fun hq=>?_) (fun hq=>?_)|refine nN_ (fun hq=>?_) (fun hq=>?_)|refine nD_ (fun hq=>?_) (fun hq=>?_)|refine rb1 ?_|refine rb0 ?_|refine rbx ?_|refine rix ?_|refine aS ?_|fail)
 ·have e:yZ s=true:=by
   unfold yZ
   rw [List.all_eq_true]
   intro j hj
   exact hp j (by simp at hj;omega)
  unfold vh
  rw [e]
  repeat' ((conv=>whnf);first|exact trivial|refine nT_ ?_|refine aE1 ?_|refine aE0 ?_|refine aN1 ?_|refine aN0 ?_|refine aD1 ?_|refine aD0 ?_|refine nE_ (fun hq=>?_) (fun hq=>?_)|refine nN_ (fun hq=>?_) (fun hq=>?_)|refine nD_ (fun hq=>?_) (fun hq=>?_)|refine rb1 ?_|refine rb0 ?_|refine rbx ?_|refine rix ?_|refine aS ?_|fail)
def uB (f:RF):Bool:=decide (1≤f.w)&&decide (f.w≤16)&&decide (16≤f.a)&&decide (f.a≤143)&&decide (f.a % 16+f.w≤16)
theorem Dw {a:Int} (h:0≤a):a.tmod 16=a % 16:=Int.tmod_eq_emod_of_nonneg h
theorem t70 (f:RF):DCalls Tryz.prog 36 [tW f] (.bool (uB f)):=by
 obtain ⟨s,a,w⟩:=f
 refine qB (rs:=[.tmp 2]) mixed Tryz.func36 l36 rfl rfl rfl (r:=[.bool _]) (nlZ rfl) ?_
 simp only [uB]
 by_cases h16:16≤a
 ·have e:=Dw (a:=a) (by omega)
  by_cases h1:1≤w
  ·by_cases h2:w≤16
   ·by_cases h3:a≤143
    ·have e2:IntKind.wrap .i64 (a.tmod 16+w)=a % 16+w:=by rw [e,mj] <;> omega
     have e3:(decide (1≤w)&&decide (w≤16)&&decide (16≤a)&&decide (a≤143)&&decide (a % 16+w≤16))=decide (a % 16+w≤16):=by simp [h16,h1,h2,h3]
     rw [e3]
     by_cases h4:a % 16+w≤16
     ·repeat' ((conv=>whnf);first|exact trivial|(refine qd (by rw [e2];exact h4) ?_)|refine nT_ ?_|refine aE1 ?_|refine aE0 ?_|refine aN1 ?_|refine aN0 ?_|refine aD1 ?_|refine aD0 ?_|refine nE_ (fun hq=>?_) (fun hq=>?_)|refine nN_ (fun hq=>?_) (fun hq=>?_)|refine nD_ (fun hq=>?_) (fun hq=>?_)|refine rb1 ?_|refine rb0 ?_|refine rbx ?_|refine rix ?_|refine aS ?_|fail)
     ·repeat' ((conv=>whnf);first|exact trivial|(refine qc (by rw [e2];exact h4) ?_)|refine nT_ ?_|refine aE1 ?_|refine aE0 ?_|refine aN1 ?_|refine aN0 ?_|refine aD1 ?_|refine aD0 ?_|refine nE_ (fun hq=>?_) (fun hq=>?_)|refine nN_ (fun hq=>?_) (fun hq=>?_)|refine nD_ (fun hq=>?_) (fun hq=>?_)|refine rb1 ?_|refine rb0 ?_|refine rbx ?_|refine rix ?_|refine aS ?_|fail)
    ·repeat' ((conv=>whnf);first|exact trivial|refine nT_ ?_|refine aE1 ?_|refine aE0 ?_|refine aN1 ?_|refine aN0 ?_|refine aD1 ?_|refine aD0 ?_|refine nE_ (fun hq=>?_) (fun hq=>?_)|refine nN_ (fun hq=>?_) (fun hq=>?_)|refine nD_ (fun hq=>?_) (fun hq=>?_)|refine rb1 ?_|refine rb0 ?_|refine rbx ?_|refine rix ?_|refine aS ?_|fail)
   ·repeat' ((conv=>whnf);first|exact trivial|refine nT_ ?_|refine aE1 ?_|refine aE0 ?_|refine aN1 ?_|refine aN0 ?_|refine aD1 ?_|refine aD0 ?_|refine nE_ (fun hq=>?_) (fun hq=>?_)|refine nN_ (fun hq=>?_) (fun hq=>?_)|refine nD_ (fun hq=>?_) (fun hq=>?_)|refine rb1 ?_|refine rb0 ?_|refine rbx ?_|refine rix ?_|refine aS ?_|fail)
  ·repeat' ((conv=>whnf);first|exact trivial|refine nT_ ?_|refine aE1 ?_|refine aE0 ?_|refine aN1 ?_|refine aN0 ?_|refine aD1 ?_|refine aD0 ?_|refine nE_ (fun hq=>?_) (fun hq=>?_)|refine nN_ (fun hq=>?_) (fun hq=>?_)|refine nD_ (fun hq=>?_) (fun hq=>?_)|refine rb1 ?_|refine rb0 ?_|refine rbx ?_|refine rix ?_|refine aS ?_|fail)
 ·repeat' ((conv=>whnf);first|exact trivial|refine nT_ ?_|refine aE1 ?_|refine aE0 ?_|refine aN1 ?_|refine aN0 ?_|refine aD1 ?_|refine aD0 ?_|refine nE_ (fun hq=>?_) (fun hq=>?_)|refine nN_ (fun hq=>?_) (fun hq=>?_)|refine nD_ (fun hq=>?_) (fun hq=>?_)|refine rb1 ?_|refine rb0 ?_|refine rbx ?_|refine rix ?_|refine aS ?_|fail)
def wx (f:RF):Prop:= -1000≤f.a∧f.a≤1000∧ -1000≤f.w∧f.w≤1000
def uq (f g:RF):Bool:=decide (f.a<g.a+g.w)&&decide (g.a<f.a+f.w)
theorem t71 (f g:RF) (hf:wx f) (hg:wx g):DCalls Tryz.prog 37 [tW f,tW g] (.bool (uq f g)):=by
 obtain ⟨s,a,w⟩:=f
 obtain ⟨s',b,v⟩:=g
 simp only [wx] at hf hg
 refine qB (rs:=[.tmp 4]) mixed Tryz.func37 l37 rfl rfl rfl (r:=[.bool _]) (nlZ rfl) ?_
 simp only [uq]
 have e1:IntKind.wrap .i64 (b+v)=b+v:=mj (by omega) (by omega)
 have e2:IntKind.wrap .i64 (a+w)=a+w:=mj (by omega) (by omega)
 by_cases h1:a<b+v
 ·by_cases h2:b<a+w
  ·repeat' ((conv=>whnf);first|exact trivial|(refine qd (by rw [e1];exact h1) ?_)|(refine qd (by rw [e2];exact h2) ?_)|refine nT_ ?_|refine aE1 ?_|refine aE0 ?_|refine aN1 ?_|refine aN0 ?_|refine aD1 ?_|refine aD0 ?_|refine nE_ (fun hq=>?_) (fun hq=>?_)|refine nN_ (fun hq=>?_) (fun hq=>?_)|refine nD_ (fun hq=>?_) (fun hq=>?_)|refine rb1 ?_|refine rb0 ?_|refine rbx ?_|refine rix ?_|refine aS ?_|fail)
  ·repeat' ((conv=>whnf);first|exact trivial|(refine qd (by rw [e1];exact h1) ?_)|(refine qc (by rw [e2];exact h2) ?_)|refine nT_ ?_|refine aE1 ?_|refine aE0 ?_|refine aN1 ?_|refine aN0 ?_|refine aD1 ?_|refine aD0 ?_|refine nE_ (fun hq=>?_) (fun hq=>?_)|refine nN_ (fun hq=>?_) (fun hq=>?_)|refine nD_ (fun hq=>?_) (fun hq=>?_)|refine rb1 ?_|refine rb0 ?_|refine rbx ?_|refine rix ?_|refine aS ?_|fail)
 ·repeat' ((conv=>whnf);first|exact trivial|(refine qc (by rw [e1];exact h1) ?_)|refine nT_ ?_|refine aE1 ?_|refine aE0 ?_|refine aN1 ?_|refine aN0 ?_|refine aD1 ?_|refine aD0 ?_|refine nE_ (fun hq=>?_) (fun hq=>?_)|refine nN_ (fun hq=>?_) (fun hq=>?_)|refine nD_ (fun hq=>?_) (fun hq=>?_)|refine rb1 ?_|refine rb0 ?_|refine rbx ?_|refine rix ?_|refine aS ?_|fail)
def ti (l:List RF) (i:Nat) (f:RF):Int:=
 if vh f.name=false∨sk f.name tM=true then 4
 else if ((l.take i).any fun g=>sk g.name f.name)=true then 4
 else if uB f=false then 1
 else if ((l.take i).any fun g=>uq g f)=true then 1 else 0
def tB:List Int→Int
 |[]=>0
 |x::xs=>if x≠0 then x else tB xs
theorem vA: ∀{l:List Int} {i:Nat} (h:i<l.length),(∀ j (hj:j<l.length),j<i→l[j]=0)→l[i]≠0→tB l=l[i]
 |x::xs,0,h,_,h0=>by simp at h0;simp [tB,h0]
 |x::xs,i+1,h,hz,h0=>by
  have hx:x=0:=hz 0 (by simp) (by omega)
  simp only [tB,hx,ne_eq,not_true_eq_false,if_false]
  exact vA (by simpa using h) (fun j hj hlt=>hz (j+1) (by simpa using hj) (by omega)) (by simpa using h0)
theorem vR: ∀{l:List Int},(∀ j (hj:j<l.length),l[j]=0)→tB l=0
 |[],_=>rfl
 |x::xs,hz=>by
  have hx:x=0:=hz 0 (by simp)
  simp only [tB,hx,ne_eq,not_true_eq_false,if_false]
  exact vR fun j hj=>hz (j+1) (by simpa using hj)
def uy (l:List RF):Int:=if l.length>16 then 2 else tB (l.mapIdx fun i f=>ti l i f)
theorem xc {f:RF} (h:uB f=true):wx f:=by
 simp [uB] at h
 unfold wx;omega
theorem u6 {p:RF→Bool} {l:List RF} {i:Nat} (hi:i≤l.length):((l.take i).any p=true)↔ ∃j, ∃h:j<l.length,j<i∧p l[j]=true:=by
 rw [List.any_eq_true]
 constructor
 ·rintro ⟨x,hx,hp⟩
  obtain ⟨j,hj,rfl⟩:=List.getElem_of_mem hx
  simp at hj
  exact ⟨j,by omega,by omega,by simpa using hp⟩
 ·rintro ⟨j,h,hji,hp⟩
  exact ⟨l[j],List.mem_take_iff_getElem.2 ⟨j,by omega,rfl⟩,hp⟩
theorem t47 (l:List RF) (hl:l.length<2^60) (hn: ∀f∈l,f.name.size<2^62):DCalls Tryz.prog 13 [vf l] (I (uy l)):=by
 refine qB (rs:=[.tmp 2]) mixed Tryz.func13 l13 rfl rfl rfl (r:=[.int _ _]) (nlZ rfl) ?_
 unfold uy
 by_cases h16:l.length>16
 ·rw [if_pos h16];repeat' ((conv=>whnf);first|exact trivial|refine nT_ ?_|refine aE1 ?_|refine aE0 ?_|refine aN1 ?_|refine aN0 ?_|refine aD1 ?_|refine aD0 ?_|refine nE_ (fun hq=>?_) (fun hq=>?_)|refine nN_ (fun hq=>?_) (fun hq=>?_)|refine nD_ (fun hq=>?_) (fun hq=>?_)|refine rb1 ?_|refine rb0 ?_|refine rbx ?_|refine rix ?_|refine aS ?_|fail)
 rw [if_neg h16]
 repeat' ((conv=>whnf);first|exact trivial|refine nT_ ?_|refine aE1 ?_|refine aE0 ?_|refine aN1 ?_|refine aN0 ?_|refine aD1 ?_|refine aD0 ?_|refine nE_ (fun hq=>?_) (fun hq=>?_)|refine nN_ (fun hq=>?_) (fun hq=>?_)|refine nD_ (fun hq=>?_) (fun hq=>?_)|refine rb1 ?_|refine rb0 ?_|refine rbx ?_|refine rix ?_|refine aS ?_|fail)
 refine qX (α:=Nat) (fun i=>{sl:=[(0,.t (vf l)),(3,.t (I i))],bx:=[]})
  (fun i=>i≤l.length∧ ∀j (h:j<l.length),j<i→ti l j l[j]=0) (fun i=>l.length - i) 0 (by simp) ?_ ?_
 ·repeat' (first|exact trivial|exact LeV.same _|exact LeB.same _|exact rfl|exact fun _ _ _=>trivial|exact lI|exact LeV.nil _ _ _|exact lB|refine r9 ?_|refine rO ?_|refine And.intro ?_ ?_)
 rintro i ⟨hi,hp⟩
 rcases Nat.lt_or_ge i l.length with h|h
 ·have res: ∀e,ti l i l[i]=e→e≠0→tB (l.mapIdx fun i f=>ti l i f)=e:=fun e he h0=>by
   have:=vA (l:=l.mapIdx fun i f=>ti l i f) (i:=i) (by simpa using h) (fun j hj hlt=>by simpa using hp j (by simpa using hj) hlt) (by simpa [he] using h0)
   rw [this];simpa using he
  have next:ti l i l[i]=0→i+1≤l.length∧ ∀j (h:j<l.length),j<i+1→ti l j l[j]=0:=fun h0=>by
   refine ⟨h,fun j hj hlt=>?_⟩
   rcases Nat.lt_or_ge j i with h4|h4
   ·exact hp j hj h4
   ·obtain rfl:j=i:=by omega
    exact h0
  have small: ∀k (hk:k<l.length),k<i→wx l[k]:=fun k hk hlt=>by
   have:=hp k hk hlt
   unfold ti at this
   split at this; ·omega
   split at this; ·omega
   split at this; ·omega
   rename_i h3
   exact xc (by simpa using h3)
  have c69:=t69 l[i].name (hn _ (List.getElem_mem h))
  have c70:=t70 l[i]
  have s1:=sZ l[i].name tM
  cases hA:vh l[i].name with
  |false=>
   rw [hA] at c69
   rw [res 4 (by unfold ti;simp [hA]) (by decide)]
   repeat' ((conv=>whnf);first|exact trivial|(refine nv_ (.agg (tD l[i])) (by first|(simp [h,tW];done)|fail) ?_)|refine rq _ (c69) ?_|refine nT_ ?_|refine aE1 ?_|refine aE0 ?_|refine aN1 ?_|refine aN0 ?_|refine aD1 ?_|refine aD0 ?_|refine nE_ (fun hq=>?_) (fun hq=>?_)|refine nN_ (fun hq=>?_) (fun hq=>?_)|refine nD_ (fun hq=>?_) (fun hq=>?_)|refine rb1 ?_|refine rb0 ?_|refine rbx ?_|refine rix ?_|refine aS ?_|fail)
  |true=>
  rw [hA] at c69
  cases hB:sk l[i].name tM with
  |true=>
   rw [hB] at s1
   rw [res 4 (by unfold ti;simp [hB]) (by decide)]
   repeat' ((conv=>whnf);first|exact trivial|(refine nv_ (.agg (tD l[i])) (by first|(simp [h,tW];done)|fail) ?_)|refine rq _ (c69) ?_|refine nb_ true s1 ?_|refine nT_ ?_|refine aE1 ?_|refine aE0 ?_|refine aN1 ?_|refine aN0 ?_|refine aD1 ?_|refine aD0 ?_|refine nE_ (fun hq=>?_) (fun hq=>?_)|refine nN_ (fun hq=>?_) (fun hq=>?_)|refine nD_ (fun hq=>?_) (fun hq=>?_)|refine rb1 ?_|refine rb0 ?_|refine rbx ?_|refine rix ?_|refine aS ?_|fail)
  |false=>
  rw [hB] at s1
  repeat' ((conv=>whnf);first|exact trivial|(refine nv_ (.agg (tD l[i])) (by first|(simp [h,tW];done)|fail) ?_)|refine rq _ (c69) ?_|refine nb_ false s1 ?_|refine nT_ ?_|refine aE1 ?_|refine aE0 ?_|refine aN1 ?_|refine aN0 ?_|refine aD1 ?_|refine aD0 ?_|refine nE_ (fun hq=>?_) (fun hq=>?_)|refine nN_ (fun hq=>?_) (fun hq=>?_)|refine nD_ (fun hq=>?_) (fun hq=>?_)|refine rb1 ?_|refine rb0 ?_|refine rbx ?_|refine rix ?_|refine aS ?_|fail)
  refine qX (α:=Nat) (fun k=>{sl:=[(0,.t (vf l)),(3,.t (I i)),(5,.t (I k))],bx:=[]})
   (fun k=>k≤i∧ ∀j (hj:j<l.length),j<k→sk l[j].name l[i].name=false) (fun k=>i - k) 0 (by simp) ?_ ?_
  ·repeat' (first|exact trivial|exact LeV.same _|exact LeB.same _|exact rfl|exact fun _ _ _=>trivial|exact lI|exact LeV.nil _ _ _|exact lB|refine r9 ?_|refine rO ?_|refine And.intro ?_ ?_)
  rintro k ⟨hk,hpk⟩
  rcases Nat.lt_or_ge k i with hki|hki
  ·have hkl:k<l.length:=by omega
   have s2:=sZ l[k].name l[i].name
   cases hC:sk l[k].name l[i].name with
   |true=>
    rw [hC] at s2
    rw [res 4 (by unfold ti;rw [if_neg (by simp [hA,hB]),if_pos ((u6 (by omega)).2 ⟨k,hkl,hki,hC⟩)]) (by decide)]
    repeat' ((conv=>whnf);first|exact trivial|(refine nv_ (.agg (tD l[k])) (by first|(simp [hkl,tW];done)|fail) ?_)|(refine nv_ (.agg (tD l[i])) (by first|(simp [h,tW];done)|fail) ?_)|refine nb_ true s2 ?_|refine nT_ ?_|refine aE1 ?_|refine aE0 ?_|refine aN1 ?_|refine aN0 ?_|refine aD1 ?_|refine aD0 ?_|refine nE_ (fun hq=>?_) (fun hq=>?_)|refine nN_ (fun hq=>?_) (fun hq=>?_)|refine nD_ (fun hq=>?_) (fun hq=>?_)|refine rb1 ?_|refine rb0 ?_|refine rbx ?_|refine rix ?_|refine aS ?_|fail)
   |false=>
    rw [hC] at s2
    repeat' ((conv=>whnf);first|exact trivial|(refine nv_ (.agg (tD l[k])) (by first|(simp [hkl,tW];done)|fail) ?_)|(refine nv_ (.agg (tD l[i])) (by first|(simp [h,tW];done)|fail) ?_)|refine nb_ false s2 ?_|refine nT_ ?_|refine aE1 ?_|refine aE0 ?_|refine aN1 ?_|refine aN0 ?_|refine aD1 ?_|refine aD0 ?_|refine nE_ (fun hq=>?_) (fun hq=>?_)|refine nN_ (fun hq=>?_) (fun hq=>?_)|refine nD_ (fun hq=>?_) (fun hq=>?_)|refine rb1 ?_|refine rb0 ?_|refine rbx ?_|refine rix ?_|refine aS ?_|fail)
    refine ⟨k+1,⟨by omega,fun j hj hlt=>?_⟩,by omega,?_⟩
    ·rcases Nat.lt_or_ge j k with h4|h4
     ·exact hpk j hj h4
     ·obtain rfl:j=k:=by omega
      exact hC
    ·repeat' (first|exact trivial|exact LeV.same _|exact LeB.same _|exact rfl|exact fun _ _ _=>trivial|exact lI|exact LeV.nil _ _ _|exact lB|refine r9 ?_|refine rO ?_|refine And.intro ?_ ?_)
  obtain rfl:k=i:=by omega
  have any1: ¬((l.take k).any fun g=>sk g.name l[k].name)=true:=fun hx=>by
   obtain ⟨j,hj,hji,hjp⟩:=(u6 hi).1 hx
   rw [hpk j hj hji] at hjp;cases hjp
  cases hD:uB l[k] with
  |false=>
   rw [hD] at c70
   rw [res 1 (by unfold ti;rw [if_neg (by simp [hA,hB]),if_neg any1,if_pos hD]) (by decide)]
   repeat' ((conv=>whnf);first|exact trivial|(refine nv_ (.agg (tD l[k])) (by first|(simp [h,tW];done)|fail) ?_)|refine rq _ (c70) ?_|refine nT_ ?_|refine aE1 ?_|refine aE0 ?_|refine aN1 ?_|refine aN0 ?_|refine aD1 ?_|refine aD0 ?_|refine nE_ (fun hq=>?_) (fun hq=>?_)|refine nN_ (fun hq=>?_) (fun hq=>?_)|refine nD_ (fun hq=>?_) (fun hq=>?_)|refine rb1 ?_|refine rb0 ?_|refine rbx ?_|refine rix ?_|refine aS ?_|fail)
  |true=>
  rw [hD] at c70
  have smk:=xc hD
  repeat' ((conv=>whnf);first|exact trivial|(refine nv_ (.agg (tD l[k])) (by first|(simp [h,tW];done)|fail) ?_)|refine rq _ (c70) ?_|refine nT_ ?_|refine aE1 ?_|refine aE0 ?_|refine aN1 ?_|refine aN0 ?_|refine aD1 ?_|refine aD0 ?_|refine nE_ (fun hq=>?_) (fun hq=>?_)|refine nN_ (fun hq=>?_) (fun hq=>?_)|refine nD_ (fun hq=>?_) (fun hq=>?_)|refine rb1 ?_|refine rb0 ?_|refine rbx ?_|refine rix ?_|refine aS ?_|fail)
  refine qX (α:=Nat) (fun m=>{sl:=[(0,.t (vf l)),(3,.t (I k)),(7,.t (I m))],bx:=[]})
   (fun m=>m≤k∧ ∀j (hj:j<l.length),j<m→uq l[j] l[k]=false) (fun m=>k - m) 0 (by simp) ?_ ?_
  ·repeat' (first|exact trivial|exact LeV.same _|exact LeB.same _|exact rfl|exact fun _ _ _=>trivial|exact lI|exact LeV.nil _ _ _|exact lB|refine r9 ?_|refine rO ?_|refine And.intro ?_ ?_)
  rintro m ⟨hm,hpm⟩
  rcases Nat.lt_or_ge m k with hmi|hmi
  ·have hml:m<l.length:=by omega
   have c71:=t71 l[m] l[k] (small m hml hmi) smk
   cases hC:uq l[m] l[k] with
   |true=>
    rw [hC] at c71
    rw [res 1 (by unfold ti;rw [if_neg (by simp [hA,hB]),if_neg any1,if_neg (by simp [hD]),if_pos ((u6 (by omega)).2 ⟨m,hml,hmi,hC⟩)]) (by decide)]
    repeat' ((conv=>whnf);first|exact trivial|(refine nv_ (.agg (tD l[m])) (by first|(simp [hml,tW];done)|fail) ?_)|(refine nv_ (.agg (tD l[k])) (by first|(simp [h,tW];done)|fail) ?_)|refine rq _ (c71) ?_|refine nT_ ?_|refine aE1 ?_|refine aE0 ?_|refine aN1 ?_|refine aN0 ?_|refine aD1 ?_|refine aD0 ?_|refine nE_ (fun hq=>?_) (fun hq=>?_)|refine nN_ (fun hq=>?_) (fun hq=>?_)|refine nD_ (fun hq=>?_) (fun hq=>?_)|refine rb1 ?_|refine rb0 ?_|refine rbx ?_|refine rix ?_|refine aS ?_|fail)
   |false=>
    rw [hC] at c71
    repeat' ((conv=>whnf);first|exact trivial|(refine nv_ (.agg (tD l[m])) (by first|(simp [hml,tW];done)|fail) ?_)|(refine nv_ (.agg (tD l[k])) (by first|(simp [h,tW];done)|fail) ?_)|refine rq _ (c71) ?_|refine nT_ ?_|refine aE1 ?_|refine aE0 ?_|refine aN1 ?_|refine aN0 ?_|refine aD1 ?_|refine aD0 ?_|refine nE_ (fun hq=>?_) (fun hq=>?_)|refine nN_ (fun hq=>?_) (fun hq=>?_)|refine nD_ (fun hq=>?_) (fun hq=>?_)|refine rb1 ?_|refine rb0 ?_|refine rbx ?_|refine rix ?_|refine aS ?_|fail)
    refine ⟨m+1,⟨by omega,fun j hj hlt=>?_⟩,by omega,?_⟩
    ·rcases Nat.lt_or_ge j m with h4|h4
     ·exact hpm j hj h4
     ·obtain rfl:j=m:=by omega
      exact hC
    ·repeat' (first|exact trivial|exact LeV.same _|exact LeB.same _|exact rfl|exact fun _ _ _=>trivial|exact lI|exact LeV.nil _ _ _|exact lB|refine r9 ?_|refine rO ?_|refine And.intro ?_ ?_)
  obtain rfl:m=k:=by omega
  have any2: ¬((l.take m).any fun g=>uq g l[m])=true:=fun hx=>by
   obtain ⟨j,hj,hji,hjp⟩:=(u6 hi).1 hx
   rw [hpm j hj hji] at hjp;cases hjp
  have e0:ti l m l[m]=0:=by unfold ti;rw [if_neg (by simp [hA,hB]),if_neg any1,if_neg (by simp [hD]),if_neg any2]
  repeat' ((conv=>whnf);first|exact trivial|(exact ⟨m+1,next e0,by omega,by (repeat' (first|exact trivial|exact LeV.same _|exact LeB.same _|exact rfl|exact fun _ _ _=>trivial|exact lI|exact LeV.nil _ _ _|exact lB|refine r9 ?_|refine rO ?_|refine And.intro ?_ ?_));done⟩)|refine nT_ ?_|refine aE1 ?_|refine aE0 ?_|refine aN1 ?_|refine aN0 ?_|refine aD1 ?_|refine aD0 ?_|refine nE_ (fun hq=>?_) (fun hq=>?_)|refine nN_ (fun hq=>?_) (fun hq=>?_)|refine nD_ (fun hq=>?_) (fun hq=>?_)|refine rb1 ?_|refine rb0 ?_|refine rbx ?_|refine rix ?_|refine aS ?_|fail)
 ·rw [vR fun j hj=>by simpa using hp j (by simpa using hj) (by simp at hj;omega)]
  repeat' ((conv=>whnf);first|exact trivial|refine nT_ ?_|refine aE1 ?_|refine aE0 ?_|refine aN1 ?_|refine aN0 ?_|refine aD1 ?_|refine aD0 ?_|refine nE_ (fun hq=>?_) (fun hq=>?_)|refine nN_ (fun hq=>?_) (fun hq=>?_)|refine nD_ (fun hq=>?_) (fun hq=>?_)|refine rb1 ?_|refine rb0 ?_|refine rbx ?_|refine rix ?_|refine aS ?_|fail)
end Go.MM
end
section
namespace Go.MM
open Go Go.DL Go.Proofs
mutual
def sJ:RP→List RP
 |.mk k f n m a=>.mk k f n m a::sV a
def sV:List RP→List RP
 |[]=>[]
 |r::rs=>sJ r++sV rs
end
mutual
theorem uY: ∀r:RP,(sJ r).length=r.nodes
 |.mk k f n m a=>by simp only [sJ,List.length_cons,vZ a,RP.nodes];omega
theorem vZ: ∀l:List RP,(sV l).length=sG l
 |[]=>rfl
 |r::rs=>by simp only [sV,List.length_append,uY r,vZ rs,sG]
end
theorem w7: ∀{l:List RP} {j:Nat} (h:j<l.length),sV (l.take (j+1))=sV (l.take j)++sJ l[j]
 |r::rs,0,h=>by simp [sV]
 |r::rs,j+1,h=>by
  have:=w7 (l:=rs) (j:=j) (by simpa using h)
  simp only [List.take_succ_cons,sV,List.getElem_cons_succ,this,List.append_assoc]
theorem t91 (N:Nat): ∀r:RP,r.nodes≤N→N<2^40→DCalls Tryz.prog 88 [.agg (sj r)] (.slice 5 ((sJ r).map sR)):=by
 induction N with
 |zero=>intro r h;have:=r.tS;omega
 |succ N ih=>
  rintro ⟨k,f,n,m,l⟩ hr hN
  refine qB (rs:=[.tmp 2]) mixed Tryz.func88 l88 rfl rfl rfl (r:=[.slice 5 _]) (nlZ rfl) ?_
  simp only [RP.nodes,sJ] at hr ⊢
  have hl:=vi l
  repeat' ((conv=>whnf);first|exact trivial|refine nT_ ?_|refine aE1 ?_|refine aE0 ?_|refine aN1 ?_|refine aN0 ?_|refine aD1 ?_|refine aD0 ?_|refine nE_ (fun hq=>?_) (fun hq=>?_)|refine nN_ (fun hq=>?_) (fun hq=>?_)|refine nD_ (fun hq=>?_) (fun hq=>?_)|refine rb1 ?_|refine rb0 ?_|refine rbx ?_|refine rix ?_|refine aS ?_|fail)
  refine qX (α:=Nat×Nat) (fun q=>{sl:=[(1,.ptr 1 0),(3,.own q.1 25 5 ((RP.mk k f n m l::sV (l.take q.2)).map sR)),(4,.t (I q.2))],bx:=[(1,.d 5 (sj (.mk k f n m l)))]})
   (fun q=>q.2≤l.length) (fun q=>l.length - q.2) (6,0) (by simp) ?_ ?_
  ·repeat' (first|exact trivial|exact LeV.same _|exact LeB.same _|exact rfl|exact fun _ _ _=>trivial|exact lI|exact LeV.nil _ _ _|exact lB|refine r9 ?_|refine rO ?_|refine And.intro ?_ ?_)
   simp [sV,sD]
  rintro ⟨o,i⟩ hi
  dsimp only at hi
  rcases Nat.lt_or_ge i l.length with h|h
  ·have hn:=uW h
   have hm:=uV (l:=l) (j:=i+1)
   have hc:=ih l[i] (by omega) (by omega)
   have e1:=uY l[i]
   have e2:=vZ (l.take i)
   have e3:=w7 h
   repeat' ((conv=>whnf);first|exact trivial|(refine nv_ (.agg (sj l[i])) (by first|(simp [h,sD];done)|fail) ?_)|refine rq _ (hc) ?_|refine nT_ ?_|refine aE1 ?_|refine aE0 ?_|refine aN1 ?_|refine aN0 ?_|refine aD1 ?_|refine aD0 ?_|refine nE_ (fun hq=>?_) (fun hq=>?_)|refine nN_ (fun hq=>?_) (fun hq=>?_)|refine nD_ (fun hq=>?_) (fun hq=>?_)|refine rb1 ?_|refine rb0 ?_|refine rbx ?_|refine rix ?_|(refine And.intro (by first|exact sQ _|((simp only [List.length_map,List.length_cons];omega);done)|fail) ?_)|refine aS ?_|fail)
   refine ⟨(21,i+1),by dsimp only;omega,by dsimp only;omega,?_⟩
   repeat' (first|exact trivial|exact LeV.same _|exact LeB.same _|exact rfl|exact fun _ _ _=>trivial|exact lI|exact LeV.nil _ _ _|exact lB|refine r9 ?_|refine rO ?_|refine And.intro ?_ ?_)
   simp [e3]
  ·have:i=l.length:=by omega
   subst this
   rw [List.take_length]
   repeat' ((conv=>whnf);first|exact trivial|refine nT_ ?_|refine aE1 ?_|refine aE0 ?_|refine aN1 ?_|refine aN0 ?_|refine aD1 ?_|refine aD0 ?_|refine nE_ (fun hq=>?_) (fun hq=>?_)|refine nN_ (fun hq=>?_) (fun hq=>?_)|refine nD_ (fun hq=>?_) (fun hq=>?_)|refine rb1 ?_|refine rb0 ?_|refine rbx ?_|refine rix ?_|refine aS ?_|fail)
mutual
def sE:RO→List RO
 |.mk k p f n a=>.mk k p f n a::sH a
def sH:List RO→List RO
 |[]=>[]
 |r::rs=>sE r++sH rs
end
mutual
def RO.cnt:RO→Nat
 |.mk _ _ _ _ a=>1+uQ a
def uQ:List RO→Nat
 |[]=>0
 |r::rs=>r.cnt+uQ rs
end
mutual
theorem RO.vK: ∀r:RO,r.cnt≤r.wt
 |.mk k p _ _ a=>by have:=wB a;simp only [RO.cnt,RO.wt];omega
theorem wB: ∀l:List RO,uQ l≤s9 l
 |[]=>Nat.le_refl _
 |r::rs=>by have:=RO.vK r;have:=wB rs;simp only [uQ,s9];omega
end
mutual
theorem uw: ∀r:RO,(sE r).length=r.cnt
 |.mk k p f n a=>by simp only [sE,List.length_cons,wa a,RO.cnt];omega
theorem wa: ∀l:List RO,(sH l).length=uQ l
 |[]=>rfl
 |r::rs=>by simp only [sH,List.length_append,uw r,wa rs,uQ]
end
theorem w8: ∀{l:List RO} {j:Nat} (h:j<l.length),sH (l.take (j+1))=sH (l.take j)++sE l[j]
 |r::rs,0,h=>by simp [sH]
 |r::rs,j+1,h=>by
  have:=w8 (l:=rs) (j:=j) (by simpa using h)
  simp only [List.take_succ_cons,sH,List.getElem_cons_succ,this,List.append_assoc]
theorem x8: ∀{l:List RO} {j:Nat} (h:j<l.length),uQ (l.take (j+1))=uQ (l.take j)+l[j].cnt
 |r::rs,0,h=>by simp [uQ]
 |r::rs,j+1,h=>by
  have:=x8 (l:=rs) (j:=j) (by simpa using h)
  simp only [List.take_succ_cons,uQ,List.getElem_cons_succ]
  omega
theorem t64 (N:Nat): ∀r:RO,r.wt≤N→N<2^40→DCalls Tryz.prog 68 [.agg (sg r)] (.slice 9 ((sE r).map tQ)):=by
 induction N with
 |zero=>intro r h;have:=r.uE;omega
 |succ N ih=>
  rintro ⟨k,⟨pk,pf,pn,pm,pa⟩,f,n,l⟩ hr hN
  refine qB (rs:=[.tmp 2]) mixed Tryz.func68 l68 rfl rfl rfl (r:=[.slice 9 _]) (nlZ rfl) ?_
  simp only [RO.wt,sE] at hr ⊢
  have hl:=uK l
  repeat' ((conv=>whnf);first|exact trivial|refine nT_ ?_|refine aE1 ?_|refine aE0 ?_|refine aN1 ?_|refine aN0 ?_|refine aD1 ?_|refine aD0 ?_|refine nE_ (fun hq=>?_) (fun hq=>?_)|refine nN_ (fun hq=>?_) (fun hq=>?_)|refine nD_ (fun hq=>?_) (fun hq=>?_)|refine rb1 ?_|refine rb0 ?_|refine rbx ?_|refine rix ?_|refine aS ?_|fail)
  refine qX (α:=Nat×Nat) (fun q=>{sl:=[(1,.ptr 1 0),(3,.own q.1 28 9 ((RO.mk k (.mk pk pf pn pm pa) f n l::sH (l.take q.2)).map tQ)),(4,.t (I q.2))],bx:=[(1,.d 9 (sg (.mk k (.mk pk pf pn pm pa) f n l)))]})
   (fun q=>q.2≤l.length) (fun q=>l.length - q.2) (6,0) (by simp) ?_ ?_
  ·repeat' (first|exact trivial|exact LeV.same _|exact LeB.same _|exact rfl|exact fun _ _ _=>trivial|exact lI|exact LeV.nil _ _ _|exact lB|refine r9 ?_|refine rO ?_|refine And.intro ?_ ?_)
   simp [sH,sM]
  rintro ⟨o,i⟩ hi
  dsimp only at hi
  rcases Nat.lt_or_ge i l.length with h|h
  ·have hn:=tV h
   have hm:=tU (l:=l) (j:=i+1)
   have hc:=ih l[i] (by omega) (by omega)
   have e1:=uw l[i]
   have e2:=wa (l.take i)
   have e3:=w8 h
   have e4:=wB (l.take i)
   have e5:=l[i].vK
   repeat' ((conv=>whnf);first|exact trivial|(refine nv_ (.agg (sg l[i])) (by first|(simp [h,sM];done)|fail) ?_)|refine rq _ (hc) ?_|refine nT_ ?_|refine aE1 ?_|refine aE0 ?_|refine aN1 ?_|refine aN0 ?_|refine aD1 ?_|refine aD0 ?_|refine nE_ (fun hq=>?_) (fun hq=>?_)|refine nN_ (fun hq=>?_) (fun hq=>?_)|refine nD_ (fun hq=>?_) (fun hq=>?_)|refine rb1 ?_|refine rb0 ?_|refine rbx ?_|refine rix ?_|(refine And.intro (by first|exact sm _|((simp only [List.length_map,List.length_cons];omega);done)|fail) ?_)|refine aS ?_|fail)
   refine ⟨(21,i+1),by dsimp only;omega,by dsimp only;omega,?_⟩
   repeat' (first|exact trivial|exact LeV.same _|exact LeB.same _|exact rfl|exact fun _ _ _=>trivial|exact lI|exact LeV.nil _ _ _|exact lB|refine r9 ?_|refine rO ?_|refine And.intro ?_ ?_)
   simp [e3]
  ·have:i=l.length:=by omega
   subst this
   rw [List.take_length]
   repeat' ((conv=>whnf);first|exact trivial|refine nT_ ?_|refine aE1 ?_|refine aE0 ?_|refine aN1 ?_|refine aN0 ?_|refine aD1 ?_|refine aD0 ?_|refine nE_ (fun hq=>?_) (fun hq=>?_)|refine nN_ (fun hq=>?_) (fun hq=>?_)|refine nD_ (fun hq=>?_) (fun hq=>?_)|refine rb1 ?_|refine rb0 ?_|refine rbx ?_|refine rix ?_|refine aS ?_|fail)
theorem t72 (N:Nat): ∀r:RO,r.wt≤N→N<2^60→DCalls Tryz.prog 39 [.agg (sg r)] (I r.cnt):=by
 induction N with
 |zero=>intro r h;have:=r.uE;omega
 |succ N ih=>
  rintro ⟨k,⟨pk,pf,pn,pm,pa⟩,f,n,l⟩ hr hN
  refine qB (rs:=[.tmp 2]) mixed Tryz.func39 l39 rfl rfl rfl (r:=[.int _ _]) (nlZ rfl) ?_
  simp only [RO.wt,RO.cnt] at hr ⊢
  have hl:=uK l
  repeat' ((conv=>whnf);first|exact trivial|refine nT_ ?_|refine aE1 ?_|refine aE0 ?_|refine aN1 ?_|refine aN0 ?_|refine aD1 ?_|refine aD0 ?_|refine nE_ (fun hq=>?_) (fun hq=>?_)|refine nN_ (fun hq=>?_) (fun hq=>?_)|refine nD_ (fun hq=>?_) (fun hq=>?_)|refine rb1 ?_|refine rb0 ?_|refine rbx ?_|refine rix ?_|refine aS ?_|fail)
  refine qX (α:=Nat) (fun i=>{sl:=[(1,.ptr 1 0),(3,.t (I (1+uQ (l.take i):Nat))),(4,.t (I i))],bx:=[(1,.d 9 (sg (.mk k (.mk pk pf pn pm pa) f n l)))]})
   (fun i=>i≤l.length) (fun i=>l.length - i) 0 (by simp) ?_ ?_
  ·repeat' (first|exact trivial|exact LeV.same _|exact LeB.same _|exact rfl|exact fun _ _ _=>trivial|exact lI|exact LeV.nil _ _ _|exact lB|refine r9 ?_|refine rO ?_|refine And.intro ?_ ?_)
  rintro i hi
  rcases Nat.lt_or_ge i l.length with h|h
  ·have hn:=tV h
   have hm:=tU (l:=l) (j:=i+1)
   have hc:=ih l[i] (by omega) (by omega)
   have e4:=wB (l.take i)
   have e5:=l[i].vK
   have e6:=x8 h
   repeat' ((conv=>whnf);first|exact trivial|(refine nv_ (.agg (sg l[i])) (by first|(simp [h,sM];done)|fail) ?_)|refine rq _ (hc) ?_|refine nT_ ?_|refine aE1 ?_|refine aE0 ?_|refine aN1 ?_|refine aN0 ?_|refine aD1 ?_|refine aD0 ?_|refine nE_ (fun hq=>?_) (fun hq=>?_)|refine nN_ (fun hq=>?_) (fun hq=>?_)|refine nD_ (fun hq=>?_) (fun hq=>?_)|refine rb1 ?_|refine rb0 ?_|refine rbx ?_|refine rix ?_|(refine And.intro (by first|exact sm _|fail) ?_)|refine aS ?_|fail)
   refine ⟨i+1,by omega,by omega,?_⟩
   repeat' (first|exact trivial|exact LeV.same _|exact LeB.same _|exact rfl|exact fun _ _ _=>trivial|exact lI|exact LeV.nil _ _ _|exact lB|refine r9 ?_|refine rO ?_|refine And.intro ?_ ?_)
  ·have:i=l.length:=by omega
   subst this
   rw [List.take_length]
   repeat' ((conv=>whnf);first|exact trivial|refine nT_ ?_|refine aE1 ?_|refine aE0 ?_|refine aN1 ?_|refine aN0 ?_|refine aD1 ?_|refine aD0 ?_|refine nE_ (fun hq=>?_) (fun hq=>?_)|refine nN_ (fun hq=>?_) (fun hq=>?_)|refine nD_ (fun hq=>?_) (fun hq=>?_)|refine rb1 ?_|refine rb0 ?_|refine rbx ?_|refine rix ?_|refine aS ?_|fail)
mutual
def RO.tN:RO→Nat
 |.mk k _ _ _ a=>ue a+(if k=5 then 1 else 0)
def ue:List RO→Nat
 |[]=>0
 |r::rs=>max r.tN (ue rs)
end
mutual
def RO.vO:RO→Nat
 |.mk k _ _ _ a=>vC a+(if k=2 then 1 else 0)
def vC:List RO→Nat
 |[]=>0
 |r::rs=>r.vO+vC rs
end
mutual
theorem RO.zw: ∀r:RO,r.tN≤r.wt
 |.mk k p _ _ a=>by have:=vV a;have:=p.tS;simp only [RO.tN,RO.wt];split <;> omega
theorem vV: ∀l:List RO,ue l≤s9 l
 |[]=>Nat.le_refl _
 |r::rs=>by have:=RO.zw r;have:=vV rs;simp only [ue,s9];omega
end
mutual
theorem RO.zT: ∀r:RO,r.vO≤r.wt
 |.mk k p _ _ a=>by have:=wQ a;have:=p.tS;simp only [RO.vO,RO.wt];split <;> omega
theorem wQ: ∀l:List RO,vC l≤s9 l
 |[]=>Nat.le_refl _
 |r::rs=>by have:=RO.zT r;have:=wQ rs;simp only [vC,s9];omega
end
theorem xO: ∀{l:List RO} {j:Nat} (h:j<l.length),ue (l.take (j+1))=max (ue (l.take j)) l[j].tN
 |r::rs,0,h=>by simp [ue]
 |r::rs,j+1,h=>by
  have:=xO (l:=rs) (j:=j) (by simpa using h)
  simp only [List.take_succ_cons,ue,List.getElem_cons_succ]
  omega
theorem yj: ∀{l:List RO} {j:Nat} (h:j<l.length),vC (l.take (j+1))=vC (l.take j)+l[j].vO
 |r::rs,0,h=>by simp [vC]
 |r::rs,j+1,h=>by
  have:=yj (l:=rs) (j:=j) (by simpa using h)
  simp only [List.take_succ_cons,vC,List.getElem_cons_succ]
  omega
theorem t60 (N:Nat): ∀r:RO,r.wt≤N→N<2^60→DCalls Tryz.prog 72 [.agg (sg r)] (I r.vO):=by
 induction N with
 |zero=>intro r h;have:=r.uE;omega
 |succ N ih=>
  rintro ⟨k,⟨pk,pf,pn,pm,pa⟩,f,n,l⟩ hr hN
  refine qB (rs:=[.tmp 2]) mixed Tryz.func72 l72 rfl rfl rfl (r:=[.int _ _]) (nlZ rfl) ?_
  simp only [RO.wt,RO.vO] at hr ⊢
  have hl:=uK l
  repeat' ((conv=>whnf);first|exact trivial|refine nT_ ?_|refine aE1 ?_|refine aE0 ?_|refine aN1 ?_|refine aN0 ?_|refine aD1 ?_|refine aD0 ?_|refine nE_ (fun hq=>?_) (fun hq=>?_)|refine nN_ (fun hq=>?_) (fun hq=>?_)|refine nD_ (fun hq=>?_) (fun hq=>?_)|refine rb1 ?_|refine rb0 ?_|refine rbx ?_|refine rix ?_|refine aS ?_|fail)
  refine qX (α:=Nat) (fun i=>{sl:=[(1,.ptr 1 0),(3,.t (I (vC (l.take i):Nat))),(4,.t (I i))],bx:=[(1,.d 9 (sg (.mk k (.mk pk pf pn pm pa) f n l)))]})
   (fun i=>i≤l.length) (fun i=>l.length - i) 0 (by simp) ?_ ?_
  ·repeat' (first|exact trivial|exact LeV.same _|exact LeB.same _|exact rfl|exact fun _ _ _=>trivial|exact lI|exact LeV.nil _ _ _|exact lB|refine r9 ?_|refine rO ?_|refine And.intro ?_ ?_)
  rintro i hi
  rcases Nat.lt_or_ge i l.length with h|h
  ·have hn:=tV h
   have hm:=tU (l:=l) (j:=i+1)
   have hc:=ih l[i] (by omega) (by omega)
   have e4:=wQ (l.take i)
   have e5:=l[i].zT
   have e6:=yj h
   repeat' ((conv=>whnf);first|exact trivial|(refine nv_ (.agg (sg l[i])) (by first|(simp [h,sM];done)|fail) ?_)|refine rq _ (hc) ?_|refine nT_ ?_|refine aE1 ?_|refine aE0 ?_|refine aN1 ?_|refine aN0 ?_|refine aD1 ?_|refine aD0 ?_|refine nE_ (fun hq=>?_) (fun hq=>?_)|refine nN_ (fun hq=>?_) (fun hq=>?_)|refine nD_ (fun hq=>?_) (fun hq=>?_)|refine rb1 ?_|refine rb0 ?_|refine rbx ?_|refine rix ?_|(refine And.intro (by first|exact sm _|fail) ?_)|refine aS ?_|fail)
   refine ⟨i+1,by omega,by omega,?_⟩
   repeat' (first|exact trivial|exact LeV.same _|exact LeB.same _|exact rfl|exact fun _ _ _=>trivial|exact lI|exact LeV.nil _ _ _|exact lB|refine r9 ?_|refine rO ?_|refine And.intro ?_ ?_)
  ·have:i=l.length:=by omega
   subst this
   rw [List.take_length]
   have e4:=wQ l
   by_cases hk:k=2
   ·simp only [hk,if_true]
    repeat' ((conv=>whnf);first|exact trivial|refine nT_ ?_|refine aE1 ?_|refine aE0 ?_|refine aN1 ?_|refine aN0 ?_|refine aD1 ?_|refine aD0 ?_|refine nE_ (fun hq=>?_) (fun hq=>?_)|refine nN_ (fun hq=>?_) (fun hq=>?_)|refine nD_ (fun hq=>?_) (fun hq=>?_)|refine rb1 ?_|refine rb0 ?_|refine rbx ?_|refine rix ?_|refine aS ?_|fail)
   ·simp only [hk,if_false]
    repeat' ((conv=>whnf);first|exact trivial|refine nT_ ?_|refine aE1 ?_|refine aE0 ?_|refine aN1 ?_|refine aN0 ?_|refine aD1 ?_|refine aD0 ?_|refine nE_ (fun hq=>?_) (fun hq=>?_)|refine nN_ (fun hq=>?_) (fun hq=>?_)|refine nD_ (fun hq=>?_) (fun hq=>?_)|refine rb1 ?_|refine rb0 ?_|refine rbx ?_|refine rix ?_|refine aS ?_|fail)
theorem t59 (N:Nat): ∀r:RO,r.wt≤N→N<2^60→DCalls Tryz.prog 40 [.agg (sg r)] (I r.tN):=by
 induction N with
 |zero=>intro r h;have:=r.uE;omega
 |succ N ih=>
  rintro ⟨k,⟨pk,pf,pn,pm,pa⟩,f,n,l⟩ hr hN
  refine qB (rs:=[.tmp 2]) mixed Tryz.func40 l40 rfl rfl rfl (r:=[.int _ _]) (nlZ rfl) ?_
  simp only [RO.wt,RO.tN] at hr ⊢
  have hl:=uK l
  repeat' ((conv=>whnf);first|exact trivial|refine nT_ ?_|refine aE1 ?_|refine aE0 ?_|refine aN1 ?_|refine aN0 ?_|refine aD1 ?_|refine aD0 ?_|refine nE_ (fun hq=>?_) (fun hq=>?_)|refine nN_ (fun hq=>?_) (fun hq=>?_)|refine nD_ (fun hq=>?_) (fun hq=>?_)|refine rb1 ?_|refine rb0 ?_|refine rbx ?_|refine rix ?_|refine aS ?_|fail)
  refine qX (α:=Nat) (fun i=>{sl:=[(1,.ptr 1 0),(3,.t (I (ue (l.take i):Nat))),(4,.t (I i))],bx:=[(1,.d 9 (sg (.mk k (.mk pk pf pn pm pa) f n l)))]})
   (fun i=>i≤l.length) (fun i=>l.length - i) 0 (by simp) ?_ ?_
  ·repeat' (first|exact trivial|exact LeV.same _|exact LeB.same _|exact rfl|exact fun _ _ _=>trivial|exact lI|exact LeV.nil _ _ _|exact lB|refine r9 ?_|refine rO ?_|refine And.intro ?_ ?_)
  rintro i hi
  rcases Nat.lt_or_ge i l.length with h|h
  ·have hn:=tV h
   have hm:=tU (l:=l) (j:=i+1)
   have hc:=ih l[i] (by omega) (by omega)
   have e4:=vV (l.take i)
   have e5:=l[i].zw
   have e6:=xO h
   have e7:((ue (l.take (i+1)):Nat):Int)=if ((l[i].tN:Nat):Int)>(ue (l.take i):Nat) then ((l[i].tN:Nat):Int) else (ue (l.take i):Nat):=by rw [e6];split <;> omega
   repeat' ((conv=>whnf);first|exact trivial|(refine nv_ (.agg (sg l[i])) (by first|(simp [h,sM];done)|fail) ?_)|refine rq _ (hc) ?_|refine nT_ ?_|refine aE1 ?_|refine aE0 ?_|refine aN1 ?_|refine aN0 ?_|refine aD1 ?_|refine aD0 ?_|refine nE_ (fun hq=>?_) (fun hq=>?_)|refine nN_ (fun hq=>?_) (fun hq=>?_)|refine nD_ (fun hq=>?_) (fun hq=>?_)|refine rb1 ?_|refine rb0 ?_|refine rbx ?_|refine rix ?_|(refine And.intro (by first|exact sm _|fail) ?_)|refine aS ?_|fail)
   refine ⟨i+1,by omega,by omega,?_⟩
   repeat' (first|(exact leI e7)|exact trivial|exact LeV.same _|exact LeB.same _|exact rfl|exact fun _ _ _=>trivial|exact lI|exact LeV.nil _ _ _|exact lB|refine r9 ?_|refine rO ?_|refine And.intro ?_ ?_)
  ·have:i=l.length:=by omega
   subst this
   rw [List.take_length]
   have e4:=vV l
   by_cases hk:k=5
   ·simp only [hk,if_true]
    repeat' ((conv=>whnf);first|exact trivial|refine nT_ ?_|refine aE1 ?_|refine aE0 ?_|refine aN1 ?_|refine aN0 ?_|refine aD1 ?_|refine aD0 ?_|refine nE_ (fun hq=>?_) (fun hq=>?_)|refine nN_ (fun hq=>?_) (fun hq=>?_)|refine nD_ (fun hq=>?_) (fun hq=>?_)|refine rb1 ?_|refine rb0 ?_|refine rbx ?_|refine rix ?_|refine aS ?_|fail)
   ·simp only [hk,if_false]
    repeat' ((conv=>whnf);first|exact trivial|refine nT_ ?_|refine aE1 ?_|refine aE0 ?_|refine aN1 ?_|refine aN0 ?_|refine aD1 ?_|refine aD0 ?_|refine nE_ (fun hq=>?_) (fun hq=>?_)|refine nN_ (fun hq=>?_) (fun hq=>?_)|refine nD_ (fun hq=>?_) (fun hq=>?_)|refine rb1 ?_|refine rb0 ?_|refine rbx ?_|refine rix ?_|refine aS ?_|fail)
def wW (n k:Nat):Bool:=(n==0)||((n==1)&&decide (k≤8))||((n==2)&&decide (k≤4))||((n==3)&&decide (k≤3))||((n==4)&&decide (k≤2))
theorem t38 (r:RO) (hr:r.wt<2^60):DCalls Tryz.prog 41 [.agg (sg r)] (.bool (wW r.tN r.vO)):=by
 refine qB (rs:=[.tmp 2]) mixed Tryz.func41 l41 rfl rfl rfl (r:=[.bool _]) (nlZ rfl) ?_
 have h1:=t59 _ r (Nat.le_refl _) hr
 have h2:=t60 _ r (Nat.le_refl _) hr
 generalize r.tN=n at *
 generalize r.vO=m at *
 unfold wW
 repeat' ((conv=>whnf);first|exact trivial|refine rq _ (h1) ?_|refine rq _ (h2) ?_|refine nT_ ?_|refine aE1 ?_|refine aE0 ?_|refine aN1 ?_|refine aN0 ?_|refine aD1 ?_|refine aD0 ?_|refine nE_ (fun hq=>?_) (fun hq=>?_)|refine nN_ (fun hq=>?_) (fun hq=>?_)|refine nD_ (fun hq=>?_) (fun hq=>?_)|refine rb1 ?_|refine rb0 ?_|refine rbx ?_|refine rix ?_|(refine And.intro (by first|exact sm _|fail) ?_)|refine aS ?_|fail)
end Go.MM
end
