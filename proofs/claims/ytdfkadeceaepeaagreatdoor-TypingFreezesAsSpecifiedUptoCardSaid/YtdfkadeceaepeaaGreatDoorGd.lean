/- Joined by program: parts of a data level over the model, of the program's functions over it, and of the statement's proof. -/
import Derived.Test.YtdfkadeceaepeaaGreatDoorProg
import Derived.Test.YtdfkadeceaepeaaGreatDoorGc
import Derived.KernelRfl
import Derived.Sort.Walk0
import Derived.Stop.LaidErr
import Derived.Lib.LaidTab
set_option maxRecDepth 100000
set_option maxHeartbeats 8000000
noncomputable section
namespace Go.DL
abbrev Kc (n:Int):O:=.const (.int .i64 n)
abbrev Zi (n:Int):T:=.int .i64 n
abbrev Ui (n:Int):T:=.int .u8 n
abbrev tm (n:Nat):O:=.tmp n
abbrev mv (d s:Nat):DI:=⟨some d,.mov (.tmp s),none,[]⟩
abbrev mF (d s g:Nat):DI:=⟨some d,.mov (.tmp s),some (g,false),[]⟩
abbrev mT (d s g:Nat):DI:=⟨some d,.mov (.tmp s),some (g,true),[]⟩
abbrev oo (d:Nat) (p:DOp):DI:=⟨some d,p,none,[]⟩
abbrev oF (d g:Nat) (p:DOp):DI:=⟨some d,p,some (g,false),[]⟩
abbrev oT (d g:Nat) (p:DOp):DI:=⟨some d,p,some (g,true),[]⟩
abbrev o0 (p:DOp):DI:=⟨none,p,none,[]⟩
abbrev ld (d a:Nat):DI:=⟨some d,.load 1 false (.tmp a),none,[]⟩
abbrev lA (d n a:Nat):DI:=⟨some d,.load n true (.tmp a),none,[]⟩
abbrev fa (d k a:Nat):DI:=⟨some d,.offA k (.tmp a),none,[]⟩
abbrev ix (d z a b:Nat):DI:=⟨some d,.idxL z (.tmp a) (.tmp b),none,[]⟩
abbrev ln (d a:Nat):DI:=⟨some d,.len (.tmp a),none,[]⟩
abbrev kT:O:=.const (.bool true)
abbrev kF:O:=.const (.bool false)
abbrev S0:T:=.str ⟨#[]⟩
abbrev Z0:T:=.int .i64 0
end Go.DL
namespace Go.MM
open Go Go.DL Go.Proofs
def c21:aY:=(.seq (.region [oo 1 (.box 9 (tm 0)),oo 2 (.mov (Kc 0))] []) (.seq (.region [lA 3 9 1,oo 4 (.call 34 [tm 3]),lA 5 9 1,oo 6 (.call 85 [tm 5]),oo 7 (.call 84 [(tm 4),(tm 6)]),mv 2 7] []) .ret))
theorem l21:(Tryz.f21.body.bind (bD Tryz.prog 8 []))=some c21:=by kernel_rfl
def c76:aY:=(.seq (.region [oo 1 (.box 9 (tm 0)),oo 2 (.mov (.const .nil))] []) (.seq (.region [lA 5 9 1,⟨some 6,.buildS 28 9 1 [Z0,Z0,S0,Z0,Z0,.nil,S0,Z0,.nil] [(0,(tm 5))],none,[]⟩,mv 3 6] []) (.seq (.seq (.region [oo 4 (.mov (Kc 0))] []) (.block 0 (.loop (.seq (.seq (.region [mv 7 4,fa 8 8 1,ld 9 8,ln 10 9,oo 11 (.bin .lss (tm 7) (tm 10))] []) (.cond (tm 11) .skip (.exit 0))) (.seq (.block 1 (.region [mv 14 3,fa 15 8 1,ld 16 15,mv 17 4,ix 18 9 16 17,lA 19 9 18,oo 20 (.call 76 [tm 19]),oo 21 (.append 26 28 9 120 (tm 14) (tm 20)),mv 3 21] [])) (.region [mv 12 4,oo 13 (.bin .add (tm 12) (Kc 1)),mv 4 13] [])))))) (.seq (.region [mv 22 3,mv 2 22] []) .ret))))
theorem l76:(Tryz.f76.body.bind (bD Tryz.prog 23 []))=some c76:=by kernel_rfl
def c74:aY:=(.seq (.region [oo 3 (.box 1 (tm 1)),⟨some 4,.alloc [S0,Z0,Z0],none,[]⟩,oo 5 (.mov kF)] []) (.seq (.seq (.region [ld 7 3,oo 8 (.call 118 []),oo 9 (.fld 0 1 false (tm 8)),oo 10 (.bin .eql (tm 7) (tm 9))] []) (.cond (tm 10) (.seq (.region [oo 11 (.call 118 []),o0 (.store 3 (tm 4) (tm 11)),oo 5 (.mov kT)] []) .ret) .skip)) (.seq (.region [mv 12 0,oo 13 (.mkfn 120 [tm 3]),oo 14 (.call 119 [(tm 12),(tm 13)]),mv 6 14] []) (.seq (.seq (.region [mv 15 6,oo 16 (.bin .lss (tm 15) (Kc 0))] []) (.cond (tm 16) (.seq (.region [⟨some 17,.build [S0,Z0,Z0] [],none,[]⟩,o0 (.store 3 (tm 4) (tm 17)),oo 5 (.mov kF)] []) .ret) .skip)) (.seq (.region [mv 18 0,mv 19 6,ix 20 3 18 19,lA 21 3 20,o0 (.store 3 (tm 4) (tm 21)),oo 5 (.mov kT)] []) .ret)))))
theorem l74:(Tryz.f74.body.bind (bD Tryz.prog 22 []))=some c74:=by kernel_rfl
def c84:aY:=(.seq (.region [oo 2 (.box 2 (tm 0)),oo 4 (.mov (Kc 0))] []) (.seq (.region [lA 6 2 2,oo 7 (.call 128 [tm 6]),mv 5 7] []) (.seq (.seq (.region [mv 8 5,oo 9 (.bin .eql (tm 8) (Kc 0)),mv 10 9,mT 11 1 10,oT 12 10 (.not (tm 11)),oo 13 (.pick (tm 10) (tm 12) kF)] []) (.cond (tm 13) (.seq (.region [oo 4 (.mov (Kc 1))] []) .ret) .skip)) (.seq (.region [mv 14 5,mv 4 14] []) .ret))))
theorem l84:(Tryz.f84.body.bind (bD Tryz.prog 15 []))=some c84:=by kernel_rfl
def c34:aY:=(.seq (.region [oo 1 (.box 9 (tm 0)),oo 2 (.alloc [Z0,Z0])] []) (.seq (.region [oo 5 (.build [Z0,Z0] [(0,1,(Kc 1)),(1,1,(Kc 1))]),oo 3 (.alloc [Z0,Z0]),o0 (.store 2 (tm 3) (tm 5))] []) (.seq (.seq (.region [fa 6 0 1,ld 7 6,oo 8 (.bin .eql (tm 7) (Kc 1))] []) (.cond (tm 8) (.region [lA 9 2 3,fa 10 1 1,lA 11 5 10,oo 12 (.call 67 [tm 11]),oo 13 (.call 94 [(tm 9),(tm 12)]),o0 (.store 2 (tm 3) (tm 13))] []) .skip)) (.seq (.seq (.region [oo 4 (.mov (Kc 0))] []) (.block 0 (.loop (.seq (.seq (.region [mv 14 4,fa 15 8 1,ld 16 15,ln 17 16,oo 18 (.bin .lss (tm 14) (tm 17))] []) (.cond (tm 18) .skip (.exit 0))) (.seq (.block 1 (.region [lA 21 2 3,fa 22 8 1,ld 23 22,mv 24 4,ix 25 9 23 24,lA 26 9 25,oo 27 (.call 34 [tm 26]),oo 28 (.call 94 [(tm 21),(tm 27)]),o0 (.store 2 (tm 3) (tm 28))] [])) (.region [mv 19 4,oo 20 (.bin .add (tm 19) (Kc 1)),mv 4 20] [])))))) (.seq (.region [lA 29 2 3,o0 (.store 2 (tm 2) (tm 29))] []) .ret)))))
theorem l34:(Tryz.f34.body.bind (bD Tryz.prog 30 []))=some c34:=by kernel_rfl
def c85:aY:=(.seq (.region [oo 1 (.box 9 (tm 0)),oo 2 (.mov kF)] []) (.seq (.region [fa 10 6 1,ld 11 10,oo 12 (.call 129 [tm 11]),mv 3 12] []) (.seq (.region [fa 13 1 1,lA 14 5 13,⟨some 15,.build [Z0,S0,Z0,Z0,.nil] [],none,[]⟩,oo 16 (.call 51 [(tm 14),(tm 15)]),mv 4 16] []) (.seq (.cut (.region [fa 17 6 1,ld 18 17,⟨some 19,.bin .eql (tm 18) (.const S0),none,[]⟩,mv 20 19,oT 21 20 (.offA 7 (tm 1)),oT 22 20 (.load 1 false (tm 21)),oT 23 20 (.bin .eql (tm 22) (Kc 0)),oo 24 (.pick (tm 20) (tm 23) kF),mv 5 24] [])) (.seq (.region [oo 6 (.mov (Kc 0))] []) (.seq (.region [oo 7 (.mov kF)] []) (.seq (.seq (.region [fa 25 0 1,ld 26 25] []) (.cut (.block 0 (.seq (.region [oo 28 (.bin .eql (tm 26) (Kc 1)),mv 27 28] []) (.cond (tm 27) (.region [fa 29 1 1,lA 30 5 29,oo 31 (.call 110 [tm 30]),mv 32 31,mT 33 5 32,oo 34 (.pick (tm 32) (tm 33) kF),mv 7 34] []) (.seq (.region [oo 36 (.bin .eql (tm 26) (Kc 2)),mv 35 36] []) (.cond (tm 35) (.region [mv 37 3,mv 38 37,mT 39 4 38,oo 40 (.pick (tm 38) (tm 39) kF),mv 41 40,oT 42 41 (.offA 7 (tm 1)),oT 43 41 (.load 1 false (tm 42)),oT 44 41 (.bin .geq (tm 43) (Kc 0)),oo 45 (.pick (tm 41) (tm 44) kF),mv 46 45,oT 47 46 (.offA 7 (tm 1)),oT 48 46 (.load 1 false (tm 47)),oT 49 46 (.bin .leq (tm 48) (Kc 65535)),oo 50 (.pick (tm 46) (tm 49) kF),mv 7 50] []) (.seq (.seq (.region [oo 52 (.bin .eql (tm 26) (Kc 3)),mv 51 52] []) (.cond (tm 51) .skip (.region [oo 53 (.bin .eql (tm 26) (Kc 4)),mv 51 53] []))) (.cond (tm 51) (.seq (.region [mv 54 4,mv 55 54,mT 56 5 55,oo 57 (.pick (tm 55) (tm 56) kF),mv 7 57] []) (.region [oo 6 (.mov (Kc 2))] [])) (.seq (.region [oo 59 (.bin .eql (tm 26) (Kc 5)),mv 58 59] []) (.cond (tm 58) (.seq (.region [mv 60 4,mv 61 60,mT 62 5 61,oo 63 (.pick (tm 61) (tm 62) kF),mv 7 63] []) (.region [oo 6 (.mov (Kc 1))] [])) .skip))))))))))) (.seq (.seq (.region [mv 64 7,oo 65 (.not (tm 64)),mv 66 65,oF 67 66 (.offA 8 (tm 1)),oF 68 66 (.load 1 false (tm 67)),oF 69 66 (.len (tm 68)),mF 70 6 66,oF 71 66 (.bin .neq (tm 69) (tm 70)),oo 72 (.pick (tm 66) kT (tm 71))] []) (.cond (tm 72) (.seq (.region [oo 2 (.mov kF)] []) .ret) .skip)) (.seq (.seq (.region [oo 8 (.mov (Kc 0))] []) (.block 1 (.loop (.seq (.seq (.region [mv 73 8,mv 74 6,oo 75 (.bin .lss (tm 73) (tm 74))] []) (.cond (tm 75) .skip (.exit 1))) (.seq (.block 2 (.seq (.region [fa 78 8 1,ld 79 78,mv 80 8,ix 81 9 79 80,lA 82 9 81,oo 83 (.call 85 [tm 82]),mv 9 83] []) (.seq (.region [mv 84 9,oo 85 (.not (tm 84))] []) (.cond (tm 85) (.seq (.region [oo 2 (.mov kF)] []) .ret) .skip)))) (.region [mv 76 8,oo 77 (.bin .add (tm 76) (Kc 1)),mv 8 77] [])))))) (.seq (.region [oo 2 (.mov kT)] []) .ret))))))))))
theorem l85:(Tryz.f85.body.bind (bD Tryz.prog 86 [6000003,4000000]))=some c85:=by kernel_rfl
def Kn:aY:=(.seq (.region [oo 1 (.box 5 (tm 0)),oo 2 (.mov (.const .nil))] []) (.seq (.region [lA 5 5 1,⟨some 6,.buildS 25 5 1 [Z0,S0,Z0,Z0,.nil] [(0,(tm 5))],none,[]⟩,mv 3 6] []) (.seq (.seq (.region [oo 4 (.mov (Kc 0))] []) (.block 0 (.loop (.seq (.seq (.region [mv 7 4,fa 8 4 1,ld 9 8,ln 10 9,oo 11 (.bin .lss (tm 7) (tm 10))] []) (.cond (tm 11) .skip (.exit 0))) (.seq (.block 1 (.region [mv 14 3,fa 15 4 1,ld 16 15,mv 17 4,ix 18 5 16 17,lA 19 5 18,oo 20 (.call 111 [tm 19]),oo 21 (.append 23 25 5 64 (tm 14) (tm 20)),mv 3 21] [])) (.region [mv 12 4,oo 13 (.bin .add (tm 12) (Kc 1)),mv 4 13] [])))))) (.seq (.region [mv 22 3,mv 2 22] []) .ret))))
theorem LG:(Tryz.f111.body.bind (bD Tryz.prog 23 []))=some Kn:=by kernel_rfl
def Kr:aY:=(.seq (.region [⟨some 0,.alloc [S0,Z0,Z0],none,[]⟩] []) (.seq (.region [⟨some 1,.build [S0,Z0,Z0] [(0,1,(.const (.str ⟨#[112,111,114,116]⟩))),(2,1,(Kc 16))],none,[]⟩,o0 (.store 3 (tm 0) (tm 1))] []) .ret))
theorem LK:(Tryz.f118.body.bind (bD Tryz.prog 2 []))=some Kr:=by kernel_rfl
def Ks:aY:=(.seq (.region [oo 4 (.mov (Kc 0))] []) (.seq (.seq (.region [mv 6 0,ln 7 6,oo 8 (.mov (Kc 0))] []) (.block 0 (.loop (.seq (.region [oo 9 (.bin .lss (tm 8) (tm 7))] []) (.seq (.cond (tm 9) .skip (.exit 0)) (.seq (.block 1 (.seq (.region [mv 10 8,mv 5 10] []) (.seq (.region [mv 11 1,mv 12 0,mv 13 5,ix 14 3 12 13,lA 15 3 14,oo 16 (.b8 (tm 11) [tm 15])] []) (.cond (tm 16) (.seq (.region [mv 17 5,mv 4 17] []) .ret) .skip)))) (.region [oo 18 (.bin .add (tm 8) (Kc 1)),mv 8 18] []))))))) (.seq (.region [oo 4 (.mov (.const (.int .i64 (-1))))] []) .ret)))
theorem LL:(Tryz.f119.body.bind (bD Tryz.prog 19 []))=some Ks:=by kernel_rfl
def Kt:aY:=(.seq (.region [oo 2 (.box 3 (tm 0)),oo 3 (.mov kF)] []) (.seq (.region [fa 4 0 2,ld 5 4,ld 6 1,oo 7 (.bin .eql (tm 5) (tm 6)),mv 3 7] []) .ret))
theorem LM:(Tryz.f120.body.bind (bD Tryz.prog 8 []))=some Kt:=by kernel_rfl
def c75:aY:=(.seq (.region [oo 1 (.box 3 (tm 0)),oo 2 (.mov (Kc 0))] []) (.seq (.region [fa 3 2 1,ld 4 3,oo 5 (.bin .shl (Kc 1) (tm 4)),oo 6 (.bin .sub (tm 5) (Kc 1)),mv 2 6] []) .ret))
theorem l75:(Tryz.f75.body.bind (bD Tryz.prog 7 []))=some c75:=by kernel_rfl
def Kz:aY:=(.seq (.region [oo 1 (.box 2 (tm 0)),oo 2 (.mov (Kc 0))] []) (.seq (.seq (.region [fa 3 0 1,ld 4 3,oo 5 (.bin .gtr (tm 4) (Kc 200)),mv 6 5,oF 7 6 (.offA 1 (tm 1)),oF 8 6 (.load 1 false (tm 7)),oF 9 6 (.bin .gtr (tm 8) (Kc 20)),oo 10 (.pick (tm 6) kT (tm 9))] []) (.cond (tm 10) (.seq (.region [oo 2 (.mov (Kc 2))] []) .ret) .skip)) (.seq (.region [oo 2 (.mov (Kc 0))] []) .ret)))
theorem LS:(Tryz.f128.body.bind (bD Tryz.prog 11 []))=some Kz:=by kernel_rfl
def c94:aY:=(.seq (.region [oo 2 (.box 2 (tm 0)),oo 3 (.box 2 (tm 1)),oo 4 (.alloc [Z0,Z0])] []) (.seq (.region [fa 5 0 2,ld 6 5,fa 7 0 3,ld 8 7,oo 9 (.bin .add (tm 6) (tm 8)),fa 10 1 2,ld 11 10,fa 12 1 3,ld 13 12,oo 14 (.bin .add (tm 13) (Kc 1)),oo 15 (.maxI (tm 11) (tm 14)),oo 16 (.build [Z0,Z0] [(0,1,(tm 9)),(1,1,(tm 15))]),o0 (.store 2 (tm 4) (tm 16))] []) .ret))
theorem l94:(Tryz.f94.body.bind (bD Tryz.prog 17 []))=some c94:=by kernel_rfl
def c67:aY:=(.seq (.region [oo 1 (.box 5 (tm 0)),oo 2 (.alloc [Z0,Z0])] []) (.seq (.region [oo 5 (.build [Z0,Z0] [(0,1,(Kc 1)),(1,1,(Kc 1))]),oo 3 (.alloc [Z0,Z0]),o0 (.store 2 (tm 3) (tm 5))] []) (.seq (.seq (.region [oo 4 (.mov (Kc 0))] []) (.block 0 (.loop (.seq (.seq (.region [mv 6 4,fa 7 4 1,ld 8 7,ln 9 8,oo 10 (.bin .lss (tm 6) (tm 9))] []) (.cond (tm 10) .skip (.exit 0))) (.seq (.block 1 (.region [lA 13 2 3,fa 14 4 1,ld 15 14,mv 16 4,ix 17 5 15 16,lA 18 5 17,oo 19 (.call 67 [tm 18]),oo 20 (.call 94 [(tm 13),(tm 19)]),o0 (.store 2 (tm 3) (tm 20))] [])) (.region [mv 11 4,oo 12 (.bin .add (tm 11) (Kc 1)),mv 4 12] [])))))) (.seq (.region [lA 21 2 3,o0 (.store 2 (tm 2) (tm 21))] []) .ret))))
theorem l67:(Tryz.f67.body.bind (bD Tryz.prog 22 []))=some c67:=by kernel_rfl
def KA:aY:=(.seq (.region [oo 2 (.mov kF)] []) (.seq (.region [mv 4 0,oo 5 (.call 155 [tm 4]),mv 3 5] []) (.seq (.region [mv 6 3,mv 7 6,mF 8 0 7,⟨some 9,.bin .eql (tm 8) (.const (.str ⟨#[112,111,114,116]⟩)),some (7,false),[]⟩,oo 10 (.pick (tm 7) kT (tm 9)),mv 2 10] []) .ret)))
theorem LU:(Tryz.f129.body.bind (bD Tryz.prog 11 []))=some KA:=by kernel_rfl
def c51:aY:=(.seq (.region [oo 2 (.box 5 (tm 0)),oo 3 (.box 5 (tm 1)),oo 4 (.mov kF)] []) (.seq (.seq (.region [fa 7 0 2,ld 8 7,fa 9 0 3,ld 10 9,oo 11 (.bin .neq (tm 8) (tm 10)),mv 12 11,oF 13 12 (.offA 1 (tm 2)),oF 14 12 (.load 1 false (tm 13)),oF 15 12 (.offA 1 (tm 3)),oF 16 12 (.load 1 false (tm 15)),oF 17 12 (.bin .neq (tm 14) (tm 16)),oo 18 (.pick (tm 12) kT (tm 17)),mv 19 18,oF 20 19 (.offA 2 (tm 2)),oF 21 19 (.load 1 false (tm 20)),oF 22 19 (.offA 2 (tm 3)),oF 23 19 (.load 1 false (tm 22)),oF 24 19 (.bin .neq (tm 21) (tm 23)),oo 25 (.pick (tm 19) kT (tm 24)),mv 26 25,oF 27 26 (.offA 3 (tm 2)),oF 28 26 (.load 1 false (tm 27)),oF 29 26 (.offA 3 (tm 3)),oF 30 26 (.load 1 false (tm 29)),oF 31 26 (.bin .neq (tm 28) (tm 30)),oo 32 (.pick (tm 26) kT (tm 31)),mv 33 32,oF 34 33 (.offA 4 (tm 2)),oF 35 33 (.load 1 false (tm 34)),oF 36 33 (.len (tm 35)),oF 37 33 (.offA 4 (tm 3)),oF 38 33 (.load 1 false (tm 37)),oF 39 33 (.len (tm 38)),oF 40 33 (.bin .neq (tm 36) (tm 39)),oo 41 (.pick (tm 33) kT (tm 40))] []) (.cond (tm 41) (.seq (.region [oo 4 (.mov kF)] []) .ret) .skip)) (.seq (.seq (.region [oo 5 (.mov (Kc 0))] []) (.block 0 (.loop (.seq (.seq (.region [mv 42 5,fa 43 4 2,ld 44 43,ln 45 44,oo 46 (.bin .lss (tm 42) (tm 45))] []) (.cond (tm 46) .skip (.exit 0))) (.seq (.block 1 (.seq (.region [fa 49 4 2,ld 50 49,mv 51 5,ix 52 5 50 51,lA 53 5 52,fa 54 4 3,ld 55 54,mv 56 5,ix 57 5 55 56,lA 58 5 57,oo 59 (.call 51 [(tm 53),(tm 58)]),mv 6 59] []) (.seq (.region [mv 60 6,oo 61 (.not (tm 60))] []) (.cond (tm 61) (.seq (.region [oo 4 (.mov kF)] []) .ret) .skip)))) (.region [mv 47 5,oo 48 (.bin .add (tm 47) (Kc 1)),mv 5 48] [])))))) (.seq (.region [oo 4 (.mov kT)] []) .ret))))
theorem l51:(Tryz.f51.body.bind (bD Tryz.prog 62 []))=some c51:=by kernel_rfl
def Km:aY:=(.seq (.region [oo 1 (.box 5 (tm 0)),oo 2 (.mov kF)] []) (.seq (.region [fa 10 1 1,ld 11 10,oo 12 (.call 129 [tm 11]),mv 3 12] []) (.seq (.cut (.region [fa 13 2 1,ld 14 13,oo 15 (.bin .geq (tm 14) (Kc 0)),mv 16 15,oT 17 16 (.offA 2 (tm 1)),oT 18 16 (.load 1 false (tm 17)),oT 19 16 (.bin .leq (tm 18) (Kc 65535)),oo 20 (.pick (tm 16) (tm 19) kF),mv 4 20] [])) (.seq (.cut (.region [fa 21 1 1,ld 22 21,⟨some 23,.bin .eql (tm 22) (.const S0),none,[]⟩,mv 24 23,oT 25 24 (.offA 2 (tm 1)),oT 26 24 (.load 1 false (tm 25)),oT 27 24 (.bin .eql (tm 26) (Kc 0)),oo 28 (.pick (tm 24) (tm 27) kF),mv 29 28,oT 30 29 (.offA 3 (tm 1)),oT 31 29 (.load 1 false (tm 30)),oT 32 29 (.bin .eql (tm 31) (Kc 0)),oo 33 (.pick (tm 29) (tm 32) kF),mv 5 33] [])) (.seq (.region [oo 6 (.mov (Kc 0))] []) (.seq (.region [oo 7 (.mov kF)] []) (.seq (.seq (.region [fa 34 0 1,ld 35 34] []) (.cut (.block 0 (.seq (.seq (.region [oo 37 (.bin .eql (tm 35) (Kc 1)),mv 36 37] []) (.cond (tm 36) .skip (.region [oo 38 (.bin .eql (tm 35) (Kc 2)),mv 36 38] []))) (.cond (tm 36) (.region [mv 39 5,mv 7 39] []) (.seq (.region [oo 41 (.bin .eql (tm 35) (Kc 3)),mv 40 41] []) (.cond (tm 40) (.region [mv 42 3,mv 43 42,mT 44 4 43,oo 45 (.pick (tm 43) (tm 44) kF),mv 46 45,oT 47 46 (.offA 3 (tm 1)),oT 48 46 (.load 1 false (tm 47)),oT 49 46 (.bin .eql (tm 48) (Kc 0)),oo 50 (.pick (tm 46) (tm 49) kF),mv 7 50] []) (.seq (.region [oo 52 (.bin .eql (tm 35) (Kc 4)),mv 51 52] []) (.cond (tm 51) (.region [mv 53 3,mv 54 53,mT 55 4 54,oo 56 (.pick (tm 54) (tm 55) kF),mv 57 56,oT 58 57 (.offA 3 (tm 1)),oT 59 57 (.load 1 false (tm 58)),oT 60 57 (.bin .geq (tm 59) (Kc 0)),oo 61 (.pick (tm 57) (tm 60) kF),mv 62 61,oT 63 62 (.offA 3 (tm 1)),oT 64 62 (.load 1 false (tm 63)),oT 65 62 (.bin .leq (tm 64) (Kc 16)),oo 66 (.pick (tm 62) (tm 65) kF),mv 7 66] []) (.seq (.region [oo 68 (.bin .eql (tm 35) (Kc 5)),mv 67 68] []) (.cond (tm 67) (.region [mv 69 3,mv 70 69,oT 71 70 (.offA 2 (tm 1)),oT 72 70 (.load 1 false (tm 71)),oT 73 70 (.bin .geq (tm 72) (Kc 0)),oo 74 (.pick (tm 70) (tm 73) kF),mv 75 74,oT 76 75 (.offA 2 (tm 1)),oT 77 75 (.load 1 false (tm 76)),oT 78 75 (.offA 3 (tm 1)),oT 79 75 (.load 1 false (tm 78)),oT 80 75 (.bin .leq (tm 77) (tm 79)),oo 81 (.pick (tm 75) (tm 80) kF),mv 82 81,oT 83 82 (.offA 3 (tm 1)),oT 84 82 (.load 1 false (tm 83)),oT 85 82 (.bin .leq (tm 84) (Kc 65535)),oo 86 (.pick (tm 82) (tm 85) kF),mv 7 86] []) (.seq (.region [oo 88 (.bin .eql (tm 35) (Kc 6)),mv 87 88] []) (.cond (tm 87) (.seq (.region [mv 89 5,mv 7 89] []) (.region [oo 6 (.mov (Kc 1))] [])) (.seq (.seq (.region [oo 91 (.bin .eql (tm 35) (Kc 7)),mv 90 91] []) (.cond (tm 90) .skip (.region [oo 92 (.bin .eql (tm 35) (Kc 8)),mv 90 92] []))) (.cond (tm 90) (.seq (.region [mv 93 5,mv 7 93] []) (.region [oo 6 (.mov (Kc 2))] [])) (.seq (.region [oo 95 (.bin .eql (tm 35) (Kc 9)),mv 94 95] []) (.cond (tm 94) (.region [fa 96 1 1,ld 97 96,⟨some 98,.bin .eql (tm 97) (.const S0),none,[]⟩,mv 99 98,oT 100 99 (.offA 2 (tm 1)),oT 101 99 (.load 1 false (tm 100)),oT 102 99 (.bin .geq (tm 101) (Kc 0)),oo 103 (.pick (tm 99) (tm 102) kF),mv 104 103,oT 105 104 (.offA 2 (tm 1)),oT 106 104 (.load 1 false (tm 105)),oT 107 104 (.offA 3 (tm 1)),oT 108 104 (.load 1 false (tm 107)),oT 109 104 (.bin .lss (tm 106) (tm 108)),oo 110 (.pick (tm 104) (tm 109) kF),mv 111 110,oT 112 111 (.offA 3 (tm 1)),oT 113 111 (.load 1 false (tm 112)),oT 114 111 (.bin .leq (tm 113) (Kc 1073741824)),oo 115 (.pick (tm 111) (tm 114) kF),mv 7 115] []) .skip))))))))))))))))) (.seq (.seq (.region [mv 116 7,oo 117 (.not (tm 116)),mv 118 117,oF 119 118 (.offA 4 (tm 1)),oF 120 118 (.load 1 false (tm 119)),oF 121 118 (.len (tm 120)),mF 122 6 118,oF 123 118 (.bin .neq (tm 121) (tm 122)),oo 124 (.pick (tm 118) kT (tm 123))] []) (.cond (tm 124) (.seq (.region [oo 2 (.mov kF)] []) .ret) .skip)) (.seq (.seq (.region [oo 8 (.mov (Kc 0))] []) (.block 1 (.loop (.seq (.seq (.region [mv 125 8,mv 126 6,oo 127 (.bin .lss (tm 125) (tm 126))] []) (.cond (tm 127) .skip (.exit 1))) (.seq (.block 2 (.seq (.region [fa 130 4 1,ld 131 130,mv 132 8,ix 133 5 131 132,lA 134 5 133,oo 135 (.call 110 [tm 134]),mv 9 135] []) (.seq (.region [mv 136 9,oo 137 (.not (tm 136))] []) (.cond (tm 137) (.seq (.region [oo 2 (.mov kF)] []) .ret) .skip)))) (.region [mv 128 8,oo 129 (.bin .add (tm 128) (Kc 1)),mv 8 129] [])))))) (.seq (.region [oo 2 (.mov kT)] []) .ret))))))))))
theorem LF:(Tryz.f110.body.bind (bD Tryz.prog 138 [6000002,6000003,4000000]))=some Km:=by kernel_rfl
def KS:aY:=(.seq (.region [oo 2 (.mov kF)] []) (.seq (.region [mv 3 0,oo 4 (.call 169 [tm 3]),mv 2 4] []) .ret))
theorem Mi:(Tryz.f155.body.bind (bD Tryz.prog 5 []))=some KS:=by kernel_rfl
def K2:aY:=(.seq (.region [oo 2 (.mov kF)] []) (.seq (.seq (.region [mv 5 0,oo 6 (.lenS (tm 5)),oo 7 (.bin .eql (tm 6) (Kc 0)),mv 8 7,mF 9 0 8,oF 10 8 (.lenS (tm 9)),oF 11 8 (.bin .gtr (tm 10) (Kc 24)),oo 12 (.pick (tm 8) kT (tm 11))] []) (.cond (tm 12) (.seq (.region [oo 2 (.mov kF)] []) .ret) .skip)) (.seq (.region [mv 13 0,oo 14 (.idxS (tm 13) (Kc 0)),oo 15 (.call 197 [tm 14]),mv 3 15] []) (.seq (.region [mv 16 0,oo 17 (.call 198 [tm 16]),mv 4 17] []) (.seq (.region [mv 18 3,mv 19 18,mT 20 0 19,oT 21 19 (.call 199 [tm 20]),mT 22 0 19,oT 23 19 (.lenS (tm 22)),oT 24 19 (.bin .eql (tm 21) (tm 23)),oo 25 (.pick (tm 19) (tm 24) kF),mv 26 25,mT 27 4 26,oT 28 26 (.not (tm 27)),oo 29 (.pick (tm 26) (tm 28) kF),mv 2 29] []) .ret)))))
theorem Mr:(Tryz.f169.body.bind (bD Tryz.prog 30 []))=some K2:=by kernel_rfl
def Lb:aY:=(.seq (.region [oo 2 (.mov kF)] []) (.seq (.region [mv 3 0,oo 4 (.bin .geq (tm 3) (.const (Ui 97))),mv 5 4,mT 6 0 5,oT 7 5 (.bin .leq (tm 6) (.const (Ui 122))),oo 8 (.pick (tm 5) (tm 7) kF),mv 2 8] []) .ret))
theorem MA:(Tryz.f197.body.bind (bD Tryz.prog 9 []))=some Lb:=by kernel_rfl
def Lc:aY:=(.seq (.region [oo 2 (.mov kF)] []) (.seq (.region [oo 5 (.call 213 []),mv 3 5] []) (.seq (.seq (.region [oo 4 (.mov (Kc 0))] []) (.block 0 (.loop (.seq (.seq (.region [mv 6 4,mv 7 3,ln 8 7,oo 9 (.bin .lss (tm 6) (tm 8))] []) (.cond (tm 9) .skip (.exit 0))) (.seq (.block 1 (.seq (.region [mv 12 3,mv 13 4,ix 14 1 12 13,ld 15 14,mv 16 0,oo 17 (.bin .eql (tm 15) (tm 16))] []) (.cond (tm 17) (.seq (.region [oo 2 (.mov kT)] []) .ret) .skip))) (.region [mv 10 4,oo 11 (.bin .add (tm 10) (Kc 1)),mv 4 11] [])))))) (.seq (.region [oo 2 (.mov kF)] []) .ret))))
theorem MB:(Tryz.f198.body.bind (bD Tryz.prog 18 []))=some Lc:=by kernel_rfl
def Ld:aY:=(.seq (.region [oo 2 (.mov (Kc 0))] []) (.seq (.region [oo 3 (.mov (Kc 0))] []) (.seq (.block 0 (.loop (.seq (.seq (.region [mv 5 3,mv 6 0,oo 7 (.lenS (tm 6)),oo 8 (.bin .lss (tm 5) (tm 7))] []) (.cond (tm 8) .skip (.exit 0))) (.block 1 (.seq (.region [mv 9 0,mv 10 3,oo 11 (.idxS (tm 9) (tm 10)),oo 12 (.call 214 [tm 11]),mv 4 12] []) (.seq (.seq (.region [mv 13 4,oo 14 (.not (tm 13))] []) (.cond (tm 14) (.exit 0) .skip)) (.region [mv 15 3,oo 16 (.bin .add (tm 15) (Kc 1)),mv 3 16] []))))))) (.seq (.region [mv 17 3,mv 2 17] []) .ret))))
theorem MD:(Tryz.f199.body.bind (bD Tryz.prog 18 []))=some Ld:=by kernel_rfl
def Li:aY:=(.seq (.region [oo 0 (.mov (.const .nil))] []) (.seq (.region [⟨some 1,.buildS 9 1 49 [S0] [(0,(.const (.str ⟨#[97,110,100]⟩))),(1,(.const (.str ⟨#[97,110,121]⟩))),(2,(.const (.str ⟨#[97,116]⟩))),(3,(.const (.str ⟨#[98,97,99,107]⟩))),(4,(.const (.str ⟨#[98,111,120]⟩))),(5,(.const (.str ⟨#[98,117,114,115,116]⟩))),(6,(.const (.str ⟨#[98,121]⟩))),(7,(.const (.str ⟨#[99,97,112,97,99,105,116,121]⟩))),(8,(.const (.str ⟨#[99,101,105,108,105,110,103]⟩))),(9,(.const (.str ⟨#[99,104,101,99,107]⟩))),(10,(.const (.str ⟨#[99,111,110,116,114,97,99,116]⟩))),(11,(.const (.str ⟨#[99,111,117,110,116]⟩))),(12,(.const (.str ⟨#[100,101,109,97,110,100]⟩))),(13,(.const (.str ⟨#[100,114,111,112]⟩))),(14,(.const (.str ⟨#[101,97,99,104]⟩))),(15,(.const (.str ⟨#[101,100,103,101]⟩))),(16,(.const (.str ⟨#[101,110,116,114,105,101,115]⟩))),(17,(.const (.str ⟨#[102,97,108,115,101]⟩))),(18,(.const (.str ⟨#[102,105,101,108,100]⟩))),(19,(.const (.str ⟨#[102,108,111,111,114]⟩))),(20,(.const (.str ⟨#[102,114,111,109]⟩))),(21,(.const (.str ⟨#[105,100]⟩))),(22,(.const (.str ⟨#[105,110]⟩))),(23,(.const (.str ⟨#[105,110,110,101,114]⟩))),(24,(.const (.str ⟨#[105,110,116,111]⟩))),(25,(.const (.str ⟨#[108,105,110,107]⟩))),(26,(.const (.str ⟨#[110,101,116,119,111,114,107]⟩))),(27,(.const (.str ⟨#[110,111,100,101]⟩))),(28,(.const (.str ⟨#[110,111,116]⟩))),(29,(.const (.str ⟨#[111,112,101,110]⟩))),(30,(.const (.str ⟨#[111,114]⟩))),(31,(.const (.str ⟨#[112,97,116,104]⟩))),(32,(.const (.str ⟨#[112,111,114,116]⟩))),(33,(.const (.str ⟨#[112,114,105,99,101]⟩))),(34,(.const (.str ⟨#[114,111,117,116,101]⟩))),(35,(.const (.str ⟨#[114,117,108,101,115]⟩))),(36,(.const (.str ⟨#[115,116,97,103,101]⟩))),(37,(.const (.str ⟨#[116,97,107,101]⟩))),(38,(.const (.str ⟨#[116,101,110,97,110,116]⟩))),(39,(.const (.str ⟨#[116,104,101,110]⟩))),(40,(.const (.str ⟨#[116,105,109,101]⟩))),(41,(.const (.str ⟨#[116,111]⟩))),(42,(.const (.str ⟨#[116,111,107,101,110]⟩))),(43,(.const (.str ⟨#[116,114,97,110,115,108,97,116,101]⟩))),(44,(.const (.str ⟨#[116,114,117,101]⟩))),(45,(.const (.str ⟨#[118,105,97]⟩))),(46,(.const (.str ⟨#[119,105,100,116,104]⟩))),(47,(.const (.str ⟨#[119,105,114,101]⟩))),(48,(.const (.str ⟨#[119,105,116,104,105,110]⟩)))],none,[]⟩,mv 0 1] []) .ret))
theorem MI:(Tryz.f213.body.bind (bD Tryz.prog 2 []))=some Li:=by kernel_rfl
def Lj:aY:=(.seq (.region [oo 2 (.mov kF)] []) (.seq (.region [mv 5 0,oo 6 (.call 197 [tm 5]),mv 3 6] []) (.seq (.region [mv 7 0,oo 8 (.call 217 [tm 7]),mv 4 8] []) (.seq (.region [mv 9 3,mv 10 9,mF 11 4 10,oo 12 (.pick (tm 10) kT (tm 11)),mv 13 12,mF 14 0 13,oF 15 13 (.bin .eql (tm 14) (.const (Ui 95))),oo 16 (.pick (tm 13) kT (tm 15)),mv 2 16] []) .ret))))
theorem MJ:(Tryz.f214.body.bind (bD Tryz.prog 17 []))=some Lj:=by kernel_rfl
def Lk:aY:=(.seq (.region [oo 2 (.mov kF)] []) (.seq (.region [mv 3 0,oo 4 (.bin .geq (tm 3) (.const (Ui 48))),mv 5 4,mT 6 0 5,oT 7 5 (.bin .leq (tm 6) (.const (Ui 57))),oo 8 (.pick (tm 5) (tm 7) kF),mv 2 8] []) .ret))
theorem MK:(Tryz.f217.body.bind (bD Tryz.prog 9 []))=some Lk:=by kernel_rfl
end Go.MM
end
section
namespace Go.MM
open Go Go.DL
def wordsG:List ByteArray:=[⟨#[97,110,100]⟩,⟨#[97,110,121]⟩,⟨#[97,116]⟩,⟨#[98,97,99,107]⟩,⟨#[98,111,120]⟩,⟨#[98,117,114,115,116]⟩,⟨#[98,121]⟩,⟨#[99,97,112,97,99,105,116,121]⟩,⟨#[99,101,105,108,105,110,103]⟩,⟨#[99,104,101,99,107]⟩,⟨#[99,111,110,116,114,97,99,116]⟩,⟨#[99,111,117,110,116]⟩,⟨#[100,101,109,97,110,100]⟩,⟨#[100,114,111,112]⟩,⟨#[101,97,99,104]⟩,⟨#[101,100,103,101]⟩,⟨#[101,110,116,114,105,101,115]⟩,⟨#[102,97,108,115,101]⟩,⟨#[102,105,101,108,100]⟩,⟨#[102,108,111,111,114]⟩,⟨#[102,114,111,109]⟩,⟨#[105,100]⟩,⟨#[105,110]⟩,⟨#[105,110,110,101,114]⟩,⟨#[105,110,116,111]⟩,⟨#[108,105,110,107]⟩,⟨#[110,101,116,119,111,114,107]⟩,⟨#[110,111,100,101]⟩,⟨#[110,111,116]⟩,⟨#[111,112,101,110]⟩,⟨#[111,114]⟩,⟨#[112,97,116,104]⟩,⟨#[112,111,114,116]⟩,⟨#[112,114,105,99,101]⟩,⟨#[114,111,117,116,101]⟩,⟨#[114,117,108,101,115]⟩,⟨#[115,116,97,103,101]⟩,⟨#[116,97,107,101]⟩,⟨#[116,101,110,97,110,116]⟩,⟨#[116,104,101,110]⟩,⟨#[116,105,109,101]⟩,⟨#[116,111]⟩,⟨#[116,111,107,101,110]⟩,⟨#[116,114,97,110,115,108,97,116,101]⟩,⟨#[116,114,117,101]⟩,⟨#[118,105,97]⟩,⟨#[119,105,100,116,104]⟩,⟨#[119,105,114,101]⟩,⟨#[119,105,116,104,105,110]⟩]
instance : Glb := ⟨fun g => match g with | 0 => some (wordsG.map .str) | _ => none⟩
end Go.MM
end
section
namespace Go.MM
open Go Go.DL Go.Proofs
theorem mixed:Tryz.prog.follows .mixedOrders=true:=by kernel_rfl
abbrev I (n:Int):T:=.int .i64 n
end Go.MM
end
section
namespace Go.MM
open Go Go.DL Go.Proofs
end Go.MM
end
section
namespace Go.MM
open Go Go.DL Go.Proofs
end Go.MM
end
section
namespace Go.MM
open Go Go.DL Go.Proofs
theorem Kb {n:Nat} (h:n<2^63):IntKind.wrap .i64 (n:Int)=n:=mG (by omega) (by omega)
end Go.MM
end
section
namespace Go.MM
open Go Go.DL Go.Proofs
structure Fd where
 name:ByteArray
 a:Nat
 w:Nat
deriving Inhabited
def fd (f:Fd):T:=.agg [.str f.name,I f.a,I f.w]
structure FOk (f:Fd):Prop where
 a:f.a<160
 w1:1≤f.w
 w2:f.a % 16+f.w≤16
theorem Ju {w:Nat} (h:w≤16):2^w≤65536:=Nat.pow_le_pow_right (by decide) h
theorem t97 (f:Fd) (h:FOk f):DCalls Tryz.prog 75 [fd f] (I (2^f.w - 1:Nat)):=by
 refine qO (rs:=[.tmp 2]) mixed Tryz.func75 l75 rfl rfl rfl (r:=[I (2^f.w - 1:Nat)]) (nlZ rfl) ?_
 have hw:f.w≤16:=by have:=h.w2;omega
 have hp:=Nat.two_pow_pos f.w
 have:=Ju hw
 refine And.intro rfl ?_
 refine sr (I f.w) (by decide) rfl ?_
 refine And.intro (by omega) ?_
 refine ⟨congrArg (fun n=>some (I n)) ?_,trivial⟩
 have e:(1:Int) * 2^(min (f.w:Int).toNat (IntKind.bits .i64))=((2^f.w:Nat):Int):=by
  have:min (f.w:Int).toNat (IntKind.bits .i64)=f.w:=by show min _ 64=_;simp;omega
  rw [this];push_cast;rw [Int.one_mul]
 rw [e,Kb (by omega),mG] <;> omega
end Go.MM
end
section
namespace Go.MM
open Go Go.DL Go.Proofs
end Go.MM
end
section
namespace Go.MM
open Go Go.DL Go.Proofs
def tw:ByteArray:=⟨#[112,111,114,116]⟩
def Ac:Fd:=⟨tw,0,16⟩
def C6:Fd:=⟨⟨#[]⟩,0,0⟩
def sC (a b:ByteArray):Bool:=a.data.toList==b.data.toList
theorem sO (a b:ByteArray):(a.toList==b.toList)=sC a b:=by unfold sC;rw [ByteArray.toList_eq,ByteArray.toList_eq]
def fds (l:List Fd):T:=.slice 3 (l.map fd)
def findF (l:List Fd) (s:ByteArray):Option Fd:=if sC s tw then some Ac else l.find? fun f=>sC f.name s
def xy (l:List Fd) (s:ByteArray):T:=match findF l s with
 |some f=>.tup [fd f,.bool true]
 |none=>.tup [fd C6,.bool false]
theorem t94:DCalls Tryz.prog 118 [] (fd Ac):=by
 refine qO (rs:=[.cell 0 88]) mixed Tryz.func118 LK rfl rfl rfl (r:=[fd Ac]) (nlZ rfl) ?_
 refine And.intro trivial ?_
 refine And.intro ⟨rfl,by decide⟩ ?_
 exact ⟨rfl,trivial⟩
theorem t96 (f:Fd) (s:ByteArray):DCalls Tryz.prog 120 [fd f,.cptr [.str s] 0] (.bool (sC f.name s)):=by
 refine qO (rs:=[.tmp 3]) mixed Tryz.func120 LM rfl rfl rfl (r:=[.bool (sC f.name s)]) (nlZ rfl) ?_
 refine And.intro rfl ?_
 refine sr (.str f.name) (by decide) rfl ?_
 refine sr (.str s) (Nat.lt_succ_self 0) rfl ?_
 refine rW (sC f.name s) trivial (sO _ _) ?_
 exact ⟨rfl,trivial⟩
def wW (l:List Fd) (s:ByteArray):Int:=match l.findIdx? fun f=>sC f.name s with
 |some i=>i
 |none=> -1
theorem t95 (l:List Fd) (s:ByteArray) (hl:l.length<2^60):DCalls Tryz.prog 119 [fds l,.clos 120 [.cptr [.str s] 0]] (I (wW l s)):=by
 refine qO (rs:=[.tmp 4]) mixed Tryz.func119 LL rfl rfl rfl (r:=[I (wW l s)]) (nlZ rfl) ?_
 refine rq (α:=Nat) (fun i=>{sl:=[(0,.t (fds l)),(1,.t (.clos 120 [.cptr [.str s] 0])),(7,.t (I l.length)),(8,.t (I i))],bx:=[]}) (fun i=>i≤l.length∧ ∀j (h:j<l.length),j<i→sC l[j].name s=false) (fun i=>l.length - i) 0 (by simp) ?_ ?_
 ·exact ⟨⟨.same _,.same _,leI (by simp),.same _,trivial⟩,trivial,trivial,rfl,fun _ _ _=>trivial,rfl⟩
 rintro i ⟨hi,hp⟩
 refine rV trivial (fun hq=>?_) (fun hq=>?_)
 ·have h1:i<l.length:=by simpa using hq
  refine sr (fd l[i]) (by simpa using h1) (by simp [h1]) ?_
  refine sr (fd l[i]) rfl rfl ?_
  refine rE _ (t96 l[i] s) ?_
  cases hm:sC l[i].name s with
  |true=>
   have:wW l s=i:=by
    unfold wW
    rw [List.findIdx?_eq_some_iff_getElem.2 ⟨h1,hm,fun j hj=>by simp [hp j (by omega) hj]⟩]
   exact ⟨congrArg (fun n=>some (I n)) this.symm,trivial⟩
  |false=>
   refine ⟨i+1,⟨h1,fun j hj hlt=>?_⟩,by omega,?_⟩
   ·rcases Nat.lt_or_ge j i with h4|h4
    ·exact hp j hj h4
    ·obtain rfl:j=i:=by omega
     exact hm
   ·exact ⟨⟨.same _,.same _,.same _,leI (by rw [mG] <;> omega),trivial⟩,trivial,trivial,rfl,fun _ _ _=>trivial,rfl⟩
 ·have hge:l.length≤i:=by simpa using hq
  have:wW l s= -1:=by
   unfold wW
   rw [List.findIdx?_eq_none_iff.2 fun f hf=>by
    obtain ⟨j,hj,rfl⟩:=List.mem_iff_getElem.1 hf
    exact hp j hj (by omega)]
  exact ⟨congrArg (fun n=>some (I n)) this.symm,trivial⟩
theorem EA (l:List Fd) (s:ByteArray):(wW l s= -1∧l.find? (fun f=>sC f.name s)=none)∨ ∃(i:Nat) (h:i<l.length),wW l s=i∧l.find? (fun f=>sC f.name s)=some l[i]:=by
 unfold wW
 cases hf:l.findIdx? fun f=>sC f.name s with
 |none=>exact .inl ⟨rfl,by rw [List.find?_eq_none];intro f hm;simpa using List.findIdx?_eq_none_iff.1 hf f hm⟩
 |some i=>
  obtain ⟨h1,h2,h3⟩:=List.findIdx?_eq_some_iff_getElem.1 hf
  refine .inr ⟨i,h1,rfl,?_⟩
  rw [List.find?_eq_some_iff_getElem]
  exact ⟨h2,i,h1,rfl,fun j hj=>by simpa using h3 j hj⟩
theorem t74 (l:List Fd) (s:ByteArray) (hl:l.length<2^60):DCalls Tryz.prog 74 [fds l,.str s] (xy l s):=by
 unfold xy findF
 have go: ∀(f:Fd) (b:Bool),wpC Tryz.prog c74 (eU [fds l,.str s]) (nW (dF Tryz.prog) [.cell 4 88,.tmp 5] [fd f,.bool b])→DCalls Tryz.prog 74 [fds l,.str s] (.tup [fd f,.bool b]):=fun f b h=>
  qO (rs:=[.cell 4 88,.tmp 5]) mixed Tryz.func74 l74 rfl rfl rfl (r:=[fd f,.bool b]) (nlZ rfl) h
 by_cases hp:sC s tw=true
 ·rw [if_pos hp]
  refine go _ _ ?_
  refine And.intro trivial ?_
  refine sr (.str s) (by decide) rfl ?_
  refine rE _ t94 ?_
  refine sr (.str tw) (by decide) rfl ?_
  refine rW true trivial ((sO _ _).trans hp) ?_
  refine rE _ t94 ?_
  refine And.intro ⟨rfl,by decide⟩ ?_
  exact ⟨rfl,rfl,trivial⟩
 ·rw [if_neg hp]
  have hp:sC s tw=false:=by simpa using hp
  have pre: ∀(f:Fd) (b:Bool),(∃ i,wW l s=i∧(i= -1∧f=C6∧b=false∨ ∃(k:Nat) (h:k<l.length),i=k∧f=l[k]∧b=true))→wpC Tryz.prog c74 (eU [fds l,.str s]) (nW (dF Tryz.prog) [.cell 4 88,.tmp 5] [fd f,.bool b]):=fun f b ⟨i,hi,h⟩=>by
   refine And.intro trivial ?_
   refine sr (.str s) (by decide) rfl ?_
   refine rE _ t94 ?_
   refine sr (.str tw) (by decide) rfl ?_
   refine rW false trivial ((sO _ _).trans hp) ?_
   refine ⟨I i,hi▸t95 l s hl,rfl,?_⟩
   rcases h with ⟨rfl,rfl,rfl⟩|⟨k,hk,rfl,rfl,rfl⟩
   ·refine rW true trivial (by decide) ?_
    refine And.intro trivial ?_
    refine And.intro ⟨rfl,by decide⟩ ?_
    exact ⟨rfl,rfl,trivial⟩
   ·refine rW false trivial (by simp) ?_
    refine sr (fd l[k]) (by simpa using hk) (by simp [hk]) ?_
    refine sr (fd l[k]) rfl rfl ?_
    refine And.intro ⟨rfl,by decide⟩ ?_
    exact ⟨rfl,rfl,trivial⟩
  rcases EA l s with ⟨h1,h2⟩|⟨k,hk,h1,h2⟩
  ·rw [h2]
   exact go _ _ (pre _ _ ⟨-1,h1,.inl ⟨rfl,rfl,rfl⟩⟩)
  ·rw [h2]
   exact go _ _ (pre _ _ ⟨k,h1,.inr ⟨k,hk,rfl,rfl,rfl⟩⟩)
end Go.MM
end
section
namespace Go.MM
open Go Go.DL Go.Proofs
abbrev nm0:T:=.str ⟨#[]⟩
def fld (l:List Fd) (f:ByteArray):Fd:=(findF l f).getD C6
structure LOk (l:List Fd):Prop where
 len:l.length<2^60
 ok: ∀f∈l,FOk f
theorem G9:FOk Ac:=⟨by decide,by decide,by decide⟩
theorem LOk.find {l:List Fd} (h:LOk l) {s:ByteArray} {f:Fd} (hf:findF l s=some f):FOk f:=by
 unfold findF at hf
 split at hf
 ·cases hf;exact G9
 ·exact h.ok f (List.mem_of_find?_eq_some hf)
end Go.MM
end
section
namespace Go.MM
open Go Go.DL Go.Proofs
end Go.MM
end
section
namespace Go.MM
open Go Go.DL Go.Proofs
inductive RP where
 |mk (kind:Int) (field:ByteArray) (n m:Int) (args:List RP)
namespace RP
def kind:RP→Int|.mk k _ _ _ _=>k
def field:RP→ByteArray|.mk _ f _ _ _=>f
def n:RP→Int|.mk _ _ n _ _=>n
def m:RP→Int|.mk _ _ _ m _=>m
def args:RP→List RP|.mk _ _ _ _ a=>a
end RP
mutual
def sM:RP→T
 |.mk k f n m a=>.agg [I k,.str f,I n,I m,.slice 5 (B6 a)]
def B6:List RP→List T
 |[]=>[]
 |r::rs=>sM r::B6 rs
end
theorem Ah: ∀l:List RP,B6 l=l.map sM
 |[]=>rfl
 |r::rs=>congrArg (sM r:: ·) (Ah rs)
def sB:RP→List T
 |.mk k f n m a=>[I k,.str f,I n,I m,.slice 5 (a.map sM)]
theorem sG (r:RP):sM r= .agg (sB r):=by
 cases r;simp only [sM,sB,Ah]
theorem sJ (r:RP):(sB r).length=5:=by cases r;rfl
inductive RO where
 |mk (kind:Int) (pred:RP) (field:ByteArray) (n:Int) (args:List RO)
namespace RO
def kind:RO→Int|.mk k _ _ _ _=>k
def pred:RO→RP|.mk _ p _ _ _=>p
def field:RO→ByteArray|.mk _ _ f _ _=>f
def n:RO→Int|.mk _ _ _ n _=>n
def args:RO→List RO|.mk _ _ _ _ a=>a
end RO
mutual
def sP:RO→T
 |.mk k p f n a=>.agg (I k::(sB p++[.str f,I n,.slice 9 (B7 a)]))
def B7:List RO→List T
 |[]=>[]
 |r::rs=>sP r::B7 rs
end
theorem Ai: ∀l:List RO,B7 l=l.map sP
 |[]=>rfl
 |r::rs=>congrArg (sP r:: ·) (Ai rs)
def sA:RO→List T
 |.mk k p f n a=>I k::(sB p++[.str f,I n,.slice 9 (a.map sP)])
theorem sL (r:RO):sP r= .agg (sA r):=by
 cases r;simp only [sP,sA,Ai]
theorem sE (r:RO):(sA r).length=9:=by cases r;simp [sA,sJ]
mutual
def RP.nodes:RP→Nat
 |.mk _ _ _ _ a=>1+sN a
def sN:List RP→Nat
 |[]=>0
 |r::rs=>r.nodes+sN rs
end
mutual
def RP.depth:RP→Nat
 |.mk _ _ _ _ a=>1+tI a
def tI:List RP→Nat
 |[]=>0
 |r::rs=>max r.depth (tI rs)
end
mutual
theorem RP.vt: ∀r:RP,r.depth≤r.nodes
 |.mk _ _ _ _ a=>by have:=wg a;simp only [RP.depth,RP.nodes];omega
theorem wg: ∀l:List RP,tI l≤sN l
 |[]=>Nat.le_refl _
 |r::rs=>by have:=RP.vt r;have:=wg rs;simp only [tI,sN];omega
end
theorem tz: ∀{l:List RP} {j:Nat} (h:j<l.length),sN (l.take (j+1))=sN (l.take j)+l[j].nodes
 |r::rs,0,h=>by simp [sN]
 |r::rs,j+1,h=>by
  have:=tz (l:=rs) (j:=j) (by simpa using h)
  simp only [List.take_succ_cons,sN,List.getElem_cons_succ]
  omega
theorem wA: ∀{l:List RP} {j:Nat} (h:j<l.length),tI (l.take (j+1))=max (tI (l.take j)) l[j].depth
 |r::rs,0,h=>by simp [tI]
 |r::rs,j+1,h=>by
  have:=wA (l:=rs) (j:=j) (by simpa using h)
  simp only [List.take_succ_cons,tI,List.getElem_cons_succ]
  omega
theorem tx: ∀{l:List RP} {j:Nat},sN (l.take j)≤sN l
 |[],j=>by simp
 |r::rs,0=>by simp [sN]
 |r::rs,j+1=>by
  have:=tx (l:=rs) (j:=j)
  simp only [List.take_succ_cons,sN]
  omega
theorem RP.tV (r:RP):1≤r.nodes:=by cases r;simp only [RP.nodes];omega
theorem tP: ∀l:List RP,l.length≤sN l
 |[]=>Nat.le_refl _
 |r::rs=>by have:=tP rs;have:=r.tV;simp only [sN,List.length_cons];omega
def sz (n d:Nat):T:=.agg [I n,I d]
theorem t102 (a b c d:Nat) (h1:a+c<2^62) (_:b<2^62) (h3:d<2^62):DCalls Tryz.prog 94 [sz a b,sz c d] (sz (a+c) (max b (d+1))):=by
 refine qO (rs:=[.cell 4 51]) mixed Tryz.func94 l94 rfl rfl rfl (r:=[sz (a+c) (max b (d+1))]) (nlZ rfl) ?_
 repeat' ((conv=>whnf);first|refine nT_ ?_|refine aS ?_|fail)
 refine And.intro (congrArg some ?_) trivial
 simp (disch:=omega) only [mG,aN,List.take,List.drop,List.nil_append,List.cons_append]
 unfold sz I
 have e:(if (d:Int)+1>(b:Int) then (d:Int)+1 else (b:Int))=((max b (d+1):Nat):Int):=by split <;> omega
 rw [e,Int.natCast_add]
theorem t103 (N:Nat): ∀r:RP,r.nodes≤N→N<2^60→DCalls Tryz.prog 67 [.agg (sB r)] (sz r.nodes r.depth):=by
 induction N with
 |zero=>intro r h;have:=r.tV;omega
 |succ N ih=>
  rintro ⟨k,f,n,m,l⟩ hr hN
  refine qO (rs:=[.cell 2 51]) mixed Tryz.func67 l67 rfl rfl rfl (r:=[sz _ _]) (nlZ rfl) ?_
  simp only [RP.nodes,RP.depth] at hr ⊢
  repeat' ((conv=>whnf);first|refine aS ?_|fail)
  refine rq (α:=Nat) (fun i=>{sl:=[(1,.ptr 1 0),(2,.ptr 2 0),(3,.ptr 3 0),(4,.t (I i))],bx:=[(1,.d 5 (sB (.mk k f n m l))),(2,.d 2 [I 0,I 0]),(3,.d 2 [I (1+sN (l.take i):Nat),I (1+tI (l.take i):Nat)])]})
   (fun i=>i≤l.length) (fun i=>l.length - i) 0 (by omega) ?_ ?_
  ·repeat' (first|exact trivial|exact LeV.same _|exact LeB.same _|exact rfl|exact fun _ _ _=>trivial|refine And.intro ?_ ?_)
  rintro i hi
  rcases Nat.lt_or_ge i l.length with h|h
  ·have hn:=tz h
   have hd:=wA h
   have hm:=tx (l:=l) (j:=i+1)
   have hp:=l[i].tV
   have hl:=tP l
   have hdn:=l[i].vt
   have hd1:=wg (l.take i)
   repeat' ((conv=>whnf);first|(refine nv_ (.agg (sB l[i])) (by first|(simp [h,sG];done)|fail) ?_)|refine rE _ (ih l[i] (by omega) (by omega)) ?_|refine rE _ (t102 _ _ _ _ (by omega) (by omega) (by omega)) ?_|refine nT_ ?_|refine aD1 ?_|(refine And.intro (by first|exact sJ _|fail) ?_)|refine aS ?_|fail)
   refine ⟨i+1,by omega,by omega,?_⟩
   repeat' (first|exact trivial|exact LeV.same _|exact LeB.same _|exact rfl|exact fun _ _ _=>trivial|exact lI|refine su ?_|refine And.intro ?_ ?_)
   rw [hn,hd,show 1+(sN (l.take i)+l[i].nodes)=1+sN (l.take i)+l[i].nodes by omega,show 1+max (tI (l.take i)) l[i].depth=max (1+tI (l.take i)) (l[i].depth+1) by omega]
   rfl
  ·have:i=l.length:=by omega
   subst this
   rw [List.take_length]
   repeat' ((conv=>whnf);first|exact trivial|refine nT_ ?_|refine aD0 ?_|refine aS ?_|fail)
end Go.MM
end
section
namespace Go.MM
open Go Go.DL Go.Proofs
def wL:List ByteArray:=[⟨#[97,110,100]⟩,
 ⟨#[97,110,121]⟩,
 ⟨#[97,116]⟩,
 ⟨#[98,97,99,107]⟩,
 ⟨#[98,111,120]⟩,
 ⟨#[98,117,114,115,116]⟩,
 ⟨#[98,121]⟩,
 ⟨#[99,97,112,97,99,105,116,121]⟩,
 ⟨#[99,101,105,108,105,110,103]⟩,
 ⟨#[99,104,101,99,107]⟩,
 ⟨#[99,111,110,116,114,97,99,116]⟩,
 ⟨#[99,111,117,110,116]⟩,
 ⟨#[100,101,109,97,110,100]⟩,
 ⟨#[100,114,111,112]⟩,
 ⟨#[101,97,99,104]⟩,
 ⟨#[101,100,103,101]⟩,
 ⟨#[101,110,116,114,105,101,115]⟩,
 ⟨#[102,97,108,115,101]⟩,
 ⟨#[102,105,101,108,100]⟩,
 ⟨#[102,108,111,111,114]⟩,
 ⟨#[102,114,111,109]⟩,
 ⟨#[105,100]⟩,
 ⟨#[105,110]⟩,
 ⟨#[105,110,110,101,114]⟩,
 ⟨#[105,110,116,111]⟩,
 ⟨#[108,105,110,107]⟩,
 ⟨#[110,101,116,119,111,114,107]⟩,
 ⟨#[110,111,100,101]⟩,
 ⟨#[110,111,116]⟩,
 ⟨#[111,112,101,110]⟩,
 ⟨#[111,114]⟩,
 ⟨#[112,97,116,104]⟩,
 ⟨#[112,111,114,116]⟩,
 ⟨#[112,114,105,99,101]⟩,
 ⟨#[114,111,117,116,101]⟩,
 ⟨#[114,117,108,101,115]⟩,
 ⟨#[115,116,97,103,101]⟩,
 ⟨#[116,97,107,101]⟩,
 ⟨#[116,101,110,97,110,116]⟩,
 ⟨#[116,104,101,110]⟩,
 ⟨#[116,105,109,101]⟩,
 ⟨#[116,111]⟩,
 ⟨#[116,111,107,101,110]⟩,
 ⟨#[116,114,97,110,115,108,97,116,101]⟩,
 ⟨#[116,114,117,101]⟩,
 ⟨#[118,105,97]⟩,
 ⟨#[119,105,100,116,104]⟩,
 ⟨#[119,105,114,101]⟩,
 ⟨#[119,105,116,104,105,110]⟩]
def uA (c:Int):Bool:=decide (97≤c)&&decide (c≤122)
def wB (c:Int):Bool:=decide (48≤c)&&decide (c≤57)
def uT (c:Int):Bool:=uA c||wB c||c==95
def uq (s:ByteArray) (i:Nat):Int:=((s.toList[i]?.getD 0).toNat:Int)
abbrev U (n:Int):T:=.int .u8 n
theorem t110 (c:Int):DCalls Tryz.prog 197 [U c] (.bool (uA c)):=by
 refine qO (rs:=[.tmp 2]) mixed Tryz.func197 MA rfl rfl rfl (r:=[.bool _]) (nlZ rfl) ?_
 unfold uA
 repeat' ((conv=>whnf);first|exact trivial|refine nD_ (fun hq=>?_) (fun hq=>?_)|refine rb1 ?_|refine rb0 ?_|refine aS ?_|fail)
theorem t115 (c:Int):DCalls Tryz.prog 217 [U c] (.bool (wB c)):=by
 refine qO (rs:=[.tmp 2]) mixed Tryz.func217 MK rfl rfl rfl (r:=[.bool _]) (nlZ rfl) ?_
 unfold wB
 repeat' ((conv=>whnf);first|exact trivial|refine nD_ (fun hq=>?_) (fun hq=>?_)|refine rb1 ?_|refine rb0 ?_|refine aS ?_|fail)
theorem t114 (c:Int):DCalls Tryz.prog 214 [U c] (.bool (uT c)):=by
 refine qO (rs:=[.tmp 2]) mixed Tryz.func214 MJ rfl rfl rfl (r:=[.bool _]) (nlZ rfl) ?_
 unfold uT
 have h1:=t110 c
 have h2:=t115 c
 generalize uA c=a at *
 generalize wB c=b at *
 cases a <;> cases b
 all_goals repeat' ((conv=>whnf);first|exact trivial|refine rE _ (h1) ?_|refine rE _ (h2) ?_|refine nE_ (fun hq=>?_) (fun hq=>?_)|refine rb1 ?_|refine rb0 ?_|refine aS ?_|fail)
theorem t113:DCalls Tryz.prog 213 [] (.slice 1 (wL.map .str)):=by
 refine qO (rs:=[.tmp 0]) mixed Tryz.func213 MI rfl rfl rfl (r:=[.slice 1 (wL.map .str)]) (nlZ rfl) ?_
 repeat' ((conv=>whnf);first|exact trivial|refine aS ?_|fail)
def vz (s:ByteArray):Bool:=wL.any fun w=>sC w s
theorem t111 (s:ByteArray):DCalls Tryz.prog 198 [.str s] (.bool (vz s)):=by
 refine qO (rs:=[.tmp 2]) mixed Tryz.func198 MB rfl rfl rfl (r:=[.bool _]) (nlZ rfl) ?_
 unfold vz
 have hw:wL.length=49:=rfl
 have h0:=t113
 generalize wL=ws at *
 repeat' ((conv=>whnf);first|refine rE _ (h0) ?_|fail)
 refine rq (α:=Nat) (fun i=>{sl:=[(0,.t (.str s)),(3,.t (.slice 1 (ws.map .str))),(4,.t (I i))],bx:=[]})
  (fun i=>i≤ws.length∧ ∀j (h:j<ws.length),j<i→sC ws[j] s=false) (fun i=>ws.length - i) 0 (by simp) ?_ ?_
 ·repeat' (first|exact trivial|exact LeV.same _|exact rfl|exact fun _ _ _=>trivial|refine And.intro ?_ ?_)
 rintro i ⟨hi,hp⟩
 rcases Nat.lt_or_ge i ws.length with h|h
 ·cases hb:sC ws[i] s with
  |true=>
   have e:(ws.any fun w=>sC w s)=true:=List.any_eq_true.2 ⟨_,List.getElem_mem h,hb⟩
   rw [e]
   repeat' ((conv=>whnf);first|exact trivial|(refine nv_ (.str ws[i]) (by first|(simp [h];done)|fail) ?_)|refine nb_ true ((sO _ _).trans hb) ?_|refine nT_ ?_|refine aD1 ?_|refine rb1 ?_|refine aS ?_|fail)
  |false=>
   repeat' ((conv=>whnf);first|(refine nv_ (.str ws[i]) (by first|(simp [h];done)|fail) ?_)|refine nb_ false ((sO _ _).trans hb) ?_|refine nT_ ?_|refine aD1 ?_|refine aS ?_|fail)
   refine ⟨i+1,⟨h,fun j hj hlt=>?_⟩,by omega,?_⟩
   ·rcases Nat.lt_or_ge j i with h4|h4
    ·exact hp j hj h4
    ·obtain rfl:j=i:=by omega
     exact hb
   ·repeat' (first|exact trivial|exact LeV.same _|exact rfl|exact fun _ _ _=>trivial|exact lI|refine And.intro ?_ ?_)
 ·have e:(ws.any fun w=>sC w s)=false:=by
   rw [List.any_eq_false]
   intro w hw
   obtain ⟨j,hj,rfl⟩:=List.getElem_of_mem hw
   simp [hp j hj (by omega)]
  rw [e]
  repeat' ((conv=>whnf);first|exact trivial|refine aD0 ?_|refine rb0 ?_|refine aS ?_|fail)
def ua:List UInt8→Nat
 |[]=>0
 |b::bs=>if uT (b.toNat:Int) then 1+ua bs else 0
theorem vY: ∀{l:List UInt8} {n:Nat},n≤l.length→(∀ j,j<n→uT ((l[j]?.getD 0).toNat:Int)=true)→(n=l.length∨uT ((l[n]?.getD 0).toNat:Int)=false)→ua l=n
 |[],n,hn,_,_=>by simp at hn;simp [ua,hn]
 |b::bs,0,hn,_,h=>by
  rcases h with h|h
  ·simp at h
  ·simp at h;simp [ua,h]
 |b::bs,n+1,hn,hp,h=>by
  have h0:=hp 0 (by omega)
  simp at h0
  have:=vY (l:=bs) (n:=n) (by simpa using hn) (fun j hj=>by simpa using hp (j+1) (by omega)) (by simpa using h)
  simp [ua,h0,this];omega
theorem uR (s:ByteArray):s.toList.length=s.size:=by rw [ByteArray.toList_eq];rfl
theorem t112 (s:ByteArray) (hs:s.size<2^62):DCalls Tryz.prog 199 [.str s] (I (ua s.toList)):=by
 refine qO (rs:=[.tmp 2]) mixed Tryz.func199 MD rfl rfl rfl (r:=[.int _ _]) (nlZ rfl) ?_
 have hl:=uR s
 skip
 refine rq (α:=Nat) (fun i=>{sl:=[(0,.t (.str s)),(3,.t (I i))],bx:=[]})
  (fun i=>i≤s.size∧ ∀j,j<i→uT (uq s j)=true) (fun i=>s.size - i) 0 (by simp) ?_ ?_
 ·repeat' (first|exact trivial|exact LeV.same _|exact rfl|exact fun _ _ _=>trivial|refine And.intro ?_ ?_)
 rintro i ⟨hi,hp⟩
 rcases Nat.lt_or_ge i s.size with h|h
 ·have h0:=t114 (uq s i)
  cases hb:uT (uq s i) with
  |true=>
   rw [hb] at h0
   repeat' ((conv=>whnf);first|refine rE _ (h0) ?_|refine nT_ ?_|refine aD1 ?_|refine aS ?_|fail)
   refine ⟨i+1,⟨h,fun j hj=>?_⟩,by omega,?_⟩
   ·rcases Nat.lt_or_ge j i with h4|h4
    ·exact hp j h4
    ·obtain rfl:j=i:=by omega
     exact hb
   ·repeat' (first|exact trivial|exact LeV.same _|exact rfl|exact fun _ _ _=>trivial|exact lI|refine And.intro ?_ ?_)
  |false=>
   rw [hb] at h0
   have e:ua s.toList=i:=vY (by omega) hp (.inr hb)
   rw [e]
   repeat' ((conv=>whnf);first|exact trivial|refine rE _ (h0) ?_|refine nT_ ?_|refine aD1 ?_|refine rix ?_|refine aS ?_|fail)
 ·have e:ua s.toList=i:=vY (by omega) hp (.inl (by omega))
  rw [e]
  repeat' ((conv=>whnf);first|exact trivial|refine aD0 ?_|refine rix ?_|refine aS ?_|fail)
def uz (s:ByteArray):Bool:=decide (0<s.size)&&decide (s.size≤24)&&uA (uq s 0)&&(ua s.toList==s.size)&& !vz s
theorem t109 (s:ByteArray) (hs:s.size<2^62):DCalls Tryz.prog 169 [.str s] (.bool (uz s)):=by
 refine qO (rs:=[.tmp 2]) mixed Tryz.func169 Mr rfl rfl rfl (r:=[.bool _]) (nlZ rfl) ?_
 unfold uz
 have h1:=t110 (uq s 0)
 have h2:=t111 s
 have h3:=t112 s hs
 generalize uA (uq s 0)=a at *
 generalize vz s=w at *
 generalize ua s.toList=n at *
 by_cases hz:s.size=0
 ·simp [hz]
  repeat' ((conv=>whnf);first|exact trivial|refine aE1 ?_|refine rb0 ?_|refine aS ?_|fail)
 ·by_cases h24:s.size≤24
  ·simp [h24,show 0<s.size by omega]
   cases a <;> cases w <;> repeat' ((conv=>whnf);first|exact trivial|refine rE _ (h1) ?_|refine rE _ (h2) ?_|refine rE _ (h3) ?_|refine nT_ ?_|refine aE0 ?_|refine aD0 ?_|refine nE_ (fun hq=>?_) (fun hq=>?_)|refine rb1 ?_|refine rb0 ?_|refine aS ?_|fail)
  ·simp [h24]
   repeat' ((conv=>whnf);first|exact trivial|refine aE0 ?_|refine aD1 ?_|refine rb0 ?_|refine aS ?_|fail)
theorem t108 (s:ByteArray) (hs:s.size<2^62):DCalls Tryz.prog 155 [.str s] (.bool (uz s)):=by
 refine qO (rs:=[.tmp 2]) mixed Tryz.func155 Mi rfl rfl rfl (r:=[.bool _]) (nlZ rfl) ?_
 have h1:=t109 s hs
 repeat' ((conv=>whnf);first|exact trivial|refine rE _ (h1) ?_|refine rbx ?_|fail)
def sS (s:ByteArray):Bool:=uz s||sC s tw
theorem t104 (s:ByteArray) (hs:s.size<2^62):DCalls Tryz.prog 129 [.str s] (.bool (sS s)):=by
 refine qO (rs:=[.tmp 2]) mixed Tryz.func129 LU rfl rfl rfl (r:=[.bool _]) (nlZ rfl) ?_
 have h1:=t108 s hs
 unfold sS
 have h2:=sO s tw
 generalize uz s=a at *
 generalize sC s tw=b at *
 cases a <;> cases b <;> repeat' ((conv=>whnf);first|exact trivial|refine rE _ (h1) ?_|refine nb_ _ h2 ?_|refine rb1 ?_|refine rb0 ?_|refine aS ?_|fail)
end Go.MM
end
section
namespace Go.MM
open Go Go.DL Go.Proofs
abbrev e0:ByteArray:=⟨#[]⟩
def uk:RP→Bool
 |.mk k f n m a=>(k==0)&&sC f e0&&(n==0)&&(m==0)&&(a.length==0)
theorem t105 (r:RP):DCalls Tryz.prog 51 [.agg (sB r),.agg [I 0,.str e0,I 0,I 0,.nil]] (.bool (uk r)):=by
 obtain ⟨k,f,n,m,l⟩:=r
 refine qO (rs:=[.tmp 4]) mixed Tryz.func51 l51 rfl rfl rfl (r:=[.bool _]) (nlZ rfl) ?_
 simp only [uk]
 have h2:=sO f e0
 generalize sC f e0=b at *
 cases l <;> repeat' ((conv=>whnf);first|exact trivial|refine nb_ (!b) (congrArg _ h2) ?_|refine nT_ ?_|refine aN1 ?_|refine aN0 ?_|refine nN_ (fun hq=>?_) (fun hq=>?_)|refine rb0 ?_|refine aS ?_|(cases b)|fail)
 refine rq (α:=Unit) (fun _=>{sl:=[(2,.ptr 2 0),(3,.ptr 3 0),(5,.t (I 0))],bx:=[(2,.d 5 (sB (.mk k f n m []))),(3,.d 5 [I 0,.str e0,I 0,I 0,.nil])]}) (fun _=>True) (fun _=>0) () trivial ?_ ?_
 ·repeat' (first|exact trivial|exact LeV.same _|exact LeB.same _|exact rfl|exact fun _ _ _=>trivial|refine And.intro ?_ ?_)
 rintro _ _
 repeat' ((conv=>whnf);first|exact trivial|refine nT_ ?_|refine aD0 ?_|refine rb1 ?_|refine aS ?_|fail)
def tS (n:Int):Bool:=decide (0≤n)&&decide (n≤65535)
def wu (f:ByteArray) (n m:Int):Bool:=sC f e0&&(n==0)&&(m==0)
def xu (k:Int):Nat:=if k=6 then 1 else if k=7∨k=8 then 2 else 0
def okP (k:Int) (f:ByteArray) (n m:Int):Bool:=
 if k=1∨k=2 then wu f n m
 else if k=3 then sS f&&tS n&&(m==0)
 else if k=4 then sS f&&tS n&&decide (0≤m)&&decide (m≤16)
 else if k=5 then sS f&&decide (0≤n)&&decide (n≤m)&&decide (m≤65535)
 else if k=6∨k=7∨k=8 then wu f n m
 else if k=9 then sC f e0&&decide (0≤n)&&decide (n<m)&&decide (m≤1073741824)
 else false
mutual
def s7:RP→Bool
 |.mk k f n m a=>okP k f n m&&(a.length==xu k)&&tO a
def tO:List RP→Bool
 |[]=>true
 |r::rs=>s7 r&&tO rs
end
theorem wD: ∀{l:List RP},tO l=true↔ ∀(i:Nat) (h:i<l.length),s7 l[i]=true
 |[]=>by simp [tO]
 |r::rs=>by
  simp only [tO,Bool.and_eq_true,wD (l:=rs)]
  constructor
  ·rintro ⟨h0,h⟩ i hi
   cases i with
   |zero=>exact h0
   |succ i=>simpa using h i (by simpa using hi)
  ·intro h
   exact ⟨h 0 (by simp),fun i hi=>h (i+1) (by simpa using hi)⟩
mutual
def vi:RP→Prop
 |.mk _ f _ _ a=>f.size<2^62∧xg a
def xg:List RP→Prop
 |[]=>True
 |r::rs=>vi r∧xg rs
end
theorem wY: ∀{l:List RP},xg l→ ∀(i:Nat) (h:i<l.length),vi l[i]
 |[],_,i,h=>by simp at h
 |r::rs,h,i,hi=>by
  cases i with
  |zero=>exact h.1
  |succ i=>simpa using wY h.2 i (by simpa using hi)
theorem t106 (N:Nat): ∀r:RP,r.nodes≤N→N<2^60→vi r→DCalls Tryz.prog 110 [.agg (sB r)] (.bool (s7 r)):=by
 induction N with
 |zero=>intro r h;have:=r.tV;omega
 |succ N ih=>
  rintro ⟨k,f,n,m,l⟩ hr hN hnm
  refine qO (rs:=[.tmp 2]) mixed Tryz.func110 LF rfl rfl rfl (r:=[.bool _]) (nlZ rfl) ?_
  simp only [RP.nodes,s7] at hr ⊢
  have h104:=t104 f hnm.1
  repeat' ((conv=>whnf);first|refine rE _ (h104) ?_|refine nT_ ?_|refine aS ?_|fail)
  refine rA (β:=Unit) (fun _=>{sl:=[(1,.ptr 1 0),(3,.t (.bool (sS f))),(4,.t (.bool (tS n)))],bx:=[(1,.d 5 (sB (.mk k f n m l)))]}) (fun _=>True) ?_ ?_
  ·repeat' ((conv=>whnf);first|refine nT_ ?_|refine nD_ (fun hq=>?_) (fun hq=>?_)|refine aS ?_|fail)
   all_goals refine ⟨(),trivial,?_⟩
   all_goals unfold tS
   all_goals repeat' (first|exact trivial|exact LeV.same _|exact LeB.same _|exact rfl|exact fun _ _ _=>trivial|exact lB|refine And.intro ?_ ?_)
  rintro _ _
  skip
  refine rA (β:=Unit) (fun _=>{sl:=[(1,.ptr 1 0),(3,.t (.bool (sS f))),(4,.t (.bool (tS n))),(5,.t (.bool (wu f n m)))],bx:=[(1,.d 5 (sB (.mk k f n m l)))]}) (fun _=>True) ?_ ?_
  ·unfold wu
   have h2:=sO f e0
   generalize sC f e0=b at *
   repeat' ((conv=>whnf);first|refine nb_ b h2 ?_|(exact ⟨(),trivial,by (repeat' (first|exact trivial|exact LeV.same _|exact LeB.same _|exact rfl|exact fun _ _ _=>trivial|exact lB|refine And.intro ?_ ?_));done⟩)|refine nT_ ?_|refine nE_ (fun hq=>?_) (fun hq=>?_)|refine aS ?_|(cases b)|fail)
  rintro _ _
  repeat' ((conv=>whnf);first|refine nT_ ?_|refine aS ?_|fail)
  refine rA (β:=Unit) (fun _=>{sl:=[(1,.ptr 1 0),(6,.t (I (xu k))),(7,.t (.bool (okP k f n m)))],bx:=[(1,.d 5 (sB (.mk k f n m l)))]}) (fun _=>True) ?_ ?_
  ·have h2:=sO f e0
   unfold okP xu
   generalize sS f=a at *
   generalize tS n=b at *
   generalize wu f n m=c at *
   generalize sC f e0=d at *
   repeat' ((conv=>whnf);first|refine nb_ d h2 ?_|(exact ⟨(),trivial,by (repeat' (first|exact trivial|exact LeV.same _|exact LeB.same _|exact rfl|exact fun _ _ _=>trivial|exact lI|exact lB|refine And.intro ?_ ?_));done⟩)|refine nT_ ?_|refine nE_ (fun hq=>?_) (fun hq=>?_)|refine nD_ (fun hq=>?_) (fun hq=>?_)|refine aS ?_|(cases a)|(cases b)|(cases d)|fail)
  rintro _ _
  generalize okP k f n m=ok at *
  cases ok with
  |false=>repeat' ((conv=>whnf);first|exact trivial|refine rb0 ?_|fail)
  |true=>
  by_cases hlen:l.length=xu k
  ·have e:(true&&(l.length==xu k)&&tO l)=tO l:=by simp [hlen]
   rw [e, ←hlen]
   have hnp:=tP l
   repeat' ((conv=>whnf);first|refine nT_ ?_|refine aN0 ?_|refine aS ?_|fail)
   refine rq (α:=Nat) (fun i=>{sl:=[(1,.ptr 1 0),(6,.t (I l.length)),(8,.t (I i))],bx:=[(1,.d 5 (sB (.mk k f n m l)))]})
    (fun i=>i≤l.length∧ ∀j (h:j<l.length),j<i→s7 l[j]=true) (fun i=>l.length - i) 0 (by simp) ?_ ?_
   ·repeat' (first|exact trivial|exact LeV.same _|exact LeB.same _|exact rfl|exact fun _ _ _=>trivial|refine And.intro ?_ ?_)
   rintro i ⟨hi,hp⟩
   rcases Nat.lt_or_ge i l.length with h|h
   ·have hn:=tz h
    have hm:=tx (l:=l) (j:=i+1)
    have hc:=ih l[i] (by omega) (by omega) (wY hnm.2 i h)
    cases hb:s7 l[i] with
    |true=>
     rw [hb] at hc
     repeat' ((conv=>whnf);first|(refine nv_ (.agg (sB l[i])) (by first|(simp [h,sG];done)|fail) ?_)|refine rE _ (hc) ?_|refine nT_ ?_|refine aD1 ?_|(refine And.intro (by first|exact sJ _|fail) ?_)|refine aS ?_|fail)
     refine ⟨i+1,⟨h,fun j hj hlt=>?_⟩,by omega,?_⟩
     ·rcases Nat.lt_or_ge j i with h4|h4
      ·exact hp j hj h4
      ·obtain rfl:j=i:=by omega
       exact hb
     ·repeat' (first|exact trivial|exact LeV.same _|exact LeB.same _|exact rfl|exact fun _ _ _=>trivial|exact lI|refine And.intro ?_ ?_)
    |false=>
     rw [hb] at hc
     have e2:tO l=false:=by
      cases hx:tO l with
      |false=>rfl
      |true=>rw [wD.1 hx i h] at hb;cases hb
     rw [e2]
     repeat' ((conv=>whnf);first|exact trivial|(refine nv_ (.agg (sB l[i])) (by first|(simp [h,sG];done)|fail) ?_)|refine rE _ (hc) ?_|refine nT_ ?_|refine aD1 ?_|refine rb0 ?_|(refine And.intro (by first|exact sJ _|fail) ?_)|refine aS ?_|fail)
   ·have e2:tO l=true:=wD.2 fun j hj=>hp j hj (by omega)
    rw [e2]
    repeat' ((conv=>whnf);first|exact trivial|refine aD0 ?_|refine rb1 ?_|refine aS ?_|fail)
  ·have e:(true&&(l.length==xu k)&&tO l)=false:=by simp [hlen]
   rw [e]
   repeat' ((conv=>whnf);first|exact trivial|refine nT_ ?_|refine aN1 ?_|refine rb0 ?_|refine aS ?_|fail)
end Go.MM
end
section
namespace Go.MM
open Go Go.DL Go.Proofs
mutual
def RO.wt:RO→Nat
 |.mk _ p _ _ a=>1+p.nodes+ti a
def ti:List RO→Nat
 |[]=>0
 |r::rs=>r.wt+ti rs
end
mutual
def RO.size:RO→Nat
 |.mk k p _ _ a=>1+(if k=1 then p.nodes else 0)+tF a
def tF:List RO→Nat
 |[]=>0
 |r::rs=>r.size+tF rs
end
mutual
def RO.deep:RO→Nat
 |.mk k p _ _ a=>1+max (if k=1 then p.depth else 0) (tD a)
def tD:List RO→Nat
 |[]=>0
 |r::rs=>max r.deep (tD rs)
end
mutual
theorem RO.size_le: ∀r:RO,r.size≤r.wt
 |.mk k p _ _ a=>by have:=uo a;simp only [RO.size,RO.wt];split <;> omega
theorem uo: ∀l:List RO,tF l≤ti l
 |[]=>Nat.le_refl _
 |r::rs=>by have:=RO.size_le r;have:=uo rs;simp only [tF,ti];omega
end
mutual
theorem RO.x9: ∀r:RO,r.deep≤r.wt
 |.mk k p _ _ a=>by have:=uX a;have:=p.vt;simp only [RO.deep,RO.wt];split <;> omega
theorem uX: ∀l:List RO,tD l≤ti l
 |[]=>Nat.le_refl _
 |r::rs=>by have:=RO.x9 r;have:=uX rs;simp only [tD,ti];omega
end
theorem tW: ∀{l:List RO} {j:Nat} (h:j<l.length),ti (l.take (j+1))=ti (l.take j)+l[j].wt
 |r::rs,0,h=>by simp [ti]
 |r::rs,j+1,h=>by
  have:=tW (l:=rs) (j:=j) (by simpa using h)
  simp only [List.take_succ_cons,ti,List.getElem_cons_succ]
  omega
theorem vR: ∀{l:List RO} {j:Nat} (h:j<l.length),tF (l.take (j+1))=tF (l.take j)+l[j].size
 |r::rs,0,h=>by simp [tF]
 |r::rs,j+1,h=>by
  have:=vR (l:=rs) (j:=j) (by simpa using h)
  simp only [List.take_succ_cons,tF,List.getElem_cons_succ]
  omega
theorem vI: ∀{l:List RO} {j:Nat} (h:j<l.length),tD (l.take (j+1))=max (tD (l.take j)) l[j].deep
 |r::rs,0,h=>by simp [tD]
 |r::rs,j+1,h=>by
  have:=vI (l:=rs) (j:=j) (by simpa using h)
  simp only [List.take_succ_cons,tD,List.getElem_cons_succ]
  omega
theorem tR: ∀{l:List RO} {j:Nat},ti (l.take j)≤ti l
 |[],j=>by simp
 |r::rs,0=>by simp [ti]
 |r::rs,j+1=>by
  have:=tR (l:=rs) (j:=j)
  simp only [List.take_succ_cons,ti]
  omega
theorem RO.vo (r:RO):1≤r.wt:=by cases r;simp only [RO.wt];omega
theorem ux: ∀l:List RO,l.length≤ti l
 |[]=>Nat.le_refl _
 |r::rs=>by have:=ux rs;have:=r.vo;simp only [ti,List.length_cons];omega
theorem two {a b c d:Nat} (h1:a=c) (h2:b=d):[I (a:Int),I (b:Int)]=[I (c:Int),I (d:Int)]:=by rw [h1,h2]
theorem t89 (N:Nat): ∀r:RO,r.wt≤N→N<2^60→DCalls Tryz.prog 34 [.agg (sA r)] (sz r.size r.deep):=by
 induction N with
 |zero=>intro r h;have:=r.vo;omega
 |succ N ih=>
  rintro ⟨k,⟨pk,pf,pn,pm,pa⟩,f,n,l⟩ hr hN
  refine qO (rs:=[.cell 2 51]) mixed Tryz.func34 l34 rfl rfl rfl (r:=[sz _ _]) (nlZ rfl) ?_
  simp only [RO.size,RO.deep,RO.wt] at hr ⊢
  have h103:=t103 _ (.mk pk pf pn pm pa) (Nat.le_refl _) (by omega)
  have hpd:=(RP.mk pk pf pn pm pa).vt
  have hlen:=ux l
  by_cases hk:k=1
  ·simp only [hk,if_true]
   repeat' ((conv=>whnf);first|refine rE _ (h103) ?_|refine rE _ (t102 1 1 _ _ (by omega) (by omega) (by omega)) ?_|refine nT_ ?_|refine aE1 ?_|refine aS ?_|fail)
   refine rq (α:=Nat) (fun i=>{sl:=[(1,.ptr 1 0),(2,.ptr 2 0),(3,.ptr 3 0),(4,.t (I i))],bx:=[(1,.d 9 (sA (.mk 1 (.mk pk pf pn pm pa) f n l))),(2,.d 2 [I 0,I 0]),(3,.d 2 [I (1+(RP.mk pk pf pn pm pa).nodes+tF (l.take i):Nat),I (1+max (RP.mk pk pf pn pm pa).depth (tD (l.take i)):Nat)])]})
    (fun i=>i≤l.length) (fun i=>l.length - i) 0 (by omega) ?_ ?_
   ·repeat' (first|exact trivial|exact LeV.same _|exact LeB.same _|exact rfl|exact fun _ _ _=>trivial|refine su ?_|refine And.intro ?_ ?_)
    all_goals exact two (by simp [tF]) (by simp [tD];try omega)
   rintro i hi
   rcases Nat.lt_or_ge i l.length with h|h
   ·have hn:=vR h
    have hd:=vI h
    have hw:=tW h
    have hm:=tR (l:=l) (j:=i+1)
    have hp:=l[i].vo
    have h1:=l[i].size_le
    have h2:=l[i].x9
    have h3:=uX (l.take i)
    have h4:=uo (l.take i)
    repeat' ((conv=>whnf);first|(refine nv_ (.agg (sA l[i])) (by first|(simp [h,sL];done)|fail) ?_)|refine rE _ (ih l[i] (by omega) (by omega)) ?_|refine rE _ (t102 _ _ _ _ (by omega) (by omega) (by omega)) ?_|refine nT_ ?_|refine aD1 ?_|(refine And.intro (by first|exact sE _|fail) ?_)|refine aS ?_|fail)
    refine ⟨i+1,by omega,by omega,?_⟩
    repeat' (first|exact trivial|exact LeV.same _|exact LeB.same _|exact rfl|exact fun _ _ _=>trivial|exact lI|refine su ?_|refine And.intro ?_ ?_)
    exact two (by omega) (by omega)
   ·have:i=l.length:=by omega
    subst this
    rw [List.take_length]
    repeat' ((conv=>whnf);first|exact trivial|refine nT_ ?_|refine aD0 ?_|refine aS ?_|fail)
  ·simp only [hk,if_false]
   repeat' ((conv=>whnf);first|refine nT_ ?_|refine aE0 ?_|refine aS ?_|fail)
   refine rq (α:=Nat) (fun i=>{sl:=[(1,.ptr 1 0),(2,.ptr 2 0),(3,.ptr 3 0),(4,.t (I i))],bx:=[(1,.d 9 (sA (.mk k (.mk pk pf pn pm pa) f n l))),(2,.d 2 [I 0,I 0]),(3,.d 2 [I (1+0+tF (l.take i):Nat),I (1+max 0 (tD (l.take i)):Nat)])]})
    (fun i=>i≤l.length) (fun i=>l.length - i) 0 (by omega) ?_ ?_
   ·repeat' (first|exact trivial|exact LeV.same _|exact LeB.same _|exact rfl|exact fun _ _ _=>trivial|refine And.intro ?_ ?_)
    all_goals exact two (by simp [tF]) (by simp [tD];try omega)
   rintro i hi
   rcases Nat.lt_or_ge i l.length with h|h
   ·have hn:=vR h
    have hd:=vI h
    have hw:=tW h
    have hm:=tR (l:=l) (j:=i+1)
    have hp:=l[i].vo
    have h1:=l[i].size_le
    have h2:=l[i].x9
    have h3:=uX (l.take i)
    have h4:=uo (l.take i)
    repeat' ((conv=>whnf);first|(refine nv_ (.agg (sA l[i])) (by first|(simp [h,sL];done)|fail) ?_)|refine rE _ (ih l[i] (by omega) (by omega)) ?_|refine rE _ (t102 _ _ _ _ (by omega) (by omega) (by omega)) ?_|refine nT_ ?_|refine aD1 ?_|(refine And.intro (by first|exact sE _|fail) ?_)|refine aS ?_|fail)
    refine ⟨i+1,by omega,by omega,?_⟩
    repeat' (first|exact trivial|exact LeV.same _|exact LeB.same _|exact rfl|exact fun _ _ _=>trivial|exact lI|refine su ?_|refine And.intro ?_ ?_)
    exact two (by omega) (by omega)
   ·have:i=l.length:=by omega
    subst this
    rw [List.take_length]
    repeat' ((conv=>whnf);first|exact trivial|refine nT_ ?_|refine aD0 ?_|refine aS ?_|fail)
def wF (n d:Nat):Int:=if n≤200∧d≤20 then 0 else 2
theorem t101 (n d:Nat):DCalls Tryz.prog 128 [sz n d] (I (wF n d)):=by
 refine qO (rs:=[.tmp 2]) mixed Tryz.func128 LS rfl rfl rfl (r:=[.int _ _]) (nlZ rfl) ?_
 unfold wF
 by_cases h1:n≤200
 ·by_cases h2:d≤20
  ·rw [if_pos ⟨h1,h2⟩];repeat' ((conv=>whnf);first|exact trivial|refine nT_ ?_|refine aD0 ?_|refine rix ?_|refine aS ?_|fail)
  ·rw [if_neg (by omega)];repeat' ((conv=>whnf);first|exact trivial|refine nT_ ?_|refine aD1 ?_|refine aD0 ?_|refine rix ?_|refine aS ?_|fail)
 ·rw [if_neg (by omega)];repeat' ((conv=>whnf);first|exact trivial|refine nT_ ?_|refine aD1 ?_|refine rix ?_|refine aS ?_|fail)
def ye (e:Int) (b:Bool):Int:=if e=0 then (if b then 0 else 1) else e
theorem t88 (n d:Nat) (b:Bool):DCalls Tryz.prog 84 [sz n d,.bool b] (I (ye (wF n d) b)):=by
 refine qO (rs:=[.tmp 4]) mixed Tryz.func84 l84 rfl rfl rfl (r:=[.int _ _]) (nlZ rfl) ?_
 have h:=t101 n d
 generalize wF n d=e at *
 unfold ye
 by_cases h0:e=0
 ·subst h0
  cases b <;> repeat' ((conv=>whnf);first|exact trivial|refine rE _ (h) ?_|refine aE1 ?_|refine rix ?_|refine aS ?_|fail)
 ·rw [if_neg h0]
  repeat' ((conv=>whnf);first|exact trivial|refine rE _ (h) ?_|refine aE0 ?_|refine rix ?_|refine aS ?_|fail)
def we (k:Int):Nat:=if k=3∨k=4 then 2 else if k=5 then 1 else 0
def vL (f:ByteArray) (n:Int):Bool:=sC f e0&&(n==0)
def okO (k:Int) (p:RP) (f:ByteArray) (n:Int):Bool:=
 if k=1 then s7 p&&vL f n
 else if k=2 then sS f&&uk p&&decide (0≤n)&&decide (n≤65535)
 else if k=3∨k=4∨k=5 then uk p&&vL f n
 else false
mutual
def s8:RO→Bool
 |.mk k p f n a=>okO k p f n&&(a.length==we k)&&tB a
def tB:List RO→Bool
 |[]=>true
 |r::rs=>s8 r&&tB rs
end
theorem wC: ∀{l:List RO},tB l=true↔ ∀(i:Nat) (h:i<l.length),s8 l[i]=true
 |[]=>by simp [tB]
 |r::rs=>by
  simp only [tB,Bool.and_eq_true,wC (l:=rs)]
  constructor
  ·rintro ⟨h0,h⟩ i hi
   cases i with
   |zero=>exact h0
   |succ i=>simpa using h i (by simpa using hi)
  ·intro h
   exact ⟨h 0 (by simp),fun i hi=>h (i+1) (by simpa using hi)⟩
mutual
def uP:RO→Prop
 |.mk _ p f _ a=>vi p∧f.size<2^62∧xd a
def xd:List RO→Prop
 |[]=>True
 |r::rs=>uP r∧xd rs
end
theorem wX: ∀{l:List RO},xd l→ ∀(i:Nat) (h:i<l.length),uP l[i]
 |[],_,i,h=>by simp at h
 |r::rs,h,i,hi=>by
  cases i with
  |zero=>exact h.1
  |succ i=>simpa using wX h.2 i (by simpa using hi)
theorem t90 (N:Nat): ∀r:RO,r.wt≤N→N<2^60→uP r→DCalls Tryz.prog 85 [.agg (sA r)] (.bool (s8 r)):=by
 induction N with
 |zero=>intro r h;have:=r.vo;omega
 |succ N ih=>
  rintro ⟨k,⟨pk,pf,pn,pm,pa⟩,f,n,l⟩ hr hN ⟨hn1,hn2,hn3⟩
  refine qO (rs:=[.tmp 2]) mixed Tryz.func85 l85 rfl rfl rfl (r:=[.bool _]) (nlZ rfl) ?_
  simp only [RO.wt,s8] at hr ⊢
  have h104:=t104 f hn2
  have h105:=t105 (.mk pk pf pn pm pa)
  have h106:=t106 _ (.mk pk pf pn pm pa) (Nat.le_refl _) (by omega) hn1
  repeat' ((conv=>whnf);first|refine rE _ (h104) ?_|refine rE _ (h105) ?_|refine nT_ ?_|refine aS ?_|fail)
  refine rA (β:=Unit) (fun _=>{sl:=[(1,.ptr 1 0),(3,.t (.bool (sS f))),(4,.t (.bool (uk (.mk pk pf pn pm pa)))),(5,.t (.bool (vL f n)))],bx:=[(1,.d 9 (sA (.mk k (.mk pk pf pn pm pa) f n l)))]}) (fun _=>True) ?_ ?_
  ·unfold vL
   have h2:=sO f e0
   generalize sC f e0=b at *
   repeat' ((conv=>whnf);first|refine nb_ b h2 ?_|(exact ⟨(),trivial,by (repeat' (first|exact trivial|exact LeV.same _|exact LeB.same _|exact rfl|exact fun _ _ _=>trivial|exact lB|refine And.intro ?_ ?_));done⟩)|refine nT_ ?_|refine nE_ (fun hq=>?_) (fun hq=>?_)|refine aS ?_|(cases b)|fail)
  rintro _ _
  repeat' ((conv=>whnf);first|refine nT_ ?_|refine aS ?_|fail)
  refine rA (β:=Unit) (fun _=>{sl:=[(1,.ptr 1 0),(6,.t (I (we k))),(7,.t (.bool (okO k (.mk pk pf pn pm pa) f n)))],bx:=[(1,.d 9 (sA (.mk k (.mk pk pf pn pm pa) f n l)))]}) (fun _=>True) ?_ ?_
  ·unfold okO we
   generalize sS f=a at *
   generalize s7 (.mk pk pf pn pm pa)=b at *
   generalize vL f n=c at *
   generalize uk (.mk pk pf pn pm pa)=d at *
   repeat' ((conv=>whnf);first|refine rE _ (h106) ?_|(exact ⟨(),trivial,by (repeat' (first|exact trivial|exact LeV.same _|exact LeB.same _|exact rfl|exact fun _ _ _=>trivial|exact lI|exact lB|refine And.intro ?_ ?_));done⟩)|refine nT_ ?_|refine nE_ (fun hq=>?_) (fun hq=>?_)|refine nD_ (fun hq=>?_) (fun hq=>?_)|refine aS ?_|(cases a)|(cases b)|(cases d)|fail)
  rintro _ _
  generalize okO k (.mk pk pf pn pm pa) f n=ok at *
  cases ok with
  |false=>repeat' ((conv=>whnf);first|exact trivial|refine rb0 ?_|fail)
  |true=>
  by_cases hlen:l.length=we k
  ·have e:(true&&(l.length==we k)&&tB l)=tB l:=by simp [hlen]
   rw [e, ←hlen]
   have hnp:=ux l
   repeat' ((conv=>whnf);first|refine nT_ ?_|refine aN0 ?_|refine aS ?_|fail)
   refine rq (α:=Nat) (fun i=>{sl:=[(1,.ptr 1 0),(6,.t (I l.length)),(8,.t (I i))],bx:=[(1,.d 9 (sA (.mk k (.mk pk pf pn pm pa) f n l)))]})
    (fun i=>i≤l.length∧ ∀j (h:j<l.length),j<i→s8 l[j]=true) (fun i=>l.length - i) 0 (by simp) ?_ ?_
   ·repeat' (first|exact trivial|exact LeV.same _|exact LeB.same _|exact rfl|exact fun _ _ _=>trivial|refine And.intro ?_ ?_)
   rintro i ⟨hi,hp⟩
   rcases Nat.lt_or_ge i l.length with h|h
   ·have hn:=tW h
    have hm:=tR (l:=l) (j:=i+1)
    have hc:=ih l[i] (by omega) (by omega) (wX hn3 i h)
    cases hb:s8 l[i] with
    |true=>
     rw [hb] at hc
     repeat' ((conv=>whnf);first|(refine nv_ (.agg (sA l[i])) (by first|(simp [h,sL];done)|fail) ?_)|refine rE _ (hc) ?_|refine nT_ ?_|refine aD1 ?_|(refine And.intro (by first|exact sE _|fail) ?_)|refine aS ?_|fail)
     refine ⟨i+1,⟨h,fun j hj hlt=>?_⟩,by omega,?_⟩
     ·rcases Nat.lt_or_ge j i with h4|h4
      ·exact hp j hj h4
      ·obtain rfl:j=i:=by omega
       exact hb
     ·repeat' (first|exact trivial|exact LeV.same _|exact LeB.same _|exact rfl|exact fun _ _ _=>trivial|exact lI|refine And.intro ?_ ?_)
    |false=>
     rw [hb] at hc
     have e2:tB l=false:=by
      cases hx:tB l with
      |false=>rfl
      |true=>rw [wC.1 hx i h] at hb;cases hb
     rw [e2]
     repeat' ((conv=>whnf);first|exact trivial|(refine nv_ (.agg (sA l[i])) (by first|(simp [h,sL];done)|fail) ?_)|refine rE _ (hc) ?_|refine nT_ ?_|refine aD1 ?_|refine rb0 ?_|(refine And.intro (by first|exact sE _|fail) ?_)|refine aS ?_|fail)
   ·have e2:tB l=true:=wC.2 fun j hj=>hp j hj (by omega)
    rw [e2]
    repeat' ((conv=>whnf);first|exact trivial|refine aD0 ?_|refine rb1 ?_|refine aS ?_|fail)
  ·have e:(true&&(l.length==we k)&&tB l)=false:=by simp [hlen]
   rw [e]
   repeat' ((conv=>whnf);first|exact trivial|refine nT_ ?_|refine aN1 ?_|refine rb0 ?_|refine aS ?_|fail)
def tC (r:RO):Int:=ye (wF r.size r.deep) (s8 r)
theorem t63 (r:RO) (hr:r.wt<2^60) (hn:uP r):DCalls Tryz.prog 21 [.agg (sA r)] (I (tC r)):=by
 refine qO (rs:=[.tmp 2]) mixed Tryz.func21 l21 rfl rfl rfl (r:=[.int _ _]) (nlZ rfl) ?_
 have h1:=t89 _ r (Nat.le_refl _) hr
 have h2:=t90 _ r (Nat.le_refl _) hr hn
 have h3:=t88 r.size r.deep (s8 r)
 have hl:=sE r
 unfold tC
 repeat' ((conv=>whnf);first|exact trivial|refine rE _ (h1) ?_|refine rE _ (h2) ?_|refine rE _ (h3) ?_|refine rix ?_|refine aS ?_|fail)
end Go.MM
end
section
namespace Go.MM
open Go Go.DL Go.Proofs
def tj:List Int→Int
 |[]=>0
 |x::xs=>if x≠0 then x else tj xs
theorem yR: ∀{l:List Int} {i:Nat} (h:i<l.length),(∀ j (hj:j<l.length),j<i→l[j]=0)→l[i]≠0→tj l=l[i]
 |x::xs,0,h,_,h0=>by simp at h0;simp [tj,h0]
 |x::xs,i+1,h,hz,h0=>by
  have hx:x=0:=hz 0 (by simp) (by omega)
  simp only [tj,hx,ne_eq,not_true_eq_false,if_false]
  exact yR (by simpa using h) (fun j hj hlt=>hz (j+1) (by simpa using hj) (by omega)) (by simpa using h0)
theorem zK: ∀{l:List Int},(∀ j (hj:j<l.length),l[j]=0)→tj l=0
 |[],_=>rfl
 |x::xs,hz=>by
  have hx:x=0:=hz 0 (by simp)
  simp only [tj,hx,ne_eq,not_true_eq_false,if_false]
  exact zK fun j hj=>hz (j+1) (by simpa using hj)
end Go.MM
end
section
namespace Go.MM
open Go Go.DL Go.Proofs
mutual
def uy:RP→List RP
 |.mk k f n m a=>.mk k f n m a::uc a
def uc:List RP→List RP
 |[]=>[]
 |r::rs=>uy r++uc rs
end
mutual
theorem uL: ∀r:RP,(uy r).length=r.nodes
 |.mk k f n m a=>by simp only [uy,List.length_cons,wZ a,RP.nodes];omega
theorem wZ: ∀l:List RP,(uc l).length=sN l
 |[]=>rfl
 |r::rs=>by simp only [uc,List.length_append,uL r,wZ rs,sN]
end
theorem xR: ∀{l:List RP} {j:Nat} (h:j<l.length),uc (l.take (j+1))=uc (l.take j)++uy l[j]
 |r::rs,0,h=>by simp [uc]
 |r::rs,j+1,h=>by
  have:=xR (l:=rs) (j:=j) (by simpa using h)
  simp only [List.take_succ_cons,uc,List.getElem_cons_succ,this,List.append_assoc]
theorem t91 (N:Nat): ∀r:RP,r.nodes≤N→N<2^40→DCalls Tryz.prog 111 [.agg (sB r)] (.slice 5 ((uy r).map sM)):=by
 induction N with
 |zero=>intro r h;have:=r.tV;omega
 |succ N ih=>
  rintro ⟨k,f,n,m,l⟩ hr hN
  refine qO (rs:=[.tmp 2]) mixed Tryz.func111 LG rfl rfl rfl (r:=[.slice 5 _]) (nlZ rfl) ?_
  simp only [RP.nodes,uy] at hr ⊢
  have hl:=tP l
  repeat' ((conv=>whnf);first|refine aS ?_|fail)
  refine rq (α:=Nat×Nat) (fun q=>{sl:=[(1,.ptr 1 0),(3,.own q.1 25 5 ((RP.mk k f n m l::uc (l.take q.2)).map sM)),(4,.t (I q.2))],bx:=[(1,.d 5 (sB (.mk k f n m l)))]})
   (fun q=>q.2≤l.length) (fun q=>l.length - q.2) (6,0) (by simp) ?_ ?_
  ·repeat' (first|exact trivial|exact LeV.same _|exact LeB.same _|exact rfl|exact fun _ _ _=>trivial|refine rX ?_|refine And.intro ?_ ?_)
   simp [uc,sG]
  rintro ⟨o,i⟩ hi
  dsimp only at hi
  rcases Nat.lt_or_ge i l.length with h|h
  ·have hn:=tz h
   have hm:=tx (l:=l) (j:=i+1)
   have hc:=ih l[i] (by omega) (by omega)
   have e1:=uL l[i]
   have e2:=wZ (l.take i)
   have e3:=xR h
   repeat' ((conv=>whnf);first|(refine nv_ (.agg (sB l[i])) (by first|(simp [h,sG];done)|fail) ?_)|refine rE _ (hc) ?_|refine nT_ ?_|refine aD1 ?_|(refine And.intro (by first|exact sJ _|((simp only [List.length_map,List.length_cons];omega);done)|fail) ?_)|refine aS ?_|fail)
   refine ⟨(21,i+1),by dsimp only;omega,by dsimp only;omega,?_⟩
   repeat' (first|exact trivial|exact LeV.same _|exact LeB.same _|exact rfl|exact fun _ _ _=>trivial|exact lI|refine rX ?_|refine And.intro ?_ ?_)
   simp [e3]
  ·have:i=l.length:=by omega
   subst this
   rw [List.take_length]
   repeat' ((conv=>whnf);first|exact trivial|refine nT_ ?_|refine aD0 ?_|refine aS ?_|fail)
mutual
def tE:RO→List RO
 |.mk k p f n a=>.mk k p f n a::tl a
def tl:List RO→List RO
 |[]=>[]
 |r::rs=>tE r++tl rs
end
mutual
def RO.cnt:RO→Nat
 |.mk _ _ _ _ a=>1+x8 a
def x8:List RO→Nat
 |[]=>0
 |r::rs=>r.cnt+x8 rs
end
mutual
theorem RO.vV: ∀r:RO,r.cnt≤r.wt
 |.mk k p _ _ a=>by have:=yE a;simp only [RO.cnt,RO.wt];omega
theorem yE: ∀l:List RO,x8 l≤ti l
 |[]=>Nat.le_refl _
 |r::rs=>by have:=RO.vV r;have:=yE rs;simp only [x8,ti];omega
end
mutual
theorem uf: ∀r:RO,(tE r).length=r.cnt
 |.mk k p f n a=>by simp only [tE,List.length_cons,w7 a,RO.cnt];omega
theorem w7: ∀l:List RO,(tl l).length=x8 l
 |[]=>rfl
 |r::rs=>by simp only [tl,List.length_append,uf r,w7 rs,x8]
end
theorem xS: ∀{l:List RO} {j:Nat} (h:j<l.length),tl (l.take (j+1))=tl (l.take j)++tE l[j]
 |r::rs,0,h=>by simp [tl]
 |r::rs,j+1,h=>by
  have:=xS (l:=rs) (j:=j) (by simpa using h)
  simp only [List.take_succ_cons,tl,List.getElem_cons_succ,this,List.append_assoc]
theorem t64 (N:Nat): ∀r:RO,r.wt≤N→N<2^40→DCalls Tryz.prog 76 [.agg (sA r)] (.slice 9 ((tE r).map sP)):=by
 induction N with
 |zero=>intro r h;have:=r.vo;omega
 |succ N ih=>
  rintro ⟨k,⟨pk,pf,pn,pm,pa⟩,f,n,l⟩ hr hN
  refine qO (rs:=[.tmp 2]) mixed Tryz.func76 l76 rfl rfl rfl (r:=[.slice 9 _]) (nlZ rfl) ?_
  simp only [RO.wt,tE] at hr ⊢
  have hl:=ux l
  repeat' ((conv=>whnf);first|refine aS ?_|fail)
  refine rq (α:=Nat×Nat) (fun q=>{sl:=[(1,.ptr 1 0),(3,.own q.1 28 9 ((RO.mk k (.mk pk pf pn pm pa) f n l::tl (l.take q.2)).map sP)),(4,.t (I q.2))],bx:=[(1,.d 9 (sA (.mk k (.mk pk pf pn pm pa) f n l)))]})
   (fun q=>q.2≤l.length) (fun q=>l.length - q.2) (6,0) (by simp) ?_ ?_
  ·repeat' (first|exact trivial|exact LeV.same _|exact LeB.same _|exact rfl|exact fun _ _ _=>trivial|refine rX ?_|refine And.intro ?_ ?_)
   simp [tl,sL]
  rintro ⟨o,i⟩ hi
  dsimp only at hi
  rcases Nat.lt_or_ge i l.length with h|h
  ·have hn:=tW h
   have hm:=tR (l:=l) (j:=i+1)
   have hc:=ih l[i] (by omega) (by omega)
   have e1:=uf l[i]
   have e2:=w7 (l.take i)
   have e3:=xS h
   have e4:=yE (l.take i)
   have e5:=l[i].vV
   repeat' ((conv=>whnf);first|(refine nv_ (.agg (sA l[i])) (by first|(simp [h,sL];done)|fail) ?_)|refine rE _ (hc) ?_|refine nT_ ?_|refine aD1 ?_|(refine And.intro (by first|exact sE _|((simp only [List.length_map,List.length_cons];omega);done)|fail) ?_)|refine aS ?_|fail)
   refine ⟨(21,i+1),by dsimp only;omega,by dsimp only;omega,?_⟩
   repeat' (first|exact trivial|exact LeV.same _|exact LeB.same _|exact rfl|exact fun _ _ _=>trivial|exact lI|refine rX ?_|refine And.intro ?_ ?_)
   simp [e3]
  ·have:i=l.length:=by omega
   subst this
   rw [List.take_length]
   repeat' ((conv=>whnf);first|exact trivial|refine nT_ ?_|refine aD0 ?_|refine aS ?_|fail)
end Go.MM
end
section
namespace Go.MM
open Go Go.DL Go.Proofs
mutual
theorem uG: ∀r:RO, ∀x∈tE r,x.wt≤r.wt
 |.mk k p f n a=>fun x hx=>by
  simp only [tE,List.mem_cons] at hx
  rcases hx with rfl|hx
  ·exact Nat.le_refl _
  ·have:=yV a x hx;simp only [RO.wt];omega
theorem yV: ∀l:List RO, ∀x∈tl l,x.wt≤ti l
 |[]=>fun x hx=>by simp [tl] at hx
 |r::rs=>fun x hx=>by
  simp only [tl,List.mem_append] at hx
  simp only [ti]
  rcases hx with hx|hx
  ·have:=uG r x hx;omega
  ·have:=yV rs x hx;omega
end
end Go.MM
end
section
namespace Go.MM
open Go Go.DL Go.Proofs
theorem yp:Tryz.prog.underlying 23=some (.slice 25):=by kernel_rfl
theorem yq:Tryz.prog.underlying 26=some (.slice 28):=by kernel_rfl
theorem Af:Tryz.prog.cellsOf 3=1:=by kernel_rfl
theorem vd {us:List T} (h:cE Tryz.prog 3 us): ∃n,us=[I n]∧(Lit.int .i64 n).wf=true:=by
 cases h with
 |int h n hw=>rw [Tryz.underlying3] at h;cases h;exact ⟨n,rfl,hw⟩
 |bool h|str h|nil h|slice h|struct h|array h=>rw [Tryz.underlying3] at h;cases h
end Go.MM
end
section
namespace Go.MM
open Go Go.DL Go.Proofs
theorem xL:Tryz.prog.cellsOf 9=1:=by kernel_rfl
theorem FP:Tryz.prog.cellsOf 23=1:=by kernel_rfl
theorem zp:Tryz.prog.cellsOf 25=5:=by kernel_rfl
theorem FQ:Tryz.prog.cellsOf 26=1:=by kernel_rfl
theorem zq:Tryz.prog.cellsOf 28=9:=by kernel_rfl
theorem ML (us:List T):mkT Tryz.prog 25 us= .agg us:=by unfold mkT;rw [Tryz.underlying25]
theorem MN (us:List T):mkT Tryz.prog 28 us= .agg us:=by unfold mkT;rw [Tryz.underlying28]
theorem HW:Tryz.prog.underlying 9=some .string:=by kernel_rfl
theorem xP {us:List T} (h:cE Tryz.prog 9 us): ∃s,us=[.str s]:=by
 cases h with
 |str h s hs=>exact ⟨s,rfl⟩
 |bool h|int h|nil h|slice h|struct h|array h=>rw [HW] at h;cases h
def RdP (us:List T):Prop:= ∃r:RP,dp us (sB r)∧r.nodes≤aV us∧(aV us<2^62→vi r)
def Ke (us:List T):Prop:= ∃rs:List RP,dp us [.slice 5 (rs.map sM)]∧sN rs+1≤aV us∧(aV us<2^62→xg rs)
theorem Ga {xs:List (List T)} (h: ∀x∈xs,RdP x): ∃rs:List RP,rs.length=xs.length∧(∀ (i:Nat) (x:List T) (r:RP),xs[i]? =some x→rs[i]? =some r→dp x (sB r))∧sN rs≤aV (xs.map .agg)∧(aV (xs.map .agg)<2^62→xg rs):=by
 induction xs with
 |nil=>exact ⟨[],rfl,by simp,by simp [sN],fun _=>trivial⟩
 |cons x xs ih=>
  obtain ⟨r,h1,h2,h3⟩:=h x (by simp)
  obtain ⟨rs,k1,k2,k3,k4⟩:=ih fun y hy=>h y (by simp [hy])
  refine ⟨r::rs,by simp [k1],fun i a b ha hb=>?_,?_,fun hb=>?_⟩
  ·cases i with
   |zero=>simp at ha hb;subst ha;subst hb;exact h1
   |succ i=>exact k2 i a b (by simpa using ha) (by simpa using hb)
  ·simp only [sN,List.map_cons,aV,T.bulk];omega
  ·simp only [List.map_cons,aV,T.bulk] at hb
   exact ⟨h3 (by omega),k4 (by omega)⟩
theorem Ab {us:List T} (h:us.length=5): ∃a b c d e,us=[a,b,c,d,e]:=by
 match us,h with
 |[a,b,c,d,e],_=>exact ⟨a,b,c,d,e,rfl⟩
theorem Gb {t:TypeId} {us:List T} (h:cE Tryz.prog t us):(t=25→RdP us)∧(t=23→Ke us):=by
 induction h with
 |bool h b=>exact ⟨fun e=>(by subst e;rw [Tryz.underlying25] at h;cases h),fun e=>(by subst e;rw [yp] at h;cases h)⟩
 |int h n hw=>exact ⟨fun e=>(by subst e;rw [Tryz.underlying25] at h;cases h),fun e=>(by subst e;rw [yp] at h;cases h)⟩
 |str h s hs=>exact ⟨fun e=>(by subst e;rw [Tryz.underlying25] at h;cases h),fun e=>(by subst e;rw [yp] at h;cases h)⟩
 |array h us hl hf ih=>exact ⟨fun e=>(by subst e;rw [Tryz.underlying25] at h;cases h),fun e=>(by subst e;rw [yp] at h;cases h)⟩
 |nil h=>
  refine ⟨fun e=>(by subst e;rw [Tryz.underlying25] at h;cases h),fun e=>?_⟩
  exact ⟨[],.cons (Les.nil 5) rfl .nil,by simp [sN,aV,T.bulk],fun _=>trivial⟩
 |slice h xs hx hl ih=>
  refine ⟨fun e=>(by subst e;rw [Tryz.underlying25] at h;cases h),fun e=>?_⟩
  subst e
  rw [yp] at h
  cases h
  obtain ⟨rs,k1,k2,k3,k4⟩:=Ga (xs:=xs) fun x hm=>(ih x hm).1 rfl
  have em:xs.map (mkT Tryz.prog 25)=xs.map .agg:=List.map_congr_left fun x _=>ML x
  rw [em,zp]
  refine ⟨rs,.cons (Les.slice (by simp [k1]) fun i x y hx hy=>?_) rfl .nil,by simp only [aV,T.bulk];omega,fun hb=>k4 (by simp only [aV,T.bulk] at hb;omega)⟩
  rw [List.getElem?_map] at hx hy
  obtain ⟨x',hx',rfl⟩:=Option.map_eq_some_iff.1 hx
  obtain ⟨r',hr',rfl⟩:=Option.map_eq_some_iff.1 hy
  rw [sG]
  exact ⟨k2 i x' r' hx' hr',sJ r'⟩
 |struct h us hl hf ih=>
  refine ⟨fun e=>?_,fun e=>(by subst e;rw [yp] at h;cases h)⟩
  subst e
  rw [Tryz.underlying25] at h
  cases h
  rw [zp] at hl
  obtain ⟨a,b,c,d,e,rfl⟩:=Ab hl
  have f0:=hf ⟨ "Kind",3,0,false, "", "",0⟩ (by simp)
  have f1:=hf ⟨ "Field",9,1,false, "", "",8⟩ (by simp)
  have f2:=hf ⟨ "N",3,2,false, "", "",24⟩ (by simp)
  have f3:=hf ⟨ "M",3,3,false, "", "",32⟩ (by simp)
  have f4:=(ih ⟨ "Args",23,4,false, "", "",40⟩ (by simp)).2 rfl
  simp only [Af,xL,FP,List.drop,List.take] at f0 f1 f2 f3 f4
  obtain ⟨k,e0,_⟩:=vd f0
  obtain ⟨s,e1⟩:=xP f1
  obtain ⟨n,e2,_⟩:=vd f2
  obtain ⟨m,e3,_⟩:=vd f3
  obtain ⟨rs,g1,g2,g3⟩:=f4
  simp only [List.cons.injEq,and_true] at e0 e1 e2 e3
  subst e0;subst e1;subst e2;subst e3
  refine ⟨.mk k s n m rs,.cons (Les.refl _) rfl (.cons (Les.refl _) rfl (.cons (Les.refl _) rfl (.cons (Les.refl _) rfl g1))),?_,fun hb=>?_⟩
  ·simp only [RP.nodes,aV,T.bulk] at g2 ⊢;omega
  ·simp only [aV,T.bulk] at g3 hb
   exact ⟨by omega,g3 (by omega)⟩
def RdO (us:List T):Prop:= ∃r:RO,dp us (sA r)∧r.wt≤aV us∧(aV us<2^62→uP r)
def Kd (us:List T):Prop:= ∃rs:List RO,dp us [.slice 9 (rs.map sP)]∧ti rs+1≤aV us∧(aV us<2^62→xd rs)
theorem F9 {xs:List (List T)} (h: ∀x∈xs,RdO x): ∃rs:List RO,rs.length=xs.length∧(∀ (i:Nat) (x:List T) (r:RO),xs[i]? =some x→rs[i]? =some r→dp x (sA r))∧ti rs≤aV (xs.map .agg)∧(aV (xs.map .agg)<2^62→xd rs):=by
 induction xs with
 |nil=>exact ⟨[],rfl,by simp,by simp [ti],fun _=>trivial⟩
 |cons x xs ih=>
  obtain ⟨r,h1,h2,h3⟩:=h x (by simp)
  obtain ⟨rs,k1,k2,k3,k4⟩:=ih fun y hy=>h y (by simp [hy])
  refine ⟨r::rs,by simp [k1],fun i a b ha hb=>?_,?_,fun hb=>?_⟩
  ·cases i with
   |zero=>simp at ha hb;subst ha;subst hb;exact h1
   |succ i=>exact k2 i a b (by simpa using ha) (by simpa using hb)
  ·simp only [ti,List.map_cons,aV,T.bulk];omega
  ·simp only [List.map_cons,aV,T.bulk] at hb
   exact ⟨h3 (by omega),k4 (by omega)⟩
theorem IQ {us:List T} (h:us.length=9): ∃a b c d e f g i j,us=[a,b,c,d,e,f,g,i,j]:=by
 match us,h with
 |[a,b,c,d,e,f,g,i,j],_=>exact ⟨a,b,c,d,e,f,g,i,j,rfl⟩
theorem dp.Ka {a b c d e:T} {r:RP} (h:dp [a,b,c,d,e] (sB r)) {x y:T} {xs ys:List T} (k:dp (x::xs) (y::ys)):dp (a::b::c::d::e::x::xs) (sB r++y::ys):=dp.append h k
theorem Ea {t:TypeId} {us:List T} (h:cE Tryz.prog t us):(t=28→RdO us)∧(t=26→Kd us):=by
 induction h with
 |bool h b=>exact ⟨fun e=>(by subst e;rw [Tryz.underlying28] at h;cases h),fun e=>(by subst e;rw [yq] at h;cases h)⟩
 |int h n hw=>exact ⟨fun e=>(by subst e;rw [Tryz.underlying28] at h;cases h),fun e=>(by subst e;rw [yq] at h;cases h)⟩
 |str h s hs=>exact ⟨fun e=>(by subst e;rw [Tryz.underlying28] at h;cases h),fun e=>(by subst e;rw [yq] at h;cases h)⟩
 |array h us hl hf ih=>exact ⟨fun e=>(by subst e;rw [Tryz.underlying28] at h;cases h),fun e=>(by subst e;rw [yq] at h;cases h)⟩
 |nil h=>
  refine ⟨fun e=>(by subst e;rw [Tryz.underlying28] at h;cases h),fun e=>?_⟩
  exact ⟨[],.cons (Les.nil 9) rfl .nil,by simp [ti,aV,T.bulk],fun _=>trivial⟩
 |slice h xs hx hl ih=>
  refine ⟨fun e=>(by subst e;rw [Tryz.underlying28] at h;cases h),fun e=>?_⟩
  subst e
  rw [yq] at h
  cases h
  obtain ⟨rs,k1,k2,k3,k4⟩:=F9 (xs:=xs) fun x hm=>(ih x hm).1 rfl
  have em:xs.map (mkT Tryz.prog 28)=xs.map .agg:=List.map_congr_left fun x _=>MN x
  rw [em,zq]
  refine ⟨rs,.cons (Les.slice (by simp [k1]) fun i x y hx hy=>?_) rfl .nil,by simp only [aV,T.bulk];omega,fun hb=>k4 (by simp only [aV,T.bulk] at hb;omega)⟩
  rw [List.getElem?_map] at hx hy
  obtain ⟨x',hx',rfl⟩:=Option.map_eq_some_iff.1 hx
  obtain ⟨r',hr',rfl⟩:=Option.map_eq_some_iff.1 hy
  rw [sL]
  exact ⟨k2 i x' r' hx' hr',sE r'⟩
 |struct h us hl hf ih=>
  refine ⟨fun e=>?_,fun e=>(by subst e;rw [yq] at h;cases h)⟩
  subst e
  rw [Tryz.underlying28] at h
  cases h
  rw [zq] at hl
  obtain ⟨a,b,c,d,e,f,g,i,j,rfl⟩:=IQ hl
  have f0:=hf ⟨ "Kind",3,0,false, "", "",0⟩ (by simp)
  have f1:=(Gb (hf ⟨ "Pred",25,1,false, "", "",8⟩ (by simp))).1 rfl
  have f2:=hf ⟨ "Field",9,6,false, "", "",72⟩ (by simp)
  have f3:=hf ⟨ "N",3,7,false, "", "",88⟩ (by simp)
  have f4:=(ih ⟨ "Args",26,8,false, "", "",96⟩ (by simp)).2 rfl
  simp only [Af,xL,zp,FQ,List.drop,List.take] at f0 f1 f2 f3 f4
  obtain ⟨k,e0,_⟩:=vd f0
  obtain ⟨p,p1,p2,p3⟩:=f1
  obtain ⟨s,e1⟩:=xP f2
  obtain ⟨n,e2,_⟩:=vd f3
  obtain ⟨rs,g1,g2,g3⟩:=f4
  simp only [List.cons.injEq,and_true] at e0 e1 e2
  subst e0;subst e1;subst e2
  refine ⟨.mk k p s n rs,.cons (Les.refl _) rfl (dp.Ka p1 (.cons (Les.refl _) rfl (.cons (Les.refl _) rfl g1))),?_,fun hb=>?_⟩
  ·simp only [RO.wt,aV,T.bulk] at p2 g2 ⊢;omega
  ·simp only [aV,T.bulk] at p3 g3 hb
   exact ⟨p3 (by omega),by omega,g3 (by omega)⟩
end Go.MM
end
section
namespace Go.TY
instance memBA (a : ByteArray) (l : List ByteArray) : Decidable (a ∈ l) := @List.instDecidableMemOfLawfulBEq ByteArray instBEqOfDecidableEq inferInstance a l
structure Lin {α:Type} (lt:α→α→Bool):Prop where
 irr: ∀a,lt a a=false
 tr: ∀a b c,lt a b=true→lt b c=true→lt a c=true
 tot: ∀a b,lt a b=false→lt b a=false→a=b
section
variable {α:Type} {lt:α→α→Bool}
theorem Lin.ne (h:Lin lt) {a b:α} (hl:lt a b=true):a≠b:=fun e=>by
 subst e;rw [h.irr] at hl;cases hl
theorem Lin.asym (h:Lin lt) {a b:α} (hl:lt a b=true):lt b a=false:=by
 cases e:lt b a with
 |false=>rfl
 |true=>have:=h.tr _ _ _ hl e;rw [h.irr] at this;cases this
variable [DecidableEq α]
def put (lt:α→α→Bool):List α→α→List α
 |[],s=>[s]
 |x::xs,s=>if lt x s=true then x::put lt xs s else s::(x::xs).filter fun y=> !decide (y=s)
def Inc (lt:α→α→Bool) (l:List α):Prop:=l.Pairwise fun a b=>lt a b=true
theorem BK {l:List α} {s x:α}:x∈put lt l s↔x=s∨x∈l:=by
 induction l with
 |nil=>simp [put]
 |cons y ys ih=>
  unfold put
  by_cases hl:lt y s=true
  ·rw [if_pos hl,List.mem_cons,ih,List.mem_cons]
   exact ⟨fun h=>by rcases h with h|h|h <;> simp [h],fun h=>by rcases h with h|h|h <;> simp [h]⟩
  ·rw [if_neg hl,List.mem_cons,List.mem_filter]
   by_cases hx:x=s
   ·simp [hx]
   ·simp [hx]
theorem Inc.put (h:Lin lt) {l:List α} (hl:Inc lt l) (s:α):Inc lt (put lt l s):=by
 induction l with
 |nil=>simp [TY.put,Inc]
 |cons y ys ih=>
  have h2:=List.pairwise_cons.1 hl
  unfold TY.put
  by_cases hys:lt y s=true
  ·rw [if_pos hys]
   refine List.pairwise_cons.2 ⟨fun z hz=>?_,ih h2.2⟩
   rcases BK.1 hz with rfl|hz
   ·exact hys
   ·exact h2.1 z hz
  ·rw [if_neg hys]
   have hys':lt y s=false:=by simpa using hys
   refine List.pairwise_cons.2 ⟨fun z hz=>?_,hl.filter _⟩
   obtain ⟨h3,h4⟩:=List.mem_filter.1 hz
   have hzs:z≠s:=by simpa using h4
   cases e:lt s z with
   |true=>rfl
   |false=>
    exfalso
    cases e2:lt z s with
    |false=>exact hzs (h.tot _ _ e2 e)
    |true=>
     rcases List.mem_cons.1 h3 with rfl|h3
     ·rw [hys'] at e2;cases e2
     ·have:=h.tr _ _ _ (h2.1 z h3) e2
      rw [hys'] at this;cases this
theorem Inc.ext (h:Lin lt): ∀{a b:List α},Inc lt a→Inc lt b→(∀ x,x∈a↔x∈b)→a=b
 |[],[],_,_,_=>rfl
 |[],y::ys,_,_,hm=>by have:=(hm y).2 (by simp);simp at this
 |x::xs,[],_,_,hm=>by have:=(hm x).1 (by simp);simp at this
 |x::xs,y::ys,ha,hb,hm=>by
  have h1:=List.pairwise_cons.1 ha
  have h2:=List.pairwise_cons.1 hb
  have e:x=y:=by
   by_cases e:x=y
   ·exact e
   ·exfalso
    have hx:x∈ys:=by have:=(hm x).1 (by simp);simpa [e] using this
    have hy:y∈xs:=by have:=(hm y).2 (by simp);simpa [show ¬y=x from fun h=>e h.symm] using this
    have l1:=h1.1 y hy
    have l2:=h2.1 x hx
    rw [h.asym l1] at l2;cases l2
  subst e
  rw [Inc.ext h h1.2 h2.2 fun z=>?_]
  have:=hm z
  simp only [List.mem_cons] at this
  by_cases e:z=x
  ·subst e
   exact ⟨fun hz=>absurd rfl (h.ne (h1.1 z hz)),fun hz=>absurd rfl (h.ne (h2.1 z hz))⟩
  ·simpa [e] using this
def tu (lt:α→α→Bool) (l:List α):List α:=l.foldl (put lt) []
theorem Bx {l:List α}: ∀{acc:List α} {x:α},x∈l.foldl (put lt) acc↔x∈acc∨x∈l:=by
 induction l with
 |nil=>simp
 |cons y ys ih=>
  intro acc x
  rw [List.foldl_cons,ih,BK,List.mem_cons]
  exact ⟨fun h=>by rcases h with (h|h)|h <;> simp [h],fun h=>by rcases h with h|h|h <;> simp [h]⟩
theorem wq {l:List α} {x:α}:x∈tu lt l↔x∈l:=by simp [tu,Bx]
theorem Bu (h:Lin lt) {l:List α}: ∀{acc:List α},Inc lt acc→Inc lt (l.foldl (put lt) acc):=by
 induction l with
 |nil=>exact fun h=>h
 |cons y ys ih=>intro acc ha;exact ih (ha.put h y)
theorem xC (h:Lin lt) (l:List α):Inc lt (tu lt l):=Bu h List.Pairwise.nil
theorem wO (h:Lin lt) {a b:List α} (hm: ∀x,x∈a↔x∈b):tu lt a=tu lt b:=
 Inc.ext h (xC h a) (xC h b) fun x=>by rw [wq,wq,hm]
theorem zT {a b:List α}:tu lt (a++b)=b.foldl (put lt) (tu lt a):=by simp [tu,List.foldl_append]
def once:List α→List α→List α
 |acc,[]=>acc
 |acc,x::xs=>once (if x∈acc then acc else acc++[x]) xs
theorem vA: ∀{l acc:List α} {x:α},x∈once acc l↔x∈acc∨x∈l
 |[],acc,x=>by simp [once]
 |y::ys,acc,x=>by
  unfold once
  rw [vA,List.mem_cons]
  by_cases h:y∈acc
  ·rw [if_pos h]
   exact ⟨fun h=>by rcases h with h|h <;> simp [h],fun k=>by rcases k with k|rfl|k <;> simp [*]⟩
  ·rw [if_neg h]
   simp [or_assoc]
theorem uK: ∀{l acc:List α},acc.Nodup→(once acc l).Nodup
 |[],_,h=>h
 |y::ys,acc,h=>by
  unfold once
  refine uK ?_
  by_cases hc:y∈acc
  ·rw [if_pos hc];exact h
  ·rw [if_neg hc]
   refine List.nodup_append.2 ⟨h,by simp,fun a ha b hb e=>hc ?_⟩
   rw [List.mem_singleton.1 hb] at e
   subst e
   exact ha
theorem yB (h:Lin lt) {a zs:List α} (hn:zs.Nodup) (hs:zs.Pairwise fun x y=>lt y x=false) (hm: ∀x,x∈zs↔x∈a):zs=tu lt a:=by
 refine Inc.ext h ?_ (xC h a) fun x=>by rw [hm,wq]
 refine (hs.and (List.nodup_iff_pairwise_ne.1 hn)).imp fun {x y} hxy=>?_
 cases e:lt x y with
 |true=>rfl
 |false=>exact absurd (h.tot _ _ e hxy.1) hxy.2
end
def ltI (a b:Int):Bool:=decide (a<b)
theorem Ch:Lin ltI where
 irr:=fun a=>by simp [ltI]
 tr:=fun a b c h k=>by simp only [ltI,decide_eq_true_eq] at *;omega
 tot:=fun a b h k=>by simp only [ltI,decide_eq_false_iff_not] at *;omega
def ltS (a b:ByteArray):Bool:=Op.bytesLess a.toList b.toList
theorem zI {a b:ByteArray} (h:a.toList=b.toList):a=b:=by
 rw [ByteArray.toList_eq,ByteArray.toList_eq] at h
 exact ByteArray.ext (Array.ext' h)
theorem Av:Lin ltS where
 irr:=fun a=>by simp [ltS,Go.Proofs.bytesLess_eq]
 tr:=fun a b c h k=>by
  simp only [ltS,Go.Proofs.bytesLess_eq,decide_eq_true_eq] at *
  exact List.lt_trans h k
 tot:=fun a b h k=>by
  simp only [ltS,Go.Proofs.bytesLess_eq,decide_eq_false_iff_not,List.not_lt] at *
  exact zI (List.le_antisymm k h)
end Go.TY
end
section
namespace Go.TY
open Go Go.DL Go.MM
abbrev Fd:=Go.MM.Fd
structure RS where
 kind:Int
 var:ByteArray
 key:List ByteArray
 field:ByteArray
 n:Int
 m:Int
def sK (s:RS):List T:=[I s.kind,.str s.var,.slice 1 (s.key.map .str),.str s.field,I s.n,I s.m]
structure RV where
 name:ByteArray
 fam:Int
 ws:List Int
 n:Int
 m:Int
 deriving DecidableEq
def vU (v:RV):List T:=[.str v.name,I v.fam,.slice 1 (v.ws.map I),I v.n,I v.m]
def sV (v:RV):T:=.agg (vU v)
def RS.own (s:RS):Bool:=s.kind==4||s.kind==6
def tT (k:Int):Int:=if k=1 then 1 else if k=2∨k=3 then 2 else if k=4∨k=5 then 3 else 4
def sZ (l:List Fd) (s:RS):List Int:=s.key.map fun k=>((fld l k).w:Int)
def vOf (l:List Fd) (s:RS):RV:=⟨s.var,tT s.kind,sZ l s,if s.own then s.n else 0,if s.own then s.m else 0⟩
def vT (l:List Fd) (s t:RS):Bool:= !(s.own&&t.own&&((s.n !=t.n)||(s.m !=t.m)))&&((sZ l s==sZ l t)&&(tT s.kind==tT t.kind))
theorem ud {l:List Fd} {s t:RS}:vT l s t=true↔(s.own=true→t.own=true→s.n=t.n∧s.m=t.m)∧sZ l s=sZ l t∧tT s.kind=tT t.kind:=by
 unfold vT
 cases h1:s.own <;> cases h2:t.own <;> simp
theorem Bp {l:List Fd} (s:RS):vT l s s=true:=by rw [ud];simp
theorem Bq {l:List Fd} {s t:RS} (h:vT l s t=true):vT l t s=true:=by
 rw [ud] at *
 exact ⟨fun a b=>⟨(h.1 b a).1.symm,(h.1 b a).2.symm⟩,h.2.1.symm,h.2.2.symm⟩
def PW (l:List Fd) (ss:List RS):Prop:=ss.Pairwise fun s t=>s.var=t.var→vT l s t=true
theorem PW.all {l:List Fd} {ss:List RS} (h:PW l ss): ∀s∈ss, ∀t∈ss,s.var=t.var→vT l s t=true:=by
 induction ss with
 |nil=>intro s hs;simp at hs
 |cons x xs ih=>
  have h2:=List.pairwise_cons.1 h
  intro s hs t ht e
  rcases List.mem_cons.1 hs with e1|hs'
  ·rcases List.mem_cons.1 ht with e2|ht'
   ·rw [e1,e2];exact Bp _
   ·subst e1;exact h2.1 t ht' e
  ·rcases List.mem_cons.1 ht with e2|ht'
   ·subst e2;exact Bq (h2.1 s hs' e.symm)
   ·exact ih h2.2 s hs' t ht' e
theorem BF {l:List Fd} {ss:List RS} {t:RS}:PW l (ss++[t])↔PW l ss∧ ∀s∈ss,s.var=t.var→vT l s t=true:=by
 unfold PW
 rw [List.pairwise_append]
 exact ⟨fun h=>⟨h.1,fun s hs=>h.2.2 s hs t (by simp)⟩,fun h=>⟨h.1,by simp,fun a ha b hb=>by rw [List.mem_singleton.1 hb];exact h.2 a ha⟩⟩
def tk (ss:List RS) (name:ByteArray):Option RS:=ss.find? fun s=>decide (s.var=name)&&s.own
def wc (l:List Fd) (ss:List RS) (name:ByteArray):Option RV:=match ss.find? fun s=>decide (s.var=name) with
 |none=>none
 |some s=>some ⟨name,tT s.kind,sZ l s,((tk ss name).map (·.n)).getD 0,((tk ss name).map (·.m)).getD 0⟩
structure VS where
 all:List RV
 num:List (ByteArray×Bool)
def tc (all:List RV) (name:ByteArray):Option RV:=all.find? fun v=>decide (v.name=name)
def uH (v:RV):List RV→List RV
 |[]=>[v]
 |x::xs=>if x.name=v.name then v::xs else x::uH v xs
def tZ (num:List (ByteArray×Bool)) (name:ByteArray):Option Bool:=(num.find? fun p=>decide (p.1=name)).map (·.2)
def w9 (name:ByteArray) (b:Bool):List (ByteArray×Bool)→List (ByteArray×Bool)
 |[]=>[(name,b)]
 |x::xs=>if x.1=name then (name,b)::xs else x::w9 name b xs
theorem wN {v:RV} {all:List RV} {name:ByteArray}:tc (uH v all) name=if v.name=name then some v else tc all name:=by
 induction all with
 |nil=>unfold uH tc;by_cases h:v.name=name <;> simp [h]
 |cons x xs ih=>
  unfold uH
  by_cases hx:x.name=v.name
  ·rw [if_pos hx]
   unfold tc
   by_cases h:v.name=name
   ·simp [h]
   ·have: ¬x.name=name:=fun e=>h (hx.symm.trans e)
    simp [h,this]
  ·rw [if_neg hx]
   unfold tc at ih ⊢
   rw [List.find?_cons,List.find?_cons,ih]
   by_cases h:x.name=name
   ·have: ¬v.name=name:=fun e=>hx (h.trans e.symm)
    simp [h,this]
   ·simp [h]
theorem Db {n:ByteArray} {b:Bool} {num:List (ByteArray×Bool)} {name:ByteArray}:tZ (w9 n b num) name=if n=name then some b else tZ num name:=by
 induction num with
 |nil=>unfold w9 tZ;by_cases h:n=name <;> simp [h]
 |cons x xs ih=>
  unfold w9
  by_cases hx:x.1=n
  ·rw [if_pos hx]
   unfold tZ
   by_cases h:n=name
   ·simp [h]
   ·have: ¬x.1=name:=fun e=>h (hx.symm.trans e)
    simp [h,this]
  ·rw [if_neg hx]
   unfold tZ at ih ⊢
   rw [List.find?_cons,List.find?_cons]
   by_cases h:x.1=name
   ·have: ¬n=name:=fun e=>hx (h.trans e.symm)
    simp [h,this]
   ·simp only [h,decide_false];exact ih
theorem yZ {v:RV} {all:List RV}:(uH v all).map (·.name)=if v.name∈all.map (·.name) then all.map (·.name) else all.map (·.name)++[v.name]:=by
 induction all with
 |nil=>simp [uH]
 |cons x xs ih=>
  unfold uH
  by_cases hx:x.name=v.name
  ·rw [if_pos hx,if_pos (by rw [List.map_cons,hx];exact List.mem_cons_self)];simp [hx]
  ·rw [if_neg hx,List.map_cons,ih,List.map_cons]
   by_cases hm:v.name∈xs.map (·.name)
   ·rw [if_pos hm,if_pos (List.mem_cons_of_mem _ hm)]
   ·rw [if_neg hm,if_neg (fun h=>by
     rcases List.mem_cons.1 h with h|h
     ·exact hx h.symm
     ·exact hm h)]
    rfl
def uS (l:List Fd) (st:VS) (s:RS):Option VS:=
 let num:=w9 s.var (((tZ st.num s.var).getD false)||s.own) st.num
 match tc st.all s.var with
 |none=>some ⟨uH (vOf l s) st.all,num⟩
 |some old=>if (old.fam !=tT s.kind)|| !(old.ws==sZ l s)||(s.own&&((tZ st.num s.var).getD false)&&((old.n !=s.n)||(old.m !=s.m))) then none
  else some ⟨if s.own then uH (vOf l s) st.all else st.all,num⟩
def uh (l:List Fd):VS→List RS→Option VS
 |st,[]=>some st
 |st,s::ss=>(uS l st s).bind fun st=>uh l st ss
structure xt (l:List Fd) (ss:List RS) (st:VS):Prop where
 pw:PW l ss
 look: ∀name,tc st.all name=wc l ss name
 num: ∀name,(tZ st.num name).getD false=(tk ss name).isSome
 names:st.all.map (·.name)=once [] (ss.map (·.var))
theorem uZ {α:Type} [DecidableEq α]: ∀{xs acc:List α} {y:α},once acc (xs++[y])=(if y∈once acc xs then once acc xs else once acc xs++[y])
 |[],acc,y=>rfl
 |x::xs,acc,y=>by
  rw [List.cons_append]
  unfold once
  exact uZ
theorem uF {α:Type} {p:α→Bool} {ss:List α} {t:α}:(ss++[t]).find? p=match ss.find? p with
  |some s=>some s
  |none=>if p t=true then some t else none:=by
 rw [List.find?_append]
 cases ss.find? p with
 |some s=>rfl
 |none=>simp [List.find?_cons];cases p t <;> rfl
theorem xt.step {l:List Fd} {ss:List RS} {st:VS} (h:xt l ss st) (t:RS):
  (PW l (ss++[t])→ ∃st',uS l st t=some st'∧xt l (ss++[t]) st')∧(¬ PW l (ss++[t])→uS l st t=none):=by
 have hl:=h.look t.var
 have hn:=h.num t.var
 have hsome: ∀s0,ss.find? (fun s=>decide (s.var=t.var))=some s0→s0∈ss∧s0.var=t.var:=fun s0 h0=>⟨List.mem_of_find?_eq_some h0,by simpa using List.find?_some h0⟩
 have hown: ∀s1,tk ss t.var=some s1→s1∈ss∧s1.var=t.var∧s1.own=true:=fun s1 h1=>⟨List.mem_of_find?_eq_some h1,by simpa using List.find?_some h1⟩
 have hpw:=h.pw.all
 have lookO: ∀(x:List RV) name, ¬t.var=name→tc x name=tc st.all name→tc x name=wc l (ss++[t]) name:=fun x name hne hx=>by
  rw [hx,h.look name]
  unfold wc tk
  rw [uF,uF]
  simp only [hne,decide_false,Bool.false_and]
  cases ss.find? fun s=>decide (s.var=name) with
  |none=>rfl
  |some s=>simp only;cases ss.find? fun s=>decide (s.var=name)&&s.own <;> rfl
 have numI: ∀name,(tZ (w9 t.var (((tZ st.num t.var).getD false)||t.own) st.num) name).getD false=(tk (ss++[t]) name).isSome:=fun name=>by
  rw [Db]
  unfold tk
  rw [uF]
  by_cases hne:t.var=name
  ·subst hne
   rw [if_pos rfl,Option.getD_some,hn]
   unfold tk
   cases ss.find? fun s=>decide (s.var=t.var)&&s.own with
   |some s=>simp
   |none=>cases ho:t.own <;> simp []
  ·rw [if_neg hne,h.num name]
   unfold tk
   simp only [hne,decide_false,Bool.false_and]
   cases ss.find? fun s=>decide (s.var=name)&&s.own <;> rfl
 unfold uS
 dsimp only
 cases hf:ss.find? (fun s=>decide (s.var=t.var)) with
 |none=>
  have hno: ∀s∈ss, ¬s.var=t.var:=fun s hs=>by
   have:=List.find?_eq_none.1 hf s hs;simpa using this
  have hlk:tc st.all t.var=none:=by rw [hl];unfold wc;rw [hf]
  rw [hlk]
  have hp2:PW l (ss++[t]):=BF.2 ⟨h.pw,fun s hs e=>absurd e (hno s hs)⟩
  refine ⟨fun _=>⟨_,rfl,hp2,fun name=>?_,numI,?_⟩,fun hc=>absurd hp2 hc⟩
  ·by_cases hne:t.var=name
   ·subst hne
    rw [wN]
    have h0:tk ss t.var=none:=by
     unfold tk
     rw [List.find?_eq_none]
     intro s hs;simp [hno s hs]
    unfold wc
    rw [uF,hf]
    have:(vOf l t).name=t.var:=rfl
    rw [if_pos this]
    simp only [decide_true,if_true]
    unfold tk at h0 ⊢
    rw [uF,h0]
    simp only [decide_true,Bool.true_and,vOf]
    cases t.own <;> rfl
   ·refine lookO _ name hne ?_
    rw [wN]
    exact if_neg hne
  ·show (uH (vOf l t) st.all).map (·.name)=_
   rw [yZ,h.names,List.map_append,List.map_cons,List.map_nil,uZ]
   rfl
 |some s0=>
  obtain ⟨m0,v0⟩:=hsome s0 hf
  have hlk:tc st.all t.var=some ⟨t.var,tT s0.kind,sZ l s0,((tk ss t.var).map (·.n)).getD 0,((tk ss t.var).map (·.m)).getD 0⟩:=by rw [hl];unfold wc;rw [hf]
  rw [hlk]
  dsimp only
  have key:PW l (ss++[t])↔(tT s0.kind=tT t.kind∧sZ l s0=sZ l t)∧(t.own=true→ ∀s1,tk ss t.var=some s1→s1.n=t.n∧s1.m=t.m):=by
   rw [BF]
   constructor
   ·rintro ⟨_,ha⟩
    have h0:=ud.1 (ha s0 m0 v0)
    exact ⟨⟨h0.2.2,h0.2.1⟩,fun ho s1 h1=>by
     obtain ⟨k1,k2,k3⟩:=hown s1 h1
     exact (ud.1 (ha s1 k1 k2)).1 k3 ho⟩
   ·rintro ⟨⟨f1,f2⟩,f3⟩
    refine ⟨h.pw,fun s hs e=>ud.2 ⟨fun hso hto=>?_,?_,?_⟩⟩
    ·have:(tk ss t.var).isSome=true:=by
      unfold tk
      rw [List.find?_isSome]
      exact ⟨s,hs,by simp [e,hso]⟩
     obtain ⟨s1,h1⟩:=Option.isSome_iff_exists.1 this
     obtain ⟨k1,k2,k3⟩:=hown s1 h1
     have h4:=(ud.1 (hpw s hs s1 k1 (e.trans k2.symm))).1 hso k3
     have h5:=f3 hto s1 h1
     exact ⟨h4.1.trans h5.1,h4.2.trans h5.2⟩
    ·exact (ud.1 (hpw s hs s0 m0 (e.trans v0.symm))).2.1.trans f2
    ·exact (ud.1 (hpw s hs s0 m0 (e.trans v0.symm))).2.2.trans f1
  have cond:((tT s0.kind !=tT t.kind)|| !(sZ l s0==sZ l t)||(t.own&&((tZ st.num t.var).getD false)&&((((tk ss t.var).map (·.n)).getD 0 !=t.n)||(((tk ss t.var).map (·.m)).getD 0 !=t.m))))=true↔ ¬PW l (ss++[t]):=by
   rw [key,hn]
   cases ho:tk ss t.var with
   |none=>simp;exact ⟨fun h=>by rcases h with h|h <;> simp [h],fun h=>by
     by_cases e:tT s0.kind=tT t.kind
     ·exact Or.inr (h e)
     ·exact Or.inl e⟩
   |some s1=>
    simp only [Option.map_some,Option.getD_some,Option.isSome_some,Bool.and_true,Bool.or_eq_true,Bool.and_eq_true,bne_iff_ne,ne_eq,Bool.not_eq_true',beq_eq_false_iff_ne,Option.some.injEq]
    constructor
    ·rintro ((h|h)|⟨h1,h2⟩) ⟨⟨k1,k2⟩,k3⟩
     ·exact h k1
     ·exact h k2
     ·have:=k3 h1 s1 rfl
      rcases h2 with h2|h2
      ·exact h2 this.1
      ·exact h2 this.2
    ·intro hn'
     by_cases e1:tT s0.kind=tT t.kind
     ·by_cases e2:sZ l s0=sZ l t
      ·by_cases e3:t.own=true
       ·refine Or.inr ⟨e3,?_⟩
        by_cases e4:s1.n=t.n
        ·refine Or.inr fun e5=>hn' ⟨⟨e1,e2⟩,fun _ s h=>by rw [← h];exact ⟨e4,e5⟩⟩
        ·exact Or.inl e4
       ·exact absurd ⟨⟨e1,e2⟩,fun h=>absurd h e3⟩ hn'
      ·exact Or.inl (Or.inr e2)
     ·exact Or.inl (Or.inl e1)
  constructor
  ·intro hp
   rw [if_neg (fun hc=>cond.1 hc hp)]
   obtain ⟨⟨f1,f2⟩,f3⟩:=key.1 hp
   refine ⟨_,rfl,hp,fun name=>?_,numI,?_⟩
   ·by_cases hne:t.var=name
    ·subst hne
     have hs:wc l (ss++[t]) t.var=some ⟨t.var,tT s0.kind,sZ l s0,((tk (ss++[t]) t.var).map (·.n)).getD 0,((tk (ss++[t]) t.var).map (·.m)).getD 0⟩:=by
      unfold wc
      rw [uF,hf]
     have ho:tk (ss++[t]) t.var=match tk ss t.var with
       |some s=>some s
       |none=>if t.own=true then some t else none:=by
      unfold tk
      rw [uF]
      simp only [decide_true,Bool.true_and]
      cases ss.find? fun s=>decide (s.var=t.var)&&s.own <;> rfl
     rw [hs,ho]
     show tc (if t.own=true then uH (vOf l t) st.all else st.all) t.var=_
     cases hto:t.own with
     |false=>
      simp only [Bool.false_eq_true,if_false]
      rw [hlk]
      cases tk ss t.var <;> rfl
     |true=>
      simp only [if_true]
      rw [wN,if_pos (show (vOf l t).name=t.var from rfl)]
      unfold vOf
      rw [hto,f1,f2]
      cases ho2:tk ss t.var with
      |none=>rfl
      |some s1=>
       obtain ⟨k1,k2⟩:=f3 hto s1 ho2
       simp [k1,k2]
    ·refine lookO _ name hne ?_
     show tc (if t.own=true then uH (vOf l t) st.all else st.all) name=_
     cases t.own with
     |false=>rfl
     |true=>
      simp only [if_true]
      rw [wN]
      exact if_neg hne
   ·show (if t.own=true then uH (vOf l t) st.all else st.all).map (·.name)=_
    have hc:t.var∈once [] (ss.map (·.var)):=by
     rw [vA]
     exact Or.inr (List.mem_map.2 ⟨s0,m0,v0⟩)
    rw [List.map_append,List.map_cons,List.map_nil,uZ,if_pos hc]
    cases t.own with
    |false=>exact h.names
    |true=>
     simp only [if_true]
     rw [yZ,h.names]
     exact if_pos (show (vOf l t).name∈_ from hc)
  ·intro hp
   rw [if_pos (cond.2 hp)]
theorem zj {l:List Fd}: ∀{ts ss:List RS} {st:VS},xt l ss st→(PW l (ss++ts)→ ∃st',uh l st ts=some st'∧xt l (ss++ts) st')∧(¬ PW l (ss++ts)→uh l st ts=none)
 |[],ss,st,h=>by
  rw [List.append_nil]
  exact ⟨fun _=>⟨st,rfl,h⟩,fun hn=>absurd h.pw hn⟩
 |t::ts,ss,st,h=>by
  have hs:=h.step t
  have e:ss++t::ts=(ss++[t])++ts:=by simp
  rw [e]
  by_cases hp:PW l (ss++[t])
  ·obtain ⟨st',h1,h2⟩:=hs.1 hp
   have:=zj (ts:=ts) h2
   unfold uh
   rw [h1,Option.bind_some]
   exact this
  ·have hnp: ¬PW l ((ss++[t])++ts):=fun hq=>hp (List.Pairwise.sublist (List.sublist_append_left _ _) hq)
   refine ⟨fun hq=>absurd hq hnp,fun _=>?_⟩
   unfold uh
   rw [hs.2 hp];rfl
theorem xt.start {l:List Fd}:xt l [] ⟨[],[]⟩:=⟨List.Pairwise.nil,fun _=>rfl,fun _=>rfl,rfl⟩
def tq (ss:List RS):List RS:=ss.filter fun s=>s.kind !=0
end Go.TY
end
section
namespace Go.TY
open Go Go.DL Go.MM Go.Proofs
structure RG where
 pol:RO
 st:RS
def sD (g:RG):List T:=sA g.pol++sK g.st
def sF (g:RG):T:=.agg (sD g)
theorem sI (g:RG):(sD g).length=15:=by simp [sD,sE,sK]
structure SmS (B:Nat) (s:RS):Prop where
 var:s.var.size<B
 field:s.field.size<B
 keys: ∀k∈s.key,k.size<B
 len:s.key.length<B
theorem SmS.mono {B B':Nat} {s:RS} (h:SmS B s) (hb:B≤B'):SmS B' s:=⟨by have:=h.var;omega,by have:=h.field;omega,fun k hk=>by have:=h.keys k hk;omega,by have:=h.len;omega⟩
structure SmG (B:Nat) (g:RG):Prop where
 st:SmS B g.st
 wt:g.pol.wt≤B
 names:B≤2^61→uP g.pol
theorem BY:Tryz.prog.underlying 29=some (.slice 9):=by kernel_rfl
theorem zH:Tryz.prog.underlying 56=some (.slice 61):=by kernel_rfl
theorem C8:Tryz.prog.cellsOf 29=1:=by kernel_rfl
theorem zJ:Tryz.prog.cellsOf 31=6:=by kernel_rfl
theorem yO:Tryz.prog.cellsOf 61=15:=by kernel_rfl
theorem F5 (us:List T):mkT Tryz.prog 61 us= .agg us:=by unfold mkT;rw [Tryz.underlying61]
theorem mkStr (t:T):mkT Tryz.prog 9 [t]=t:=by unfold mkT;rw [HW];rfl
theorem Ge {us:List T} (h:cE Tryz.prog 29 us): ∃l:List ByteArray,dp us [.slice 1 (l.map .str)]∧l.length+1≤aV us∧ ∀s∈l,s.size<aV us:=by
 cases h with
 |nil h=>exact ⟨[],.cons (Les.nil 1) rfl .nil,by simp [aV,T.bulk],by simp⟩
 |slice h xs hx hl=>
  rw [BY] at h
  cases h
  rw [xL]
  have key: ∃l:List ByteArray,xs.map (mkT Tryz.prog 9)=l.map .str∧l.length≤aV (xs.map (mkT Tryz.prog 9))∧ ∀s∈l,s.size<aV (xs.map (mkT Tryz.prog 9)):=by
   clear hl
   induction xs with
   |nil=>exact ⟨[],rfl,by simp,by simp⟩
   |cons x xs ih=>
    obtain ⟨s,rfl⟩:=xP (hx x (by simp))
    obtain ⟨l,k1,k2,k3⟩:=ih fun y hy=>hx y (by simp [hy])
    refine ⟨s::l,by simp only [List.map_cons,k1,mkStr],?_,fun z hz=>?_⟩
    ·simp only [List.map_cons,aV,mkStr,T.bulk,List.length_cons];omega
    ·simp only [List.map_cons,aV,mkStr,T.bulk]
     rcases List.mem_cons.1 hz with rfl|hz
     ·omega
     ·have:=k3 z hz;omega
  obtain ⟨l,k1,k2,k3⟩:=key
  refine ⟨l,by rw [← k1];exact .cons (Les.refl _) rfl .nil,by simp only [aV,T.bulk];omega,fun s hs=>by simp only [aV,T.bulk];have:=k3 s hs;omega⟩
 |int h|bool h|str h|array h|struct h=>rw [BY] at h;cases h
theorem IP {us:List T} (h:us.length=6): ∃a b c d e f,us=[a,b,c,d,e,f]:=by
 match us,h with
 |[a,b,c,d,e,f],_=>exact ⟨a,b,c,d,e,f,rfl⟩
theorem Gd {us:List T} (h:cE Tryz.prog 31 us): ∃s:RS,dp us (sK s)∧SmS (aV us) s:=by
 cases h with
 |struct h us hl hf=>
  rw [Tryz.underlying31] at h
  cases h
  rw [zJ] at hl
  obtain ⟨a,b,c,d,e,f,rfl⟩:=IP hl
  have f0:=hf ⟨ "Kind",3,0,false, "", "",0⟩ (by simp)
  have f1:=hf ⟨ "Var",9,1,false, "", "",8⟩ (by simp)
  have f2:=hf ⟨ "Key",29,2,false, "", "",24⟩ (by simp)
  have f3:=hf ⟨ "Field",9,3,false, "", "",48⟩ (by simp)
  have f4:=hf ⟨ "N",3,4,false, "", "",64⟩ (by simp)
  have f5:=hf ⟨ "M",3,5,false, "", "",72⟩ (by simp)
  simp only [Af,xL,C8,List.drop,List.take] at f0 f1 f2 f3 f4 f5
  obtain ⟨k,e0,_⟩:=vd f0
  obtain ⟨v,e1⟩:=xP f1
  obtain ⟨l,g1,g2,g3⟩:=Ge f2
  obtain ⟨s,e3⟩:=xP f3
  obtain ⟨n,e4,_⟩:=vd f4
  obtain ⟨m,e5,_⟩:=vd f5
  simp only [List.cons.injEq,and_true] at e0 e1 e3 e4 e5
  subst e0;subst e1;subst e3;subst e4;subst e5
  refine ⟨⟨k,v,l,s,n,m⟩,.cons (Les.refl _) rfl (.cons (Les.refl _) rfl (dp.append (us:=[T.slice 1 (l.map .str)]) g1 (.cons (Les.refl _) rfl (.cons (Les.refl _) rfl (.cons (Les.refl _) rfl .nil))))),?_⟩
  simp only [aV,T.bulk] at g2 g3 ⊢
  exact ⟨by show v.size<_;omega,by show s.size<_;omega,fun z hz=>by have:=g3 z hz;omega,by show l.length<_;omega⟩
 |int h|bool h|str h|nil h|slice h|array h=>rw [Tryz.underlying31] at h;cases h
theorem EI {us:List T} (h:cE Tryz.prog 61 us): ∃g:RG,dp us (sD g)∧SmG (aV us) g:=by
 cases h with
 |struct h us hl hf=>
  rw [Tryz.underlying61] at h
  cases h
  rw [yO] at hl
  have f0:=(Ea (hf ⟨ "Policy",28,0,false, "", "",0⟩ (by simp))).1 rfl
  have f1:=Gd (hf ⟨ "Step",31,9,false, "", "",120⟩ (by simp))
  rw [zq] at f0
  rw [zJ] at f1
  obtain ⟨r,r1,r2,r3⟩:=f0
  obtain ⟨s,s1,s2⟩:=f1
  dsimp only at r1 r2 r3 s1 s2
  have hap:us=(us.drop 0).take 9++(us.drop 9).take 6:=by
   rw [List.drop_zero,List.take_of_length_le (l:=us.drop 9) (by simp;omega),List.take_append_drop]
  have hbk: ∀a b:List T,aV (a++b)=aV a+aV b:=fun a b=>by
   induction a with
   |nil=>simp [aV]
   |cons x xs ih=>simp only [List.cons_append,aV,ih];omega
  have hb:=hbk ((us.drop 0).take 9) ((us.drop 9).take 6)
  rw [← hap] at hb
  refine ⟨⟨r,s⟩,?_,⟨s2.mono (by omega),by show r.wt≤_;omega,fun h=>r3 (by omega)⟩⟩
  rw [hap]
  exact dp.append r1 s1
 |int h|bool h|str h|nil h|slice h|array h=>rw [Tryz.underlying61] at h;cases h
theorem Gc {us:List T} (h:cE Tryz.prog 56 us): ∃gs:List RG,Les (mkT Tryz.prog 56 us) (.slice 15 (gs.map sF))∧gs.length≤aV us∧ ∀g∈gs,SmG (aV us) g:=by
 have e: ∀t,mkT Tryz.prog 56 [t]=t:=fun t=>by unfold mkT;rw [zH];rfl
 cases h with
 |nil h=>exact ⟨[],by rw [e];exact Les.nil 15,by simp,by simp⟩
 |slice h xs hx hl=>
  rw [zH] at h
  cases h
  rw [e,yO]
  have em:xs.map (mkT Tryz.prog 61)=xs.map .agg:=List.map_congr_left fun x _=>F5 x
  rw [em]
  have key: ∃gs:List RG,gs.length=xs.length∧(∀ (i:Nat) (x:List T) (r:RG),xs[i]? =some x→gs[i]? =some r→dp x (sD r))∧gs.length≤aV (xs.map .agg)∧ ∀g∈gs,SmG (aV (xs.map .agg)) g:=by
   clear hl em
   induction xs with
   |nil=>exact ⟨[],rfl,by simp,by simp,by simp⟩
   |cons x xs ih=>
    obtain ⟨g,h1,h2⟩:=EI (hx x (by simp))
    obtain ⟨gs,k1,k2,k3,k4⟩:=ih fun y hy=>hx y (by simp [hy])
    have hv:=h2.st.var
    refine ⟨g::gs,by simp [k1],fun i a b ha hb=>?_,by simp only [List.map_cons,aV,T.bulk,List.length_cons];omega,fun z hz=>?_⟩
    ·cases i with
     |zero=>simp at ha hb;subst ha;subst hb;exact h1
     |succ i=>exact k2 i a b (by simpa using ha) (by simpa using hb)
    ·have up: ∀{B:Nat} {z:RG},SmG B z→B≤aV ((x::xs).map .agg)→SmG (aV ((x::xs).map .agg)) z:=fun h hb=>⟨h.st.mono hb,by have:=h.wt;omega,fun hh=>h.names (by omega)⟩
     rcases List.mem_cons.1 hz with rfl|hz
     ·exact up h2 (by simp only [List.map_cons,aV,T.bulk];omega)
     ·exact up (k4 z hz) (by simp only [List.map_cons,aV,T.bulk];omega)
  obtain ⟨gs,k1,k2,k3,k4⟩:=key
  refine ⟨gs,Les.slice (by simp [k1]) fun i x y hx hy=>?_,by simp only [aV,T.bulk];omega,fun g hg=>?_⟩
  ·rw [List.getElem?_map] at hx hy
   obtain ⟨x',hx',rfl⟩:=Option.map_eq_some_iff.1 hx
   obtain ⟨r',hr',rfl⟩:=Option.map_eq_some_iff.1 hy
   exact ⟨k2 i x' r' hx' hr',sI r'⟩
  ·have h:=k4 g hg
   have hb:aV (xs.map .agg)≤aV [T.slice 15 (xs.map .agg)]:=by simp only [aV,T.bulk];omega
   exact ⟨h.st.mono hb,by have:=h.wt;omega,fun hh=>h.names (by omega)⟩
 |int h|bool h|str h|array h|struct h=>rw [zH] at h;cases h
end Go.TY
end
section
namespace Go.TY
open Go Go.DL Go.MM Go.Proofs Go.RowKit
def typesT:List TypeId:=[22,88,25,23,28,26,31,29,61,56,66,46,9,3,4,5]
theorem typesT_ok:eP Tryz.prog typesT=true:=by kernel_rfl
theorem aInt {us:List T} (h:cE Tryz.prog 3 us): ∃n,mkT Tryz.prog 3 us=I n:=by
 obtain ⟨n,rfl,_⟩:=vd h
 exact ⟨n,by unfold mkT;rw [Tryz.underlying3];rfl⟩
theorem aProg {us:List T} (h:cE Tryz.prog 56 us) (hb:aV us≤1048576): ∃gs:List RG,Les (mkT Tryz.prog 56 us) (.slice 15 (gs.map sF))∧gs.length≤1048576∧ ∀g∈gs,SmG (2^30) g:=by
 obtain ⟨gs,h1,h2,h3⟩:=Gc h
 exact ⟨gs,h1,by omega,fun g hg=>by
  have:=h3 g hg
  exact ⟨this.st.mono (by omega),by have:=this.wt;omega,fun _=>this.names (by omega)⟩⟩
def C3 {H:Type} (ss:List ByteArray):DataW H:=.agg (ss.map fun s=>.lit (.string s.data.toList))
theorem zR {H:Type} {enc:TypeId×Value→H} {P:Program} {w:World} {base:Nat} {sp:Nat→Bool} {held:Bool} {fuel:Nat} {t e:TypeId} {n:Nat} {cs:List Value} {ss:List ByteArray} {p:List MemPlace}
  (ht:P.underlying t=some (.array n e)) (he:P.underlying e=some .string) (hce:P.cellsOf e=1) (hct:P.cellsOf t=n)
  (h:DataW.trod enc P w base sp held fuel t cs=some (C3 ss,p)):cs=ss.map fun z=>Value.string z:=by
 cases fuel with
 |zero=>simp [DataW.trod] at h
 |succ fuel=>
  simp only [DataW.trod,ht,hce,hct,Nat.mul_one] at h
  split at h
  ·rename_i hl
   obtain ⟨xs,hm,hx⟩:=Option.map_eq_some_iff.1 h
   have hxs:xs.map (·.1)=ss.map fun s=>(DataW.lit (.string s.data.toList):DataW H):=by
    have:=congrArg Prod.fst hx
    simpa [C3] using this
   have hxl:xs.length=n:=by simpa using Lib.mapM_length hm
   have hzl:ss.length=n:=by
    have:=congrArg List.length hxs
    simp at this
    omega
   apply List.ext_getElem?
   intro i
   by_cases hi:i<n
   ·obtain ⟨b,hb,hf⟩:=Lib.mapM_at hm i i (by simp [hi])
    obtain ⟨z,hc,rfl,_⟩:=DataW.trod_string he hf
    have h1:cs[i]? =some (.string z):=by
     have:=congrArg (·[0]?) hc
     simpa [List.getElem?_take,List.getElem?_drop] using this
    have h2:(xs.map (·.1))[i]? =some (DataW.lit (.string z.data.toList):DataW H):=by simp [hb]
    rw [hxs] at h2
    simp only [List.getElem?_map,Option.map_eq_some_iff,DataW.lit.injEq,Lit.string.injEq] at h2
    obtain ⟨z',hz',e⟩:=h2
    have e:z'=z:=ByteArray.ext (Array.ext' e)
    simp [h1,hz',e]
   ·rw [List.getElem?_eq_none (by omega),List.getElem?_eq_none (by simp;omega)]
  ·cases h
theorem Bn {P:Program} {W:World} {name:String} {ss:List ByteArray} {rest:List (String×DataW Unit)} {g:Nat} {t e:TypeId} {n:Nat}
  (hg:P.globalNamed name=some g) (hty:(P.globals[g]?).map (·.type)=some t) (ht:P.underlying t=some (.array n e)) (he:P.underlying e=some .string) (hce:P.cellsOf e=1) (hct:P.cellsOf t=n)
  (h:laidMet P ((name,C3 ss)::rest) W):W.var? P name=some (ss.map fun z=>Value.string z).toArray:=by
 obtain ⟨ps,⟨g',t',cs,fuel,p,q,hg',ht',hvar,hd,_,_⟩,_⟩:=h
 obtain rfl:=Option.some.inj (hg.symm.trans hg')
 obtain rfl:=Option.some.inj (hty.symm.trans ht')
 rw [hvar, ←zR ht he hce hct hd]
theorem BI:Tryz.prog.globalNamed "interlace/token.words" =some 0:=by kernel_rfl
theorem Bt:(Tryz.prog.globals[0]?).map (·.type)=some 185:=by kernel_rfl
theorem Ew:Tryz.prog.cellsOf 185=49:=by kernel_rfl
theorem globOk_words {W:World} (h:laidMet Tryz.prog [("interlace/token.words",C3 wordsG)] W):bM (fun b _=>b<W.heap.size) W:=fun g cs hg=>by
 match g,hg with
 |0,hg=>
  cases hg
  have hv:=Bn BI Bt Tryz.underlying185 Tryz.underlying9 xL Ew h
  have hc: ∀i,i<wordsG.length→W.cell? ⟨0,i,none⟩=some (.string (wordsG.getD i e0)):=fun i hi=>by
   have:=World.var?_cell BI hv i
   simpa [List.getD,hi] using this
  have lt:0<W.heap.size:=by
   have:=hc 0 (by decide)
   unfold World.cell? at this
   rcases Nat.lt_or_ge 0 W.heap.size with h|h
   ·exact h
   ·simp [Array.getElem?_eq_none h] at this
  refine ⟨lt,fun i=>.string (wordsG.getD i e0),fun i t ht=>?_⟩
  rw [List.getElem?_map,Option.map_eq_some_iff] at ht
  obtain ⟨z,hz,rfl⟩:=ht
  have hi:=(gsZ hz).1
  have e:wordsG.getD i e0=z:=by simp [List.getD,hz]
  exact ⟨hc i hi,lt,rfl,rfl,by show Rep _ _ (.string (wordsG.getD i e0)) _;rw [e];exact .str z⟩
end Go.TY
end
section
namespace Go.TY
open Go Go.DL Go.MM
mutual
def th:RP→List RP
 |.mk k f n m a=>.mk k f n m a::sX a
def sX:List RP→List RP
 |[]=>[]
 |r::rs=>th r++sX rs
end
theorem xj (r:RP):th r=r::sX r.args:=by cases r;simp [th,RP.args]
theorem xU: ∀(a b:List RP),sX (a++b)=sX a++sX b
 |[],_=>by simp [sX]
 |r::a,b=>by rw [List.cons_append,sX,sX,xU a b,List.append_assoc]
theorem D9 (r:RP):sX [r]=th r:=by simp [sX]
theorem yY {l:List RP} {j:Nat} (h:j<l.length):sX (l.take (j+1))=sX (l.take j)++th l[j]:=by
 rw [List.take_succ_eq_append_getElem h,xU,D9]
theorem D8 {l:List RP} {r:RP} (h:r∈l):(th r).length≤(sX l).length:=by
 induction l with
 |nil=>simp at h
 |cons x l ih=>
  rw [sX,List.length_append]
  rcases List.mem_cons.1 h with rfl|h
  ·omega
  ·have:=ih h;omega
theorem D6 {l:List RP} {j i:Nat} {x:RP} (h:j<l.length) (hx:(th l[j])[i]? =some x):(sX l)[(sX (l.take j)).length+i]? =some x:=by
 have e:sX l=sX (l.take j)++(th l[j]++sX (l.drop (j+1))):=by
  conv=>lhs;rw [← List.take_append_drop (j+1) l]
  rw [xU,yY h,List.append_assoc]
 have hi:=(gsZ hx).1
 rw [e,List.getElem?_append_right (by omega),Nat.add_sub_cancel_left,List.getElem?_append_left hi]
 exact hx
theorem D7 {l:List RP} {j:Nat} (h:j<l.length):(th l[j]).length≤(sX l).length:=D8 (List.getElem_mem h)
theorem AA: ∀(l:List RP),l.length≤(sX l).length
 |[]=>Nat.zero_le _
 |r::l=>by
  have:=AA l
  rw [sX,xj,List.cons_append,List.length_cons,List.length_cons,List.length_append];omega
def sW:RO→List T
 |.mk k p f n a=>[I k,I p.kind,.str p.field,I p.n,I p.m,.slice 5 (p.args.map sM),.str f,I n,.slice 9 (a.map sP)]
theorem uE (r:RO):sW r=sA r:=by
 obtain ⟨k,⟨pk,pf,pn,pm,pa⟩,f,n,a⟩:=r;rfl
abbrev uC (r:RO):T:=sP r
theorem sQ (r:RO):uC r= .agg (sW r):=by rw [uE,uC,sL]
theorem tA (r:RO):(sW r).length=9:=by cases r;rfl
mutual
def sH:RO→List RO
 |.mk k p f n a=>.mk k p f n a::sR a
def sR:List RO→List RO
 |[]=>[]
 |r::rs=>sH r++sR rs
end
theorem xi (r:RO):sH r=r::sR r.args:=by cases r;simp [sH,RO.args]
theorem xT: ∀(a b:List RO),sR (a++b)=sR a++sR b
 |[],_=>by simp [sR]
 |r::a,b=>by rw [List.cons_append,sR,sR,xT a b,List.append_assoc]
theorem D5 (r:RO):sR [r]=sH r:=by simp [sR]
theorem yX {l:List RO} {j:Nat} (h:j<l.length):sR (l.take (j+1))=sR (l.take j)++sH l[j]:=by
 rw [List.take_succ_eq_append_getElem h,xT,D5]
theorem D4 {l:List RO} {r:RO} (h:r∈l):(sH r).length≤(sR l).length:=by
 induction l with
 |nil=>simp at h
 |cons x l ih=>
  rw [sR,List.length_append]
  rcases List.mem_cons.1 h with rfl|h
  ·omega
  ·have:=ih h;omega
theorem D0 {l:List RO} {j i:Nat} {x:RO} (h:j<l.length) (hx:(sH l[j])[i]? =some x):(sR l)[(sR (l.take j)).length+i]? =some x:=by
 have e:sR l=sR (l.take j)++(sH l[j]++sR (l.drop (j+1))):=by
  conv=>lhs;rw [← List.take_append_drop (j+1) l]
  rw [xT,yX h,List.append_assoc]
 have hi:=(gsZ hx).1
 rw [e,List.getElem?_append_right (by omega),Nat.add_sub_cancel_left,List.getElem?_append_left hi]
 exact hx
theorem D3 {l:List RO} {j:Nat} (h:j<l.length):(sH l[j]).length≤(sR l).length:=D4 (List.getElem_mem h)
theorem Az: ∀(l:List RO),l.length≤(sR l).length
 |[]=>Nat.zero_le _
 |r::l=>by
  have:=Az l
  rw [sR,xi,List.cons_append,List.length_cons,List.length_cons,List.length_append];omega
end Go.TY
end
noncomputable section
namespace Go.TY
open Go Go.DL Go.Proofs
theorem mx:Tryz.prog.follows .mixedOrders=true:=by kernel_rfl
def zn:Code:=(Tryz.f145.body).getD .skip
theorem IB:Tryz.f145.body=some zn:=by kernel_rfl
def AN:Code:=ir [0] zn
def Du:aY:=(.region [oo 2 (.box 1 (tm 0))] [])
theorem Hd:bD Tryz.prog 8 [] AN=some Du:=by kernel_rfl
theorem GO [Glb] {st:St} {Q:aB→St→Prop} (hw:wpC Tryz.prog Du st Q):aI Tryz.prog 8 AN st Q:=aI.low mx Hd (by kernel_rfl) (by kernel_rfl) hw
def AS:Code:=ir [1,0] zn
def Dz:aY:=(.region [oo 3 (.alloc [.nilfn])] [])
theorem Hi:bD Tryz.prog 8 [] AS=some Dz:=by kernel_rfl
theorem GU [Glb] {st:St} {Q:aB→St→Prop} (hw:wpC Tryz.prog Dz st Q):aI Tryz.prog 8 AS st Q:=aI.low mx Hi (by kernel_rfl) (by kernel_rfl) hw
def AW:Code:=ir [1,1,0] zn
def DD:aY:=(.region [oo 4 (.mkfn 146 [(tm 2),(tm 3)]),o0 (.store 1 (tm 3) (tm 4))] [])
theorem Hm:bD Tryz.prog 8 [] AW=some DD:=by kernel_rfl
theorem GX [Glb] {st:St} {Q:aB→St→Prop} (hw:wpC Tryz.prog DD st Q):aI Tryz.prog 8 AW st Q:=aI.low mx Hm (by kernel_rfl) (by kernel_rfl) hw
def zb:Code:=ir [1,1,1] zn
theorem Gy:zb= .region 3 (sy zb) false:=by kernel_rfl
theorem H0 [Glb] {st:St} {Q:aB→St→Prop} (hw:aA Tryz.prog [⟨some 5,.load 1 false (.tmp 3),none,[]⟩,⟨some 6,.load 5 true (.tmp 1),none,[]⟩] st fun s0=>gR Tryz.prog (ev s0.sl (.tmp 5)) (List.map (ev s0.sl) [(.tmp 6)]) (some 7) s0 fun s1=>aA Tryz.prog [] s1 (Q .normal)):aI Tryz.prog 8 zb st Q:=by
 rw [Gy]
 exact aI.rB (k1:=[0,1]) (k:=2) (k2:=[]) (by kernel_rfl) (by kernel_rfl) (by kernel_rfl) (by kernel_rfl) (by kernel_rfl) (X:=.tmp 5) (az:= #[.tmp 6]) (ats:= #[25]) (d:=7) (by kernel_rfl) rfl rfl (by decide) hw
theorem Lu:zn=(.seq AN (.seq AS (.seq AW zb))):=by kernel_rfl
def vr:Code:=(Tryz.f146.body).getD .skip
theorem IC:Tryz.f146.body=some vr:=by kernel_rfl
def AO:Code:=ir [0] vr
def Dv:aY:=(.region [oo 3 (.box 5 (tm 0)),oo 4 (.mov kF)] [])
theorem He:bD Tryz.prog 23 [] AO=some Dv:=by kernel_rfl
theorem GP [Glb] {st:St} {Q:aB→St→Prop} (hw:wpC Tryz.prog Dv st Q):aI Tryz.prog 23 AO st Q:=aI.low mx He (by kernel_rfl) (by kernel_rfl) hw
def y9:Code:=ir [1,0,0] vr
theorem Gw:y9= .region 1 (sy y9) false:=by kernel_rfl
theorem HY [Glb] {st:St} {Q:aB→St→Prop} (hw:aA Tryz.prog [⟨some 7,.load 1 false (.tmp 1),none,[]⟩,⟨some 8,.load 5 true (.tmp 3),none,[]⟩] st fun s0=>gR Tryz.prog (ev s0.sl (.tmp 7)) (List.map (ev s0.sl) [(.tmp 8)]) (some 9) s0 fun s1=>aA Tryz.prog [⟨some 10,.not (.tmp 9),none,[]⟩] s1 (Q .normal)):aI Tryz.prog 23 y9 st Q:=by
 rw [Gw]
 exact aI.rB (k1:=[0,1]) (k:=2) (k2:=[3]) (by kernel_rfl) (by kernel_rfl) (by kernel_rfl) (by kernel_rfl) (by kernel_rfl) (X:=.tmp 7) (az:= #[.tmp 8]) (ats:= #[25]) (d:=9) (by kernel_rfl) rfl rfl (by decide) hw
def AX:Code:=ir [1,0,1] vr
def DE:aY:=(.cond (tm 10) (.seq (.region [oo 4 (.mov kF)] []) .ret) .skip)
theorem Hn:bD Tryz.prog 23 [] AX=some DE:=by kernel_rfl
theorem Df [Glb] {st:St} {Q:aB→St→Prop} (hw:wpC Tryz.prog DE st Q):aI Tryz.prog 23 AX st Q:=aI.low mx Hn (by kernel_rfl) (by kernel_rfl) hw
def AZ:Code:=ir [1,1,0,0] vr
def DH:aY:=(.region [fa 11 4 3,ld 12 11,ln 13 12,oo 14 (.mov (Kc 0))] [])
theorem Hq:bD Tryz.prog 23 [] AZ=some DH:=by kernel_rfl
theorem G0 [Glb] {st:St} {Q:aB→St→Prop} (hw:wpC Tryz.prog DH st Q):aI Tryz.prog 23 AZ st Q:=aI.low mx Hq (by kernel_rfl) (by kernel_rfl) hw
def A1:Code:=ir [1,1,0,1,0,0,0] vr
def DM:aY:=(.region [oo 15 (.bin .lss (tm 14) (tm 13))] [])
theorem Ht:bD Tryz.prog 23 [] A1=some DM:=by kernel_rfl
theorem G3 [Glb] {st:St} {Q:aB→St→Prop} (hw:wpC Tryz.prog DM st Q):aI Tryz.prog 23 A1 st Q:=aI.low mx Ht (by kernel_rfl) (by kernel_rfl) hw
def A3:Code:=ir [1,1,0,1,0,0,1,0] vr
def DP:aY:=(.cond (tm 15) .skip (.exit 0))
theorem Hw:bD Tryz.prog 23 [] A3=some DP:=by kernel_rfl
theorem Dh [Glb] {st:St} {Q:aB→St→Prop} (hw:wpC Tryz.prog DP st Q):aI Tryz.prog 23 A3 st Q:=aI.low mx Hw (by kernel_rfl) (by kernel_rfl) hw
def A5:Code:=ir [1,1,0,1,0,0,1,1,0,0,0] vr
def DR:aY:=(.region [ix 16 5 12 14,lA 17 5 16,⟨some 6,.alloc [Z0,S0,Z0,Z0,.nil],none,[]⟩,o0 (.store 5 (tm 6) (tm 17))] [])
theorem Hy:bD Tryz.prog 23 [] A5=some DR:=by kernel_rfl
theorem G6 [Glb] {st:St} {Q:aB→St→Prop} (hw:wpC Tryz.prog DR st Q):aI Tryz.prog 23 A5 st Q:=aI.low mx Hy (by kernel_rfl) (by kernel_rfl) hw
def zd:Code:=ir [1,1,0,1,0,0,1,1,0,0,1,0] vr
theorem GB:zd= .region 6 (sy zd) false:=by kernel_rfl
theorem H4 [Glb] {st:St} {Q:aB→St→Prop} (hw:aA Tryz.prog [⟨some 18,.load 1 false (.tmp 2),none,[]⟩,⟨some 19,.load 5 true (.tmp 6),none,[]⟩] st fun s0=>gR Tryz.prog (ev s0.sl (.tmp 18)) (List.map (ev s0.sl) [(.tmp 19)]) (some 20) s0 fun s1=>aA Tryz.prog [⟨some 21,.not (.tmp 20),none,[]⟩] s1 (Q .normal)):aI Tryz.prog 23 zd st Q:=by
 rw [GB]
 exact aI.rB (k1:=[0,1]) (k:=2) (k2:=[3]) (by kernel_rfl) (by kernel_rfl) (by kernel_rfl) (by kernel_rfl) (by kernel_rfl) (X:=.tmp 18) (az:= #[.tmp 19]) (ats:= #[25]) (d:=20) (by kernel_rfl) rfl rfl (by decide) hw
def A7:Code:=ir [1,1,0,1,0,0,1,1,0,0,1,1] vr
def DU:aY:=(.cond (tm 21) (.seq (.region [oo 4 (.mov kF)] []) .ret) .skip)
theorem HB:bD Tryz.prog 23 [] A7=some DU:=by kernel_rfl
theorem Dk [Glb] {st:St} {Q:aB→St→Prop} (hw:wpC Tryz.prog DU st Q):aI Tryz.prog 23 A7 st Q:=aI.low mx HB (by kernel_rfl) (by kernel_rfl) hw
def A9:Code:=ir [1,1,0,1,0,0,1,1,1] vr
def DW:aY:=(.region [oo 22 (.bin .add (tm 14) (Kc 1)),mv 14 22] [])
theorem HD:bD Tryz.prog 23 [] A9=some DW:=by kernel_rfl
theorem G8 [Glb] {st:St} {Q:aB→St→Prop} (hw:wpC Tryz.prog DW st Q):aI Tryz.prog 23 A9 st Q:=aI.low mx HD (by kernel_rfl) (by kernel_rfl) hw
def zC:Code:=ir [1,1,1] vr
def BO:aY:=(.seq (.region [oo 4 (.mov kT)] []) .ret)
theorem F7:bD Tryz.prog 23 [] zC=some BO:=by kernel_rfl
theorem F4 [Glb] {st:St} {Q:aB→St→Prop} (hw:wpC Tryz.prog BO st Q):aI Tryz.prog 23 zC st Q:=aI.low mx F7 (by kernel_rfl) (by kernel_rfl) hw
theorem Lv:vr=(.seq AO (.seq (.seq y9 AX) (.seq (.seq AZ (.block 0 (.loop (.seq A1 (.seq A3 (.seq (.block 1 (.seq A5 (.seq zd A7))) A9)))))) zC))):=by kernel_rfl
def zm:Code:=(Tryz.f116.body).getD .skip
theorem Iy:Tryz.f116.body=some zm:=by kernel_rfl
def AK:Code:=ir [0] zm
def Dq:aY:=(.region [oo 2 (.box 1 (tm 0))] [])
theorem Ha:bD Tryz.prog 8 [] AK=some Dq:=by kernel_rfl
theorem GL [Glb] {st:St} {Q:aB→St→Prop} (hw:wpC Tryz.prog Dq st Q):aI Tryz.prog 8 AK st Q:=aI.low mx Ha (by kernel_rfl) (by kernel_rfl) hw
def AQ:Code:=ir [1,0] zm
def Dx:aY:=(.region [oo 3 (.alloc [.nilfn])] [])
theorem Hg:bD Tryz.prog 8 [] AQ=some Dx:=by kernel_rfl
theorem GR [Glb] {st:St} {Q:aB→St→Prop} (hw:wpC Tryz.prog Dx st Q):aI Tryz.prog 8 AQ st Q:=aI.low mx Hg (by kernel_rfl) (by kernel_rfl) hw
def AU:Code:=ir [1,1,0] zm
def DA:aY:=(.region [oo 4 (.mkfn 117 [(tm 2),(tm 3)]),o0 (.store 1 (tm 3) (tm 4))] [])
theorem Hj:bD Tryz.prog 8 [] AU=some DA:=by kernel_rfl
theorem GV [Glb] {st:St} {Q:aB→St→Prop} (hw:wpC Tryz.prog DA st Q):aI Tryz.prog 8 AU st Q:=aI.low mx Hj (by kernel_rfl) (by kernel_rfl) hw
def za:Code:=ir [1,1,1] zm
theorem Gx:za= .region 3 (sy za) false:=by kernel_rfl
theorem HZ [Glb] {st:St} {Q:aB→St→Prop} (hw:aA Tryz.prog [⟨some 5,.load 1 false (.tmp 3),none,[]⟩,⟨some 6,.load 9 true (.tmp 1),none,[]⟩] st fun s0=>gR Tryz.prog (ev s0.sl (.tmp 5)) (List.map (ev s0.sl) [(.tmp 6)]) (some 7) s0 fun s1=>aA Tryz.prog [] s1 (Q .normal)):aI Tryz.prog 8 za st Q:=by
 rw [Gx]
 exact aI.rB (k1:=[0,1]) (k:=2) (k2:=[]) (by kernel_rfl) (by kernel_rfl) (by kernel_rfl) (by kernel_rfl) (by kernel_rfl) (X:=.tmp 5) (az:= #[.tmp 6]) (ats:= #[28]) (d:=7) (by kernel_rfl) rfl rfl (by decide) hw
theorem Lr:zm=(.seq AK (.seq AQ (.seq AU za))):=by kernel_rfl
def vq:Code:=(Tryz.f117.body).getD .skip
theorem Iz:Tryz.f117.body=some vq:=by kernel_rfl
def AL:Code:=ir [0] vq
def Dr:aY:=(.region [oo 3 (.box 9 (tm 0)),oo 4 (.mov kF)] [])
theorem Hb:bD Tryz.prog 23 [] AL=some Dr:=by kernel_rfl
theorem GM [Glb] {st:St} {Q:aB→St→Prop} (hw:wpC Tryz.prog Dr st Q):aI Tryz.prog 23 AL st Q:=aI.low mx Hb (by kernel_rfl) (by kernel_rfl) hw
def y8:Code:=ir [1,0,0] vq
theorem Gv:y8= .region 1 (sy y8) false:=by kernel_rfl
theorem HX [Glb] {st:St} {Q:aB→St→Prop} (hw:aA Tryz.prog [⟨some 7,.load 1 false (.tmp 1),none,[]⟩,⟨some 8,.load 9 true (.tmp 3),none,[]⟩] st fun s0=>gR Tryz.prog (ev s0.sl (.tmp 7)) (List.map (ev s0.sl) [(.tmp 8)]) (some 9) s0 fun s1=>aA Tryz.prog [⟨some 10,.not (.tmp 9),none,[]⟩] s1 (Q .normal)):aI Tryz.prog 23 y8 st Q:=by
 rw [Gv]
 exact aI.rB (k1:=[0,1]) (k:=2) (k2:=[3]) (by kernel_rfl) (by kernel_rfl) (by kernel_rfl) (by kernel_rfl) (by kernel_rfl) (X:=.tmp 7) (az:= #[.tmp 8]) (ats:= #[28]) (d:=9) (by kernel_rfl) rfl rfl (by decide) hw
def AV:Code:=ir [1,0,1] vq
def DB:aY:=(.cond (tm 10) (.seq (.region [oo 4 (.mov kF)] []) .ret) .skip)
theorem Hk:bD Tryz.prog 23 [] AV=some DB:=by kernel_rfl
theorem De [Glb] {st:St} {Q:aB→St→Prop} (hw:wpC Tryz.prog DB st Q):aI Tryz.prog 23 AV st Q:=aI.low mx Hk (by kernel_rfl) (by kernel_rfl) hw
def AY:Code:=ir [1,1,0,0] vq
def DF:aY:=(.region [fa 11 8 3,ld 12 11,ln 13 12,oo 14 (.mov (Kc 0))] [])
theorem Ho:bD Tryz.prog 23 [] AY=some DF:=by kernel_rfl
theorem GY [Glb] {st:St} {Q:aB→St→Prop} (hw:wpC Tryz.prog DF st Q):aI Tryz.prog 23 AY st Q:=aI.low mx Ho (by kernel_rfl) (by kernel_rfl) hw
def A0:Code:=ir [1,1,0,1,0,0,0] vq
def DJ:aY:=(.region [oo 15 (.bin .lss (tm 14) (tm 13))] [])
theorem Hr:bD Tryz.prog 23 [] A0=some DJ:=by kernel_rfl
theorem G1 [Glb] {st:St} {Q:aB→St→Prop} (hw:wpC Tryz.prog DJ st Q):aI Tryz.prog 23 A0 st Q:=aI.low mx Hr (by kernel_rfl) (by kernel_rfl) hw
def A2:Code:=ir [1,1,0,1,0,0,1,0] vq
def DN:aY:=(.cond (tm 15) .skip (.exit 0))
theorem Hu:bD Tryz.prog 23 [] A2=some DN:=by kernel_rfl
theorem Dg [Glb] {st:St} {Q:aB→St→Prop} (hw:wpC Tryz.prog DN st Q):aI Tryz.prog 23 A2 st Q:=aI.low mx Hu (by kernel_rfl) (by kernel_rfl) hw
def A4:Code:=ir [1,1,0,1,0,0,1,1,0,0,0] vq
def DQ:aY:=(.region [ix 16 9 12 14,lA 17 9 16,⟨some 6,.alloc [Z0,Z0,S0,Z0,Z0,.nil,S0,Z0,.nil],none,[]⟩,o0 (.store 9 (tm 6) (tm 17))] [])
theorem Hx:bD Tryz.prog 23 [] A4=some DQ:=by kernel_rfl
theorem G5 [Glb] {st:St} {Q:aB→St→Prop} (hw:wpC Tryz.prog DQ st Q):aI Tryz.prog 23 A4 st Q:=aI.low mx Hx (by kernel_rfl) (by kernel_rfl) hw
def zc:Code:=ir [1,1,0,1,0,0,1,1,0,0,1,0] vq
theorem GA:zc= .region 6 (sy zc) false:=by kernel_rfl
theorem H3 [Glb] {st:St} {Q:aB→St→Prop} (hw:aA Tryz.prog [⟨some 18,.load 1 false (.tmp 2),none,[]⟩,⟨some 19,.load 9 true (.tmp 6),none,[]⟩] st fun s0=>gR Tryz.prog (ev s0.sl (.tmp 18)) (List.map (ev s0.sl) [(.tmp 19)]) (some 20) s0 fun s1=>aA Tryz.prog [⟨some 21,.not (.tmp 20),none,[]⟩] s1 (Q .normal)):aI Tryz.prog 23 zc st Q:=by
 rw [GA]
 exact aI.rB (k1:=[0,1]) (k:=2) (k2:=[3]) (by kernel_rfl) (by kernel_rfl) (by kernel_rfl) (by kernel_rfl) (by kernel_rfl) (X:=.tmp 18) (az:= #[.tmp 19]) (ats:= #[28]) (d:=20) (by kernel_rfl) rfl rfl (by decide) hw
def A6:Code:=ir [1,1,0,1,0,0,1,1,0,0,1,1] vq
def DT:aY:=(.cond (tm 21) (.seq (.region [oo 4 (.mov kF)] []) .ret) .skip)
theorem HA:bD Tryz.prog 23 [] A6=some DT:=by kernel_rfl
theorem Dj [Glb] {st:St} {Q:aB→St→Prop} (hw:wpC Tryz.prog DT st Q):aI Tryz.prog 23 A6 st Q:=aI.low mx HA (by kernel_rfl) (by kernel_rfl) hw
def A8:Code:=ir [1,1,0,1,0,0,1,1,1] vq
def DV:aY:=(.region [oo 22 (.bin .add (tm 14) (Kc 1)),mv 14 22] [])
theorem HC:bD Tryz.prog 23 [] A8=some DV:=by kernel_rfl
theorem G7 [Glb] {st:St} {Q:aB→St→Prop} (hw:wpC Tryz.prog DV st Q):aI Tryz.prog 23 A8 st Q:=aI.low mx HC (by kernel_rfl) (by kernel_rfl) hw
def zB:Code:=ir [1,1,1] vq
def BN:aY:=(.seq (.region [oo 4 (.mov kT)] []) .ret)
theorem F6:bD Tryz.prog 23 [] zB=some BN:=by kernel_rfl
theorem F3 [Glb] {st:St} {Q:aB→St→Prop} (hw:wpC Tryz.prog BN st Q):aI Tryz.prog 23 zB st Q:=aI.low mx F6 (by kernel_rfl) (by kernel_rfl) hw
theorem Ls:vq=(.seq AL (.seq (.seq y8 AV) (.seq (.seq AY (.block 0 (.loop (.seq A0 (.seq A2 (.seq (.block 1 (.seq A4 (.seq zc A6))) A8)))))) zB))):=by kernel_rfl
def wU:Code:=(Tryz.f130.body).getD .skip
theorem IA:Tryz.f130.body=some wU:=by kernel_rfl
def AM:Code:=ir [0] wU
def Dt:aY:=(.region [oo 2 (.box 1 (tm 0))] [])
theorem Hc:bD Tryz.prog 19 [] AM=some Dt:=by kernel_rfl
theorem GN [Glb] {st:St} {Q:aB→St→Prop} (hw:wpC Tryz.prog Dt st Q):aI Tryz.prog 19 AM st Q:=aI.low mx Hc (by kernel_rfl) (by kernel_rfl) hw
def AR:Code:=ir [1,0] wU
def Dy:aY:=(.region [lA 5 9 1,oo 6 (.call 73 [tm 5])] [])
theorem Hh:bD Tryz.prog 19 [] AR=some Dy:=by kernel_rfl
theorem GS [Glb] {st:St} {Q:aB→St→Prop} (hw:wpC Tryz.prog Dy st Q):aI Tryz.prog 19 AR st Q:=aI.low mx Hh (by kernel_rfl) (by kernel_rfl) hw
def xW:Code:=ir [1,1,0,0] wU
def DC:aY:=(.region [⟨some 3,.alloc [Z0,Z0,S0,Z0,Z0,.nil,S0,Z0,.nil],none,[]⟩,o0 (.store 9 (tm 3) (tm 7))] [])
theorem Hl:bD Tryz.prog 19 [] xW=some DC:=by kernel_rfl
theorem GW [Glb] {st:St} {Q:aB→St→Prop} (hw:wpC Tryz.prog DC st Q):aI Tryz.prog 19 xW st Q:=aI.low mx Hl (by kernel_rfl) (by kernel_rfl) hw
def xX:Code:=ir [1,1,0,1,0,0] wU
def DG:aY:=(.seq (.region [fa 8 0 3,ld 9 8,oo 10 (.bin .neq (tm 9) (Kc 1))] []) (.cond (tm 10) (.exit 1) .skip))
theorem Hp:bD Tryz.prog 19 [] xX=some DG:=by kernel_rfl
theorem GZ [Glb] {st:St} {Q:aB→St→Prop} (hw:wpC Tryz.prog DG st Q):aI Tryz.prog 19 xX st Q:=aI.low mx Hp (by kernel_rfl) (by kernel_rfl) hw
def xY:Code:=ir [1,1,0,1,0,1,0] wU
def DK:aY:=(.region [fa 11 1 3,lA 12 5 11,oo 13 (.call 109 [tm 12])] [])
theorem Hs:bD Tryz.prog 19 [] xY=some DK:=by kernel_rfl
theorem G2 [Glb] {st:St} {Q:aB→St→Prop} (hw:wpC Tryz.prog DK st Q):aI Tryz.prog 19 xY st Q:=aI.low mx Hs (by kernel_rfl) (by kernel_rfl) hw
def xo:Code:=ir [1,1,0,1,0,1,1,0,0] wU
def DO:aY:=(.region [⟨some 4,.alloc [Z0,S0,Z0,Z0,.nil],none,[]⟩,o0 (.store 5 (tm 4) (tm 14))] [])
theorem Hv:bD Tryz.prog 19 [] xo=some DO:=by kernel_rfl
theorem G4 [Glb] {st:St} {Q:aB→St→Prop} (hw:wpC Tryz.prog DO st Q):aI Tryz.prog 19 xo st Q:=aI.low mx Hv (by kernel_rfl) (by kernel_rfl) hw
def wJ:Code:=ir [1,1,0,1,0,1,1,0,1,0,0] wU
theorem Gz:wJ= .region 6 (sy wJ) false:=by kernel_rfl
theorem H2 [Glb] {st:St} {Q:aB→St→Prop} (hw:aA Tryz.prog [⟨some 15,.load 1 false (.tmp 2),none,[]⟩,⟨some 16,.load 5 true (.tmp 4),none,[]⟩] st fun s0=>gR Tryz.prog (ev s0.sl (.tmp 15)) (List.map (ev s0.sl) [(.tmp 16)]) (some 17) s0 fun s1=>aA Tryz.prog [⟨some 18,.not (.tmp 17),none,[]⟩] s1 (Q .normal)):aI Tryz.prog 19 wJ st Q:=by
 rw [Gz]
 exact aI.rB (k1:=[0,1]) (k:=2) (k2:=[3]) (by kernel_rfl) (by kernel_rfl) (by kernel_rfl) (by kernel_rfl) (by kernel_rfl) (X:=.tmp 15) (az:= #[.tmp 16]) (ats:= #[25]) (d:=17) (by kernel_rfl) rfl rfl (by decide) hw
def xp:Code:=ir [1,1,0,1,0,1,1,0,1,0,1] wU
def DS:aY:=(.cond (tm 18) .ret .skip)
theorem Hz:bD Tryz.prog 19 [] xp=some DS:=by kernel_rfl
theorem Di [Glb] {st:St} {Q:aB→St→Prop} (hw:wpC Tryz.prog DS st Q):aI Tryz.prog 19 xp st Q:=aI.low mx Hz (by kernel_rfl) (by kernel_rfl) hw
theorem Lt:wU=(.seq AM (.seq AR (.block 0 (.rangeFunc (.tmp 6) #[7] xW (.block 1 (.seq xX (.seq xY (.block 2 (.rangeFunc (.tmp 13) #[14] xo (.block 3 (.seq wJ xp))))))))))):=by kernel_rfl
def b69:Code:=(Tryz.f69.body).getD .skip
theorem Lq:Tryz.f69.body=some b69:=by kernel_rfl
def Co:Code:=ir [0] b69
def Fa:aY:=(.region [oo 2 (.box 1 (tm 0)),oo 3 (.box 5 (tm 1)),oo 4 (.alloc [Z0])] [])
theorem JA:bD Tryz.prog 49 [] Co=some Fa:=by kernel_rfl
theorem IX [Glb] {st:St} {Q:aB→St→Prop} (hw:wpC Tryz.prog Fa st Q):aI Tryz.prog 49 Co st Q:=aI.low mx JA (by kernel_rfl) (by kernel_rfl) hw
def Cu:Code:=ir [1,0,0] b69
def Fh:aY:=(.region [lA 9 5 3,oo 10 (.call 109 [tm 9])] [])
theorem JG:bD Tryz.prog 49 [] Cu=some Fh:=by kernel_rfl
theorem I3 [Glb] {st:St} {Q:aB→St→Prop} (hw:wpC Tryz.prog Fh st Q):aI Tryz.prog 49 Cu st Q:=aI.low mx JG (by kernel_rfl) (by kernel_rfl) hw
def CA:Code:=ir [1,0,1,0,0] b69
def Fo:aY:=(.region [⟨some 5,.alloc [Z0,S0,Z0,Z0,.nil],none,[]⟩,o0 (.store 5 (tm 5) (tm 11))] [])
theorem JM:bD Tryz.prog 49 [] CA=some Fo:=by kernel_rfl
theorem I9 [Glb] {st:St} {Q:aB→St→Prop} (hw:wpC Tryz.prog Fo st Q):aI Tryz.prog 49 CA st Q:=aI.low mx JM (by kernel_rfl) (by kernel_rfl) hw
def CG:Code:=ir [1,0,1,0,1] b69
def Fv:aY:=(.block 1 (.seq (.seq (.region [fa 12 1 5,ld 13 12,⟨some 14,.bin .eql (tm 13) (.const S0),none,[]⟩] []) (.cond (tm 14) (.exit 1) .skip)) (.seq (.region [ld 16 2,fa 17 1 5,ld 18 17,oo 19 (.call 74 [(tm 16),(tm 18)]),mv 15 19,oo 20 (.ext (tm 15) 0),oo 21 (.ext (tm 15) 1),⟨some 6,.alloc [S0,Z0,Z0],none,[]⟩,o0 (.store 3 (tm 6) (tm 20)),mv 7 21] []) (.seq (.region [fa 22 2 5,ld 23 22,mv 8 23] []) (.seq (.seq (.region [fa 24 0 5,ld 25 24,oo 26 (.bin .eql (tm 25) (Kc 5))] []) (.cond (tm 26) (.region [fa 27 3 5,ld 28 27,mv 8 28] []) .skip)) (.block 2 (.seq (.region [mv 30 7,oo 31 (.not (tm 30)),mv 29 31] []) (.cond (tm 29) (.seq (.region [o0 (.store 1 (tm 4) (Kc 4))] []) .ret) (.seq (.region [mv 33 8,lA 34 3 6,oo 35 (.call 75 [tm 34]),oo 36 (.bin .gtr (tm 33) (tm 35)),mv 37 36,oF 38 37 (.offA 0 (tm 5)),oF 39 37 (.load 1 false (tm 38)),oF 40 37 (.bin .eql (tm 39) (Kc 4)),mF 41 40 37,oT 42 41 (.offA 3 (tm 5)),oT 43 41 (.load 1 false (tm 42)),oT 44 41 (.offA 2 (tm 6)),oT 45 41 (.load 1 false (tm 44)),oT 46 41 (.bin .gtr (tm 43) (tm 45)),oF 47 37 (.pick (tm 41) (tm 46) kF),oo 48 (.pick (tm 37) kT (tm 47)),mv 32 48] []) (.cond (tm 32) (.seq (.region [o0 (.store 1 (tm 4) (Kc 1))] []) .ret) .skip))))))))))
theorem JS:bD Tryz.prog 49 [] CG=some Fv:=by kernel_rfl
theorem Jf [Glb] {st:St} {Q:aB→St→Prop} (hw:wpC Tryz.prog Fv st Q):aI Tryz.prog 49 CG st Q:=aI.low mx JS (by kernel_rfl) (by kernel_rfl) hw
def CM:Code:=ir [1,1] b69
def FB:aY:=(.seq (.region [o0 (.store 1 (tm 4) (Kc 0))] []) .ret)
theorem JY:bD Tryz.prog 49 [] CM=some FB:=by kernel_rfl
theorem Jk [Glb] {st:St} {Q:aB→St→Prop} (hw:wpC Tryz.prog FB st Q):aI Tryz.prog 49 CM st Q:=aI.low mx JY (by kernel_rfl) (by kernel_rfl) hw
theorem k69:b69=(.seq Co (.seq (.seq Cu (.block 0 (.rangeFunc (.tmp 10) #[11] CA CG))) CM)):=by kernel_rfl
def b17:Code:=(Tryz.f17.body).getD .skip
theorem Ll:Tryz.f17.body=some b17:=by kernel_rfl
def Cj:Code:=ir [0] b17
def EZ:aY:=(.region [oo 2 (.box 1 (tm 0)),oo 3 (.box 9 (tm 1)),oo 4 (.alloc [Z0])] [])
theorem Jv:bD Tryz.prog 47 [] Cj=some EZ:=by kernel_rfl
theorem IS [Glb] {st:St} {Q:aB→St→Prop} (hw:wpC Tryz.prog EZ st Q):aI Tryz.prog 47 Cj st Q:=aI.low mx Jv (by kernel_rfl) (by kernel_rfl) hw
def Cp:Code:=ir [1,0] b17
def Fb:aY:=(.seq (.region [lA 10 9 3,oo 11 (.call 72 [tm 10]),mv 5 11] []) (.seq (.region [mv 12 5,oo 13 (.bin .neq (tm 12) (Kc 0))] []) (.cond (tm 13) (.seq (.region [mv 14 5,o0 (.store 1 (tm 4) (tm 14))] []) .ret) .skip)))
theorem JB:bD Tryz.prog 47 [] Cp=some Fb:=by kernel_rfl
theorem IY [Glb] {st:St} {Q:aB→St→Prop} (hw:wpC Tryz.prog Fb st Q):aI Tryz.prog 47 Cp st Q:=aI.low mx JB (by kernel_rfl) (by kernel_rfl) hw
def Cv:Code:=ir [1,1,0,0] b17
def Fi:aY:=(.region [lA 15 9 3,oo 16 (.call 73 [tm 15])] [])
theorem JH:bD Tryz.prog 47 [] Cv=some Fi:=by kernel_rfl
theorem I4 [Glb] {st:St} {Q:aB→St→Prop} (hw:wpC Tryz.prog Fi st Q):aI Tryz.prog 47 Cv st Q:=aI.low mx JH (by kernel_rfl) (by kernel_rfl) hw
def CB:Code:=ir [1,1,0,1,0,0] b17
def Fp:aY:=(.region [⟨some 6,.alloc [Z0,Z0,S0,Z0,Z0,.nil,S0,Z0,.nil],none,[]⟩,o0 (.store 9 (tm 6) (tm 17))] [])
theorem JN:bD Tryz.prog 47 [] CB=some Fp:=by kernel_rfl
theorem Ja [Glb] {st:St} {Q:aB→St→Prop} (hw:wpC Tryz.prog Fp st Q):aI Tryz.prog 47 CB st Q:=aI.low mx JN (by kernel_rfl) (by kernel_rfl) hw
def CH:Code:=ir [1,1,0,1,0,1] b17
def Fw:aY:=(.block 1 (.seq (.region [fa 18 0 6,ld 19 18] []) (.block 2 (.seq (.region [oo 21 (.bin .eql (tm 19) (Kc 1)),mv 20 21] []) (.cond (tm 20) (.seq (.region [ld 22 2,fa 23 1 6,lA 24 5 23,oo 25 (.call 69 [(tm 22),(tm 24)]),mv 7 25] []) (.seq (.region [mv 26 7,oo 27 (.bin .neq (tm 26) (Kc 0))] []) (.cond (tm 27) (.seq (.region [mv 28 7,o0 (.store 1 (tm 4) (tm 28))] []) .ret) .skip))) (.seq (.region [oo 30 (.bin .eql (tm 19) (Kc 2)),mv 29 30] []) (.cond (tm 29) (.seq (.region [ld 32 2,fa 33 6 6,ld 34 33,oo 35 (.call 74 [(tm 32),(tm 34)]),mv 31 35,oo 36 (.ext (tm 31) 0),oo 37 (.ext (tm 31) 1),⟨some 8,.alloc [S0,Z0,Z0],none,[]⟩,o0 (.store 3 (tm 8) (tm 36)),mv 9 37] []) (.block 3 (.seq (.region [mv 39 9,oo 40 (.not (tm 39)),mv 38 40] []) (.cond (tm 38) (.seq (.region [o0 (.store 1 (tm 4) (Kc 4))] []) .ret) (.seq (.region [fa 42 7 6,ld 43 42,lA 44 3 8,oo 45 (.call 75 [tm 44]),oo 46 (.bin .gtr (tm 43) (tm 45)),mv 41 46] []) (.cond (tm 41) (.seq (.region [o0 (.store 1 (tm 4) (Kc 1))] []) .ret) .skip)))))) .skip)))))))
theorem JT:bD Tryz.prog 47 [] CH=some Fw:=by kernel_rfl
theorem Jg [Glb] {st:St} {Q:aB→St→Prop} (hw:wpC Tryz.prog Fw st Q):aI Tryz.prog 47 CH st Q:=aI.low mx JT (by kernel_rfl) (by kernel_rfl) hw
def CN:Code:=ir [1,1,1] b17
def FC:aY:=(.seq (.region [o0 (.store 1 (tm 4) (Kc 0))] []) .ret)
theorem JZ:bD Tryz.prog 47 [] CN=some FC:=by kernel_rfl
theorem Jl [Glb] {st:St} {Q:aB→St→Prop} (hw:wpC Tryz.prog FC st Q):aI Tryz.prog 47 CN st Q:=aI.low mx JZ (by kernel_rfl) (by kernel_rfl) hw
theorem k17:b17=(.seq Cj (.seq Cp (.seq (.seq Cv (.block 0 (.rangeFunc (.tmp 16) #[17] CB CH))) CN))):=by kernel_rfl
def b23:Code:=(Tryz.f23.body).getD .skip
theorem Lm:Tryz.f23.body=some b23:=by kernel_rfl
def Ck:Code:=ir [0] b23
def E0:aY:=(.region [oo 1 (.box 9 (tm 0)),oo 2 (.mov (.const .nil))] [])
theorem Jw:bD Tryz.prog 18 [] Ck=some E0:=by kernel_rfl
theorem IT [Glb] {st:St} {Q:aB→St→Prop} (hw:wpC Tryz.prog E0 st Q):aI Tryz.prog 18 Ck st Q:=aI.low mx Jw (by kernel_rfl) (by kernel_rfl) hw
def Cq:Code:=ir [1,0] b23
def Fc:aY:=(.region [oo 5 (.mkmap false [.str]),oo 3 (.alloc [.nilmap]),o0 (.store 1 (tm 3) (tm 5))] [])
theorem JC:bD Tryz.prog 18 [] Cq=some Fc:=by kernel_rfl
theorem IZ [Glb] {st:St} {Q:aB→St→Prop} (hw:wpC Tryz.prog Fc st Q):aI Tryz.prog 18 Cq st Q:=aI.low mx JC (by kernel_rfl) (by kernel_rfl) hw
def Cw:Code:=ir [1,1,0,0] b23
def Fj:aY:=(.region [lA 6 9 1,oo 7 (.call 86 [tm 6])] [])
theorem JI:bD Tryz.prog 18 [] Cw=some Fj:=by kernel_rfl
theorem I5 [Glb] {st:St} {Q:aB→St→Prop} (hw:wpC Tryz.prog Fj st Q):aI Tryz.prog 18 Cw st Q:=aI.low mx JI (by kernel_rfl) (by kernel_rfl) hw
def CC:Code:=ir [1,1,0,1,0,0] b23
def Fq:aY:=(.region [⟨some 4,.alloc [Z0,S0,Z0,Z0,.nil],none,[]⟩,o0 (.store 5 (tm 4) (tm 8))] [])
theorem JO:bD Tryz.prog 18 [] CC=some Fq:=by kernel_rfl
theorem Jb [Glb] {st:St} {Q:aB→St→Prop} (hw:wpC Tryz.prog Fq st Q):aI Tryz.prog 18 CC st Q:=aI.low mx JO (by kernel_rfl) (by kernel_rfl) hw
def CI:Code:=ir [1,1,0,1,0,1] b23
def Fx:aY:=(.block 1 (.seq (.region [fa 9 1 4,ld 10 9,⟨some 11,.bin .neq (tm 10) (.const S0),none,[]⟩] []) (.cond (tm 11) (.region [ld 12 3,fa 13 1 4,ld 14 13,o0 (.bK false [.str] (tm 12) (tm 14) kT)] []) .skip)))
theorem JU:bD Tryz.prog 18 [] CI=some Fx:=by kernel_rfl
theorem Jh [Glb] {st:St} {Q:aB→St→Prop} (hw:wpC Tryz.prog Fx st Q):aI Tryz.prog 18 CI st Q:=aI.low mx JU (by kernel_rfl) (by kernel_rfl) hw
def CO:Code:=ir [1,1,1] b23
def FD:aY:=(.seq (.region [ld 15 3,oo 16 (.call 88 [tm 15]),oo 17 (.call 87 [tm 16]),mv 2 17] []) .ret)
theorem J0:bD Tryz.prog 18 [] CO=some FD:=by kernel_rfl
theorem Jm [Glb] {st:St} {Q:aB→St→Prop} (hw:wpC Tryz.prog FD st Q):aI Tryz.prog 18 CO st Q:=aI.low mx J0 (by kernel_rfl) (by kernel_rfl) hw
theorem k23:b23=(.seq Ck (.seq Cq (.seq (.seq Cw (.block 0 (.rangeFunc (.tmp 7) #[8] CC CI))) CO))):=by kernel_rfl
def b25:Code:=(Tryz.f25.body).getD .skip
theorem Ln:Tryz.f25.body=some b25:=by kernel_rfl
def Cl:Code:=ir [0] b25
def E7:aY:=(.region [oo 1 (.box 9 (tm 0)),oo 2 (.mov (.const .nil))] [])
theorem Jx:bD Tryz.prog 18 [] Cl=some E7:=by kernel_rfl
theorem IU [Glb] {st:St} {Q:aB→St→Prop} (hw:wpC Tryz.prog E7 st Q):aI Tryz.prog 18 Cl st Q:=aI.low mx Jx (by kernel_rfl) (by kernel_rfl) hw
def Cr:Code:=ir [1,0] b25
def Fe:aY:=(.region [oo 5 (.mkmap false [.str]),oo 3 (.alloc [.nilmap]),o0 (.store 1 (tm 3) (tm 5))] [])
theorem JD:bD Tryz.prog 18 [] Cr=some Fe:=by kernel_rfl
theorem I0 [Glb] {st:St} {Q:aB→St→Prop} (hw:wpC Tryz.prog Fe st Q):aI Tryz.prog 18 Cr st Q:=aI.low mx JD (by kernel_rfl) (by kernel_rfl) hw
def Cx:Code:=ir [1,1,0,0] b25
def Fk:aY:=(.region [lA 6 9 1,oo 7 (.call 73 [tm 6])] [])
theorem JJ:bD Tryz.prog 18 [] Cx=some Fk:=by kernel_rfl
theorem I6 [Glb] {st:St} {Q:aB→St→Prop} (hw:wpC Tryz.prog Fk st Q):aI Tryz.prog 18 Cx st Q:=aI.low mx JJ (by kernel_rfl) (by kernel_rfl) hw
def CD:Code:=ir [1,1,0,1,0,0] b25
def Fs:aY:=(.region [⟨some 4,.alloc [Z0,Z0,S0,Z0,Z0,.nil,S0,Z0,.nil],none,[]⟩,o0 (.store 9 (tm 4) (tm 8))] [])
theorem JP:bD Tryz.prog 18 [] CD=some Fs:=by kernel_rfl
theorem Jc [Glb] {st:St} {Q:aB→St→Prop} (hw:wpC Tryz.prog Fs st Q):aI Tryz.prog 18 CD st Q:=aI.low mx JP (by kernel_rfl) (by kernel_rfl) hw
def CJ:Code:=ir [1,1,0,1,0,1] b25
def Fy:aY:=(.block 1 (.seq (.region [fa 9 0 4,ld 10 9,oo 11 (.bin .eql (tm 10) (Kc 2))] []) (.cond (tm 11) (.region [ld 12 3,fa 13 6 4,ld 14 13,o0 (.bK false [.str] (tm 12) (tm 14) kT)] []) .skip)))
theorem JV:bD Tryz.prog 18 [] CJ=some Fy:=by kernel_rfl
theorem Ji [Glb] {st:St} {Q:aB→St→Prop} (hw:wpC Tryz.prog Fy st Q):aI Tryz.prog 18 CJ st Q:=aI.low mx JV (by kernel_rfl) (by kernel_rfl) hw
def CP:Code:=ir [1,1,1] b25
def FE:aY:=(.seq (.region [ld 15 3,oo 16 (.call 88 [tm 15]),oo 17 (.call 87 [tm 16]),mv 2 17] []) .ret)
theorem J1:bD Tryz.prog 18 [] CP=some FE:=by kernel_rfl
theorem Jn [Glb] {st:St} {Q:aB→St→Prop} (hw:wpC Tryz.prog FE st Q):aI Tryz.prog 18 CP st Q:=aI.low mx J1 (by kernel_rfl) (by kernel_rfl) hw
theorem k25:b25=(.seq Cl (.seq Cr (.seq (.seq Cx (.block 0 (.rangeFunc (.tmp 7) #[8] CD CJ))) CP))):=by kernel_rfl
def b28:Code:=(Tryz.f28.body).getD .skip
theorem Lo:Tryz.f28.body=some b28:=by kernel_rfl
def Cm:Code:=ir [0] b28
def E8:aY:=(.region [oo 1 (.box 9 (tm 0)),oo 2 (.mov (.const .nil))] [])
theorem Jy:bD Tryz.prog 23 [] Cm=some E8:=by kernel_rfl
theorem IV [Glb] {st:St} {Q:aB→St→Prop} (hw:wpC Tryz.prog E8 st Q):aI Tryz.prog 23 Cm st Q:=aI.low mx Jy (by kernel_rfl) (by kernel_rfl) hw
def Cs:Code:=ir [1,0] b28
def Ff:aY:=(.region [oo 5 (.mkmap false [.int .i64]),oo 3 (.alloc [.nilmap]),o0 (.store 1 (tm 3) (tm 5))] [])
theorem JE:bD Tryz.prog 23 [] Cs=some Ff:=by kernel_rfl
theorem I1 [Glb] {st:St} {Q:aB→St→Prop} (hw:wpC Tryz.prog Ff st Q):aI Tryz.prog 23 Cs st Q:=aI.low mx JE (by kernel_rfl) (by kernel_rfl) hw
def Cy:Code:=ir [1,1,0,0] b28
def Fl:aY:=(.region [lA 6 9 1,oo 7 (.call 73 [tm 6])] [])
theorem JK:bD Tryz.prog 23 [] Cy=some Fl:=by kernel_rfl
theorem I7 [Glb] {st:St} {Q:aB→St→Prop} (hw:wpC Tryz.prog Fl st Q):aI Tryz.prog 23 Cy st Q:=aI.low mx JK (by kernel_rfl) (by kernel_rfl) hw
def CE:Code:=ir [1,1,0,1,0,0] b28
def Ft:aY:=(.region [⟨some 4,.alloc [Z0,Z0,S0,Z0,Z0,.nil,S0,Z0,.nil],none,[]⟩,o0 (.store 9 (tm 4) (tm 8))] [])
theorem JQ:bD Tryz.prog 23 [] CE=some Ft:=by kernel_rfl
theorem Jd [Glb] {st:St} {Q:aB→St→Prop} (hw:wpC Tryz.prog Ft st Q):aI Tryz.prog 23 CE st Q:=aI.low mx JQ (by kernel_rfl) (by kernel_rfl) hw
def CK:Code:=ir [1,1,0,1,0,1] b28
def Fz:aY:=(.block 1 (.seq (.region [fa 9 0 4,ld 10 9,oo 11 (.bin .eql (tm 10) (Kc 2)),mv 12 11,oT 13 12 (.offA 6 (tm 4)),oT 14 12 (.load 1 false (tm 13)),⟨some 15,.bin .eql (tm 14) (.const (.str ⟨#[112,111,114,116]⟩)),some (12,true),[]⟩,oo 16 (.pick (tm 12) (tm 15) kF)] []) (.cond (tm 16) (.region [ld 17 3,fa 18 7 4,ld 19 18,o0 (.bK false [.int .i64] (tm 17) (tm 19) kT)] []) .skip)))
theorem JW:bD Tryz.prog 23 [] CK=some Fz:=by kernel_rfl
theorem Jj [Glb] {st:St} {Q:aB→St→Prop} (hw:wpC Tryz.prog Fz st Q):aI Tryz.prog 23 CK st Q:=aI.low mx JW (by kernel_rfl) (by kernel_rfl) hw
def CQ:Code:=ir [1,1,1] b28
def FF:aY:=(.seq (.region [ld 20 3,oo 21 (.call 92 [tm 20]),oo 22 (.call 91 [tm 21]),mv 2 22] []) .ret)
theorem J2:bD Tryz.prog 23 [] CQ=some FF:=by kernel_rfl
theorem Jo [Glb] {st:St} {Q:aB→St→Prop} (hw:wpC Tryz.prog FF st Q):aI Tryz.prog 23 CQ st Q:=aI.low mx J2 (by kernel_rfl) (by kernel_rfl) hw
theorem k28:b28=(.seq Cm (.seq Cs (.seq (.seq Cy (.block 0 (.rangeFunc (.tmp 7) #[8] CE CK))) CQ))):=by kernel_rfl
def b57:Code:=(Tryz.f57.body).getD .skip
theorem Lp:Tryz.f57.body=some b57:=by kernel_rfl
def Cn:Code:=ir [0] b57
def E9:aY:=(.region [oo 2 (.mov (.const .nil))] [])
theorem Jz:bD Tryz.prog 31 [] Cn=some E9:=by kernel_rfl
theorem IW [Glb] {st:St} {Q:aB→St→Prop} (hw:wpC Tryz.prog E9 st Q):aI Tryz.prog 31 Cn st Q:=aI.low mx Jz (by kernel_rfl) (by kernel_rfl) hw
def Ct:Code:=ir [1,0] b57
def Fg:aY:=(.region [oo 7 (.mkmap false [.int .i64]),oo 3 (.alloc [.nilmap]),o0 (.store 1 (tm 3) (tm 7))] [])
theorem JF:bD Tryz.prog 31 [] Ct=some Fg:=by kernel_rfl
theorem I2 [Glb] {st:St} {Q:aB→St→Prop} (hw:wpC Tryz.prog Fg st Q):aI Tryz.prog 31 Ct st Q:=aI.low mx JF (by kernel_rfl) (by kernel_rfl) hw
def Cz:Code:=ir [1,1,0,0] b57
def Fm:aY:=(.region [mv 8 0,ln 9 8,oo 10 (.mov (Kc 0))] [])
theorem JL:bD Tryz.prog 31 [] Cz=some Fm:=by kernel_rfl
theorem I8 [Glb] {st:St} {Q:aB→St→Prop} (hw:wpC Tryz.prog Fm st Q):aI Tryz.prog 31 Cz st Q:=aI.low mx JL (by kernel_rfl) (by kernel_rfl) hw
def CF:Code:=ir [1,1,0,1,0,0,0] b57
def Fu:aY:=(.region [oo 11 (.bin .lss (tm 10) (tm 9))] [])
theorem JR:bD Tryz.prog 31 [] CF=some Fu:=by kernel_rfl
theorem Je [Glb] {st:St} {Q:aB→St→Prop} (hw:wpC Tryz.prog Fu st Q):aI Tryz.prog 31 CF st Q:=aI.low mx JR (by kernel_rfl) (by kernel_rfl) hw
def CL:Code:=ir [1,1,0,1,0,0,1,0] b57
def FA:aY:=(.cond (tm 11) .skip (.exit 0))
theorem JX:bD Tryz.prog 31 [] CL=some FA:=by kernel_rfl
theorem EY [Glb] {st:St} {Q:aB→St→Prop} (hw:wpC Tryz.prog FA st Q):aI Tryz.prog 31 CL st Q:=aI.low mx JX (by kernel_rfl) (by kernel_rfl) hw
def CR:Code:=ir [1,1,0,1,0,0,1,1,0,0,0] b57
def FG:aY:=(.region [ix 12 15 8 10,lA 13 15 12,⟨some 5,.alloc [Z0,Z0,S0,Z0,Z0,.nil,S0,Z0,.nil,Z0,S0,.nil,S0,Z0,Z0],none,[]⟩,o0 (.store 15 (tm 5) (tm 13))] [])
theorem J3:bD Tryz.prog 31 [] CR=some FG:=by kernel_rfl
theorem Jp [Glb] {st:St} {Q:aB→St→Prop} (hw:wpC Tryz.prog FG st Q):aI Tryz.prog 31 CR st Q:=aI.low mx J3 (by kernel_rfl) (by kernel_rfl) hw
def CS:Code:=ir [1,1,0,1,0,0,1,1,0,0,1,0] b57
def FH:aY:=(.region [fa 14 0 5,lA 15 9 14,oo 16 (.call 86 [tm 15])] [])
theorem J4:bD Tryz.prog 31 [] CS=some FH:=by kernel_rfl
theorem Jq [Glb] {st:St} {Q:aB→St→Prop} (hw:wpC Tryz.prog FH st Q):aI Tryz.prog 31 CS st Q:=aI.low mx J4 (by kernel_rfl) (by kernel_rfl) hw
def CT:Code:=ir [1,1,0,1,0,0,1,1,0,0,1,1,0,0] b57
def FI:aY:=(.region [⟨some 6,.alloc [Z0,S0,Z0,Z0,.nil],none,[]⟩,o0 (.store 5 (tm 6) (tm 17))] [])
theorem J5:bD Tryz.prog 31 [] CT=some FI:=by kernel_rfl
theorem Jr [Glb] {st:St} {Q:aB→St→Prop} (hw:wpC Tryz.prog FI st Q):aI Tryz.prog 31 CT st Q:=aI.low mx J5 (by kernel_rfl) (by kernel_rfl) hw
def CU:Code:=ir [1,1,0,1,0,0,1,1,0,0,1,1,0,1] b57
def FJ:aY:=(.block 3 (.seq (.region [fa 18 0 6,ld 19 18,oo 20 (.bin .eql (tm 19) (Kc 9))] []) (.cond (tm 20) (.region [ld 21 3,fa 22 2 6,ld 23 22,ld 24 3,fa 25 3 6,ld 26 25,o0 (.bK false [.int .i64] (tm 21) (tm 23) kT),o0 (.bK false [.int .i64] (tm 24) (tm 26) kT)] [[],[],[],[],[],[],[3,5],[]]) .skip)))
theorem J6:bD Tryz.prog 31 [] CU=some FJ:=by kernel_rfl
theorem Js [Glb] {st:St} {Q:aB→St→Prop} (hw:wpC Tryz.prog FJ st Q):aI Tryz.prog 31 CU st Q:=aI.low mx J6 (by kernel_rfl) (by kernel_rfl) hw
def CV:Code:=ir [1,1,0,1,0,0,1,1,1] b57
def FK:aY:=(.region [oo 27 (.bin .add (tm 10) (Kc 1)),mv 10 27] [])
theorem J7:bD Tryz.prog 31 [] CV=some FK:=by kernel_rfl
theorem Jt [Glb] {st:St} {Q:aB→St→Prop} (hw:wpC Tryz.prog FK st Q):aI Tryz.prog 31 CV st Q:=aI.low mx J7 (by kernel_rfl) (by kernel_rfl) hw
def AP:Code:=ir [1,1,1] b57
def Dw:aY:=(.seq (.region [ld 28 3,oo 29 (.call 92 [tm 28]),oo 30 (.call 91 [tm 29]),mv 2 30] []) .ret)
theorem Hf:bD Tryz.prog 31 [] AP=some Dw:=by kernel_rfl
theorem GQ [Glb] {st:St} {Q:aB→St→Prop} (hw:wpC Tryz.prog Dw st Q):aI Tryz.prog 31 AP st Q:=aI.low mx Hf (by kernel_rfl) (by kernel_rfl) hw
theorem k57:b57=(.seq Cn (.seq Ct (.seq (.seq Cz (.block 0 (.loop (.seq CF (.seq CL (.seq (.block 1 (.seq CR (.seq CS (.block 2 (.rangeFunc (.tmp 16) #[17] CT CU))))) CV)))))) AP))):=by kernel_rfl
end Go.TY
end
section
namespace Go.TY
open Go Go.DL Go.MM Go.Proofs
attribute [local irreducible] aI gR WCM YC
section
variable [Glb]
theorem zl {l:Nat} {rc:Option Code→Loop} {cxo:aa→World→Prop} {own:St} {F:Nat→Prop} {hi:Nat} {xs:List T} {outs:Nat→List (Nat×BX)} {stop:Code→(aa→World→Prop)→List (Nat×BX)→Prop} (G:dR Tryz.prog l rc cxo own F hi xs outs stop) (yb wb:Nat) (hyb:hi≤yb) (hwb:hi≤wb):
  ∀(b:Nat) (r:RP),(th r).length≤b→b<2^60→ ∀(k m off:Nat) (st:St) (d:Option Nat) (K:St→Prop),(∀ j x,(th r)[j]? =some x→xs[k+j]? =some (sM x))→AtI qF l (rc none) cxo own F (outs k) m st→
   (∀ n,off≤n→st.bx n=none)→yb<off→wb<off→hi≤off→st.bx yb=some (.v [lV l])→st.bx wb=some (.v [.fn 146 [.ptr yb 0,.ptr wb 0]])→
   K (({st with bx:=aK st.bx (outs (k+(th r).length))}:St).set d (.t (.bool true)))→
   (∀ c cx' o',stop c cx' o'→K (({st with bx:=aK st.bx o',cx:=dC l (rc (some c)) cx' m }:St).set d (.t (.bool false))))→
   WCM Tryz.prog 146 [.t (sM r),.ptr yb 0,.ptr wb 0] d st K
 |0,r,hb=>by rw [xj] at hb;simp at hb
 |b+1,r,hb=>by
  intro hB k m off st d K hxs hA hfree hyo hwo hio hy hw hK hS
  have ih:=zl G yb wb hyb hwb b
  refine WCM.clean (fun hnb=>?_) (bQ Tryz.func146 rfl rfl)
  refine WCM.run Tryz.func146 IC rfl off (nlZ rfl) ?_
  rw [Lv]
  obtain ⟨kd,f,n,mm,args⟩:=r
  have hA1:=hA.enter [.t (sM (.mk kd f n mm args)),.ptr yb 0,.ptr wb 0] off
  have hf3:=hfree (3+off) (by omega)
  have hnm: ∀{k:Nat} {q:Nat},hi≤q→ ∀p∈outs k,p.1≠q:=fun h p hp e=>by have:=(G.nm _ p hp).1;omega
  have hnms: ∀{c cx o} {q:Nat},stop c cx o→hi≤q→ ∀p∈o,p.1≠q:=fun hs h p hp e=>by have:=(G.nms _ _ _ hs p hp).1;omega
  have hpl:(th (.mk kd f n mm args)).length=1+(sX args).length:=by rw [xj,List.length_cons];exact Nat.add_comm _ _
  rw [sG] at hA1 ⊢
  have endT: ∀(s2:St),s2.gh=dO st.sl st.gh→s2.cx=dC l (rc none) cxo (m+1)→(∀ q, ¬q∈[3+off]→s2.bx q=aK st.bx (outs (k+(th (.mk kd f n mm args)).length)) q)→s2.sl 4= .t (.bool true)→
    qJ Tryz.f146.results.toList st.off d (fun s=> ∃fr s',K s'∧DL.Clean st fr s s') .ret s2:=fun s2 h1 h2 h3 h4=>by
   refine ⟨[.t (.bool true)],st.cx,?_,by rw [h2,hA.cx];rfl,by rw [hA.cx];exact qj G.cxo_,[3+off],_,hK,?_⟩
   ·show (match s2.sl 4 with|u=>some [u])=_
    rw [h4]
   ·exact mL (by rw [h1];rfl) (fun j=>by rw [h1];rfl) h3 (fun q hq=>by rw [List.mem_singleton.1 hq];exact ⟨hf3,hnm (by omega)⟩) (G.sf (G.lvA hA.at_) _)
  have endF: ∀(c:Code) (cx':aa→World→Prop) (o':List (Nat×BX)) (s2:St),stop c cx' o'→s2.gh=dO st.sl st.gh→s2.cx=dC l (rc (some c)) cx' (m+1)→(∀ q, ¬q∈[3+off]→s2.bx q=aK st.bx o' q)→s2.sl 4= .t (.bool false)→
    qJ Tryz.f146.results.toList st.off d (fun s=> ∃fr s',K s'∧DL.Clean st fr s s') .ret s2:=fun c cx' o' s2 hs h1 h2 h3 h4=>by
   refine ⟨[.t (.bool false)],dC l (rc (some c)) cx' m,?_,h2,qj (G.cxd _ _ _ hs),[3+off],_,hS c cx' o' hs,?_⟩
   ·show (match s2.sl 4 with|u=>some [u])=_
    rw [h4]
   ·exact mL (by rw [h1];rfl) (fun j=>by rw [h1];rfl) h3 (fun q hq=>by rw [List.mem_singleton.1 hq];exact ⟨hf3,hnms hs (by omega)⟩) (G.sfs (G.lvA hA.at_) _ _ _ hs)
  generalize qJ Tryz.f146.results.toList st.off d (fun s=> ∃fr s',K s'∧DL.Clean st fr s s')=nW at endT endF ⊢
  refine aI.seq (GP (pX (r7 (cs:=sB (.mk kd f n mm args)) rfl rfl hf3 (sg rfl (qW ?_)))))
  refine aI.seq (aI.seq (HY (r8 (b:=yb) rfl ((ae _ _ _ _ (show yb≠3+off by omega)).trans hy) rfl (r9 (b:=3+off) rfl (ah _ _ _) (qW (rS rfl rfl ?_))))))
  have hx0:xs[k]? =some (T.agg (sB (.mk kd f n mm args))):=by rw [← sG];exact hxs 0 _ (by rw [xj];rfl)
  refine G.yld qF k _ (m+1) _ _ _ hx0 (hA1.of rfl rfl (fun q h1=>ae _ _ _ _ (show q≠3+off by have:=G.fh q h1;omega)) (fun p hp=>(ae _ _ _ _ (hnm (show hi≤3+off by omega) p hp)).trans (hA1.at_ p hp)) ⟨off+4,fun q hq=>(ae _ _ _ _ (show q≠3+off by omega)).trans (hfree q (by omega))⟩) ?t (fun c cx' o' hs=> ?f)
  case f=>
   refine sj rfl (qW ?_)
   refine Df (rN rfl (rr (sg rfl (qW (rP ?_)))))
   refine endF c cx' o' _ hs rfl rfl (fun q hq=>?_) rfl
   exact oZ (ae _ _ _ _ (show q≠3+off from fun e=>hq (by rw [e];simp))) o'
  case t=>
  refine sj rfl (qW ?_)
  refine Df (rM rfl (rQ ?_))
  let b1:Nat→Option BX:=upd st.bx (3+off) (some (.d 5 (sB (.mk kd f n mm args))))
  have hb13: ∀{k:Nat},aK b1 (outs k) (3+off)=some (.d 5 (sB (.mk kd f n mm args))):=(e7 (hnm (by omega))).trans (ah _ _ _)
  refine aI.seq (aI.seq (G0 (pX (rL (b:=3+off) (off:=0) rfl (sb (b:=3+off) (off:=0+4) rfl hb13 (by decide) rfl (sd (xs:=args.map sM) (n:=5) rfl (sg rfl (qW ?_))))))))
  refine aI.block (aI.rY (fun μ s=> ∃j sl,μ=args.length - j∧j≤args.length∧s={sl:=sl,bx:=aK b1 (outs (k+1+(sX (args.take j)).length)),gh:=dO st.sl st.gh,off:=off,cx:=dC l (rc none) cxo (m+1)}∧sl 1= .ptr yb 0∧sl 2= .ptr wb 0∧sl 12= .t (.slice 5 (args.map sM))∧sl 13= .t (I args.length)∧sl 14= .t (I j)) args.length ?_ ?_)
  ·exact ⟨0,_,by omega,by omega,St.ext' rfl rfl rfl rfl hA1.cx,rfl,rfl,rfl,by show V.t (.int .i64 ((args.map sM).length:Int))=_;rw [List.length_map],rfl⟩
  rintro μ s ⟨j,sl,rfl,hj,rfl,e1,e2,e12,e13,e14⟩
  refine aI.clean (fun _=>?_)
  refine aI.seq (G3 (pX (se (a:=j) (b:=args.length) e14 e13 (qW ?_))))
  by_cases hlt:j<args.length
  case neg=>
   refine aI.seq (Dh (rM (by show V.t (.bool (decide ((j:Int)<(args.length:Int))))=_;rw [decide_eq_false (by omega)]) (rO ?_)))
   refine ⟨[],{sl:=upd sl 15 .top,bx:=aK b1 (outs (k+1+(sX (args.take j)).length)),gh:=dO st.sl st.gh,off:=off,cx:=dC l (rc none) cxo (m+1)},?_,⟨fun q=>?_,⟨rfl,rfl⟩,rfl,rfl,fun q=>rfl,fun q _=>Or.inl rfl,fun q h=>h,by simp⟩⟩
   ·refine F4 (rr (sg rfl (qW (rP ?_))))
    refine endT _ rfl rfl (fun q hq=>?_) rfl
    have hjl:j=args.length:=by omega
    show aK b1 (outs (k+1+(sX (args.take j)).length)) q=_
    rw [hjl,List.take_length,hpl,Nat.add_assoc]
    exact oZ (ae _ _ _ _ (fun e=>hq (by rw [e];simp))) _
   ·by_cases h:q=15
    ·subst h;exact Or.inl (show upd sl 15 V.top 15=V.top from ah _ _ _)
    ·have h1:upd sl 15 V.top q=sl q:=ae _ _ _ _ h
     exact Or.inr ⟨h1.trans (show sl q=upd sl 15 _ q from (ae _ _ _ _ h).symm),Or.inl h1⟩
  refine aI.seq (Dh (rN (by show V.t (.bool (decide ((j:Int)<(args.length:Int))))=_;rw [decide_eq_true (by omega)]) (rQ ?_)))
  have hv:(args.map sM)[((j:Int)).toNat]?.getD .nil=T.agg (sB args[j]):=by
   rw [Int.toNat_natCast,List.getElem?_map,ggZ hlt]
   show sM args[j]=_
   exact sG _
  have hf6: ∀{k:Nat},aK b1 (outs k) (6+off)=none:=(e7 (hnm (by omega))).trans ((ae _ _ _ _ (by omega)).trans (hfree _ (by omega)))
  have hpt:=yY hlt
  have hpg:=fun i x=>@D6 args j i x hlt
  have hpm:=D7 hlt
  have hcl:=sJ args[j]
  have hec:=sG args[j]
  generalize args[j]=aj at hv hpt hpg hpm hcl hec
  refine aI.seq (aI.block (aI.seq (G6 (pX (rJ (xs:=args.map sM) (k:=(j:Int)) e12 e14 ⟨by omega,by rw [List.length_map];omega⟩ hv (sa (cs:=sB aj) rfl hcl (pW hf6 (rp (b:=6+off) (off:=0) rfl (ah _ _ _) rfl ⟨hcl,Nat.le_refl _⟩ (qW ?_)))))))))
  have hbo: ∀{x y:Option BX} {q k:Nat},q≠6+off→upd (upd (aK b1 (outs k)) (6+off) x) (6+off) y q=aK b1 (outs k) q:=fun h=>(ae _ _ _ _ h).trans (ae _ _ _ _ h)
  have hbo2: ∀{k q:Nat},hi≤q→q≠3+off→aK b1 (outs k) q=st.bx q:=fun h h'=>(e7 (hnm h)).trans (ae _ _ _ _ h')
  refine aI.seq (H4 (r8 (b:=wb) e2 ((hbo (by omega)).trans ((hbo2 hwb (by omega)).trans hw)) rfl (r9 (b:=6+off) rfl (ah _ _ _) (qW (rR (us':=[.t (sM aj),.ptr yb 0,.ptr wb 0]) rfl (by
   show [V.t (.agg (aN [.int .i64 0,.str ⟨#[]⟩,.int .i64 0,.int .i64 0,.nil] 0 5 (sB aj))),V.ptr yb 0,V.ptr wb 0]=_
   rw [mU (n:=5) rfl,hec]) ?_)))))
  refine ih aj (by omega) (by omega) (k+1+(sX (args.take j)).length) (m+1) (off+7) _ _ _ (fun i x hx=>?_) (hA1.of hA1.cx.symm rfl (fun q h1=>?_) (fun p hp=>?_) ⟨off+7,fun q hq=>?_⟩) (fun q hq=>?_) (by omega) (by omega) (by omega) ?_ ?_ ?t (fun c cx' o' hs=> ?f)
  ·rw [Nat.add_assoc,Nat.add_assoc]
   refine hxs _ x ?_
   rw [xj,Nat.add_comm,List.getElem?_cons_succ]
   exact hpg i x hx
  ·have hq1:=G.fh q h1
   exact (hbo (by omega)).trans ((e7 (fun p hp e=>(G.nm _ p hp).2 (by rw [e];exact h1))).trans (ae _ _ _ _ (by omega)))
  ·exact (hbo (hnm (show hi≤6+off by omega) p hp)).trans (mC (G.nd _) hp)
  ·exact (hbo (by omega)).trans ((hbo2 (by omega) (by omega)).trans (hfree q (by omega)))
  ·exact (hbo (by omega)).trans ((hbo2 (by omega) (by omega)).trans (hfree q (by omega)))
  ·exact (hbo (by omega)).trans ((hbo2 hyb (by omega)).trans hy)
  ·exact (hbo (by omega)).trans ((hbo2 hwb (by omega)).trans hw)
  case f=>
   refine sj rfl (qW ?_)
   refine Dk (rN rfl (rr (sg rfl (qW (rP ?_)))))
   refine ⟨[6+off],{sl:=fun n=>cond (Nat.beq n 4) (.t (.bool false)) .top,bx:=aK (aK b1 (outs (k+1+(sX (args.take j)).length))) o',gh:=dO st.sl st.gh,off:=off,cx:=dC l (rc (some c)) cx' (m+1)},endF c cx' o' _ hs rfl rfl (fun q hq=>?_) rfl,?_⟩
   ·show aK (aK b1 (outs _)) o' q=_
    rw [qY (G.covs _ _ _ hs _)]
    exact oZ (ae _ _ _ _ (fun e=>hq (by rw [e];simp))) _
   ·refine nj (fun q=>?_) rfl (fun q hq=>oZ (hbo (fun e=>hq (by rw [e];simp))) o') (fun q hq=>?_) (G.sfs (G.lvU _ _) _ _ _ hs)
    ·by_cases h:q=4
     ·subst h;exact Or.inr ⟨rfl,Or.inr (.t _)⟩
     ·refine Or.inl ?_
      show cond (Nat.beq q 4) _ _=_
      rw [eS h];rfl
    ·rw [List.mem_singleton.1 hq]
     exact ⟨hf6,hnms hs (by omega)⟩
  case t=>
   refine sj rfl (qW ?_)
   refine Dk (rM rfl (rQ ?_))
   have hge:=AA args
   have hw1:IntKind.i64.wrap ((j:Int)+1)=((j+1:Nat):Int):=by rw [mG (by omega) (by omega)];rfl
   refine G8 (pX (rZ (a:=(j:Int)) (b:=1) e14 rfl hw1 (sg rfl (qW ?_))))
   have hix:k+1+(sX (args.take j)).length+(th aj).length=k+1+(sX (args.take (j+1))).length:=by rw [hpt,List.length_append];omega
   refine ⟨[6+off],{sl:=upd (fun n=>cond (Nat.beq n 1||Nat.beq n 2||Nat.beq n 12||Nat.beq n 13) (sl n) .top) 14 (.t (I (j+1:Nat))),bx:=aK (aK b1 (outs (k+1+(sX (args.take j)).length))) (outs (k+1+(sX (args.take j)).length+(th aj).length)),gh:=dO st.sl st.gh,off:=off,cx:=dC l (rc none) cxo (m+1)},⟨args.length - (j+1),by omega,j+1,_,rfl,by omega,St.ext' rfl ((qY (G.cov _ _)).trans (congrArg (fun i=>aK b1 (outs i)) hix)) rfl rfl rfl,e1,e2,e12,e13,rfl⟩,?_⟩
   refine nj (fun q=>?_) rfl (fun q hq=>oZ (hbo (fun e=>hq (by rw [e];simp))) _) (fun q hq=>?_) (G.sf (G.lvU _ _) _)
   ·by_cases h14:q=14
    ·subst h14;exact Or.inr ⟨rfl,Or.inr (.t _)⟩
    by_cases h1:q=1
    ·subst h1;exact Or.inr ⟨by (conv=>lhs;whnf);(conv=>rhs;whnf),Or.inl rfl⟩
    by_cases h2:q=2
    ·subst h2;exact Or.inr ⟨by (conv=>lhs;whnf);(conv=>rhs;whnf),Or.inl rfl⟩
    by_cases h12:q=12
    ·subst h12;exact Or.inr ⟨by (conv=>lhs;whnf);(conv=>rhs;whnf),Or.inl rfl⟩
    by_cases h13:q=13
    ·subst h13;exact Or.inr ⟨by (conv=>lhs;whnf);(conv=>rhs;whnf),Or.inl rfl⟩
    refine Or.inl ?_
    show upd _ 14 _ q=_
    rw [ae _ _ _ _ h14]
    show cond (Nat.beq q 1||Nat.beq q 2||Nat.beq q 12||Nat.beq q 13) _ _=_
    rw [eS h1,eS h2,eS h12,eS h13];rfl
   ·rw [List.mem_singleton.1 hq]
    exact ⟨hf6,hnm (by omega)⟩
end
end Go.TY
end
section
namespace Go.TY
open Go Go.DL Go.MM Go.Proofs
attribute [local irreducible] aI gR WCM YC
section
variable [Glb]
theorem zk {l:Nat} {rc:Option Code→Loop} {cxo:aa→World→Prop} {own:St} {F:Nat→Prop} {hi:Nat} {xs:List T} {outs:Nat→List (Nat×BX)} {stop:Code→(aa→World→Prop)→List (Nat×BX)→Prop} (G:dR Tryz.prog l rc cxo own F hi xs outs stop) (yb wb:Nat) (hyb:hi≤yb) (hwb:hi≤wb):
  ∀(b:Nat) (r:RO),(sH r).length≤b→b<2^60→ ∀(k m off:Nat) (st:St) (d:Option Nat) (K:St→Prop),(∀ j x,(sH r)[j]? =some x→xs[k+j]? =some (uC x))→AtI qF l (rc none) cxo own F (outs k) m st→
   (∀ n,off≤n→st.bx n=none)→yb<off→wb<off→hi≤off→st.bx yb=some (.v [lV l])→st.bx wb=some (.v [.fn 117 [.ptr yb 0,.ptr wb 0]])→
   K (({st with bx:=aK st.bx (outs (k+(sH r).length))}:St).set d (.t (.bool true)))→
   (∀ c cx' o',stop c cx' o'→K (({st with bx:=aK st.bx o',cx:=dC l (rc (some c)) cx' m }:St).set d (.t (.bool false))))→
   WCM Tryz.prog 117 [.t (uC r),.ptr yb 0,.ptr wb 0] d st K
 |0,r,hb=>by rw [xi] at hb;simp at hb
 |b+1,r,hb=>by
  intro hB k m off st d K hxs hA hfree hyo hwo hio hy hw hK hS
  have ih:=zk G yb wb hyb hwb b
  refine WCM.clean (fun hnb=>?_) (bQ Tryz.func117 rfl rfl)
  refine WCM.run Tryz.func117 Iz rfl off (nlZ rfl) ?_
  rw [Ls]
  obtain ⟨kd,f,n,mm,args⟩:=r
  have hA1:=hA.enter [.t (uC (.mk kd f n mm args)),.ptr yb 0,.ptr wb 0] off
  have hf3:=hfree (3+off) (by omega)
  have hnm: ∀{k:Nat} {q:Nat},hi≤q→ ∀p∈outs k,p.1≠q:=fun h p hp e=>by have:=(G.nm _ p hp).1;omega
  have hnms: ∀{c cx o} {q:Nat},stop c cx o→hi≤q→ ∀p∈o,p.1≠q:=fun hs h p hp e=>by have:=(G.nms _ _ _ hs p hp).1;omega
  have hpl:(sH (.mk kd f n mm args)).length=1+(sR args).length:=by rw [xi,List.length_cons];exact Nat.add_comm _ _
  rw [sQ] at hA1 ⊢
  have endT: ∀(s2:St),s2.gh=dO st.sl st.gh→s2.cx=dC l (rc none) cxo (m+1)→(∀ q, ¬q∈[3+off]→s2.bx q=aK st.bx (outs (k+(sH (.mk kd f n mm args)).length)) q)→s2.sl 4= .t (.bool true)→
    qJ Tryz.f117.results.toList st.off d (fun s=> ∃fr s',K s'∧DL.Clean st fr s s') .ret s2:=fun s2 h1 h2 h3 h4=>by
   refine ⟨[.t (.bool true)],st.cx,?_,by rw [h2,hA.cx];rfl,by rw [hA.cx];exact qj G.cxo_,[3+off],_,hK,?_⟩
   ·show (match s2.sl 4 with|u=>some [u])=_
    rw [h4]
   ·exact mL (by rw [h1];rfl) (fun j=>by rw [h1];rfl) h3 (fun q hq=>by rw [List.mem_singleton.1 hq];exact ⟨hf3,hnm (by omega)⟩) (G.sf (G.lvA hA.at_) _)
  have endF: ∀(c:Code) (cx':aa→World→Prop) (o':List (Nat×BX)) (s2:St),stop c cx' o'→s2.gh=dO st.sl st.gh→s2.cx=dC l (rc (some c)) cx' (m+1)→(∀ q, ¬q∈[3+off]→s2.bx q=aK st.bx o' q)→s2.sl 4= .t (.bool false)→
    qJ Tryz.f117.results.toList st.off d (fun s=> ∃fr s',K s'∧DL.Clean st fr s s') .ret s2:=fun c cx' o' s2 hs h1 h2 h3 h4=>by
   refine ⟨[.t (.bool false)],dC l (rc (some c)) cx' m,?_,h2,qj (G.cxd _ _ _ hs),[3+off],_,hS c cx' o' hs,?_⟩
   ·show (match s2.sl 4 with|u=>some [u])=_
    rw [h4]
   ·exact mL (by rw [h1];rfl) (fun j=>by rw [h1];rfl) h3 (fun q hq=>by rw [List.mem_singleton.1 hq];exact ⟨hf3,hnms hs (by omega)⟩) (G.sfs (G.lvA hA.at_) _ _ _ hs)
  generalize qJ Tryz.f117.results.toList st.off d (fun s=> ∃fr s',K s'∧DL.Clean st fr s s')=nW at endT endF ⊢
  refine aI.seq (GM (pX (r7 (cs:=sW (.mk kd f n mm args)) rfl rfl hf3 (sg rfl (qW ?_)))))
  refine aI.seq (aI.seq (HX (r8 (b:=yb) rfl ((ae _ _ _ _ (show yb≠3+off by omega)).trans hy) rfl (r9 (b:=3+off) rfl (ah _ _ _) (qW (rS rfl rfl ?_))))))
  have hx0:xs[k]? =some (T.agg (sW (.mk kd f n mm args))):=by rw [← sQ];exact hxs 0 _ (by rw [xi];rfl)
  refine G.yld qF k _ (m+1) _ _ _ hx0 (hA1.of rfl rfl (fun q h1=>ae _ _ _ _ (show q≠3+off by have:=G.fh q h1;omega)) (fun p hp=>(ae _ _ _ _ (hnm (show hi≤3+off by omega) p hp)).trans (hA1.at_ p hp)) ⟨off+4,fun q hq=>(ae _ _ _ _ (show q≠3+off by omega)).trans (hfree q (by omega))⟩) ?t (fun c cx' o' hs=> ?f)
  case f=>
   refine sj rfl (qW ?_)
   refine De (rN rfl (rr (sg rfl (qW (rP ?_)))))
   refine endF c cx' o' _ hs rfl rfl (fun q hq=>?_) rfl
   exact oZ (ae _ _ _ _ (show q≠3+off from fun e=>hq (by rw [e];simp))) o'
  case t=>
  refine sj rfl (qW ?_)
  refine De (rM rfl (rQ ?_))
  let b1:Nat→Option BX:=upd st.bx (3+off) (some (.d 9 (sW (.mk kd f n mm args))))
  have hb13: ∀{k:Nat},aK b1 (outs k) (3+off)=some (.d 9 (sW (.mk kd f n mm args))):=(e7 (hnm (by omega))).trans (ah _ _ _)
  refine aI.seq (aI.seq (GY (pX (rL (b:=3+off) (off:=0) rfl (sb (b:=3+off) (off:=0+8) rfl hb13 (by decide) rfl (sd (xs:=args.map uC) (n:=9) rfl (sg rfl (qW ?_))))))))
  refine aI.block (aI.rY (fun μ s=> ∃j sl,μ=args.length - j∧j≤args.length∧s={sl:=sl,bx:=aK b1 (outs (k+1+(sR (args.take j)).length)),gh:=dO st.sl st.gh,off:=off,cx:=dC l (rc none) cxo (m+1)}∧sl 1= .ptr yb 0∧sl 2= .ptr wb 0∧sl 12= .t (.slice 9 (args.map uC))∧sl 13= .t (I args.length)∧sl 14= .t (I j)) args.length ?_ ?_)
  ·exact ⟨0,_,by omega,by omega,St.ext' rfl rfl rfl rfl hA1.cx,rfl,rfl,rfl,by show V.t (.int .i64 ((args.map uC).length:Int))=_;rw [List.length_map],rfl⟩
  rintro μ s ⟨j,sl,rfl,hj,rfl,e1,e2,e12,e13,e14⟩
  refine aI.clean (fun _=>?_)
  refine aI.seq (G1 (pX (se (a:=j) (b:=args.length) e14 e13 (qW ?_))))
  by_cases hlt:j<args.length
  case neg=>
   refine aI.seq (Dg (rM (by show V.t (.bool (decide ((j:Int)<(args.length:Int))))=_;rw [decide_eq_false (by omega)]) (rO ?_)))
   refine ⟨[],{sl:=upd sl 15 .top,bx:=aK b1 (outs (k+1+(sR (args.take j)).length)),gh:=dO st.sl st.gh,off:=off,cx:=dC l (rc none) cxo (m+1)},?_,⟨fun q=>?_,⟨rfl,rfl⟩,rfl,rfl,fun q=>rfl,fun q _=>Or.inl rfl,fun q h=>h,by simp⟩⟩
   ·refine F3 (rr (sg rfl (qW (rP ?_))))
    refine endT _ rfl rfl (fun q hq=>?_) rfl
    have hjl:j=args.length:=by omega
    show aK b1 (outs (k+1+(sR (args.take j)).length)) q=_
    rw [hjl,List.take_length,hpl,Nat.add_assoc]
    exact oZ (ae _ _ _ _ (fun e=>hq (by rw [e];simp))) _
   ·by_cases h:q=15
    ·subst h;exact Or.inl (show upd sl 15 V.top 15=V.top from ah _ _ _)
    ·have h1:upd sl 15 V.top q=sl q:=ae _ _ _ _ h
     exact Or.inr ⟨h1.trans (show sl q=upd sl 15 _ q from (ae _ _ _ _ h).symm),Or.inl h1⟩
  refine aI.seq (Dg (rN (by show V.t (.bool (decide ((j:Int)<(args.length:Int))))=_;rw [decide_eq_true (by omega)]) (rQ ?_)))
  have hv:(args.map uC)[((j:Int)).toNat]?.getD .nil=T.agg (sW args[j]):=by
   rw [Int.toNat_natCast,List.getElem?_map,ggZ hlt]
   show uC args[j]=_
   exact sQ _
  have hf6: ∀{k:Nat},aK b1 (outs k) (6+off)=none:=(e7 (hnm (by omega))).trans ((ae _ _ _ _ (by omega)).trans (hfree _ (by omega)))
  have hpt:=yX hlt
  have hpg:=fun i x=>@D0 args j i x hlt
  have hpm:=D3 hlt
  have hcl:=tA args[j]
  have hec:=sQ args[j]
  generalize args[j]=aj at hv hpt hpg hpm hcl hec
  refine aI.seq (aI.block (aI.seq (G5 (pX (rJ (xs:=args.map uC) (k:=(j:Int)) e12 e14 ⟨by omega,by rw [List.length_map];omega⟩ hv (sa (cs:=sW aj) rfl hcl (pW hf6 (rp (b:=6+off) (off:=0) rfl (ah _ _ _) rfl ⟨hcl,Nat.le_refl _⟩ (qW ?_)))))))))
  have hbo: ∀{x y:Option BX} {q k:Nat},q≠6+off→upd (upd (aK b1 (outs k)) (6+off) x) (6+off) y q=aK b1 (outs k) q:=fun h=>(ae _ _ _ _ h).trans (ae _ _ _ _ h)
  have hbo2: ∀{k q:Nat},hi≤q→q≠3+off→aK b1 (outs k) q=st.bx q:=fun h h'=>(e7 (hnm h)).trans (ae _ _ _ _ h')
  refine aI.seq (H3 (r8 (b:=wb) e2 ((hbo (by omega)).trans ((hbo2 hwb (by omega)).trans hw)) rfl (r9 (b:=6+off) rfl (ah _ _ _) (qW (rR (us':=[.t (uC aj),.ptr yb 0,.ptr wb 0]) rfl (by
   show [V.t (.agg (aN [.int .i64 0,.int .i64 0,.str ⟨#[]⟩,.int .i64 0,.int .i64 0,.nil,.str ⟨#[]⟩,.int .i64 0,.nil] 0 9 (sW aj))),V.ptr yb 0,V.ptr wb 0]=_
   rw [mU (n:=9) rfl,hec]) ?_)))))
  refine ih aj (by omega) (by omega) (k+1+(sR (args.take j)).length) (m+1) (off+7) _ _ _ (fun i x hx=>?_) (hA1.of hA1.cx.symm rfl (fun q h1=>?_) (fun p hp=>?_) ⟨off+7,fun q hq=>?_⟩) (fun q hq=>?_) (by omega) (by omega) (by omega) ?_ ?_ ?t (fun c cx' o' hs=> ?f)
  ·rw [Nat.add_assoc,Nat.add_assoc]
   refine hxs _ x ?_
   rw [xi,Nat.add_comm,List.getElem?_cons_succ]
   exact hpg i x hx
  ·have hq1:=G.fh q h1
   exact (hbo (by omega)).trans ((e7 (fun p hp e=>(G.nm _ p hp).2 (by rw [e];exact h1))).trans (ae _ _ _ _ (by omega)))
  ·exact (hbo (hnm (show hi≤6+off by omega) p hp)).trans (mC (G.nd _) hp)
  ·exact (hbo (by omega)).trans ((hbo2 (by omega) (by omega)).trans (hfree q (by omega)))
  ·exact (hbo (by omega)).trans ((hbo2 (by omega) (by omega)).trans (hfree q (by omega)))
  ·exact (hbo (by omega)).trans ((hbo2 hyb (by omega)).trans hy)
  ·exact (hbo (by omega)).trans ((hbo2 hwb (by omega)).trans hw)
  case f=>
   refine sj rfl (qW ?_)
   refine Dj (rN rfl (rr (sg rfl (qW (rP ?_)))))
   refine ⟨[6+off],{sl:=fun n=>cond (Nat.beq n 4) (.t (.bool false)) .top,bx:=aK (aK b1 (outs (k+1+(sR (args.take j)).length))) o',gh:=dO st.sl st.gh,off:=off,cx:=dC l (rc (some c)) cx' (m+1)},endF c cx' o' _ hs rfl rfl (fun q hq=>?_) rfl,?_⟩
   ·show aK (aK b1 (outs _)) o' q=_
    rw [qY (G.covs _ _ _ hs _)]
    exact oZ (ae _ _ _ _ (fun e=>hq (by rw [e];simp))) _
   ·refine nj (fun q=>?_) rfl (fun q hq=>oZ (hbo (fun e=>hq (by rw [e];simp))) o') (fun q hq=>?_) (G.sfs (G.lvU _ _) _ _ _ hs)
    ·by_cases h:q=4
     ·subst h;exact Or.inr ⟨rfl,Or.inr (.t _)⟩
     ·refine Or.inl ?_
      show cond (Nat.beq q 4) _ _=_
      rw [eS h];rfl
    ·rw [List.mem_singleton.1 hq]
     exact ⟨hf6,hnms hs (by omega)⟩
  case t=>
   refine sj rfl (qW ?_)
   refine Dj (rM rfl (rQ ?_))
   have hge:=Az args
   have hw1:IntKind.i64.wrap ((j:Int)+1)=((j+1:Nat):Int):=by rw [mG (by omega) (by omega)];rfl
   refine G7 (pX (rZ (a:=(j:Int)) (b:=1) e14 rfl hw1 (sg rfl (qW ?_))))
   have hix:k+1+(sR (args.take j)).length+(sH aj).length=k+1+(sR (args.take (j+1))).length:=by rw [hpt,List.length_append];omega
   refine ⟨[6+off],{sl:=upd (fun n=>cond (Nat.beq n 1||Nat.beq n 2||Nat.beq n 12||Nat.beq n 13) (sl n) .top) 14 (.t (I (j+1:Nat))),bx:=aK (aK b1 (outs (k+1+(sR (args.take j)).length))) (outs (k+1+(sR (args.take j)).length+(sH aj).length)),gh:=dO st.sl st.gh,off:=off,cx:=dC l (rc none) cxo (m+1)},⟨args.length - (j+1),by omega,j+1,_,rfl,by omega,St.ext' rfl ((qY (G.cov _ _)).trans (congrArg (fun i=>aK b1 (outs i)) hix)) rfl rfl rfl,e1,e2,e12,e13,rfl⟩,?_⟩
   refine nj (fun q=>?_) rfl (fun q hq=>oZ (hbo (fun e=>hq (by rw [e];simp))) _) (fun q hq=>?_) (G.sf (G.lvU _ _) _)
   ·by_cases h14:q=14
    ·subst h14;exact Or.inr ⟨rfl,Or.inr (.t _)⟩
    by_cases h1:q=1
    ·subst h1;exact Or.inr ⟨by (conv=>lhs;whnf);(conv=>rhs;whnf),Or.inl rfl⟩
    by_cases h2:q=2
    ·subst h2;exact Or.inr ⟨by (conv=>lhs;whnf);(conv=>rhs;whnf),Or.inl rfl⟩
    by_cases h12:q=12
    ·subst h12;exact Or.inr ⟨by (conv=>lhs;whnf);(conv=>rhs;whnf),Or.inl rfl⟩
    by_cases h13:q=13
    ·subst h13;exact Or.inr ⟨by (conv=>lhs;whnf);(conv=>rhs;whnf),Or.inl rfl⟩
    refine Or.inl ?_
    show upd _ 14 _ q=_
    rw [ae _ _ _ _ h14]
    show cond (Nat.beq q 1||Nat.beq q 2||Nat.beq q 12||Nat.beq q 13) _ _=_
    rw [eS h1,eS h2,eS h12,eS h13];rfl
   ·rw [List.mem_singleton.1 hq]
    exact ⟨hf6,hnm (by omega)⟩
end
end Go.TY
end
section
namespace Go.TY
open Go Go.DL Go.MM Go.Proofs
attribute [local irreducible] aI gR WCM YC
section
variable [Glb]
theorem yy {N:Nat} {st:St} {g:Operand} {y:O} {p:Nat} {asg body:Code} (hg:aq g=some y) (r:RP) (hv:ev st.sl y= .t (.clos 145 [.cptr (sB r) 0])) (off:Nat) (F:Nat→Prop) (hi:Nat) (hio:hi≤off) (hB:(th r).length<2^59) (hfl: ∀n,F n→st.bx n=none) (hfo: ∀n,off≤n→st.bx n=none) (hcn:CxN st.cx)
  {outs:Nat→List (Nat×BX)} {stop:Code→(aa→World→Prop)→List (Nat×BX)→Prop} {Q:aB→St→Prop} (h0: ∀q∈outs 0,st.bx q.1=some q.2)
  (hG: ∀(l D:Nat) (fn:FuncId) (tmps:Array Value),tmps.size=N→dR Tryz.prog l (rcE fn tmps p asg body D) st.cx st F hi ((th r).map sM) outs stop)
  (hend:Q .normal {st with bx:=aK st.bx (outs (th r).length)})
  (hstop: ∀c cx' o',stop c cx' o'→(c= .ret∧Q .ret {st with bx:=aK st.bx o',cx:=cx' })∨ ∃id,c= .exit id∧Q (.exit id) {st with bx:=aK st.bx o',cx:=cx' }):
  aI Tryz.prog N (.rangeFunc g #[p] asg body) st Q:=by
 refine aI.clean (fun _=>?_)
 refine aI.range (N:=N) hg (gf:=145) (caps:=[.t (.cptr (sB r) 0)]) (by rw [hv];rfl) Tryz.func145 IB rfl rfl (nlZ rfl) off hcn (fun l D fn tmps hN=>?_)
 have G:=hG l D fn tmps hN
 rw [Lu]
 have hA:AtI qF l (rcE fn tmps p asg body D none) st.cx st F (outs 0) 0 (st.itr l [.t (.cptr (sB r) 0)] off (rdy fn tmps p asg body D)):=
  ⟨rfl,rfl,fun j=>by
   show dO st.sl st.gh (0+0+1+j)=_
   rw [show 0+0+1+j=j+1 by omega];rfl,h0,hfl,off,hfo⟩
 have hnm: ∀{k:Nat} {q:Nat},hi≤q→ ∀p∈outs k,p.1≠q:=fun h p hp e=>by have:=(G.nm _ p hp).1;omega
 have hnms: ∀{c cx o} {q:Nat},stop c cx o→hi≤q→ ∀p∈o,p.1≠q:=fun hs h p hp e=>by have:=(G.nms _ _ _ hs p hp).1;omega
 have hf2:st.bx (2+off)=none:=hfo _ (by omega)
 have hf3:st.bx (3+off)=none:=hfo _ (by omega)
 have fin: ∀{s2:St} {o:List (Nat×BX)} {cx:aa→World→Prop},s2.gh=dO st.sl st.gh→(∀ q, ¬q∈[2+off,3+off]→s2.bx q=aK st.bx o q)→(∀ q∈[2+off,3+off], ∀p∈o,p.1≠q)→(∀ p∈o,bz (fun n=>(st.bx n).isSome=true) p.2)→
   DL.Clean st [2+off,3+off] (s2.bE st.off cx) {st with bx:=aK st.bx o,cx:=cx }:=fun h1 h2 h3 h4=>
  mL (d:=none) (v:=.nil) (by rw [h1];rfl) (fun j=>by rw [h1];rfl) h2 (fun q hq=>⟨by
   rcases List.mem_cons.1 hq with rfl|hq
   ·exact hf2
   ·rw [List.mem_singleton.1 hq];exact hf3,h3 q hq⟩) h4
 refine aI.seq (GO (pX (rH (v:=.func (.yield l) #[] #[]) rfl hf2 (qW ?_))))
 refine aI.seq (GU (pX (pW ((ae _ _ _ _ (show 3+off≠2+off by omega)).trans hf3) (qW ?_))))
 refine aI.seq (GX (pX (rK rfl (sq (b:=3+off) rfl (ah _ _ _) rfl (qW ?_)))))
 have hbo: ∀{x y z:Option BX} {q:Nat},q≠2+off→q≠3+off→upd (upd (upd st.bx (2+off) x) (3+off) y) (3+off) z q=st.bx q:=fun h1 h2=>(ae _ _ _ _ h2).trans ((ae _ _ _ _ h2).trans (ae _ _ _ _ h1))
 have h23:2+off≠3+off:=by omega
 have hq2: ∀q, ¬q∈[2+off,3+off]→q≠2+off∧q≠3+off:=fun q h=>⟨fun e=>h (by rw [e];simp),fun e=>h (by rw [e];simp)⟩
 refine H0 (r8 (b:=3+off) rfl (ah _ _ _) rfl (sa (cs:=sB r) rfl (sJ r) (qW (rR (us':=[.t (sM r),.ptr (2+off) 0,.ptr (3+off) 0]) rfl (by rw [sG];rfl) ?_))))
 refine zl G (2+off) (3+off) (by omega) (by omega) (th r).length r (Nat.le_refl _) (by omega) 0 0 (off+4) _ _ _ (fun j x hx=>by rw [Nat.zero_add,List.getElem?_map,hx];rfl) (hA.of rfl rfl (fun q h1=>hbo (by have:=G.fh q h1;omega) (by have:=G.fh q h1;omega)) (fun q hq=>(hbo (hnm (by omega) q hq) (hnm (by omega) q hq)).trans (h0 q hq)) ⟨off+4,fun q hq=>(hbo (by omega) (by omega)).trans (hfo q (by omega))⟩)
  (fun q hq=>(hbo (by omega) (by omega)).trans (hfo q (by omega))) (by omega) (by omega) (by omega) ((ae _ _ _ _ h23).trans ((ae _ _ _ _ h23).trans (ah _ _ _))) (ah _ _ _) ?t (fun c cx' o' hs=> ?f)
 case t=>
  refine qW ⟨none,st.cx,rfl,G.cxo_,[2+off,3+off],_,?_,fin (o:=outs (th r).length) rfl (fun q hq=>?_) (fun q hq=>hnm (by
   rcases List.mem_cons.1 hq with rfl|hq
   ·omega
   ·rw [List.mem_singleton.1 hq];omega)) (G.sf (G.lvA h0) _)⟩
  ·exact hend
  ·show aK _ (outs (0+(th r).length)) q=_
   rw [Nat.zero_add]
   exact oZ (hbo (hq2 q hq).1 (hq2 q hq).2) _
 case f=>
  rcases hstop c cx' o' hs with ⟨rfl,hq⟩|⟨id,rfl,hq⟩
  all_goals
   refine qW ⟨some _,cx',rfl,G.cxd _ _ _ hs,[2+off,3+off],_,hq,fin (o:=o') rfl (fun q hq=>?_) (fun q hq=>hnms hs (by
    rcases List.mem_cons.1 hq with rfl|hq
    ·omega
    ·rw [List.mem_singleton.1 hq];omega)) (G.sfs (G.lvA h0) _ _ _ hs)⟩
   exact oZ (hbo (hq2 q hq).1 (hq2 q hq).2) _
theorem vQ {N:Nat} {st:St} {g:Operand} {y:O} {p:Nat} {asg body:Code} (hg:aq g=some y) (r:RO) (hv:ev st.sl y= .t (.clos 116 [.cptr (sW r) 0])) (off:Nat) (F:Nat→Prop) (hi:Nat) (hio:hi≤off) (hB:(sH r).length<2^59) (hfl: ∀n,F n→st.bx n=none) (hfo: ∀n,off≤n→st.bx n=none) (hcn:CxN st.cx)
  {outs:Nat→List (Nat×BX)} {stop:Code→(aa→World→Prop)→List (Nat×BX)→Prop} {Q:aB→St→Prop} (h0: ∀q∈outs 0,st.bx q.1=some q.2)
  (hG: ∀(l D:Nat) (fn:FuncId) (tmps:Array Value),tmps.size=N→dR Tryz.prog l (rcE fn tmps p asg body D) st.cx st F hi ((sH r).map uC) outs stop)
  (hend:Q .normal {st with bx:=aK st.bx (outs (sH r).length)})
  (hstop: ∀c cx' o',stop c cx' o'→(c= .ret∧Q .ret {st with bx:=aK st.bx o',cx:=cx' })∨ ∃id,c= .exit id∧Q (.exit id) {st with bx:=aK st.bx o',cx:=cx' }):
  aI Tryz.prog N (.rangeFunc g #[p] asg body) st Q:=by
 refine aI.clean (fun _=>?_)
 refine aI.range (N:=N) hg (gf:=116) (caps:=[.t (.cptr (sW r) 0)]) (by rw [hv];rfl) Tryz.func116 Iy rfl rfl (nlZ rfl) off hcn (fun l D fn tmps hN=>?_)
 have G:=hG l D fn tmps hN
 rw [Lr]
 have hA:AtI qF l (rcE fn tmps p asg body D none) st.cx st F (outs 0) 0 (st.itr l [.t (.cptr (sW r) 0)] off (rdy fn tmps p asg body D)):=
  ⟨rfl,rfl,fun j=>by
   show dO st.sl st.gh (0+0+1+j)=_
   rw [show 0+0+1+j=j+1 by omega];rfl,h0,hfl,off,hfo⟩
 have hnm: ∀{k:Nat} {q:Nat},hi≤q→ ∀p∈outs k,p.1≠q:=fun h p hp e=>by have:=(G.nm _ p hp).1;omega
 have hnms: ∀{c cx o} {q:Nat},stop c cx o→hi≤q→ ∀p∈o,p.1≠q:=fun hs h p hp e=>by have:=(G.nms _ _ _ hs p hp).1;omega
 have hf2:st.bx (2+off)=none:=hfo _ (by omega)
 have hf3:st.bx (3+off)=none:=hfo _ (by omega)
 have fin: ∀{s2:St} {o:List (Nat×BX)} {cx:aa→World→Prop},s2.gh=dO st.sl st.gh→(∀ q, ¬q∈[2+off,3+off]→s2.bx q=aK st.bx o q)→(∀ q∈[2+off,3+off], ∀p∈o,p.1≠q)→(∀ p∈o,bz (fun n=>(st.bx n).isSome=true) p.2)→
   DL.Clean st [2+off,3+off] (s2.bE st.off cx) {st with bx:=aK st.bx o,cx:=cx }:=fun h1 h2 h3 h4=>
  mL (d:=none) (v:=.nil) (by rw [h1];rfl) (fun j=>by rw [h1];rfl) h2 (fun q hq=>⟨by
   rcases List.mem_cons.1 hq with rfl|hq
   ·exact hf2
   ·rw [List.mem_singleton.1 hq];exact hf3,h3 q hq⟩) h4
 refine aI.seq (GL (pX (rH (v:=.func (.yield l) #[] #[]) rfl hf2 (qW ?_))))
 refine aI.seq (GR (pX (pW ((ae _ _ _ _ (show 3+off≠2+off by omega)).trans hf3) (qW ?_))))
 refine aI.seq (GV (pX (rK rfl (sq (b:=3+off) rfl (ah _ _ _) rfl (qW ?_)))))
 have hbo: ∀{x y z:Option BX} {q:Nat},q≠2+off→q≠3+off→upd (upd (upd st.bx (2+off) x) (3+off) y) (3+off) z q=st.bx q:=fun h1 h2=>(ae _ _ _ _ h2).trans ((ae _ _ _ _ h2).trans (ae _ _ _ _ h1))
 have h23:2+off≠3+off:=by omega
 have hq2: ∀q, ¬q∈[2+off,3+off]→q≠2+off∧q≠3+off:=fun q h=>⟨fun e=>h (by rw [e];simp),fun e=>h (by rw [e];simp)⟩
 refine HZ (r8 (b:=3+off) rfl (ah _ _ _) rfl (sa (cs:=sW r) rfl (tA r) (qW (rR (us':=[.t (uC r),.ptr (2+off) 0,.ptr (3+off) 0]) rfl (by rw [sQ];rfl) ?_))))
 refine zk G (2+off) (3+off) (by omega) (by omega) (sH r).length r (Nat.le_refl _) (by omega) 0 0 (off+4) _ _ _ (fun j x hx=>by rw [Nat.zero_add,List.getElem?_map,hx];rfl) (hA.of rfl rfl (fun q h1=>hbo (by have:=G.fh q h1;omega) (by have:=G.fh q h1;omega)) (fun q hq=>(hbo (hnm (by omega) q hq) (hnm (by omega) q hq)).trans (h0 q hq)) ⟨off+4,fun q hq=>(hbo (by omega) (by omega)).trans (hfo q (by omega))⟩)
  (fun q hq=>(hbo (by omega) (by omega)).trans (hfo q (by omega))) (by omega) (by omega) (by omega) ((ae _ _ _ _ h23).trans ((ae _ _ _ _ h23).trans (ah _ _ _))) (ah _ _ _) ?t (fun c cx' o' hs=> ?f)
 case t=>
  refine qW ⟨none,st.cx,rfl,G.cxo_,[2+off,3+off],_,?_,fin (o:=outs (sH r).length) rfl (fun q hq=>?_) (fun q hq=>hnm (by
   rcases List.mem_cons.1 hq with rfl|hq
   ·omega
   ·rw [List.mem_singleton.1 hq];omega)) (G.sf (G.lvA h0) _)⟩
  ·exact hend
  ·show aK _ (outs (0+(sH r).length)) q=_
   rw [Nat.zero_add]
   exact oZ (hbo (hq2 q hq).1 (hq2 q hq).2) _
 case f=>
  rcases hstop c cx' o' hs with ⟨rfl,hq⟩|⟨id,rfl,hq⟩
  all_goals
   refine qW ⟨some _,cx',rfl,G.cxd _ _ _ hs,[2+off,3+off],_,hq,fin (o:=o') rfl (fun q hq=>?_) (fun q hq=>hnms hs (by
    rcases List.mem_cons.1 hq with rfl|hq
    ·omega
    ·rw [List.mem_singleton.1 hq];omega)) (G.sfs (G.lvA h0) _ _ _ hs)⟩
   exact oZ (hbo (hq2 q hq).1 (hq2 q hq).2) _
end
end Go.TY
end
noncomputable section
namespace Go.TY
open Go Go.DL Go.Proofs
def Kl:aY:=(.seq (.region [oo 1 (.box 5 (tm 0)),oo 2 (.mov (.const .nilfn))] []) (.seq (.region [oo 3 (.mkfn 145 [tm 1]),mv 2 3] []) .ret))
theorem LD:(Tryz.f109.body.bind (bD Tryz.prog 4 []))=some Kl:=by kernel_rfl
def c73:aY:=(.seq (.region [oo 1 (.box 9 (tm 0)),oo 2 (.mov (.const .nilfn))] []) (.seq (.region [oo 3 (.mkfn 116 [tm 1]),mv 2 3] []) .ret))
theorem l73:(Tryz.f73.body.bind (bD Tryz.prog 4 []))=some c73:=by kernel_rfl
def c86:aY:=(.seq (.region [oo 1 (.box 9 (tm 0)),oo 2 (.mov (.const .nilfn))] []) (.seq (.region [oo 3 (.mkfn 130 [tm 1]),mv 2 3] []) .ret))
theorem l86:(Tryz.f86.body.bind (bD Tryz.prog 4 []))=some c86:=by kernel_rfl
end Go.TY
end
section
namespace Go.TY
open Go Go.DL Go.MM Go.Proofs
section
variable [Glb]
theorem BW (r:RP):DCalls Tryz.prog 109 [sM r] (.clos 145 [.cptr (sB r) 0]):=by
 rw [sG]
 refine qO (rs:=[.tmp 2]) mx Tryz.func109 LD rfl rfl rfl (r:=[.clos 145 [.cptr (sB r) 0]]) (nlZ rfl) ?_
 repeat' ((conv=>whnf);first|exact trivial|(refine And.intro (by first|exact sJ r|fail) ?_)|refine aS ?_|fail)
theorem yo (r:RO):DCalls Tryz.prog 73 [uC r] (.clos 116 [.cptr (sW r) 0]):=by
 rw [sQ]
 refine qO (rs:=[.tmp 2]) mx Tryz.func73 l73 rfl rfl rfl (r:=[.clos 116 [.cptr (sW r) 0]]) (nlZ rfl) ?_
 repeat' ((conv=>whnf);first|exact trivial|(refine And.intro (by first|exact tA r|fail) ?_)|refine aS ?_|fail)
theorem BU (r:RO):DCalls Tryz.prog 86 [uC r] (.clos 130 [.cptr (sW r) 0]):=by
 rw [sQ]
 refine qO (rs:=[.tmp 2]) mx Tryz.func86 l86 rfl rfl rfl (r:=[.clos 130 [.cptr (sW r) 0]]) (nlZ rfl) ?_
 repeat' ((conv=>whnf);first|exact trivial|(refine And.intro (by first|exact tA r|fail) ?_)|refine aS ?_|fail)
def uu (o:RO):List RP:=if o.kind=1 then th o.pred else []
def td (r:RO):List RP:=(sH r).flatMap uu
def cnt (r:RO) (k:Nat):Nat:=(((sH r).take k).flatMap uu).length
end
section
theorem Ez {r:RO} {k:Nat} {o:RO} (h:(sH r)[k]? =some o):cnt r (k+1)=cnt r k+(uu o).length:=by
 obtain ⟨hl,rfl⟩:=gsZ h
 unfold cnt
 rw [List.take_succ_eq_append_getElem hl,List.flatMap_append,List.length_append]
 simp
theorem FT (r:RO):cnt r (sH r).length=(td r).length:=by
 unfold cnt td;rw [List.take_length]
theorem DZ {r:RO} {k i:Nat} {o:RO} {t:RP} (h:(sH r)[k]? =some o) (ht:(uu o)[i]? =some t):(td r)[cnt r k+i]? =some t:=by
 obtain ⟨hl,rfl⟩:=gsZ h
 obtain ⟨hi,_⟩:=gsZ ht
 unfold td cnt
 have e:(sH r).flatMap uu=((sH r).take k).flatMap uu++(uu (sH r)[k]++((sH r).drop (k+1)).flatMap uu):=by
  conv=>lhs;rw [← List.take_append_drop k (sH r),List.flatMap_append,List.drop_eq_getElem_cons hl,List.flatMap_cons]
 rw [e,List.getElem?_append_right (by omega),Nat.add_sub_cancel_left,List.getElem?_append_left hi]
 exact ht
end
section
variable [Glb]
end
end Go.TY
end
section
namespace Go.TY
open Go Go.DL Go.MM Go.Proofs
attribute [local irreducible] aI gR WCM YC
section
variable [Glb]
end
section
theorem vl {b:Nat→Option BX} {n:Nat} {v:BX} {o:List (Nat×BX)} (hb:b n=some v) (ho: ∀p∈o,p.1≠n):aK b ((n,v)::o)=aK b o:=by
 show upd (aK b o) n (some v)=aK b o
 exact qB ((e7 ho).trans hb)
theorem gh2 {sl sl1 sl2:Nat→V} {gh gh1 gh2:Nat→Nat→V} {a b:Nat} (h1: ∀i,gh1 (a+1+i)=dO sl gh i) (h2: ∀i,gh2 (b+1+i)=dO sl1 gh1 i) (i:Nat):dO sl2 gh2 (b+a+4+i)=dO sl gh i:=by
 rw [show b+a+4+i=(b+1+((a+1+i)+1))+1 by omega]
 exact (h2 _).trans (h1 i)
end
section
variable [Glb]
theorem yx {N:Nat} {st:St} {g:Operand} {y:O} {p:Nat} {asg body:Code} (hg:aq g=some y) (r:RO) (hv:ev st.sl y= .t (.clos 130 [.cptr (sW r) 0])) (off:Nat) (F:Nat→Prop) (hi:Nat) (hio:hi≤off) (hB:(sH r).length<2^59) (hBp: ∀o∈sH r,(th o.pred).length<2^59) (hfl: ∀n,F n→st.bx n=none) (hfo: ∀n,off≤n→st.bx n=none) (hcn:CxN st.cx)
  {outs:Nat→List (Nat×BX)} {stop:Code→(aa→World→Prop)→List (Nat×BX)→Prop} {Q:aB→St→Prop} (h0: ∀q∈outs 0,st.bx q.1=some q.2)
  (hG: ∀(l D:Nat) (fn:FuncId) (tmps:Array Value),tmps.size=N→dR Tryz.prog l (rcE fn tmps p asg body D) st.cx st F hi ((td r).map sM) outs stop)
  (hend:Q .normal {st with bx:=aK st.bx (outs (td r).length)})
  (hstop: ∀c cx' o',stop c cx' o'→(c= .ret∧Q .ret {st with bx:=aK st.bx o',cx:=cx' })∨ ∃id,c= .exit id∧Q (.exit id) {st with bx:=aK st.bx o',cx:=cx' }):
  aI Tryz.prog N (.rangeFunc g #[p] asg body) st Q:=by
 refine aI.clean (fun _=>?_)
 refine aI.range (N:=N) hg (gf:=130) (caps:=[.t (.cptr (sW r) 0)]) (by rw [hv];rfl) Tryz.func130 IA rfl rfl (nlZ rfl) off hcn (fun l D fn tmps hN=>?_)
 have G:=hG l D fn tmps hN
 rw [Lt]
 have hf2:st.bx (2+off)=none:=hfo _ (by omega)
 have hnm: ∀{k:Nat} {q:Nat},hi≤q→ ∀p∈outs k,p.1≠q:=fun h p hp e=>by have:=(G.nm _ p hp).1;omega
 have hnms: ∀{c cx o} {q:Nat},stop c cx o→hi≤q→ ∀p∈o,p.1≠q:=fun hs h p hp e=>by have:=(G.nms _ _ _ hs p hp).1;omega
 refine aI.seq (GN (pX (rH (v:=.func (.yield l) #[] #[]) rfl hf2 (qW ?_))))
 refine aI.seq (GS (pX (sa (cs:=sW r) rfl (tA r) (rI (ts:=[uC r]) (by rw [sQ];rfl) (yo r) (qW ?_)))))
 let b1:Nat→Option BX:=upd st.bx (2+off) (some (.v [lV l]))
 have hb1o: ∀{q:Nat},q≠2+off→b1 q=st.bx q:=fun h=>ae _ _ _ _ h
 let yb:Nat×BX:=(2+off,.v [lV l])
 let rc:=rcE fn tmps p asg body D
 let outs1:Nat→List (Nat×BX):=fun k=>yb::outs (cnt r k)
 let stop1:Code→(aa→World→Prop)→List (Nat×BX)→Prop:=fun c cx' o'=>c= .ret∧ ∃c0 cx0 o0,stop c0 cx0 o0∧cx'=dC l (rc (some c0)) cx0 0∧o'=yb::o0
 have safeY: ∀q:Nat→Prop,bz q yb.2:=fun q c hc=>by
  rw [List.mem_singleton.1 hc];exact .raw _
 have nmY: ∀{k:Nat}, ∀p∈outs k,p.1≠2+off:=hnm (by omega)
 have nmsY: ∀{c cx o},stop c cx o→ ∀p∈o,p.1≠2+off:=fun hs=>hnms hs (by omega)
 have nFY: ¬F (2+off):=fun h=>by have:=G.fh _ h;omega
 let F1:Nat→Prop:=fun n=>F n∨(off+3≤n∧n<off+30)
 have sub1: ∀{hi' lo':Nat} {c:aa→World→Prop} {f:Nat→Nat} {stp:Code→(aa→World→Prop)→List (Nat×BX)→Prop},off+30≤hi'→off+3≤lo'→CxD c→(∀ c cx o',stp c cx o'→CxD cx∧ ∃c0 cx0 o0,stop c0 cx0 o0∧o'=yb::o0)→ph (fun n=>F n∨(lo'≤n∧n<off+30)) hi' c (fun k=>yb::outs (f k)) stp:=fun {hi' lo' c f stp} hh hl hc hst=>
  {fh:=fun n h=>by
    rcases h with h|h
    ·have:=G.fh _ h;omega
    ·omega
   nm:=fun k p hp=>by
    rcases List.mem_cons.1 hp with rfl|hp
    ·exact ⟨by show 2+off<_;omega,fun h=>by
      rcases h with h|h
      ·exact nFY h
      ·have:2+off≥_:=h.1;omega⟩
    ·have h1:=G.nm _ p hp
     exact ⟨by omega,fun h=>by
      rcases h with h|h
      ·exact h1.2 h
      ·omega⟩
   nms:=fun c cx o ho p hp=>by
    obtain ⟨_,c0,cx0,o0,hs0,rfl⟩:=hst _ _ _ ho
    rcases List.mem_cons.1 hp with rfl|hp
    ·exact ⟨by show 2+off<_;omega,fun h=>by
      rcases h with h|h
      ·exact nFY h
      ·have:2+off≥_:=h.1;omega⟩
    ·have h1:=G.nms _ _ _ hs0 p hp
     exact ⟨by omega,fun h=>by
      rcases h with h|h
      ·exact h1.2 h
      ·omega⟩
   cov:=fun k k' p hp=>by
    rcases List.mem_cons.1 hp with rfl|hp
    ·exact ⟨yb,by simp,rfl⟩
    ·obtain ⟨q,hq,e⟩:=G.cov (f k) (f k') p hp
     exact ⟨q,by simp [hq],e⟩
   covs:=fun c cx o ho k p hp=>by
    obtain ⟨_,c0,cx0,o0,hs0,rfl⟩:=hst _ _ _ ho
    rcases List.mem_cons.1 hp with rfl|hp
    ·exact ⟨yb,by simp,rfl⟩
    ·obtain ⟨q,hq,e⟩:=G.covs _ _ _ hs0 (f k) p hp
     exact ⟨q,by simp [hq],e⟩
   safe:=fun k p hp=>by
    rcases List.mem_cons.1 hp with rfl|hp
    ·exact safeY _
    ·exact (G.safe _ p hp).imp fun n ⟨q,hq,e⟩=>by
      obtain ⟨q',hq',e'⟩:=G.cov 0 (f 0) q hq
      exact ⟨q',List.mem_cons_of_mem _ hq',e'.trans e⟩
   safes:=fun c cx o ho p hp=>by
    obtain ⟨_,c0,cx0,o0,hs0,rfl⟩:=hst _ _ _ ho
    rcases List.mem_cons.1 hp with rfl|hp
    ·exact safeY _
    ·exact (G.safes _ _ _ hs0 p hp).imp fun n ⟨q,hq,e⟩=>by
      obtain ⟨q',hq',e'⟩:=G.cov 0 (f 0) q hq
      exact ⟨q',List.mem_cons_of_mem _ hq',e'.trans e⟩
   cxd:=fun c cx o ho=>(hst _ _ _ ho).1
   cxo_:=hc
   nd:=fun k=>List.nodup_cons.2 ⟨fun h=>by
    obtain ⟨p,hp,e⟩:=List.mem_map.1 h
    exact nmY p hp e,G.nd _⟩}
 have cl: ∀{s2:St} {o:List (Nat×BX)} {cx:aa→World→Prop},s2.gh=dO st.sl st.gh→(∀ q,q≠2+off→s2.bx q=aK st.bx o q)→(∀ p∈o,p.1≠2+off)→(∀ p∈o,bz (fun n=>(st.bx n).isSome=true) p.2)→
   DL.Clean st [2+off] (s2.bE st.off cx) {st with bx:=aK st.bx o,cx:=cx }:=fun h1 h2 h3 h4=>
  mL (d:=none) (v:=.nil) (by rw [h1];rfl) (fun j=>by rw [h1];rfl) (fun q hq=>h2 q (fun e=>hq (by rw [e];simp))) (fun q hq=>by rw [List.mem_singleton.1 hq];exact ⟨hf2,h3⟩) h4
 refine aI.block (vQ (N:=19) rfl r rfl (off+30) F1 (off+30) (Nat.le_refl _) hB (fun n h=>?_) (fun n h=>(hb1o (by omega)).trans (hfo n (by omega))) (rC hcn) (outs:=outs1) (stop:=stop1) (fun q hq=>?_) (fun l1 D1 fn1 tmps1 hN1=>?_) ?_ (fun c cx' o' h=>?_))
 ·rcases h with h|h
  ·exact (hb1o (fun e=>nFY (by rw [← e];exact h))).trans (hfl n h)
  ·exact (hb1o (by omega)).trans (hfo n (by omega))
 ·rcases List.mem_cons.1 hq with rfl|hq
  ·exact ah _ _ _
  ·exact (hb1o (nmY q hq)).trans (h0 q hq)
 rotate_left
 ·refine ⟨none,st.cx,rfl,G.cxo_,[2+off],_,hend,cl rfl (fun q hq=>?_) nmY (G.sf (G.lvA h0) _)⟩
  show aK b1 (yb::outs (cnt r (sH r).length)) q=_
  rw [vl (b:=b1) (ah _ _ _) nmY,FT]
  exact oZ (hb1o hq) _
 ·obtain ⟨rfl,c0,cx0,o0,hs0,rfl,rfl⟩:=h
  refine Or.inl ⟨rfl,?_⟩
  have hbx: ∀q,q≠2+off→aK b1 (yb::o0) q=aK st.bx o0 q:=fun q hq=>by
   rw [vl (b:=b1) (ah _ _ _) (nmsY hs0)]
   exact oZ (hb1o hq) _
  rcases hstop _ _ _ hs0 with ⟨rfl,hq⟩|⟨id,rfl,hq⟩
  ·exact ⟨some _,cx0,rfl,G.cxd _ _ _ hs0,[2+off],_,hq,cl rfl hbx (nmsY hs0) (G.sfs (G.lvA h0) _ _ _ hs0)⟩
  ·exact ⟨some _,cx0,rfl,G.cxd _ _ _ hs0,[2+off],_,hq,cl rfl hbx (nmsY hs0) (G.sfs (G.lvA h0) _ _ _ hs0)⟩
 refine dR.of (lo:=off+3) (hi:=off+30) (sub1 (Nat.le_refl _) (Nat.le_refl _) (qj G.cxo_) ?_) (fun n h1 h2=>Or.inr ⟨h1,h2⟩) hN1 (by decide) (fun {W1} R1 k x m1 st' hx hA1=>?_)
 ·rintro c cx o' ⟨rfl,c0,cx0,o0,hs0,rfl,rfl⟩
  exact ⟨qj (G.cxd _ _ _ hs0),c0,cx0,o0,hs0,rfl⟩
 obtain ⟨pk,hk,rfl⟩: ∃pk,(sH r)[k]? =some pk∧uC pk=x:=by
  rw [List.getElem?_map,Option.map_eq_some_iff] at hx;exact hx
 have hcs:=Ez hk
 have hget:=fun i t=>DZ (r:=r) (k:=k) (i:=i) (o:=pk) (t:=t) hk
 have hBk:=hBp pk (List.mem_of_getElem? hk)
 have hpd:uu pk=if pk.kind=1 then th pk.pred else []:=rfl
 generalize uu pk=pd at hcs hget hpd
 have hfr1: ∀n,off+3≤n→n<off+30→st'.bx n=none:=fun n h1 h2=>hA1.fr n (Or.inr ⟨h1,h2⟩)
 have hfr1F: ∀n,F n→st'.bx n=none:=fun n h=>hA1.fr n (Or.inl h)
 obtain ⟨B,htop1⟩:=hA1.top
 have hat1:=hA1.at_
 have hsl2:st'.gh (m1+R1.j) 2= .ptr (2+off) 0:=congrFun hA1.g0 2
 have hgs1:=hA1.gs
 have hcx1:=hA1.cx
 clear hA1
 rw [sQ]
 obtain ⟨kd,pr,f,n,args⟩:=pk
 refine GW (pX (pW (hfr1 (3+(off+3)) (by omega) (by omega)) (rp (b:=3+(off+3)) (off:=0) rfl (ah _ _ _) rfl ⟨rfl,Nat.le_refl _⟩ (qW ⟨rfl,_,rfl,?_⟩))))
 have hb0: ∀{u v:Option BX} {q:Nat},q≠3+(off+3)→upd (upd st'.bx (3+(off+3)) u) (3+(off+3)) v q=st'.bx q:=fun h=>(ae _ _ _ _ h).trans (ae _ _ _ _ h)
 refine aI.block (aI.seq (GZ (rr (rL (b:=3+(off+3)) (off:=0) rfl (sb (b:=3+(off+3)) (off:=0+0) (t:=I kd) rfl (ah _ _ _) (by decide) rfl (si (a:=kd) (b:=1) rfl rfl (qW ?_)))))))
 by_cases hkd:kd=1
 case neg=>
  refine rN (by show V.t (.bool (kd !=1))=_;rw [bne_iff_ne.2 hkd]) (rO ⟨rfl,_,yb::outs (cnt r (k+1)),rfl,fun q hq=>?_,rfl,rfl⟩)
  have e:cnt r (k+1)=cnt r k:=by rw [hcs,hpd,if_neg (show ¬(RO.mk kd pr f n args).kind=1 from hkd)];rfl
  exact (hb0 (show q≠3+(off+3) from fun h=>hq (by omega))).trans (congrFun ((kx hat1).symm.trans (congrArg (fun j=>aK st'.bx (yb::outs j)) e.symm)) q)
 have hpd:pd=th pr:=hpd.trans (if_pos hkd)
 subst hpd
 refine rM (by show V.t (.bool (kd !=1))=_;rw [hkd];rfl) (rQ ?_)
 have hprc:T.agg (sB pr)=sM pr:=(sG pr).symm
 refine aI.seq (G2 (pX (rL (b:=3+(off+3)) (off:=0) rfl (sc (b:=3+(off+3)) (off:=0) (m:=9) (t:=sM pr) rfl (ah _ _ _) (by decide) (by rw [← hprc];cases pr;rfl) (rI (ts:=[sM pr]) rfl (BW pr) (qW ?_))))))
 let off2:=max B (off+30)
 have ho2:B≤off2∧off+30≤off2:=⟨Nat.le_max_left _ _,Nat.le_max_right _ _⟩
 refine aI.block (yy (N:=19) rfl pr rfl off2 (fun n=>F n∨(off+8≤n∧n<off+30)) off2 (Nat.le_refl _) hBk (fun n h=>?_) (fun n h=>(hb0 (by omega)).trans (htop1 n (by omega))) ?_ (outs:=fun i=>yb::outs (cnt r k+i)) (stop:=fun c cx' o'=>c= .ret∧ ∃c0 cx0 o0,stop c0 cx0 o0∧cx'=cq (W1 (dq l1 (bsy fn1 tmps1 7 xW (.block 1 (.seq xX (.seq xY (.block 2 (.rangeFunc (.tmp 13) #[14] xo (.block 3 (.seq wJ xp))))))) D1) (dC l (rc (some c0)) cx0 0) m1))∧o'=yb::o0) (fun q hq=>?_) (fun l2 D2 fn2 tmps2 hN2=>?_) ?_ (fun c cx' o' h=>?_))
 ·rcases h with h|h
  ·exact (hb0 (by have:=G.fh _ h;omega)).trans (hfr1F n h)
  ·exact (hb0 (by omega)).trans (hfr1 n (by omega) (by omega))
 ·exact Wr.cxN (Wr.pop (R1.comp (Wr.r0 l1 _ m1))) (rC hcn)
 ·refine (hb0 ?_).trans (hat1 q hq)
  rcases List.mem_cons.1 hq with rfl|hq
  ·show 2+off≠_;omega
  ·exact hnm (by omega) q hq
 rotate_left
 ·refine ⟨rfl,_,yb::outs (cnt r (k+1)),rfl,fun q hq=>?_,rfl,rfl⟩
  exact (oZ (hb0 (show q≠3+(off+3) from fun h=>hq (by omega))) (yb::outs (cnt r k+(th pr).length))).trans (congrArg (fun j=>aK st'.bx (yb::outs j) q) hcs.symm)
 ·obtain ⟨rfl,c0,cx0,o0,hs0,rfl,rfl⟩:=h
  exact Or.inl ⟨rfl,rfl,_,yb::o0,rfl,fun q hq=>oZ (hb0 (show q≠3+(off+3) from fun h=>hq (by omega))) (yb::o0),rfl,c0,cx0,o0,hs0,rfl,rfl⟩
 refine dR.of (lo:=off+8) (hi:=off+30) (sub1 (lo':=off+8) (f:=fun i=>cnt r k+i) (by omega) (by omega) (Wr.cxD (Wr.pop (R1.comp (Wr.r0 l1 _ m1))) (qj G.cxo_)) ?_) (fun n h1 h2=>Or.inr ⟨h1,h2⟩) hN2 (by decide) (fun {W2} R2 i x m2 st'' hx2 hA2=>?_)
 ·rintro c cx o' ⟨rfl,c0,cx0,o0,hs0,rfl,rfl⟩
  exact ⟨Wr.cxD (Wr.pop (R1.comp (Wr.r0 l1 _ m1))) (qj (G.cxd _ _ _ hs0)),c0,cx0,o0,hs0,rfl⟩
 have hex: ∃t,(th pr)[i]? =some t∧T.agg (sB t)=x:=by
  rw [List.getElem?_map,Option.map_eq_some_iff] at hx2
  obtain ⟨t,h1,h2⟩:=hx2
  exact ⟨t,h1,(sG t).symm.trans h2⟩
 obtain ⟨t,ht,hxe⟩:=hex
 subst hxe
 have hxt:((td r).map sM)[cnt r k+i]? =some (sM t):=by rw [List.getElem?_map,hget i t ht];rfl
 have hfr2: ∀n,off+8≤n→n<off+30→st''.bx n=none:=fun n h1 h2=>hA2.fr n (Or.inr ⟨h1,h2⟩)
 have hfr2F: ∀n,F n→st''.bx n=none:=fun n h=>hA2.fr n (Or.inl h)
 have htop2':=hA2.top
 obtain ⟨B2,htop2⟩:=htop2'
 have hat2:=hA2.at_
 have hsl22:st''.gh (m2+R2.j) 2= .ptr (2+off) 0:=(congrFun hA2.g0 2).trans hsl2
 have hgs2:=hA2.gs
 have hcx2:=hA2.cx
 clear hA2
 have hb2: ∀{u v:Option BX} {q:Nat},q≠4+(off+8)→upd (upd st''.bx (4+(off+8)) u) (4+(off+8)) v q=st''.bx q:=fun h=>(ae _ _ _ _ h).trans (ae _ _ _ _ h)
 have hY2:st''.bx (2+off)=some (.v [lV l]):=hat2 yb (by simp)
 refine G4 (pX (pW (hfr2 (4+(off+8)) (by omega) (by omega)) (rp (b:=4+(off+8)) (off:=0) rfl (ah _ _ _) rfl ⟨sJ t,Nat.le_refl _⟩ (qW ⟨rfl,_,rfl,?_⟩))))
 refine aI.block (aI.seq (H2 (r8 (b:=2+off) hsl22 ((hb2 (by omega)).trans hY2) rfl (r9 (b:=4+(off+8)) rfl (ah _ _ _) (qW (rS (us':=[.t (sM t)]) rfl (by
   show [V.t (.agg (aN [.int .i64 0,.str ⟨#[]⟩,.int .i64 0,.int .i64 0,.nil] 0 5 (sB t)))]=_
   rw [mU (n:=5) rfl,sG]) ?_))))))
 let R:=Wr.pop (R2.comp ((Wr.r0 l2 (bsy fn2 tmps2 14 xo (.block 3 (.seq wJ xp)) D2) m2).comp (Wr.pop (R1.comp (Wr.r0 l1 (bsy fn1 tmps1 7 xW (.block 1 (.seq xX (.seq xY (.block 2 (.rangeFunc (.tmp 13) #[14] xo (.block 3 (.seq wJ xp))))))) D1) m1)))))
 have hRj:R.j=(m2+R2.j)+(m1+R1.j)+4:=by
  show ((((m1+1)+R1.j)+1+(m2+1))+R2.j)+1=_
  omega
 refine G.yld R (cnt r k+i) (sM t) 0 _ _ _ hxt ⟨rfl,?_,fun j=>?_,fun q hq=>?_,fun q hq=>?_,?_⟩ ?t (fun c cx' o' hs=> ?f)
 ·exact (congrArg (fun k=>dO st''.sl st''.gh k) (show 0+R.j=(m2+R2.j)+(m1+R1.j)+4+0 by omega)).trans (gh2 hgs1 hgs2 0)
 ·exact (congrArg (fun k=>dO st''.sl st''.gh k) (show 0+R.j+1+j=(m2+R2.j)+(m1+R1.j)+4+(j+1) by omega)).trans (gh2 hgs1 hgs2 (j+1))
 ·exact (hb2 (hnm (by omega) q hq)).trans (hat2 q (List.mem_cons_of_mem _ hq))
 ·exact (hb2 (by have:=G.fh _ hq;omega)).trans (hfr2F q hq)
 ·exact ⟨max B2 (off+30),fun q hq=>(hb2 (by omega)).trans (htop2 q (by omega))⟩
 case t=>
  refine sj rfl (qW ?_)
  refine Di (rM rfl (rQ ?_))
  refine ⟨rfl,_,yb::outs (cnt r k+(i+1)),rfl,fun q hq=>?_,rfl,rfl⟩
  exact (oZ (hb2 (show q≠4+(off+8) from fun h=>hq (by omega))) (outs (cnt r k+i+1))).trans (congrFun (vl hY2 nmY).symm q)
 case f=>
  refine sj rfl (qW ?_)
  refine Di (rN rfl (rP ?_))
  refine ⟨rfl,_,yb::o',rfl,fun q hq=>?_,rfl,c,cx',o',hs,rfl,rfl⟩
  exact (oZ (hb2 (show q≠4+(off+8) from fun h=>hq (by omega))) o').trans (congrFun (vl hY2 (nmsY hs)).symm q)
end
end Go.TY
end
section
namespace Go.TY
open Go Go.DL Go.MM
def vu (l:List Fd):RP→Int
 |.mk k f n m _=>if sC f e0 then 0 else match findF l f with
   |none=>4
   |some F=>if (if k=5 then m else n)>((2^F.w - 1:Nat):Int)∨(k=4∧m>F.w) then 1 else 0
def yd (l:List Fd) (r:RP):Int:=tj ((uy r).map (vu l))
def Am (l:List Fd) (f:ByteArray) (n:Int):Int:=match findF l f with
 |none=>4
 |some F=>if n>((2^F.w - 1:Nat):Int) then 1 else 0
def wk (l:List Fd):RO→Int
 |.mk k p f n _=>if k=1 then yd l p else if k=2 then Am l f n else 0
def xc (r:RP):Int:=ye (wF r.nodes r.depth) (s7 r)
def Ad (l:List Fd) (r:RP):Int:=if xc r≠0 then xc r else yd l r
def uW (l:List Fd) (r:RO):Int:=if tC r≠0 then tC r else tj ((tE r).map (wk l))
theorem EK {f:ByteArray} (h:sC f e0=true):f=e0:=by
 unfold sC at h
 have h:f.data.toList=[]:=by simpa using h
 exact ByteArray.ext (Array.ext' h)
theorem EF {f:ByteArray} (h:sS f=true):sC f e0=false:=by
 cases e:sC f e0 with
 |false=>rfl
 |true=>
  rw [EK e] at h
  have:sS e0=false:=by decide+kernel
  rw [this] at h;cases h
def wG (o:RO):List RP:=if o.kind=1 then uy o.pred else []
def w8 (r:RO):List RP:=(tE r).flatMap wG
def Eb (r:RO):List ByteArray:=(w8 r).flatMap fun x=>if sC x.field e0 then [] else [x.field]
def reads (r:RO):List ByteArray:=tu ltS (Eb r)
def BZ (r:RO):List ByteArray:=(tE r).flatMap fun o=>if o.kind=2 then [o.field] else []
def writes (r:RO):List ByteArray:=tu ltS (BZ r)
def DY (r:RO):List Int:=(tE r).flatMap fun o=>if o.kind=2∧sC o.field tw=true then [o.n] else []
def yW (r:RO):List Int:=tu ltI (DY r)
def tG (x:RP):List Int:=if x.kind=9 then [x.n,x.m] else []
def wK (r:RO):List Int:=(w8 r).flatMap tG
mutual
def ue:RO→Nat
 |.mk k p _ _ a=>if k=3 then min ((vW a).getD 0 0+(vW a).getD 1 0) 65536
  else if k=4 then min ((vW a).getD 0 0 * (vW a).getD 1 0) 65536
  else if k=5 then (if (vW a).getD 0 0=0 then 1 else 65536)
  else if k=1∧p.kind=2 then 0 else 1
def vW:List RO→List Nat
 |[]=>[]
 |r::rs=>ue r::vW rs
end
theorem Ag (r:RO):ue r≤65536:=by
 obtain ⟨k,p,f,n,a⟩:=r
 rw [ue]
 split
 ·exact Nat.min_le_right _ _
 ·split
  ·exact Nat.min_le_right _ _
  ·split
   ·split <;> omega
   ·split <;> omega
end Go.TY
end
section
namespace Go.TY
open Go Go.DL Go.MM Go.Proofs
mutual
theorem uv: ∀r:RP,th r=uy r
 |.mk k f n m a=>by rw [th,uy,yv a]
theorem yv: ∀l:List RP,sX l=uc l
 |[]=>rfl
 |r::rs=>by rw [sX,uc,uv r,yv rs]
end
mutual
theorem s9: ∀r:RO,sH r=tE r
 |.mk k p f n a=>by rw [sH,tE,yu a]
theorem yu: ∀l:List RO,sR l=tl l
 |[]=>rfl
 |r::rs=>by rw [sR,tl,s9 r,yu rs]
end
def okB (v:List Int) (k:Nat):Bool:=(v.take k).all fun x=>x==0
theorem Ax {v:List Int} {k:Nat} {x:Int} (h:v[k]? =some x):okB v (k+1)=(okB v k&&(x==0)):=by
 obtain ⟨hl,rfl⟩:=gsZ h
 unfold okB
 rw [List.take_succ_eq_append_getElem hl,List.all_append]
 simp
theorem zN {v:List Int} {k:Nat} {x:Int} (h:v[k]? =some x) (hok:okB v k=true) (hx:x≠0):tj v=x:=by
 obtain ⟨hl,rfl⟩:=gsZ h
 refine yR hl (fun j hj hlt=>?_) hx
 unfold okB at hok
 have:=List.all_eq_true.1 hok v[j] (List.mem_take_iff_getElem.2 ⟨j,by omega,rfl⟩)
 simpa using this
theorem BM {v:List Int} (hok:okB v v.length=true):tj v=0:=by
 refine zK fun j hj=>?_
 unfold okB at hok
 rw [List.take_length] at hok
 simpa using List.all_eq_true.1 hok v[j] (List.getElem_mem hj)
attribute [local irreducible] aI gR WCM YC
def tH (l:List Fd) (v:List Int) (k:Nat):List (Nat×BX):=[(2,.d 1 [fds l]),(4,.d 1 (if okB v k then [I 0] else []))]
def wP (l:List Fd) (v:List Int) (c:Code) (o:List (Nat×BX)):Prop:=c= .ret∧tj v≠0∧o=[(2,.d 1 [fds l]),(4,.d 1 [I (tj v)])]
theorem Ef (l:List Fd) (v:List Int):ph (fun n=>10≤n∧n<100) 100 (fun _ _=>True) (tH l v) (fun c cx o=>cx=(fun _ _=>True)∧wP l v c o) where
 fh:=fun n h=>h.2
 nm:=fun k p hp=>by
  simp only [tH,List.mem_cons,List.not_mem_nil,or_false] at hp
  rcases hp with rfl|rfl <;> exact ⟨by dsimp only;omega,by dsimp only;omega⟩
 nms:=fun c cx o ho p hp=>by
  obtain ⟨_,_,_,rfl⟩:=ho
  simp only [List.mem_cons,List.not_mem_nil,or_false] at hp
  rcases hp with rfl|rfl <;> exact ⟨by dsimp only;omega,by dsimp only;omega⟩
 cov:=fun k k' p hp=>by
  simp only [tH,List.mem_cons,List.not_mem_nil,or_false] at hp ⊢
  rcases hp with rfl|rfl
  ·exact ⟨_,Or.inl rfl,rfl⟩
  ·exact ⟨_,Or.inr rfl,rfl⟩
 covs:=fun c cx o ho k p hp=>by
  obtain ⟨_,_,_,rfl⟩:=ho
  simp only [tH,List.mem_cons,List.not_mem_nil,or_false] at hp ⊢
  rcases hp with rfl|rfl
  ·exact ⟨_,Or.inl rfl,rfl⟩
  ·exact ⟨_,Or.inr rfl,rfl⟩
 safe:=fun k p hp=>by
  simp only [tH,List.mem_cons,List.not_mem_nil,or_false] at hp
  rcases hp with rfl|rfl <;> exact trivial
 safes:=fun c cx o ho p hp=>by
  obtain ⟨_,_,_,rfl⟩:=ho
  simp only [List.mem_cons,List.not_mem_nil,or_false] at hp
  rcases hp with rfl|rfl <;> exact trivial
 cxd:=fun c cx o ho=>by rw [ho.1];exact rT
 cxo_:=rT
 nd:=fun k=>by show ([2,4]:List Nat).Nodup;decide
theorem Ep (l:List Fd) (hl:LOk l) (r:RP) (hr:r.nodes<2^40):DCalls Tryz.prog 69 [fds l,.agg (sB r)] (I (yd l r)):=by
 refine qP Tryz.func69 Lq rfl (r:=[I (yd l r)]) (nlZ rfl) ?_
 have hlen:(th r).length=r.nodes:=by rw [uv,uL]
 unfold yd
 rw [← uv]
 rw [show Tryz.f69.ntmps=49 from rfl,show Tryz.f69.results.toList=[.cell 4 33] from rfl,k69]
 have ht:=BW r
 rw [sG] at ht
 have hfl: ∀k x,((th r).map (vu l))[k]? =some x→ ∃t,(th r)[k]? =some t∧vu l t=x:=fun k x h=>by
  rw [List.getElem?_map,Option.map_eq_some_iff] at h;exact h
 generalize hv:(th r).map (vu l)=v at *
 refine aI.seq (IX ?_)
 repeat' ((conv=>whnf);first|(refine And.intro (by first|exact sJ _|fail) ?_)|refine aS ?_|fail)
 refine aI.seq (aI.seq (I3 ?_))
 repeat' ((conv=>whnf);first|refine rE _ (ht) ?_|fail)
 refine aI.bP (s:={sl:=[(2,.ptr 2 0),(4,.ptr 4 0),(10,.t (.clos 145 [.cptr (sB r) 0]))],bx:=[(2,.d 1 [fds l]),(4,.d 1 [I 0])]}) (by repeat' (first|exact trivial|exact LeV.same _|exact LeB.same _|exact rfl|exact fun _ _ _=>trivial|refine And.intro ?_ ?_)) ?_
 refine aI.block (yy (N:=49) rfl r rfl 100 (fun n=>10≤n∧n<100) 100 (Nat.le_refl _) (by omega) (fun n h=>rz fun p hp=>?_) (fun n h=>rz fun p hp=>?_) (by exact rU) (outs:=tH l v) (stop:=fun c cx o=>cx=(fun _ _=>True)∧wP l v c o) ?_ (fun l0 D fn tmps hN=>?_) ?_ ?_)
 ·simp only [List.mem_cons,List.not_mem_nil,or_false] at hp
  rcases hp with rfl|rfl <;> (dsimp only;omega)
 ·simp only [List.mem_cons,List.not_mem_nil,or_false] at hp
  rcases hp with rfl|rfl <;> (dsimp only;omega)
 ·intro q hq
  simp only [tH,List.mem_cons,List.not_mem_nil,or_false] at hq
  rcases hq with rfl|rfl <;> rfl
 ·refine dR.top (d:=5) (n:=5) (lo:=10) (hi:=100) (Ef l v) (fun n h1 h2=>⟨h1,h2⟩) hN (by decide) (fun hw=>I9 hw) rfl (by decide) (by decide) (fun x hx=>?_) (fun k cs b G C hk hcs=>?_)
  ·obtain ⟨t,_,rfl⟩:=List.mem_map.1 hx
   exact ⟨_,sG t,sJ t⟩
  rw [List.getElem?_map,Option.map_eq_some_iff] at hk
  obtain ⟨t,htk,hte⟩:=hk
  rw [sG] at hte
  obtain rfl:sB t=cs:=T.agg.inj hte
  have hvk:v[k]? =some (vu l t):=by rw [← hv,List.getElem?_map,htk];rfl
  have hs:=Ax hvk
  have hfst:=zN hvk
  cases hok:okB v k with
  |false=>exact aI.absurd (n:=4) (m:=1) (ts:=[]) (by show some (BX.d 1 (if okB v k=true then [I 0] else []))=_;rw [hok];rfl) (by decide)
  |true=>
  have ho:tH l v k=[(2,.d 1 [fds l]),(4,.d 1 [I 0])]:=by unfold tH;rw [hok];rfl
  rw [ho]
  rw [hok,Bool.true_and] at hs
  have hfst:=hfst hok
  clear hok ho
  refine Jf ?_
  clear hte
  obtain ⟨kd,f,n,m,args⟩:=t
  have hE:=sO f e0
  have endN: ∀s:St,s.gh=G→s.cx=C→(∀ q, ¬(10≤q∧q<100)→s.bx q=aK b [(2,.d 1 [fds l]),(4,.d 1 [I 0])] q)→vu l (.mk kd f n m args)=0→RB b G C 10 100 (tH l v (k+1)) (wP l v) .normal s:=fun s h1 h2 h3 h4=>by
   refine ⟨h1,h2,_,h3,?_⟩
   unfold tH
   rw [hs,h4];rfl
  have endR: ∀s:St,s.gh=G→s.cx=C→(∀ q, ¬(10≤q∧q<100)→s.bx q=aK b [(2,.d 1 [fds l]),(4,.d 1 [I (vu l (.mk kd f n m args))])] q)→vu l (.mk kd f n m args)≠0→RB b G C 10 100 (tH l v (k+1)) (wP l v) .ret s:=fun s h1 h2 h3 h4=>by
   have e:=hfst h4
   exact ⟨h1,h2,_,h3,rfl,by rw [e];exact h4,by rw [e]⟩
  cases hb:sC f e0 with
  |true=>
   rw [hb] at hE
   have hq:vu l (.mk kd f n m args)=0:=by simp only [vu];rw [if_pos hb]
   repeat' ((conv=>whnf);first|refine nb_ true hE ?_|refine nT_ ?_|refine aS ?_|fail)
   refine endN _ rfl rfl (fun q hq=>?_) hq
   have hm:=qX (b:=b) hq
   show cond (Nat.beq q 15) _ (cond (Nat.beq q 2) _ (cond (Nat.beq q 4) _ (gE 10 100 b q)))=cond (Nat.beq q 2) _ (cond (Nat.beq q 4) _ (b q))
   rw [eS (show q≠15 by omega),hm];rfl
  |false=>
  rw [hb] at hE
  have h74:=t74 l f hl.len
  unfold xy at h74
  have hq:vu l (.mk kd f n m args)=(match findF l f with
   |none=>4
   |some F=>if (if kd=5 then m else n)>((2^F.w - 1:Nat):Int)∨(kd=4∧m>F.w) then 1 else 0):=by simp only [vu];rw [hb];rfl
  generalize vu l (.mk kd f n m args)=x at *
  cases hF:findF l f with
  |none=>
   rw [hF] at h74 hq
   dsimp only at h74 hq
   subst hq
   by_cases h5:kd=5
   all_goals
    repeat' ((conv=>whnf);first|refine nb_ false hE ?_|refine rE _ (h74) ?_|refine qx h5 ?_|refine qw h5 ?_|refine nT_ ?_|refine aS ?_|fail)
    (conv=>whnf)
    refine endR _ rfl rfl (fun q hq=>?_) (by decide)
    have hm:=qX (b:=b) hq
    by_cases h4:q=4
    ·subst h4;rfl
    show cond (Nat.beq q 4) _ (cond (Nat.beq q 16) _ (cond (Nat.beq q 16) _ (cond (Nat.beq q 15) _ (cond (Nat.beq q 2) _ (cond (Nat.beq q 4) _ (gE 10 100 b q))))))=cond (Nat.beq q 2) _ (cond (Nat.beq q 4) _ (b q))
    rw [eS (show q≠15 by omega),eS (show q≠16 by omega),eS h4,hm];rfl
  |some F=>
   rw [hF] at h74 hq
   dsimp only at h74 hq
   have h97:=t97 F (hl.find hF)
   generalize (2^F.w - 1:Nat)=M at *
   have fin: ∀(y:Int),x=y→(y=0∨y=1)→True:=fun _ _ _=>trivial
   by_cases hbad:(if kd=5 then m else n)>(M:Int)∨(kd=4∧m>F.w)
   ·rw [if_pos hbad] at hq
    subst hq
    by_cases h5:kd=5
    ·rw [if_pos h5] at hbad
     have hbad:m>(M:Int):=by omega
     repeat' ((conv=>whnf);first|refine nb_ false hE ?_|refine rE _ (h74) ?_|refine qx h5 ?_|refine rE _ (h97) ?_|refine qv hbad ?_|refine nT_ ?_|refine aS ?_|fail)
     (conv=>whnf)
     refine endR _ rfl rfl (fun q hq=>?_) (by decide)
     have hm:=qX (b:=b) hq
     by_cases h4:q=4
     ·subst h4;rfl
     show cond (Nat.beq q 4) _ (cond (Nat.beq q 16) _ (cond (Nat.beq q 16) _ (cond (Nat.beq q 15) _ (cond (Nat.beq q 2) _ (cond (Nat.beq q 4) _ (gE 10 100 b q))))))=cond (Nat.beq q 2) _ (cond (Nat.beq q 4) _ (b q))
     rw [eS (show q≠15 by omega),eS (show q≠16 by omega),eS h4,hm];rfl
    ·rw [if_neg h5] at hbad
     by_cases hn:n>(M:Int)
     ·repeat' ((conv=>whnf);first|refine nb_ false hE ?_|refine rE _ (h74) ?_|refine qw h5 ?_|refine rE _ (h97) ?_|refine qv hn ?_|refine nT_ ?_|refine aS ?_|fail)
      (conv=>whnf)
      refine endR _ rfl rfl (fun q hq=>?_) (by decide)
      have hm:=qX (b:=b) hq
      by_cases h4:q=4
      ·subst h4;rfl
      show cond (Nat.beq q 4) _ (cond (Nat.beq q 16) _ (cond (Nat.beq q 16) _ (cond (Nat.beq q 15) _ (cond (Nat.beq q 2) _ (cond (Nat.beq q 4) _ (gE 10 100 b q))))))=cond (Nat.beq q 2) _ (cond (Nat.beq q 4) _ (b q))
      rw [eS (show q≠15 by omega),eS (show q≠16 by omega),eS h4,hm];rfl
     ·have h4k:kd=4:=by omega
      have hmw:m>(F.w:Int):=by omega
      repeat' ((conv=>whnf);first|refine nb_ false hE ?_|refine rE _ (h74) ?_|refine qw h5 ?_|refine rE _ (h97) ?_|refine qu hn ?_|refine qx h4k ?_|refine qv hmw ?_|refine nT_ ?_|refine aS ?_|fail)
      (conv=>whnf)
      refine endR _ rfl rfl (fun q hq=>?_) (by decide)
      have hm:=qX (b:=b) hq
      by_cases h4:q=4
      ·subst h4;rfl
      show cond (Nat.beq q 4) _ (cond (Nat.beq q 16) _ (cond (Nat.beq q 16) _ (cond (Nat.beq q 15) _ (cond (Nat.beq q 2) _ (cond (Nat.beq q 4) _ (gE 10 100 b q))))))=cond (Nat.beq q 2) _ (cond (Nat.beq q 4) _ (b q))
      rw [eS (show q≠15 by omega),eS (show q≠16 by omega),eS h4,hm];rfl
   ·rw [if_neg hbad] at hq
    have good: ∀s:St,s.gh=G→s.cx=C→(∀ q,s.bx q=cond (Nat.beq q 16) (s.bx 16) (cond (Nat.beq q 15) (s.bx 15) (cond (Nat.beq q 2) (some (.d 1 [fds l])) (cond (Nat.beq q 4) (some (.d 1 [I 0])) (gE 10 100 b q)))))→RB b G C 10 100 (tH l v (k+1)) (wP l v) .normal s:=fun s h1 h2 h3=>endN s h1 h2 (fun q hq=>by
     have hm:=qX (b:=b) hq
     rw [h3 q,eS (show q≠15 by omega),eS (show q≠16 by omega),hm];rfl) hq
    have r16: ∀(q:Nat) (f:Nat→Option BX) (x y:Option BX),upd (upd f 16 x) 16 y q=cond (Nat.beq q 16) y (f q):=fun q f x y=>by rw [gj];rfl
    by_cases h5:kd=5
    ·rw [if_pos h5] at hbad
     have hbad: ¬m>(M:Int):=by omega
     have h4k:kd≠4:=by omega
     repeat' ((conv=>whnf);first|refine nb_ false hE ?_|refine rE _ (h74) ?_|refine qx h5 ?_|refine rE _ (h97) ?_|refine qu hbad ?_|refine qw h4k ?_|refine nT_ ?_|refine aS ?_|fail)
     (conv=>whnf)
     refine good _ rfl rfl fun q=>?_
     exact (r16 q _ _ _).trans rfl
    ·rw [if_neg h5] at hbad
     have hn: ¬n>(M:Int):=by omega
     by_cases h4k:kd=4
     ·have hmw: ¬m>(F.w:Int):=by omega
      repeat' ((conv=>whnf);first|refine nb_ false hE ?_|refine rE _ (h74) ?_|refine qw h5 ?_|refine rE _ (h97) ?_|refine qu hn ?_|refine qx h4k ?_|refine qu hmw ?_|refine nT_ ?_|refine aS ?_|fail)
      (conv=>whnf)
      refine good _ rfl rfl fun q=>?_
      exact (r16 q _ _ _).trans rfl
     ·repeat' ((conv=>whnf);first|refine nb_ false hE ?_|refine rE _ (h74) ?_|refine qw h5 ?_|refine rE _ (h97) ?_|refine qu hn ?_|refine qw h4k ?_|refine nT_ ?_|refine aS ?_|fail)
      (conv=>whnf)
      refine good _ rfl rfl fun q=>?_
      exact (r16 q _ _ _).trans rfl
 ·have hlv:(th r).length=v.length:=by rw [← hv,List.length_map]
  rw [hlv]
  cases hok:okB v v.length with
  |false=>exact aI.absurd (n:=4) (m:=1) (ts:=[]) (by show some (BX.d 1 (if okB v v.length=true then [I 0] else []))=_;rw [hok];rfl) (by decide)
  |true=>
   rw [BM hok]
   have ho:tH l v v.length=[(2,.d 1 [fds l]),(4,.d 1 [I 0])]:=by unfold tH;rw [hok];rfl
   rw [ho]
   refine Jk ?_
   repeat' ((conv=>whnf);first|refine aS ?_|fail)
   exact ⟨⟨⟨Nat.lt_succ_self 0,rfl⟩,trivial⟩,fun _ _=>trivial⟩
 ·rintro c cx o ⟨rfl,rfl,hne,rfl⟩
  refine Or.inl ⟨rfl,?_,fun _ _=>trivial⟩
  (conv=>whnf)
  exact ⟨⟨Nat.lt_succ_self 0,rfl⟩,trivial⟩
end Go.TY
end
noncomputable section
namespace Go.TY
open Go Go.DL Go.Proofs
def c68:aY:=(.seq (.region [oo 1 (.box 5 (tm 0)),oo 2 (.mov (Kc 0))] []) (.seq (.region [lA 3 5 1,oo 4 (.call 105 [tm 3]),oo 5 (.mkfn 107 [tm 1]),oo 6 (.call 106 [(tm 4),(tm 5)]),mv 2 6] []) .ret))
theorem l68:(Tryz.f68.body.bind (bD Tryz.prog 7 []))=some c68:=by kernel_rfl
def c72:aY:=(.seq (.region [oo 1 (.box 9 (tm 0)),oo 2 (.mov (Kc 0))] []) (.seq (.region [lA 3 9 1,oo 4 (.call 113 [tm 3]),oo 5 (.mkfn 114 [tm 1]),oo 6 (.call 106 [(tm 4),(tm 5)]),mv 2 6] []) .ret))
theorem l72:(Tryz.f72.body.bind (bD Tryz.prog 7 []))=some c72:=by kernel_rfl
def c79:aY:=(.seq (.region [oo 1 (.box 6 (tm 0)),oo 2 (.mov (Kc 0))] []) (.seq (.seq (.region [lA 3 6 1,oo 4 (.call 123 [tm 3]),oo 5 (.not (tm 4))] []) (.cond (tm 5) (.seq (.region [oo 2 (.mov (Kc 1))] []) .ret) .skip)) (.seq (.region [oo 2 (.mov (Kc 0))] []) .ret)))
theorem l79:(Tryz.f79.body.bind (bD Tryz.prog 6 []))=some c79:=by kernel_rfl
def c95:aY:=(.seq (.region [oo 2 (.mov (Kc 0))] []) (.seq (.seq (.region [mv 7 0,ln 8 7,oo 9 (.bin .gtr (tm 8) (Kc 8))] []) (.cond (tm 9) (.seq (.region [oo 2 (.mov (Kc 2))] []) .ret) .skip)) (.seq (.seq (.region [mv 10 0,ln 11 10,oo 12 (.mov (Kc 0))] []) (.block 0 (.loop (.seq (.region [oo 13 (.bin .lss (tm 12) (tm 11))] []) (.seq (.cond (tm 13) .skip (.exit 0)) (.seq (.block 1 (.seq (.region [ix 14 15 10 12,lA 15 15 14,⟨some 4,.alloc [Z0,Z0,S0,Z0,Z0,.nil,S0,Z0,.nil,Z0,S0,.nil,S0,Z0,Z0],none,[]⟩,o0 (.store 15 (tm 4) (tm 15))] []) (.seq (.seq (.region [fa 16 0 4,lA 17 9 16,oo 18 (.call 72 [tm 17]),mv 5 18] []) (.seq (.region [mv 19 5,oo 20 (.bin .neq (tm 19) (Kc 0))] []) (.cond (tm 20) (.seq (.region [mv 21 5,mv 2 21] []) .ret) .skip))) (.seq (.region [fa 22 9 4,lA 23 6 22,oo 24 (.call 79 [tm 23]),mv 6 24] []) (.seq (.region [mv 25 6,oo 26 (.bin .neq (tm 25) (Kc 0))] []) (.cond (tm 26) (.seq (.region [mv 27 6,mv 2 27] []) .ret) .skip)))))) (.region [oo 28 (.bin .add (tm 12) (Kc 1)),mv 12 28] []))))))) (.seq (.region [oo 2 (.mov (Kc 0))] []) .ret))))
theorem l95:(Tryz.f95.body.bind (bD Tryz.prog 29 []))=some c95:=by kernel_rfl
def Kh:aY:=(.seq (.region [oo 1 (.box 5 (tm 0)),oo 2 (.alloc [Z0,Z0])] []) (.seq (.region [fa 3 4 1,ld 4 3,oo 5 (.call 139 [(tm 4),(.const (.clos 105 []))]),o0 (.store 2 (tm 2) (tm 5))] []) .ret))
theorem Lz:(Tryz.f105.body.bind (bD Tryz.prog 6 []))=some Kh:=by kernel_rfl
def Ki:aY:=(.seq (.region [oo 2 (.box 2 (tm 0)),oo 4 (.mov (Kc 0))] []) (.seq (.seq (.region [lA 6 2 2,oo 7 (.call 140 [tm 6]),mv 5 7] []) (.seq (.region [mv 8 5,oo 9 (.bin .neq (tm 8) (Kc 0))] []) (.cond (tm 9) (.seq (.region [mv 10 5,mv 4 10] []) .ret) .skip))) (.seq (.seq (.region [mv 11 1,oo 12 (.b8 (tm 11) []),oo 13 (.not (tm 12))] []) (.cond (tm 13) (.seq (.region [oo 4 (.mov (Kc 1))] []) .ret) .skip)) (.seq (.region [oo 4 (.mov (Kc 0))] []) .ret))))
theorem LA:(Tryz.f106.body.bind (bD Tryz.prog 14 []))=some Ki:=by kernel_rfl
def Kj:aY:=(.seq (.region [oo 1 (.mov kF)] []) (.seq (.region [lA 2 5 0,oo 3 (.call 108 [tm 2]),mv 1 3] []) .ret))
theorem LB:(Tryz.f107.body.bind (bD Tryz.prog 4 []))=some Kj:=by kernel_rfl
def Kk:aY:=(.seq (.region [oo 1 (.box 5 (tm 0)),oo 2 (.mov kF)] []) (.seq (.cut (.region [fa 4 1 1,ld 5 4,⟨some 6,.bin .eql (tm 5) (.const S0),none,[]⟩,mv 7 6,oT 8 7 (.offA 2 (tm 1)),oT 9 7 (.load 1 false (tm 8)),oT 10 7 (.bin .eql (tm 9) (Kc 0)),oo 11 (.pick (tm 7) (tm 10) kF),mv 12 11,oT 13 12 (.offA 3 (tm 1)),oT 14 12 (.load 1 false (tm 13)),oT 15 12 (.bin .eql (tm 14) (Kc 0)),oo 16 (.pick (tm 12) (tm 15) kF),mv 3 16] [])) (.seq (.seq (.region [fa 17 0 1,ld 18 17] []) (.block 0 (.seq (.seq (.region [oo 20 (.bin .eql (tm 18) (Kc 1)),mv 19 20] []) (.cond (tm 19) .skip (.region [oo 21 (.bin .eql (tm 18) (Kc 2)),mv 19 21] []))) (.cond (tm 19) (.seq (.region [mv 22 3,mv 23 22,oT 24 23 (.offA 4 (tm 1)),oT 25 23 (.load 1 false (tm 24)),oT 26 23 (.len (tm 25)),oT 27 23 (.bin .eql (tm 26) (Kc 0)),oo 28 (.pick (tm 23) (tm 27) kF),mv 2 28] []) .ret) (.seq (.region [oo 30 (.bin .eql (tm 18) (Kc 3)),mv 29 30] []) (.cond (tm 29) (.seq (.region [fa 31 1 1,ld 32 31,oo 33 (.call 141 [tm 32]),mv 34 33,oT 35 34 (.offA 2 (tm 1)),oT 36 34 (.load 1 false (tm 35)),oT 37 34 (.call 142 [tm 36]),oo 38 (.pick (tm 34) (tm 37) kF),mv 39 38,oT 40 39 (.offA 3 (tm 1)),oT 41 39 (.load 1 false (tm 40)),oT 42 39 (.bin .eql (tm 41) (Kc 0)),oo 43 (.pick (tm 39) (tm 42) kF),mv 44 43,oT 45 44 (.offA 4 (tm 1)),oT 46 44 (.load 1 false (tm 45)),oT 47 44 (.len (tm 46)),oT 48 44 (.bin .eql (tm 47) (Kc 0)),oo 49 (.pick (tm 44) (tm 48) kF),mv 2 49] []) .ret) (.seq (.region [oo 51 (.bin .eql (tm 18) (Kc 4)),mv 50 51] []) (.cond (tm 50) (.seq (.region [fa 52 1 1,ld 53 52,oo 54 (.call 141 [tm 53]),mv 55 54,oT 56 55 (.offA 2 (tm 1)),oT 57 55 (.load 1 false (tm 56)),oT 58 55 (.call 142 [tm 57]),oo 59 (.pick (tm 55) (tm 58) kF),mv 60 59,oT 61 60 (.offA 3 (tm 1)),oT 62 60 (.load 1 false (tm 61)),oT 63 60 (.bin .geq (tm 62) (Kc 0)),oo 64 (.pick (tm 60) (tm 63) kF),mv 65 64,oT 66 65 (.offA 3 (tm 1)),oT 67 65 (.load 1 false (tm 66)),oT 68 65 (.bin .leq (tm 67) (Kc 16)),oo 69 (.pick (tm 65) (tm 68) kF),mv 70 69,oT 71 70 (.offA 4 (tm 1)),oT 72 70 (.load 1 false (tm 71)),oT 73 70 (.len (tm 72)),oT 74 70 (.bin .eql (tm 73) (Kc 0)),oo 75 (.pick (tm 70) (tm 74) kF),mv 2 75] []) .ret) (.seq (.region [oo 77 (.bin .eql (tm 18) (Kc 5)),mv 76 77] []) (.cond (tm 76) (.seq (.region [fa 78 1 1,ld 79 78,oo 80 (.call 141 [tm 79]),mv 81 80,oT 82 81 (.offA 2 (tm 1)),oT 83 81 (.load 1 false (tm 82)),oT 84 81 (.call 142 [tm 83]),oo 85 (.pick (tm 81) (tm 84) kF),mv 86 85,oT 87 86 (.offA 3 (tm 1)),oT 88 86 (.load 1 false (tm 87)),oT 89 86 (.call 142 [tm 88]),oo 90 (.pick (tm 86) (tm 89) kF),mv 91 90,oT 92 91 (.offA 2 (tm 1)),oT 93 91 (.load 1 false (tm 92)),oT 94 91 (.offA 3 (tm 1)),oT 95 91 (.load 1 false (tm 94)),oT 96 91 (.bin .leq (tm 93) (tm 95)),oo 97 (.pick (tm 91) (tm 96) kF),mv 98 97,oT 99 98 (.offA 4 (tm 1)),oT 100 98 (.load 1 false (tm 99)),oT 101 98 (.len (tm 100)),oT 102 98 (.bin .eql (tm 101) (Kc 0)),oo 103 (.pick (tm 98) (tm 102) kF),mv 2 103] []) .ret) (.seq (.region [oo 105 (.bin .eql (tm 18) (Kc 9)),mv 104 105] []) (.cond (tm 104) (.seq (.region [fa 106 1 1,ld 107 106,⟨some 108,.bin .eql (tm 107) (.const S0),none,[]⟩,mv 109 108,oT 110 109 (.offA 2 (tm 1)),oT 111 109 (.load 1 false (tm 110)),oT 112 109 (.call 143 [tm 111]),oo 113 (.pick (tm 109) (tm 112) kF),mv 114 113,oT 115 114 (.offA 3 (tm 1)),oT 116 114 (.load 1 false (tm 115)),oT 117 114 (.call 143 [tm 116]),oo 118 (.pick (tm 114) (tm 117) kF),mv 119 118,oT 120 119 (.offA 2 (tm 1)),oT 121 119 (.load 1 false (tm 120)),oT 122 119 (.offA 3 (tm 1)),oT 123 119 (.load 1 false (tm 122)),oT 124 119 (.bin .lss (tm 121) (tm 123)),oo 125 (.pick (tm 119) (tm 124) kF),mv 126 125,oT 127 126 (.offA 4 (tm 1)),oT 128 126 (.load 1 false (tm 127)),oT 129 126 (.len (tm 128)),oT 130 126 (.bin .eql (tm 129) (Kc 0)),oo 131 (.pick (tm 126) (tm 130) kF),mv 2 131] []) .ret) (.seq (.region [oo 133 (.bin .eql (tm 18) (Kc 6)),mv 132 133] []) (.cond (tm 132) (.seq (.region [mv 134 3,mv 135 134,oT 136 135 (.offA 4 (tm 1)),oT 137 135 (.load 1 false (tm 136)),oT 138 135 (.call 144 [(tm 137),(Kc 1),(.const (.clos 108 []))]),oo 139 (.pick (tm 135) (tm 138) kF),mv 2 139] []) .ret) (.seq (.seq (.region [oo 141 (.bin .eql (tm 18) (Kc 7)),mv 140 141] []) (.cond (tm 140) .skip (.region [oo 142 (.bin .eql (tm 18) (Kc 8)),mv 140 142] []))) (.cond (tm 140) (.seq (.region [mv 143 3,mv 144 143,oT 145 144 (.offA 4 (tm 1)),oT 146 144 (.load 1 false (tm 145)),oT 147 144 (.call 144 [(tm 146),(Kc 2),(.const (.clos 108 []))]),oo 148 (.pick (tm 144) (tm 147) kF),mv 2 148] []) .ret) .skip)))))))))))))))) (.seq (.region [oo 2 (.mov kF)] []) .ret))))
theorem LC:(Tryz.f108.body.bind (bD Tryz.prog 149 [6000001]))=some Kk:=by kernel_rfl
def Ko:aY:=(.seq (.region [oo 1 (.box 9 (tm 0)),oo 2 (.alloc [Z0,Z0])] []) (.seq (.region [fa 4 8 1,ld 5 4,oo 6 (.call 147 [(tm 5),(.const (.clos 113 []))]),oo 3 (.alloc [Z0,Z0]),o0 (.store 2 (tm 3) (tm 6))] []) (.seq (.seq (.region [fa 7 0 1,ld 8 7,oo 9 (.bin .eql (tm 8) (Kc 1))] []) (.cond (tm 9) (.region [lA 10 2 3,fa 11 1 1,lA 12 5 11,oo 13 (.call 105 [tm 12]),oo 14 (.call 148 [(tm 10),(tm 13)]),o0 (.store 2 (tm 3) (tm 14))] []) .skip)) (.seq (.region [lA 15 2 3,o0 (.store 2 (tm 2) (tm 15))] []) .ret))))
theorem LH:(Tryz.f113.body.bind (bD Tryz.prog 16 []))=some Ko:=by kernel_rfl
def Kp:aY:=(.seq (.region [oo 1 (.mov kF)] []) (.seq (.region [lA 2 9 0,oo 3 (.call 115 [tm 2]),mv 1 3] []) .ret))
theorem LI:(Tryz.f114.body.bind (bD Tryz.prog 4 []))=some Kp:=by kernel_rfl
def Kq:aY:=(.seq (.region [oo 1 (.box 9 (tm 0)),oo 2 (.mov kF)] []) (.seq (.cut (.region [fa 5 1 1,lA 6 5 5,⟨some 7,.build [Z0,S0,Z0,Z0,.nil] [],none,[]⟩,oo 8 (.call 149 [(tm 6),(tm 7)]),fa 9 6 1,ld 10 9,⟨some 11,.bin .eql (tm 10) (.const S0),none,[]⟩,mv 12 11,oT 13 12 (.offA 7 (tm 1)),oT 14 12 (.load 1 false (tm 13)),oT 15 12 (.bin .eql (tm 14) (Kc 0)),oo 16 (.pick (tm 12) (tm 15) kF),mv 3 8,mv 4 16] [])) (.seq (.seq (.region [fa 17 0 1,ld 18 17] []) (.block 0 (.seq (.region [oo 20 (.bin .eql (tm 18) (Kc 1)),mv 19 20] []) (.cond (tm 19) (.seq (.region [mv 21 4,mv 22 21,oT 23 22 (.offA 8 (tm 1)),oT 24 22 (.load 1 false (tm 23)),oT 25 22 (.len (tm 24)),oT 26 22 (.bin .eql (tm 25) (Kc 0)),oo 27 (.pick (tm 22) (tm 26) kF),mv 28 27,oT 29 28 (.offA 1 (tm 1)),oT 30 28 (.load 5 true (tm 29)),oT 31 28 (.call 108 [tm 30]),oo 32 (.pick (tm 28) (tm 31) kF),mv 2 32] []) .ret) (.seq (.region [oo 34 (.bin .eql (tm 18) (Kc 2)),mv 33 34] []) (.cond (tm 33) (.seq (.region [mv 35 3,mv 36 35,oT 37 36 (.offA 8 (tm 1)),oT 38 36 (.load 1 false (tm 37)),oT 39 36 (.len (tm 38)),oT 40 36 (.bin .eql (tm 39) (Kc 0)),oo 41 (.pick (tm 36) (tm 40) kF),mv 42 41,oT 43 42 (.offA 6 (tm 1)),oT 44 42 (.load 1 false (tm 43)),oT 45 42 (.call 141 [tm 44]),oo 46 (.pick (tm 42) (tm 45) kF),mv 47 46,oT 48 47 (.offA 7 (tm 1)),oT 49 47 (.load 1 false (tm 48)),oT 50 47 (.call 142 [tm 49]),oo 51 (.pick (tm 47) (tm 50) kF),mv 2 51] []) .ret) (.seq (.region [oo 53 (.bin .eql (tm 18) (Kc 5)),mv 52 53] []) (.cond (tm 52) (.seq (.region [mv 54 3,mv 55 54,mT 56 4 55,oo 57 (.pick (tm 55) (tm 56) kF),mv 58 57,oT 59 58 (.offA 8 (tm 1)),oT 60 58 (.load 1 false (tm 59)),oT 61 58 (.call 150 [(tm 60),(Kc 1),(.const (.clos 115 []))]),oo 62 (.pick (tm 58) (tm 61) kF),mv 2 62] []) .ret) (.seq (.seq (.region [oo 64 (.bin .eql (tm 18) (Kc 3)),mv 63 64] []) (.cond (tm 63) .skip (.region [oo 65 (.bin .eql (tm 18) (Kc 4)),mv 63 65] []))) (.cond (tm 63) (.seq (.region [mv 66 3,mv 67 66,mT 68 4 67,oo 69 (.pick (tm 67) (tm 68) kF),mv 70 69,oT 71 70 (.offA 8 (tm 1)),oT 72 70 (.load 1 false (tm 71)),oT 73 70 (.call 150 [(tm 72),(Kc 2),(.const (.clos 115 []))]),oo 74 (.pick (tm 70) (tm 73) kF),mv 2 74] []) .ret) .skip)))))))))) (.seq (.region [oo 2 (.mov kF)] []) .ret))))
theorem LJ:(Tryz.f115.body.bind (bD Tryz.prog 75 [6000001]))=some Kq:=by kernel_rfl
def Ku:aY:=(.seq (.region [oo 1 (.box 6 (tm 0)),oo 2 (.mov kF)] []) (.seq (.seq (.region [lA 4 6 1,⟨some 5,.build [Z0,S0,.nil,S0,Z0,Z0] [],none,[]⟩,oo 6 (.call 151 [(tm 4),(tm 5)])] []) (.cond (tm 6) (.seq (.region [oo 2 (.mov kT)] []) .ret) .skip)) (.seq (.seq (.cut (.region [fa 7 1 1,ld 8 7,oo 9 (.call 152 [tm 8]),oo 10 (.not (tm 9)),mv 11 10,oF 12 11 (.offA 2 (tm 1)),oF 13 11 (.load 1 false (tm 12)),oF 14 11 (.len (tm 13)),oF 15 11 (.bin .eql (tm 14) (Kc 0)),oo 16 (.pick (tm 11) kT (tm 15)),mv 17 16,oF 18 17 (.offA 2 (tm 1)),oF 19 17 (.load 1 false (tm 18)),oF 20 17 (.len (tm 19)),oF 21 17 (.bin .gtr (tm 20) (Kc 4)),oo 22 (.pick (tm 17) kT (tm 21)),mv 23 22,oF 24 23 (.offA 2 (tm 1)),oF 25 23 (.load 1 false (tm 24)),oF 26 23 (.offA 2 (tm 1)),oF 27 23 (.load 1 false (tm 26)),oF 28 23 (.len (tm 27)),oF 29 23 (.call 153 [(tm 25),(tm 28),(.const (.clos 141 []))]),oF 30 23 (.not (tm 29)),oo 31 (.pick (tm 23) kT (tm 30))] [])) (.cond (tm 31) (.seq (.region [oo 2 (.mov kF)] []) .ret) .skip)) (.seq (.cut (.region [fa 32 4 1,ld 33 32,oo 34 (.bin .eql (tm 33) (Kc 0)),mv 35 34,oT 36 35 (.offA 5 (tm 1)),oT 37 35 (.load 1 false (tm 36)),oT 38 35 (.bin .eql (tm 37) (Kc 0)),oo 39 (.pick (tm 35) (tm 38) kF),mv 3 39] [])) (.seq (.seq (.region [fa 40 0 1,ld 41 40] []) (.block 0 (.seq (.region [oo 43 (.bin .eql (tm 41) (Kc 1)),mv 42 43] []) (.cond (tm 42) (.seq (.region [mv 44 3,mv 45 44,oT 46 45 (.offA 3 (tm 1)),oT 47 45 (.load 1 false (tm 46)),⟨some 48,.bin .eql (tm 47) (.const S0),some (45,true),[]⟩,mT 49 48 45,oF 50 49 (.offA 3 (tm 1)),oF 51 49 (.load 1 false (tm 50)),oF 52 49 (.call 141 [tm 51]),oT 53 45 (.pick (tm 49) kT (tm 52)),oo 54 (.pick (tm 45) (tm 53) kF),mv 2 54] []) .ret) (.seq (.region [oo 56 (.bin .eql (tm 41) (Kc 2)),mv 55 56] []) (.cond (tm 55) (.seq (.region [mv 57 3,mv 58 57,oT 59 58 (.offA 3 (tm 1)),oT 60 58 (.load 1 false (tm 59)),⟨some 61,.bin .eql (tm 60) (.const S0),some (58,true),[]⟩,oo 62 (.pick (tm 58) (tm 61) kF),mv 2 62] []) .ret) (.seq (.region [oo 64 (.bin .eql (tm 41) (Kc 3)),mv 63 64] []) (.cond (tm 63) (.seq (.region [fa 65 4 1,ld 66 65,oo 67 (.call 143 [tm 66]),mv 68 67,oT 69 68 (.offA 5 (tm 1)),oT 70 68 (.load 1 false (tm 69)),oT 71 68 (.bin .eql (tm 70) (Kc 0)),oo 72 (.pick (tm 68) (tm 71) kF),mv 73 72,oT 74 73 (.offA 3 (tm 1)),oT 75 73 (.load 1 false (tm 74)),⟨some 76,.bin .eql (tm 75) (.const S0),some (73,true),[]⟩,oo 77 (.pick (tm 73) (tm 76) kF),mv 2 77] []) .ret) (.seq (.region [oo 79 (.bin .eql (tm 41) (Kc 4)),mv 78 79] []) (.cond (tm 78) (.seq (.region [fa 80 3 1,ld 81 80,oo 82 (.call 141 [tm 81]),mv 83 82,oT 84 83 (.offA 4 (tm 1)),oT 85 83 (.load 1 false (tm 84)),oT 86 83 (.call 142 [tm 85]),oo 87 (.pick (tm 83) (tm 86) kF),mv 88 87,oT 89 88 (.offA 5 (tm 1)),oT 90 88 (.load 1 false (tm 89)),oT 91 88 (.call 142 [tm 90]),oo 92 (.pick (tm 88) (tm 91) kF),mv 93 92,oT 94 93 (.offA 4 (tm 1)),oT 95 93 (.load 1 false (tm 94)),oT 96 93 (.offA 5 (tm 1)),oT 97 93 (.load 1 false (tm 96)),oT 98 93 (.bin .leq (tm 95) (tm 97)),oo 99 (.pick (tm 93) (tm 98) kF),mv 2 99] []) .ret) (.seq (.region [oo 101 (.bin .eql (tm 41) (Kc 5)),mv 100 101] []) (.cond (tm 100) (.seq (.region [mv 102 3,mv 103 102,oT 104 103 (.offA 3 (tm 1)),oT 105 103 (.load 1 false (tm 104)),oT 106 103 (.call 141 [tm 105]),oo 107 (.pick (tm 103) (tm 106) kF),mv 2 107] []) .ret) (.seq (.region [oo 109 (.bin .eql (tm 41) (Kc 6)),mv 108 109] []) (.cond (tm 108) (.seq (.region [fa 110 3 1,ld 111 110,⟨some 112,.bin .eql (tm 111) (.const S0),none,[]⟩,mv 113 112,oT 114 113 (.offA 4 (tm 1)),oT 115 113 (.load 1 false (tm 114)),oT 116 113 (.bin .geq (tm 115) (Kc 1)),oo 117 (.pick (tm 113) (tm 116) kF),mv 118 117,oT 119 118 (.offA 4 (tm 1)),oT 120 118 (.load 1 false (tm 119)),oT 121 118 (.call 142 [tm 120]),oo 122 (.pick (tm 118) (tm 121) kF),mv 123 122,oT 124 123 (.offA 5 (tm 1)),oT 125 123 (.load 1 false (tm 124)),oT 126 123 (.bin .geq (tm 125) (Kc 1)),oo 127 (.pick (tm 123) (tm 126) kF),mv 128 127,oT 129 128 (.offA 5 (tm 1)),oT 130 128 (.load 1 false (tm 129)),oT 131 128 (.call 143 [tm 130]),oo 132 (.pick (tm 128) (tm 131) kF),mv 2 132] []) .ret) .skip)))))))))))))) (.seq (.region [oo 2 (.mov kF)] []) .ret))))))
theorem LN:(Tryz.f123.body.bind (bD Tryz.prog 133 [6000005,6000003]))=some Ku:=by kernel_rfl
def KE:aY:=(.seq (.region [oo 4 (.alloc [Z0,Z0])] []) (.seq (.region [oo 8 (.build [Z0,Z0] [(0,1,(Kc 1)),(1,1,(Kc 1))]),oo 5 (.alloc [Z0,Z0]),o0 (.store 2 (tm 5) (tm 8))] []) (.seq (.seq (.region [mv 9 0,ln 10 9,oo 11 (.mov (Kc 0))] []) (.block 0 (.loop (.seq (.region [oo 12 (.bin .lss (tm 11) (tm 10))] []) (.seq (.cond (tm 12) .skip (.exit 0)) (.seq (.block 1 (.seq (.region [ix 13 5 9 11,lA 14 5 13,⟨some 7,.alloc [Z0,S0,Z0,Z0,.nil],none,[]⟩,o0 (.store 5 (tm 7) (tm 14))] []) (.region [lA 15 2 5,mv 16 1,lA 17 5 7,oo 18 (.b8 (tm 16) [tm 17]),oo 19 (.call 148 [(tm 15),(tm 18)]),o0 (.store 2 (tm 5) (tm 19))] []))) (.region [oo 20 (.bin .add (tm 11) (Kc 1)),mv 11 20] []))))))) (.seq (.region [lA 21 2 5,o0 (.store 2 (tm 4) (tm 21))] []) .ret))))
theorem L0:(Tryz.f139.body.bind (bD Tryz.prog 22 []))=some KE:=by kernel_rfl
def KF:aY:=(.seq (.region [oo 1 (.box 2 (tm 0)),oo 2 (.mov (Kc 0))] []) (.seq (.seq (.region [fa 3 0 1,ld 4 3,oo 5 (.bin .gtr (tm 4) (Kc 200)),mv 6 5,oF 7 6 (.offA 1 (tm 1)),oF 8 6 (.load 1 false (tm 7)),oF 9 6 (.bin .gtr (tm 8) (Kc 20)),oo 10 (.pick (tm 6) kT (tm 9))] []) (.cond (tm 10) (.seq (.region [oo 2 (.mov (Kc 2))] []) .ret) .skip)) (.seq (.region [oo 2 (.mov (Kc 0))] []) .ret)))
theorem L5:(Tryz.f140.body.bind (bD Tryz.prog 11 []))=some KF:=by kernel_rfl
def KG:aY:=(.seq (.region [oo 2 (.mov kF)] []) (.seq (.region [mv 3 0,⟨some 4,.bin .eql (tm 3) (.const (.str ⟨#[112,111,114,116]⟩)),none,[]⟩,mv 5 4,mF 6 0 5,oF 7 5 (.call 152 [tm 6]),oo 8 (.pick (tm 5) kT (tm 7)),mv 2 8] []) .ret))
theorem L6:(Tryz.f141.body.bind (bD Tryz.prog 9 []))=some KG:=by kernel_rfl
def KH:aY:=(.seq (.region [oo 2 (.mov kF)] []) (.seq (.region [mv 3 0,oo 4 (.bin .geq (tm 3) (Kc 0)),mv 5 4,mT 6 0 5,oT 7 5 (.bin .leq (tm 6) (Kc 65535)),oo 8 (.pick (tm 5) (tm 7) kF),mv 2 8] []) .ret))
theorem L7:(Tryz.f142.body.bind (bD Tryz.prog 9 []))=some KH:=by kernel_rfl
def KI:aY:=(.seq (.region [oo 2 (.mov kF)] []) (.seq (.region [mv 3 0,oo 4 (.bin .geq (tm 3) (Kc 0)),mv 5 4,mT 6 0 5,oT 7 5 (.bin .leq (tm 6) (Kc 1073741824)),oo 8 (.pick (tm 5) (tm 7) kF),mv 2 8] []) .ret))
theorem L8:(Tryz.f143.body.bind (bD Tryz.prog 9 []))=some KI:=by kernel_rfl
def KJ:aY:=(.seq (.region [oo 5 (.box 1 (tm 2)),oo 6 (.mov kF)] []) (.seq (.region [mv 7 0,ln 8 7,mv 9 1,oo 10 (.bin .eql (tm 8) (tm 9)),mv 11 10,mT 12 0 11,oT 13 11 (.mkfn 162 [tm 5]),oT 14 11 (.call 161 [(tm 12),(tm 13)]),oT 15 11 (.not (tm 14)),oo 16 (.pick (tm 11) (tm 15) kF),mv 6 16] []) .ret))
theorem L9:(Tryz.f144.body.bind (bD Tryz.prog 17 []))=some KJ:=by kernel_rfl
def KK:aY:=(.seq (.region [oo 4 (.alloc [Z0,Z0])] []) (.seq (.region [oo 8 (.build [Z0,Z0] [(0,1,(Kc 1)),(1,1,(Kc 1))]),oo 5 (.alloc [Z0,Z0]),o0 (.store 2 (tm 5) (tm 8))] []) (.seq (.seq (.region [mv 9 0,ln 10 9,oo 11 (.mov (Kc 0))] []) (.block 0 (.loop (.seq (.region [oo 12 (.bin .lss (tm 11) (tm 10))] []) (.seq (.cond (tm 12) .skip (.exit 0)) (.seq (.block 1 (.seq (.region [ix 13 9 9 11,lA 14 9 13,⟨some 7,.alloc [Z0,Z0,S0,Z0,Z0,.nil,S0,Z0,.nil],none,[]⟩,o0 (.store 9 (tm 7) (tm 14))] []) (.region [lA 15 2 5,mv 16 1,lA 17 9 7,oo 18 (.b8 (tm 16) [tm 17]),oo 19 (.call 148 [(tm 15),(tm 18)]),o0 (.store 2 (tm 5) (tm 19))] []))) (.region [oo 20 (.bin .add (tm 11) (Kc 1)),mv 11 20] []))))))) (.seq (.region [lA 21 2 5,o0 (.store 2 (tm 4) (tm 21))] []) .ret))))
theorem Ma:(Tryz.f147.body.bind (bD Tryz.prog 22 []))=some KK:=by kernel_rfl
def KL:aY:=(.seq (.region [oo 2 (.box 2 (tm 0)),oo 3 (.box 2 (tm 1)),oo 4 (.alloc [Z0,Z0])] []) (.seq (.region [fa 5 0 2,ld 6 5,fa 7 0 3,ld 8 7,oo 9 (.bin .add (tm 6) (tm 8)),fa 10 1 2,ld 11 10,fa 12 1 3,ld 13 12,oo 14 (.bin .add (tm 13) (Kc 1)),oo 15 (.maxI (tm 11) (tm 14)),oo 16 (.build [Z0,Z0] [(0,1,(tm 9)),(1,1,(tm 15))]),o0 (.store 2 (tm 4) (tm 16))] []) .ret))
theorem Mb:(Tryz.f148.body.bind (bD Tryz.prog 17 []))=some KL:=by kernel_rfl
def KM:aY:=(.seq (.region [oo 2 (.box 5 (tm 0)),oo 3 (.box 5 (tm 1)),oo 4 (.mov kF)] []) (.seq (.region [fa 5 0 2,ld 6 5,fa 7 0 3,ld 8 7,oo 9 (.bin .eql (tm 6) (tm 8)),mv 10 9,oT 11 10 (.offA 1 (tm 2)),oT 12 10 (.load 1 false (tm 11)),oT 13 10 (.offA 1 (tm 3)),oT 14 10 (.load 1 false (tm 13)),oT 15 10 (.bin .eql (tm 12) (tm 14)),oo 16 (.pick (tm 10) (tm 15) kF),mv 17 16,oT 18 17 (.offA 2 (tm 2)),oT 19 17 (.load 1 false (tm 18)),oT 20 17 (.offA 2 (tm 3)),oT 21 17 (.load 1 false (tm 20)),oT 22 17 (.bin .eql (tm 19) (tm 21)),oo 23 (.pick (tm 17) (tm 22) kF),mv 24 23,oT 25 24 (.offA 3 (tm 2)),oT 26 24 (.load 1 false (tm 25)),oT 27 24 (.offA 3 (tm 3)),oT 28 24 (.load 1 false (tm 27)),oT 29 24 (.bin .eql (tm 26) (tm 28)),oo 30 (.pick (tm 24) (tm 29) kF),mv 31 30,oT 32 31 (.offA 4 (tm 2)),oT 33 31 (.load 1 false (tm 32)),oT 34 31 (.offA 4 (tm 3)),oT 35 31 (.load 1 false (tm 34)),oT 36 31 (.call 163 [(tm 33),(tm 35),(.const (.clos 149 []))]),oo 37 (.pick (tm 31) (tm 36) kF),mv 4 37] []) .ret))
theorem Mc:(Tryz.f149.body.bind (bD Tryz.prog 38 []))=some KM:=by kernel_rfl
def KN:aY:=(.seq (.region [oo 5 (.box 1 (tm 2)),oo 6 (.mov kF)] []) (.seq (.region [mv 7 0,ln 8 7,mv 9 1,oo 10 (.bin .eql (tm 8) (tm 9)),mv 11 10,mT 12 0 11,oT 13 11 (.mkfn 165 [tm 5]),oT 14 11 (.call 164 [(tm 12),(tm 13)]),oT 15 11 (.not (tm 14)),oo 16 (.pick (tm 11) (tm 15) kF),mv 6 16] []) .ret))
theorem Md:(Tryz.f150.body.bind (bD Tryz.prog 17 []))=some KN:=by kernel_rfl
def KO:aY:=(.seq (.region [oo 2 (.box 6 (tm 0)),oo 3 (.box 6 (tm 1)),oo 4 (.mov kF)] []) (.seq (.region [fa 5 0 2,ld 6 5,fa 7 0 3,ld 8 7,oo 9 (.bin .eql (tm 6) (tm 8)),mv 10 9,oT 11 10 (.offA 1 (tm 2)),oT 12 10 (.load 1 false (tm 11)),oT 13 10 (.offA 1 (tm 3)),oT 14 10 (.load 1 false (tm 13)),oT 15 10 (.bin .eql (tm 12) (tm 14)),oo 16 (.pick (tm 10) (tm 15) kF),mv 17 16,oT 18 17 (.offA 3 (tm 2)),oT 19 17 (.load 1 false (tm 18)),oT 20 17 (.offA 3 (tm 3)),oT 21 17 (.load 1 false (tm 20)),oT 22 17 (.bin .eql (tm 19) (tm 21)),oo 23 (.pick (tm 17) (tm 22) kF),mv 24 23,oT 25 24 (.offA 4 (tm 2)),oT 26 24 (.load 1 false (tm 25)),oT 27 24 (.offA 4 (tm 3)),oT 28 24 (.load 1 false (tm 27)),oT 29 24 (.bin .eql (tm 26) (tm 28)),oo 30 (.pick (tm 24) (tm 29) kF),mv 31 30,oT 32 31 (.offA 5 (tm 2)),oT 33 31 (.load 1 false (tm 32)),oT 34 31 (.offA 5 (tm 3)),oT 35 31 (.load 1 false (tm 34)),oT 36 31 (.bin .eql (tm 33) (tm 35)),oo 37 (.pick (tm 31) (tm 36) kF),mv 38 37,oT 39 38 (.offA 2 (tm 2)),oT 40 38 (.load 1 false (tm 39)),oT 41 38 (.offA 2 (tm 3)),oT 42 38 (.load 1 false (tm 41)),oT 43 38 (.call 166 [(tm 40),(tm 42)]),oo 44 (.pick (tm 38) (tm 43) kF),mv 4 44] []) .ret))
theorem Me:(Tryz.f151.body.bind (bD Tryz.prog 45 []))=some KO:=by kernel_rfl
def KP:aY:=(.seq (.region [oo 2 (.mov kF)] []) (.seq (.region [mv 3 0,oo 4 (.call 167 [tm 3]),mv 2 4] []) .ret))
theorem Mf:(Tryz.f152.body.bind (bD Tryz.prog 5 []))=some KP:=by kernel_rfl
def KQ:aY:=(.seq (.region [oo 5 (.box 1 (tm 2)),oo 6 (.mov kF)] []) (.seq (.region [mv 7 0,ln 8 7,mv 9 1,oo 10 (.bin .eql (tm 8) (tm 9)),mv 11 10,mT 12 0 11,oT 13 11 (.mkfn 168 [tm 5]),oT 14 11 (.call 124 [(tm 12),(tm 13)]),oT 15 11 (.not (tm 14)),oo 16 (.pick (tm 11) (tm 15) kF),mv 6 16] []) .ret))
theorem Mg:(Tryz.f153.body.bind (bD Tryz.prog 17 []))=some KQ:=by kernel_rfl
def KR:aY:=(.seq (.region [oo 4 (.mov (Kc 0))] []) (.seq (.seq (.region [mv 6 0,ln 7 6,oo 8 (.mov (Kc 0))] []) (.block 0 (.loop (.seq (.region [oo 9 (.bin .lss (tm 8) (tm 7))] []) (.seq (.cond (tm 9) .skip (.exit 0)) (.seq (.block 1 (.seq (.region [mv 10 8,mv 5 10] []) (.seq (.region [mv 11 1,mv 12 0,mv 13 5,ix 14 1 12 13,ld 15 14,oo 16 (.b8 (tm 11) [tm 15])] []) (.cond (tm 16) (.seq (.region [mv 17 5,mv 4 17] []) .ret) .skip)))) (.region [oo 18 (.bin .add (tm 8) (Kc 1)),mv 8 18] []))))))) (.seq (.region [oo 4 (.mov (.const (.int .i64 (-1))))] []) .ret)))
theorem Mh:(Tryz.f154.body.bind (bD Tryz.prog 19 []))=some KR:=by kernel_rfl
def KT:aY:=(.seq (.region [oo 4 (.mov kF)] []) (.seq (.region [mv 5 0,mv 6 1,oo 7 (.call 190 [(tm 5),(tm 6)]),oo 8 (.bin .geq (tm 7) (Kc 0)),mv 4 8] []) .ret))
theorem Mj:(Tryz.f161.body.bind (bD Tryz.prog 9 []))=some KT:=by kernel_rfl
def KU:aY:=(.seq (.region [oo 2 (.box 5 (tm 0)),oo 3 (.mov kF)] []) (.seq (.region [ld 4 1,lA 5 5 2,oo 6 (.b8 (tm 4) [tm 5]),oo 7 (.not (tm 6)),mv 3 7] []) .ret))
theorem Mk:(Tryz.f162.body.bind (bD Tryz.prog 8 []))=some KU:=by kernel_rfl
def KV:aY:=(.seq (.region [oo 6 (.mov kF)] []) (.seq (.seq (.region [mv 10 0,ln 11 10,mv 12 1,ln 13 12,oo 14 (.bin .neq (tm 11) (tm 13))] []) (.cond (tm 14) (.seq (.region [oo 6 (.mov kF)] []) .ret) .skip)) (.seq (.seq (.region [mv 15 0,ln 16 15,oo 17 (.mov (Kc 0))] []) (.block 0 (.loop (.seq (.region [oo 18 (.bin .lss (tm 17) (tm 16))] []) (.seq (.cond (tm 18) .skip (.exit 0)) (.seq (.block 1 (.seq (.region [mv 19 17,ix 20 5 15 17,lA 21 5 20,⟨some 8,.alloc [Z0,S0,Z0,Z0,.nil],none,[]⟩,mv 7 19,o0 (.store 5 (tm 8) (tm 21))] []) (.seq (.region [mv 22 1,mv 23 7,ix 24 5 22 23,lA 25 5 24,⟨some 9,.alloc [Z0,S0,Z0,Z0,.nil],none,[]⟩,o0 (.store 5 (tm 9) (tm 25))] []) (.seq (.region [mv 26 2,lA 27 5 8,lA 28 5 9,oo 29 (.b8 (tm 26) [(tm 27),(tm 28)]),oo 30 (.not (tm 29))] []) (.cond (tm 30) (.seq (.region [oo 6 (.mov kF)] []) .ret) .skip))))) (.region [oo 31 (.bin .add (tm 17) (Kc 1)),mv 17 31] []))))))) (.seq (.region [oo 6 (.mov kT)] []) .ret))))
theorem Ml:(Tryz.f163.body.bind (bD Tryz.prog 32 []))=some KV:=by kernel_rfl
def KW:aY:=(.seq (.region [oo 4 (.mov kF)] []) (.seq (.region [mv 5 0,mv 6 1,oo 7 (.call 191 [(tm 5),(tm 6)]),oo 8 (.bin .geq (tm 7) (Kc 0)),mv 4 8] []) .ret))
theorem Mm:(Tryz.f164.body.bind (bD Tryz.prog 9 []))=some KW:=by kernel_rfl
def KX:aY:=(.seq (.region [oo 2 (.box 9 (tm 0)),oo 3 (.mov kF)] []) (.seq (.region [ld 4 1,lA 5 9 2,oo 6 (.b8 (tm 4) [tm 5]),oo 7 (.not (tm 6)),mv 3 7] []) .ret))
theorem Mn:(Tryz.f165.body.bind (bD Tryz.prog 8 []))=some KX:=by kernel_rfl
def KY:aY:=(.seq (.region [oo 4 (.mov kF)] []) (.seq (.seq (.region [mv 6 0,ln 7 6,mv 8 1,ln 9 8,oo 10 (.bin .neq (tm 7) (tm 9))] []) (.cond (tm 10) (.seq (.region [oo 4 (.mov kF)] []) .ret) .skip)) (.seq (.seq (.region [mv 11 0,ln 12 11,oo 13 (.mov (Kc 0))] []) (.block 0 (.loop (.seq (.region [oo 14 (.bin .lss (tm 13) (tm 12))] []) (.seq (.cond (tm 14) .skip (.exit 0)) (.seq (.block 1 (.seq (.region [mv 15 13,mv 5 15] []) (.seq (.region [mv 16 0,mv 17 5,ix 18 1 16 17,ld 19 18,mv 20 1,mv 21 5,ix 22 1 20 21,ld 23 22,oo 24 (.bin .neq (tm 19) (tm 23))] []) (.cond (tm 24) (.seq (.region [oo 4 (.mov kF)] []) .ret) .skip)))) (.region [oo 25 (.bin .add (tm 13) (Kc 1)),mv 13 25] []))))))) (.seq (.region [oo 4 (.mov kT)] []) .ret))))
theorem Mo:(Tryz.f166.body.bind (bD Tryz.prog 26 []))=some KY:=by kernel_rfl
def KZ:aY:=(.seq (.region [oo 2 (.mov kF)] []) (.seq (.seq (.region [mv 5 0,⟨some 6,.bin .eql (tm 5) (.const S0),none,[]⟩,mv 7 6,mF 8 0 7,oF 9 7 (.lenS (tm 8)),oF 10 7 (.bin .gtr (tm 9) (Kc 24)),oo 11 (.pick (tm 7) kT (tm 10)),mv 12 11,mF 13 0 12,oF 14 12 (.idxS (tm 13) (Kc 0)),oF 15 12 (.call 192 [tm 14]),oF 16 12 (.not (tm 15)),oo 17 (.pick (tm 12) kT (tm 16))] []) (.cond (tm 17) (.seq (.region [oo 2 (.mov kF)] []) .ret) .skip)) (.seq (.region [oo 19 (.sliceA 49 1 (.const (.glob 0 0)) none none),mv 20 0,oo 21 (.call 193 [(tm 19),(tm 20)]),mv 18 21,oo 22 (.ext (tm 18) 0),oo 23 (.ext (tm 18) 1),mv 3 22,mv 4 23] []) (.seq (.region [mv 24 4,oo 25 (.not (tm 24)),mv 26 25,mT 27 0 26,oT 28 26 (.call 194 [(tm 27),(.const (.clos 195 []))]),mT 29 0 26,oT 30 26 (.bin .eql (tm 28) (tm 29)),oo 31 (.pick (tm 26) (tm 30) kF),mv 2 31] []) .ret))))
theorem Mp:(Tryz.f167.body.bind (bD Tryz.prog 32 []))=some KZ:=by kernel_rfl
def K1:aY:=(.seq (.region [oo 3 (.mov kF)] []) (.seq (.region [ld 4 1,mv 5 0,oo 6 (.b8 (tm 4) [tm 5]),oo 7 (.not (tm 6)),mv 3 7] []) .ret))
theorem Mq:(Tryz.f168.body.bind (bD Tryz.prog 8 []))=some K1:=by kernel_rfl
def K4:aY:=(.seq (.region [oo 4 (.mov (Kc 0))] []) (.seq (.seq (.region [mv 6 0,ln 7 6,oo 8 (.mov (Kc 0))] []) (.block 0 (.loop (.seq (.region [oo 9 (.bin .lss (tm 8) (tm 7))] []) (.seq (.cond (tm 9) .skip (.exit 0)) (.seq (.block 1 (.seq (.region [mv 10 8,mv 5 10] []) (.seq (.region [mv 11 1,mv 12 0,mv 13 5,ix 14 5 12 13,lA 15 5 14,oo 16 (.b8 (tm 11) [tm 15])] []) (.cond (tm 16) (.seq (.region [mv 17 5,mv 4 17] []) .ret) .skip)))) (.region [oo 18 (.bin .add (tm 8) (Kc 1)),mv 8 18] []))))))) (.seq (.region [oo 4 (.mov (.const (.int .i64 (-1))))] []) .ret)))
theorem Mt:(Tryz.f190.body.bind (bD Tryz.prog 19 []))=some K4:=by kernel_rfl
def K5:aY:=(.seq (.region [oo 4 (.mov (Kc 0))] []) (.seq (.seq (.region [mv 6 0,ln 7 6,oo 8 (.mov (Kc 0))] []) (.block 0 (.loop (.seq (.region [oo 9 (.bin .lss (tm 8) (tm 7))] []) (.seq (.cond (tm 9) .skip (.exit 0)) (.seq (.block 1 (.seq (.region [mv 10 8,mv 5 10] []) (.seq (.region [mv 11 1,mv 12 0,mv 13 5,ix 14 9 12 13,lA 15 9 14,oo 16 (.b8 (tm 11) [tm 15])] []) (.cond (tm 16) (.seq (.region [mv 17 5,mv 4 17] []) .ret) .skip)))) (.region [oo 18 (.bin .add (tm 8) (Kc 1)),mv 8 18] []))))))) (.seq (.region [oo 4 (.mov (.const (.int .i64 (-1))))] []) .ret)))
theorem Mu:(Tryz.f191.body.bind (bD Tryz.prog 19 []))=some K5:=by kernel_rfl
def K6:aY:=(.seq (.region [oo 2 (.mov kF)] []) (.seq (.region [mv 3 0,oo 4 (.call 210 [(tm 3),(.const (Ui 97)),(.const (Ui 122))]),mv 2 4] []) .ret))
theorem Mv:(Tryz.f192.body.bind (bD Tryz.prog 5 []))=some K6:=by kernel_rfl
def K7:aY:=(.seq (.region [oo 4 (.mov (Kc 0)),oo 5 (.mov kF)] []) (.seq (.region [mv 10 0,ln 11 10,mv 6 11] []) (.seq (.region [mv 12 6,oo 7 (.mov (Kc 0)),mv 8 12] []) (.seq (.block 0 (.loop (.seq (.seq (.region [mv 13 7,mv 14 8,oo 15 (.bin .lss (tm 13) (tm 14))] []) (.cond (tm 15) .skip (.exit 0))) (.block 1 (.seq (.region [mv 16 7,mv 17 8,oo 18 (.bin .add (tm 16) (tm 17)),oo 19 (.conv .u64 (tm 18)),oo 20 (.bin .shr (tm 19) (.const (.int .u64 1))),oo 21 (.conv .i64 (tm 20)),mv 9 21] []) (.seq (.region [mv 22 0,mv 23 9,ix 24 1 22 23,ld 25 24,mv 26 1,oo 27 (.call 176 [(tm 25),(tm 26)])] []) (.cond (tm 27) (.region [mv 28 9,oo 29 (.bin .add (tm 28) (Kc 1)),mv 7 29] []) (.region [mv 30 9,mv 8 30] [])))))))) (.seq (.region [mv 31 7,mv 32 7,mv 33 6,oo 34 (.bin .lss (tm 32) (tm 33)),mv 35 34,mT 36 0 35,mT 37 7 35,oT 38 35 (.idxL 1 (tm 36) (tm 37)),oT 39 35 (.load 1 false (tm 38)),mT 40 1 35,oT 41 35 (.bin .eql (tm 39) (tm 40)),mT 42 41 35,mF 43 0 42,mF 44 7 42,oF 45 42 (.idxL 1 (tm 43) (tm 44)),oF 46 42 (.load 1 false (tm 45)),oF 47 42 (.call 211 [tm 46]),mF 48 47 42,mT 49 1 48,oT 50 48 (.call 211 [tm 49]),oF 51 42 (.pick (tm 48) (tm 50) kF),oT 52 35 (.pick (tm 42) kT (tm 51)),oo 53 (.pick (tm 35) (tm 52) kF),mv 4 31,mv 5 53] []) .ret)))))
theorem Mw:(Tryz.f193.body.bind (bD Tryz.prog 54 []))=some K7:=by kernel_rfl
def K8:aY:=(.seq (.region [⟨some 4,.mov (.const S0),none,[]⟩] []) (.seq (.region [oo 5 (.mov (Kc 0))] []) (.seq (.block 0 (.loop (.seq (.seq (.region [mv 6 5,mv 7 0,oo 8 (.lenS (tm 7)),oo 9 (.bin .lss (tm 6) (tm 8)),mv 10 9,mT 11 1 10,mT 12 0 10,mT 13 5 10,oT 14 10 (.sliceS (tm 12) (some (tm 13)) none),oT 15 10 (.b8 (tm 11) [tm 14]),oo 16 (.pick (tm 10) (tm 15) kF)] []) (.cond (tm 16) .skip (.exit 0))) (.block 1 (.region [mv 17 5,oo 18 (.bin .add (tm 17) (Kc 1)),mv 5 18] []))))) (.seq (.region [mv 19 0,mv 20 5,oo 21 (.sliceS (tm 19) none (some (tm 20))),mv 4 21] []) .ret))))
theorem Mx:(Tryz.f194.body.bind (bD Tryz.prog 22 []))=some K8:=by kernel_rfl
def K9:aY:=(.seq (.region [oo 2 (.mov kF)] []) (.seq (.region [mv 3 0,oo 4 (.idxS (tm 3) (Kc 0)),oo 5 (.call 196 [tm 4]),mv 2 5] []) .ret))
theorem My:(Tryz.f195.body.bind (bD Tryz.prog 6 []))=some K9:=by kernel_rfl
def La:aY:=(.seq (.region [oo 2 (.mov kF)] []) (.seq (.region [mv 3 0,oo 4 (.call 192 [tm 3]),mv 5 4,mF 6 0 5,oF 7 5 (.call 212 [tm 6]),oo 8 (.pick (tm 5) kT (tm 7)),mv 9 8,mF 10 0 9,oF 11 9 (.bin .eql (tm 10) (.const (Ui 95))),oo 12 (.pick (tm 9) kT (tm 11)),mv 2 12] []) .ret))
theorem Mz:(Tryz.f196.body.bind (bD Tryz.prog 13 []))=some La:=by kernel_rfl
def K3:aY:=(.seq (.region [oo 4 (.mov kF)] []) (.seq (.region [mv 5 0,oo 6 (.call 205 [tm 5]),mv 7 6,mT 8 1 7,oT 9 7 (.call 205 [tm 8]),oT 10 7 (.not (tm 9)),oo 11 (.pick (tm 7) (tm 10) kF),mv 12 11,mF 13 0 12,mF 14 1 12,oF 15 12 (.bin .lss (tm 13) (tm 14)),oo 16 (.pick (tm 12) kT (tm 15)),mv 4 16] []) .ret))
theorem Ms:(Tryz.f176.body.bind (bD Tryz.prog 17 []))=some K3:=by kernel_rfl
def Le:aY:=(.seq (.region [oo 2 (.mov kF)] []) (.seq (.region [mv 3 0,mv 4 0,oo 5 (.bin .neq (tm 3) (tm 4)),mv 2 5] []) .ret))
theorem ME:(Tryz.f205.body.bind (bD Tryz.prog 6 []))=some Le:=by kernel_rfl
def Lf:aY:=(.seq (.region [oo 6 (.mov kF)] []) (.seq (.region [mv 7 0,mv 8 1,oo 9 (.bin .geq (tm 7) (tm 8)),mv 10 9,mT 11 0 10,mT 12 2 10,oT 13 10 (.bin .leq (tm 11) (tm 12)),oo 14 (.pick (tm 10) (tm 13) kF),mv 6 14] []) .ret))
theorem MF:(Tryz.f210.body.bind (bD Tryz.prog 15 []))=some Lf:=by kernel_rfl
def Lg:aY:=(.seq (.region [oo 2 (.mov kF)] []) (.seq (.region [mv 3 0,mv 4 0,oo 5 (.bin .neq (tm 3) (tm 4)),mv 2 5] []) .ret))
theorem MG:(Tryz.f211.body.bind (bD Tryz.prog 6 []))=some Lg:=by kernel_rfl
def Lh:aY:=(.seq (.region [oo 2 (.mov kF)] []) (.seq (.region [mv 3 0,oo 4 (.call 210 [(tm 3),(.const (Ui 48)),(.const (Ui 57))]),mv 2 4] []) .ret))
theorem MH:(Tryz.f212.body.bind (bD Tryz.prog 5 []))=some Lh:=by kernel_rfl
def Kv:aY:=(.seq (.region [oo 4 (.mov kF)] []) (.seq (.region [mv 5 0,mv 6 1,oo 7 (.call 154 [(tm 5),(tm 6)]),oo 8 (.bin .geq (tm 7) (Kc 0)),mv 4 8] []) .ret))
theorem LO:(Tryz.f124.body.bind (bD Tryz.prog 9 []))=some Kv:=by kernel_rfl
end Go.TY
end
section
namespace Go.TY
open Go Go.DL Go.MM Go.Proofs
theorem Bm (c lo hi:Int):DCalls Tryz.prog 210 [U c,U lo,U hi] (.bool (decide (lo≤c)&&decide (c≤hi))):=by
 refine qO (rs:=[.tmp 6]) mixed Tryz.func210 MF rfl rfl rfl (r:=[.bool _]) (nlZ rfl) ?_
 repeat' ((conv=>whnf);first|exact trivial|refine nD_ (fun hq=>?_) (fun hq=>?_)|refine rb1 ?_|refine rb0 ?_|refine aS ?_|fail)
theorem zh (c:Int):DCalls Tryz.prog 192 [U c] (.bool (uA c)):=by
 refine qO (rs:=[.tmp 2]) mixed Tryz.func192 Mv rfl rfl rfl (r:=[.bool _]) (nlZ rfl) ?_
 have h:=Bm c 97 122
 unfold uA
 repeat' ((conv=>whnf);first|exact trivial|refine rE _ (h) ?_|refine rbx ?_|fail)
theorem Et (c:Int):DCalls Tryz.prog 212 [U c] (.bool (wB c)):=by
 refine qO (rs:=[.tmp 2]) mixed Tryz.func212 MH rfl rfl rfl (r:=[.bool _]) (nlZ rfl) ?_
 have h:=Bm c 48 57
 unfold wB
 repeat' ((conv=>whnf);first|exact trivial|refine rE _ (h) ?_|refine rbx ?_|fail)
theorem Bk (c:Int):DCalls Tryz.prog 196 [U c] (.bool (uT c)):=by
 refine qO (rs:=[.tmp 2]) mixed Tryz.func196 Mz rfl rfl rfl (r:=[.bool _]) (nlZ rfl) ?_
 unfold uT
 have h1:=zh c
 have h2:=Et c
 generalize uA c=a at *
 generalize wB c=b at *
 cases a <;> cases b
 all_goals repeat' ((conv=>whnf);first|exact trivial|refine rE _ (h1) ?_|refine rE _ (h2) ?_|refine nE_ (fun hq=>?_) (fun hq=>?_)|refine rb1 ?_|refine rb0 ?_|refine aS ?_|fail)
theorem Gj (s:ByteArray) (hs:0<s.size):DCalls Tryz.prog 195 [.str s] (.bool (uT (uq s 0))):=by
 refine qO (rs:=[.tmp 2]) mixed Tryz.func195 My rfl rfl rfl (r:=[.bool _]) (nlZ rfl) ?_
 have h1:=Bk (uq s 0)
 repeat' ((conv=>whnf);first|exact trivial|refine rE _ (h1) ?_|refine nT_ ?_|refine rbx ?_|refine aS ?_|fail)
theorem zS (s:ByteArray) (i:Nat) (hi:i<s.size):uq (s.extract i s.size) 0=uq s i:=by
 unfold uq
 rw [ByteArray.toList_eq,ByteArray.toList_eq]
 have:0<s.size - i:=by omega
 have h2:i<s.data.size:=hi
 simp [ByteArray.data_extract,this]
 rw [Array.getElem?_eq_getElem h2];rfl
theorem extract_size (s:ByteArray) (i:Nat) (hi:i<s.size):0<(s.extract i s.size).size:=by
 rw [ByteArray.size_extract];omega
theorem zA: ∀l:List UInt8,ua l≤l.length
 |[]=>Nat.le_refl _
 |b::bs=>by
  have:=zA bs
  unfold ua
  split
  ·rw [List.length_cons];omega
  ·exact Nat.zero_le _
theorem EP (s:ByteArray) (hs:s.size<2^62):DCalls Tryz.prog 194 [.str s,.clos 195 []] (.str (s.extract 0 (ua s.toList))):=by
 refine qO (rs:=[.tmp 4]) mixed Tryz.func194 Mx rfl rfl rfl (r:=[.str _]) (nlZ rfl) ?_
 have hl:=uR s
 skip
 refine qZ 0 (α:=Nat) (β:=Unit) (fun i=>{sl:=[(0,.t (.str s)),(1,.t (.clos 195 [])),(5,.t (I i))],bx:=[]})
  (fun i=>i≤s.size∧ ∀j,j<i→uT (uq s j)=true) (fun i=>s.size - i) (fun _=>{sl:=[(0,.t (.str s)),(5,.t (I (ua s.toList)))],bx:=[]}) (fun _=>True) 0 (by simp) ?_ ?_ ?_
 ·repeat' (first|exact trivial|exact LeV.same _|exact rfl|exact fun _ _ _=>trivial|refine And.intro ?_ ?_)
 ·rintro i ⟨hi,hp⟩
  rcases Nat.lt_or_ge i s.size with h|h
  ·have h0:=Gj (s.extract i s.size) (extract_size s i h)
   rw [zS s i h] at h0
   cases hb:uT (uq s i) with
   |true=>
    rw [hb] at h0
    repeat' ((conv=>whnf);first|(refine nv_ (.str (s.extract i s.size)) (by first|(simp;done)|fail) ?_)|refine rE _ (h0) ?_|refine aD1 ?_|refine aS ?_|fail)
    refine ⟨i+1,⟨h,fun j hj=>?_⟩,by omega,?_⟩
    ·rcases Nat.lt_or_ge j i with h4|h4
     ·exact hp j h4
     ·obtain rfl:j=i:=by omega
      exact hb
    ·repeat' (first|exact trivial|exact LeV.same _|exact rfl|exact fun _ _ _=>trivial|exact lI|refine And.intro ?_ ?_)
   |false=>
    rw [hb] at h0
    have e:ua s.toList=i:=vY (by omega) hp (.inr hb)
    repeat' ((conv=>whnf);first|(refine nv_ (.str (s.extract i s.size)) (by first|(simp;done)|fail) ?_)|refine rE _ (h0) ?_|refine aD1 ?_|refine aS ?_|fail)
    refine ⟨(),trivial,?_⟩
    repeat' (first|(exact leI (by rw [e]))|exact trivial|exact LeV.same _|exact rfl|exact fun _ _ _=>trivial|refine And.intro ?_ ?_)
  ·have e:ua s.toList=i:=vY (by omega) hp (.inl (by omega))
   repeat' ((conv=>whnf);first|refine aD0 ?_|refine aS ?_|fail)
   refine ⟨(),trivial,?_⟩
   repeat' (first|(exact leI (by rw [e]))|exact trivial|exact LeV.same _|exact rfl|exact fun _ _ _=>trivial|refine And.intro ?_ ?_)
 ·rintro _ _
  have hr:ua s.toList≤s.toList.length:=zA _
  repeat' ((conv=>whnf);first|exact trivial|(refine nv_ (.str (s.extract 0 (ua s.toList))) (by first|(simp;done)|fail) ?_)|refine aS ?_|fail)
theorem Bj (s:ByteArray):DCalls Tryz.prog 205 [.str s] (.bool false):=by
 refine qO (rs:=[.tmp 2]) mixed Tryz.func205 ME rfl rfl rfl (r:=[.bool false]) (nlZ rfl) ?_
 repeat' ((conv=>whnf);first|exact trivial|refine nb_ false (by simp) ?_|refine rb0 ?_|refine aS ?_|fail)
theorem Bi (s:ByteArray):DCalls Tryz.prog 211 [.str s] (.bool false):=by
 refine qO (rs:=[.tmp 2]) mixed Tryz.func211 MG rfl rfl rfl (r:=[.bool false]) (nlZ rfl) ?_
 repeat' ((conv=>whnf);first|exact trivial|refine nb_ false (by simp) ?_|refine rb0 ?_|refine aS ?_|fail)
theorem Gi (a b:ByteArray):DCalls Tryz.prog 176 [.str a,.str b] (.bool (ltS a b)):=by
 refine qO (rs:=[.tmp 4]) mixed Tryz.func176 Ms rfl rfl rfl (r:=[.bool _]) (nlZ rfl) ?_
 have h1:=Bj a
 have h2:=Bj b
 repeat' ((conv=>whnf);first|exact trivial|refine rE _ (h1) ?_|refine nb_ (ltS a b) rfl ?_|refine rbx ?_|refine aS ?_|fail)
def uU (xs:List ByteArray) (s:ByteArray):Nat:=(xs.takeWhile fun x=>ltS x s).length
theorem FR (xs:List ByteArray) (s:ByteArray):uU xs s≤xs.length:=by
 unfold uU
 exact (List.takeWhile_prefix _).length_le
theorem xx {s:ByteArray}: ∀{xs:List ByteArray} (_:Inc ltS xs) {m:Nat} (h:m<xs.length),ltS xs[m] s=true↔m<uU xs s
 |[],_,m,h=>by simp at h
 |x::xs,hi,m,h=>by
  have h2:=List.pairwise_cons.1 hi
  unfold uU
  rw [List.takeWhile_cons]
  cases hx:ltS x s with
  |true=>
   simp only [if_true,List.length_cons]
   cases m with
   |zero=>simp [hx]
   |succ m=>
    have:=xx (s:=s) h2.2 (m:=m) (by simpa using h)
    unfold uU at this
    simp only [List.getElem_cons_succ]
    rw [this];omega
  |false=>
   simp only [Bool.false_eq_true,if_false,List.length_nil,Nat.not_lt_zero,iff_false,Bool.not_eq_true]
   cases m with
   |zero=>simpa using hx
   |succ m=>
    have hm:m<xs.length:=by simpa using h
    simp only [List.getElem_cons_succ]
    cases e:ltS xs[m] s with
    |false=>rfl
    |true=>
     have:=Av.tr _ _ _ (h2.1 xs[m] (List.getElem_mem _)) e
     rw [hx] at this;cases this
theorem Ey {s:ByteArray} {xs:List ByteArray} (hi:Inc ltS xs):s∈xs↔ ∃h:uU xs s<xs.length,xs[uU xs s]=s:=by
 constructor
 ·intro hm
  obtain ⟨m,hm,e⟩:=List.getElem_of_mem hm
  have h1: ¬m<uU xs s:=fun h=>by
   have:=(xx hi hm).2 h
   rw [e,Av.irr] at this;cases this
  have h2:uU xs s<xs.length:=by omega
  refine ⟨h2,?_⟩
  by_cases h3:uU xs s=m
  ·simp only [h3,e]
  ·exfalso
   have h4:uU xs s<m:=by omega
   have h5:=List.pairwise_iff_getElem.1 hi _ _ h2 hm h4
   rw [e] at h5
   have:=(xx hi h2).1 h5
   omega
 ·rintro ⟨h,e⟩
  rw [← e];exact List.getElem_mem h
theorem EM (xs:List ByteArray) (s:ByteArray) (hi:Inc ltS xs) (hl:xs.length<2^40):
  DCalls Tryz.prog 193 [.slice 1 (xs.map .str),.str s] (.tup [I (uU xs s),.bool (decide (s∈xs))]):=by
 refine qO (rs:=[.tmp 4,.tmp 5]) mixed Tryz.func193 Mw rfl rfl rfl (r:=[I (uU xs s),.bool (decide (s∈xs))]) (nlZ rfl) ?_
 have hble:=FR xs s
 have hm:=Ey (s:=s) hi
 have hkk:=fun m h=>@xx s xs hi m h
 generalize uU xs s=cn at *
 skip
 refine qZ 0 (α:=Nat×Nat) (β:=Unit) (fun p=>{sl:=[(0,.t (.slice 1 (xs.map .str))),(1,.t (.str s)),(6,.t (I xs.length)),(7,.t (I p.1)),(8,.t (I p.2))],bx:=[]})
  (fun p=>p.1≤cn∧cn≤p.2∧p.2≤xs.length) (fun p=>p.2 - p.1) (fun _=>{sl:=[(0,.t (.slice 1 (xs.map .str))),(1,.t (.str s)),(6,.t (I xs.length)),(7,.t (I (cn)))],bx:=[]}) (fun _=>True) (0,xs.length) (by simp;omega) ?_ ?_ ?_
 ·repeat' (first|(exact leI (by simp))|exact trivial|exact LeV.same _|exact rfl|exact fun _ _ _=>trivial|refine And.intro ?_ ?_)
 ·rintro ⟨i,j⟩ ⟨h1,h2,h3⟩
  dsimp only at h1 h2 h3
  by_cases hij:i<j
  case neg=>
   repeat' ((conv=>whnf);first|refine aD0 ?_|refine aS ?_|fail)
   refine ⟨(),trivial,?_⟩
   repeat' (first|(exact leI (by show (cn:Int)=(i:Int);omega))|exact trivial|exact LeV.same _|exact rfl|exact fun _ _ _=>trivial|refine And.intro ?_ ?_)
  have e1:IntKind.wrap .i64 ((IntKind.wrap .u64 (IntKind.wrap .i64 ((i:Int)+(j:Int)))).fdiv (2^(min (1:Int).toNat (IntKind.bits .u64))))=(((i+j) / 2:Nat):Int):=by
   rw [mG (n:=(i:Int)+j) (by omega) (by omega)]
   have u1: ∀n:Int,0≤n→n<18446744073709551616→IntKind.wrap .u64 n=n:=fun n h0 h1=>by
    unfold IntKind.wrap
    simp [IntKind.bits,IntKind.signed]
    omega
   rw [u1 ((i:Int)+j) (by omega) (by omega)]
   have e2:((i:Int)+(j:Int)).fdiv (2^(min (1:Int).toNat (IntKind.bits .u64)))=(((i+j) / 2:Nat):Int):=by
    show ((i:Int)+(j:Int)).fdiv 2=_
    rw [Int.fdiv_eq_ediv_of_nonneg _ (by omega)];omega
   rw [e2,mG (by omega) (by omega)]
  have h4:(i+j) / 2<xs.length:=by omega
  have hk:=hkk _ h4
  have hL:=Gi xs[(i+j) / 2] s
  generalize ltS xs[(i+j) / 2] s=b at *
  cases b
  case true=>
   have:(i+j) / 2<cn:=hk.1 rfl
   repeat' ((conv=>whnf);first|(refine nv_ (.str xs[(i+j) / 2]) (by first|((dsimp only;rw [e1,Int.toNat_natCast];simp [h4]);done)|fail) ?_)|refine rE _ (hL) ?_|refine nT_ ?_|refine aD1 ?_|(refine And.intro (by first|((dsimp only;rw [e1];simp;omega);done)|fail) ?_)|refine aS ?_|fail)
   refine ⟨((i+j) / 2+1,j),⟨this,h2,h3⟩,by simp;omega,?_⟩
   repeat' (first|(exact leI (by dsimp only;rw [e1,mG] <;> omega))|exact trivial|exact LeV.same _|exact rfl|exact fun _ _ _=>trivial|refine And.intro ?_ ?_)
  case false=>
   have: ¬(i+j) / 2<cn:=fun h=>by have:=hk.2 h;cases this
   repeat' ((conv=>whnf);first|(refine nv_ (.str xs[(i+j) / 2]) (by first|((dsimp only;rw [e1,Int.toNat_natCast];simp [h4]);done)|fail) ?_)|refine rE _ (hL) ?_|refine nT_ ?_|refine aD1 ?_|(refine And.intro (by first|((dsimp only;rw [e1];simp;omega);done)|fail) ?_)|refine aS ?_|fail)
   refine ⟨(i,(i+j) / 2),⟨h1,by simp;omega,by simp;omega⟩,by simp;omega,?_⟩
   repeat' (first|(exact leI (by dsimp only;rw [e1]))|exact trivial|exact LeV.same _|exact rfl|exact fun _ _ _=>trivial|refine And.intro ?_ ?_)
 ·rintro _ _
  by_cases hc:cn<xs.length
  ·have hN:=Bi xs[cn]
   have hN2:=Bi s
   by_cases e:xs[cn]=s
   ·have e2:decide (s∈xs)=true:=decide_eq_true (hm.2 ⟨hc,e⟩)
    rw [e2]
    repeat' ((conv=>whnf);first|exact trivial|(refine nv_ (.str xs[cn]) (by first|(simp [hc];done)|fail) ?_)|refine nb_ true ((congrArg (fun z:ByteArray=>z.toList==s.toList) e).trans (by simp)) ?_|refine nT_ ?_|refine aD1 ?_|refine rb1 ?_|refine rix ?_|refine aS ?_|fail)
   ·have e2:decide (s∈xs)=false:=decide_eq_false fun h=>by
     obtain ⟨_,k⟩:=hm.1 h;exact absurd k e
    rw [e2]
    repeat' ((conv=>whnf);first|exact trivial|(refine nv_ (.str xs[cn]) (by first|(simp [hc];done)|fail) ?_)|refine nb_ false (by simpa using fun h=>e (zI h)) ?_|refine rE _ (hN) ?_|refine nT_ ?_|refine aD1 ?_|refine rb0 ?_|refine rix ?_|refine aS ?_|fail)
  ·have e2:decide (s∈xs)=false:=decide_eq_false fun h=>by
    obtain ⟨k,_⟩:=hm.1 h;exact absurd k hc
   rw [e2]
   repeat' ((conv=>whnf);first|exact trivial|refine aD0 ?_|refine rb0 ?_|refine rix ?_|refine aS ?_|fail)
theorem Ev:Inc ltS wordsG:=by
 unfold Inc
 decide+kernel
theorem sY {a b:ByteArray}:sC a b=true↔a=b:=by
 constructor
 ·intro h
  unfold sC at h
  exact ByteArray.ext (Array.ext' (by simpa using h))
 ·intro h
  subst h
  unfold sC;simp
theorem EV (s:ByteArray):decide (s∈wordsG)=vz s:=by
 have e:wordsG=wL:=by decide+kernel
 rw [e]
 unfold vz
 cases h:wL.any fun w=>sC w s with
 |true=>
  obtain ⟨w,hw,hs⟩:=List.any_eq_true.1 h
  rw [← sY.1 hs]
  exact decide_eq_true hw
 |false=>
  rw [List.any_eq_false] at h
  exact decide_eq_false fun hm=>h s hm (sY.2 rfl)
theorem Ee {s:ByteArray} (h:s.size=0):s=e0:=by
 have:s.data.toList=[]:=List.eq_nil_of_length_eq_zero h
 exact ByteArray.ext (Array.ext' this)
theorem HO (s:ByteArray) (hs:s.size<2^62):DCalls Tryz.prog 167 [.str s] (.bool (uz s)):=by
 refine qO (rs:=[.tmp 2]) mixed Tryz.func167 Mp rfl rfl rfl (r:=[.bool _]) (nlZ rfl) ?_
 unfold uz
 have h1:=zh (uq s 0)
 have h2:=EM wordsG s Ev (by decide)
 rw [EV] at h2
 have h3:=EP s hs
 have hr:=zA s.toList
 have hsz:=uR s
 have hpre:((s.extract 0 (ua s.toList)).toList==s.toList)=(ua s.toList==s.size):=by
  by_cases e:ua s.toList=s.size
  ·rw [e]
   have:s.extract 0 s.size=s:=ByteArray.ext (by rw [ByteArray.data_extract];exact Array.extract_eq_self_of_le (Nat.le_refl _))
   rw [this];simp
  ·have h1:(s.extract 0 (ua s.toList)).toList≠s.toList:=fun h=>by
    have:=congrArg List.length h
    rw [uR,uR,ByteArray.size_extract] at this
    omega
   rw [beq_false_of_ne h1,beq_false_of_ne e]
 generalize uA (uq s 0)=a at *
 generalize vz s=w at *
 generalize uU wordsG s=cn at *
 by_cases hz:s.size=0
 ·have:s=e0:=Ee hz
  subst this
  repeat' ((conv=>whnf);first|exact trivial|refine nb_ true (show (e0.toList==e0.toList)=true by simp) ?_|refine rb0 ?_|refine aS ?_|fail)
 ·have hne:(s.toList==(⟨#[]⟩:ByteArray).toList)=false:=by
   have:s.toList≠[]:=fun h=>by rw [h] at hsz;simp at hsz;omega
   simpa using this
  by_cases h24:s.size≤24
  ·simp only [h24,show 0<s.size by omega,decide_true,Bool.true_and]
   cases a <;> cases w <;> repeat' ((conv=>whnf);first|exact trivial|refine nb_ _ hne ?_|refine rE _ (h1) ?_|(refine nv_ (.slice 1 (wordsG.map .str)) (by first|(rfl;done)|fail) ?_)|refine rE _ (h2) ?_|refine rE _ (h3) ?_|refine nb_ _ hpre ?_|refine nT_ ?_|refine aD0 ?_|refine rb0 ?_|refine rbx ?_|refine aS ?_|fail)
  ·simp only [h24,decide_false,Bool.and_false,Bool.false_and]
   repeat' ((conv=>whnf);first|exact trivial|refine nb_ _ hne ?_|refine aD1 ?_|refine rb0 ?_|refine aS ?_|fail)
theorem Bc (s:ByteArray) (hs:s.size<2^62):DCalls Tryz.prog 152 [.str s] (.bool (uz s)):=by
 refine qO (rs:=[.tmp 2]) mixed Tryz.func152 Mf rfl rfl rfl (r:=[.bool _]) (nlZ rfl) ?_
 have h1:=HO s hs
 repeat' ((conv=>whnf);first|exact trivial|refine rE _ (h1) ?_|refine rbx ?_|fail)
theorem xI (s:ByteArray) (hs:s.size<2^62):DCalls Tryz.prog 141 [.str s] (.bool (sS s)):=by
 refine qO (rs:=[.tmp 2]) mixed Tryz.func141 L6 rfl rfl rfl (r:=[.bool _]) (nlZ rfl) ?_
 have h1:=Bc s hs
 unfold sS
 have h2:=sO s tw
 generalize uz s=a at *
 generalize sC s tw=b at *
 cases a <;> cases b <;> repeat' ((conv=>whnf);first|exact trivial|refine rE _ (h1) ?_|refine nb_ _ h2 ?_|refine rb1 ?_|refine rb0 ?_|refine aS ?_|fail)
end Go.TY
end
