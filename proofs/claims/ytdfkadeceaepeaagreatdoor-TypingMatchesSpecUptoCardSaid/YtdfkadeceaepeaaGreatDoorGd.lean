/- Joined by program: parts of a data level over the model, of the program's functions over it, and of the statement's proof. -/
import Derived.Test.YtdfkadeceaepeaaGreatDoorProg
import Derived.Test.YtdfkadeceaepeaaGreatDoorGc
import Derived.KernelRfl
import Derived.Sort.Walk0
import Derived.Stop.LaidErr
import Derived.Lib.LaidTab
set_option maxRecDepth 100000
set_option maxHeartbeats 8000000
noncomputable section
namespace Go.DL
abbrev Kc (n:Int):O:=.const (.int .i64 n)
abbrev Zi (n:Int):T:=.int .i64 n
abbrev Ui (n:Int):T:=.int .u8 n
abbrev tm (n:Nat):O:=.tmp n
abbrev mv (d s:Nat):DI:=⟨some d,.mov (.tmp s),none,[]⟩
abbrev mF (d s g:Nat):DI:=⟨some d,.mov (.tmp s),some (g,false),[]⟩
abbrev mT (d s g:Nat):DI:=⟨some d,.mov (.tmp s),some (g,true),[]⟩
abbrev oo (d:Nat) (p:DOp):DI:=⟨some d,p,none,[]⟩
abbrev oF (d g:Nat) (p:DOp):DI:=⟨some d,p,some (g,false),[]⟩
abbrev oT (d g:Nat) (p:DOp):DI:=⟨some d,p,some (g,true),[]⟩
abbrev o0 (p:DOp):DI:=⟨none,p,none,[]⟩
abbrev ld (d a:Nat):DI:=⟨some d,.load 1 false (.tmp a),none,[]⟩
abbrev lA (d n a:Nat):DI:=⟨some d,.load n true (.tmp a),none,[]⟩
abbrev fa (d k a:Nat):DI:=⟨some d,.offA k (.tmp a),none,[]⟩
abbrev ix (d z a b:Nat):DI:=⟨some d,.idxL z (.tmp a) (.tmp b),none,[]⟩
abbrev ln (d a:Nat):DI:=⟨some d,.len (.tmp a),none,[]⟩
abbrev kT:O:=.const (.bool true)
abbrev kF:O:=.const (.bool false)
abbrev S0:T:=.str ⟨#[]⟩
abbrev Z0:T:=.int .i64 0
end Go.DL
namespace Go.MM
open Go Go.DL Go.Proofs
def c18:aY:=(.seq (.region [oo 3 (.box 9 (tm 1)),oo 4 (.mov (Kc 0))] []) (.seq (.region [lA 10 9 3,oo 11 (.call 21 [tm 10]),mv 5 11] []) (.seq (.seq (.region [mv 12 5,oo 13 (.bin .neq (tm 12) (Kc 0))] []) (.cond (tm 13) (.seq (.region [mv 14 5,mv 4 14] []) .ret) .skip)) (.seq (.region [lA 15 9 3,oo 16 (.call 76 [tm 15]),mv 6 16] []) (.seq (.seq (.region [oo 7 (.mov (Kc 0))] []) (.block 0 (.loop (.seq (.seq (.region [mv 17 7,mv 18 6,ln 19 18,oo 20 (.bin .lss (tm 17) (tm 19))] []) (.cond (tm 20) .skip (.exit 0))) (.seq (.block 1 (.seq (.seq (.region [mv 23 6,mv 24 7,ix 25 9 23 24,fa 26 0 25,ld 27 26,oo 28 (.bin .eql (tm 27) (Kc 1))] []) (.cond (tm 28) (.region [mv 29 0,mv 30 6,mv 31 7,ix 32 9 30 31,fa 33 1 32,lA 34 5 33,oo 35 (.call 71 [(tm 29),(tm 34)]),mv 5 35] []) .skip)) (.seq (.seq (.region [mv 36 6,mv 37 7,ix 38 9 36 37,fa 39 0 38,ld 40 39,oo 41 (.bin .eql (tm 40) (Kc 2))] []) (.cond (tm 41) (.seq (.region [mv 43 0,mv 44 6,mv 45 7,ix 46 9 44 45,fa 47 6 46,ld 48 47,oo 49 (.call 77 [(tm 43),(tm 48)]),mv 42 49,oo 50 (.ext (tm 42) 0),oo 51 (.ext (tm 42) 1),⟨some 8,.alloc [S0,Z0,Z0],none,[]⟩,o0 (.store 3 (tm 8) (tm 50)),mv 9 51] []) (.seq (.region [mv 52 9,oo 53 (.not (tm 52))] []) (.cond (tm 53) (.region [oo 5 (.mov (Kc 4))] []) (.seq (.region [mv 54 6,mv 55 7,ix 56 9 54 55,fa 57 7 56,ld 58 57,lA 59 3 8,oo 60 (.call 78 [tm 59]),oo 61 (.bin .gtr (tm 58) (tm 60))] []) (.cond (tm 61) (.region [oo 5 (.mov (Kc 1))] []) .skip))))) .skip)) (.seq (.region [mv 62 5,oo 63 (.bin .neq (tm 62) (Kc 0))] []) (.cond (tm 63) (.seq (.region [mv 64 5,mv 4 64] []) .ret) .skip))))) (.region [mv 21 7,oo 22 (.bin .add (tm 21) (Kc 1)),mv 7 22] [])))))) (.seq (.region [oo 4 (.mov (Kc 0))] []) .ret))))))
theorem l18:(Tryz.f18.body.bind (bD Tryz.prog 65 []))=some c18:=by kernel_rfl
def c11:aY:=(.seq (.region [oo 2 (.mov (Kc 0))] []) (.seq (.seq (.region [mv 9 0,ln 10 9,oo 11 (.bin .gtr (tm 10) (Kc 16))] []) (.cond (tm 11) (.seq (.region [oo 2 (.mov (Kc 2))] []) .ret) .skip)) (.seq (.seq (.region [oo 3 (.mov (Kc 0))] []) (.block 0 (.loop (.seq (.seq (.region [mv 12 3,mv 13 0,ln 14 13,oo 15 (.bin .lss (tm 12) (tm 14))] []) (.cond (tm 15) .skip (.exit 0))) (.seq (.block 1 (.seq (.region [mv 18 0,mv 19 3,ix 20 3 18 19,fa 21 0 20,ld 22 21,oo 23 (.call 64 [tm 22]),mv 4 23] []) (.seq (.seq (.region [mv 24 4,oo 25 (.not (tm 24)),mv 26 25,mF 27 0 26,mF 28 3 26,oF 29 26 (.idxL 3 (tm 27) (tm 28)),oF 30 26 (.offA 0 (tm 29)),oF 31 26 (.load 1 false (tm 30)),⟨some 32,.bin .eql (tm 31) (.const (.str ⟨#[112,111,114,116]⟩)),some (26,false),[]⟩,oo 33 (.pick (tm 26) kT (tm 32))] []) (.cond (tm 33) (.seq (.region [oo 2 (.mov (Kc 4))] []) .ret) .skip)) (.seq (.seq (.region [oo 5 (.mov (Kc 0))] []) (.block 2 (.loop (.seq (.seq (.region [mv 34 5,mv 35 3,oo 36 (.bin .lss (tm 34) (tm 35))] []) (.cond (tm 36) .skip (.exit 2))) (.seq (.block 3 (.seq (.region [mv 39 0,mv 40 5,ix 41 3 39 40,fa 42 0 41,ld 43 42,mv 44 0,mv 45 3,ix 46 3 44 45,fa 47 0 46,ld 48 47,oo 49 (.bin .eql (tm 43) (tm 48))] []) (.cond (tm 49) (.seq (.region [oo 2 (.mov (Kc 4))] []) .ret) .skip))) (.region [mv 37 5,oo 38 (.bin .add (tm 37) (Kc 1)),mv 5 38] [])))))) (.seq (.region [mv 50 0,mv 51 3,ix 52 3 50 51,lA 53 3 52,oo 54 (.call 65 [tm 53]),mv 6 54] []) (.seq (.seq (.region [mv 55 6,oo 56 (.not (tm 55))] []) (.cond (tm 56) (.seq (.region [oo 2 (.mov (Kc 1))] []) .ret) .skip)) (.seq (.region [oo 7 (.mov (Kc 0))] []) (.block 4 (.loop (.seq (.seq (.region [mv 57 7,mv 58 3,oo 59 (.bin .lss (tm 57) (tm 58))] []) (.cond (tm 59) .skip (.exit 4))) (.seq (.block 5 (.seq (.region [mv 62 0,mv 63 7,ix 64 3 62 63,lA 65 3 64,mv 66 0,mv 67 3,ix 68 3 66 67,lA 69 3 68,oo 70 (.call 66 [(tm 65),(tm 69)]),mv 8 70] []) (.seq (.region [mv 71 8] []) (.cond (tm 71) (.seq (.region [oo 2 (.mov (Kc 1))] []) .ret) .skip)))) (.region [mv 60 7,oo 61 (.bin .add (tm 60) (Kc 1)),mv 7 61] [])))))))))))) (.region [mv 16 3,oo 17 (.bin .add (tm 16) (Kc 1)),mv 3 17] [])))))) (.seq (.region [oo 2 (.mov (Kc 0))] []) .ret))))
theorem l11:(Tryz.f11.body.bind (bD Tryz.prog 72 []))=some c11:=by kernel_rfl
def c77:aY:=(.seq (.region [⟨some 4,.alloc [S0,Z0,Z0],none,[]⟩,oo 5 (.mov kF)] []) (.seq (.seq (.region [mv 7 1,⟨some 8,.bin .eql (tm 7) (.const (.str ⟨#[112,111,114,116]⟩)),none,[]⟩] []) (.cond (tm 8) (.seq (.region [oo 9 (.call 121 []),o0 (.store 3 (tm 4) (tm 9)),oo 5 (.mov kT)] []) .ret) .skip)) (.seq (.seq (.region [oo 6 (.mov (Kc 0))] []) (.block 0 (.loop (.seq (.seq (.region [mv 10 6,mv 11 0,ln 12 11,oo 13 (.bin .lss (tm 10) (tm 12))] []) (.cond (tm 13) .skip (.exit 0))) (.seq (.block 1 (.seq (.region [mv 16 0,mv 17 6,ix 18 3 16 17,fa 19 0 18,ld 20 19,mv 21 1,oo 22 (.bin .eql (tm 20) (tm 21))] []) (.cond (tm 22) (.seq (.region [mv 23 0,mv 24 6,ix 25 3 23 24,lA 26 3 25,o0 (.store 3 (tm 4) (tm 26)),oo 5 (.mov kT)] []) .ret) .skip))) (.region [mv 14 6,oo 15 (.bin .add (tm 14) (Kc 1)),mv 6 15] [])))))) (.seq (.region [⟨some 27,.build [S0,Z0,Z0] [],none,[]⟩,o0 (.store 3 (tm 4) (tm 27)),oo 5 (.mov kF)] []) .ret))))
theorem l77:(Tryz.f77.body.bind (bD Tryz.prog 28 []))=some c77:=by kernel_rfl
def c21:aY:=(.seq (.region [oo 1 (.box 9 (tm 0)),oo 2 (.mov (Kc 0))] []) (.seq (.region [lA 3 9 1,oo 4 (.call 34 [tm 3]),lA 5 9 1,oo 6 (.call 85 [tm 5]),oo 7 (.call 84 [(tm 4),(tm 6)]),mv 2 7] []) .ret))
theorem l21:(Tryz.f21.body.bind (bD Tryz.prog 8 []))=some c21:=by kernel_rfl
def c76:aY:=(.seq (.region [oo 1 (.box 9 (tm 0)),oo 2 (.mov (.const .nil))] []) (.seq (.region [lA 5 9 1,⟨some 6,.buildS 28 9 1 [Z0,Z0,S0,Z0,Z0,.nil,S0,Z0,.nil] [(0,(tm 5))],none,[]⟩,mv 3 6] []) (.seq (.seq (.region [oo 4 (.mov (Kc 0))] []) (.block 0 (.loop (.seq (.seq (.region [mv 7 4,fa 8 8 1,ld 9 8,ln 10 9,oo 11 (.bin .lss (tm 7) (tm 10))] []) (.cond (tm 11) .skip (.exit 0))) (.seq (.block 1 (.region [mv 14 3,fa 15 8 1,ld 16 15,mv 17 4,ix 18 9 16 17,lA 19 9 18,oo 20 (.call 76 [tm 19]),oo 21 (.append 26 28 9 120 (tm 14) (tm 20)),mv 3 21] [])) (.region [mv 12 4,oo 13 (.bin .add (tm 12) (Kc 1)),mv 4 13] [])))))) (.seq (.region [mv 22 3,mv 2 22] []) .ret))))
theorem l76:(Tryz.f76.body.bind (bD Tryz.prog 23 []))=some c76:=by kernel_rfl
def c71:aY:=(.seq (.region [oo 3 (.box 5 (tm 1)),oo 4 (.mov (Kc 0))] []) (.seq (.region [lA 8 5 3,oo 9 (.call 111 [tm 8]),mv 5 9] []) (.seq (.seq (.region [oo 6 (.mov (Kc 0))] []) (.block 0 (.loop (.seq (.seq (.region [mv 10 6,mv 11 5,ln 12 11,oo 13 (.bin .lss (tm 10) (tm 12))] []) (.cond (tm 13) .skip (.exit 0))) (.seq (.block 1 (.seq (.region [mv 16 0,mv 17 5,mv 18 6,ix 19 5 17 18,lA 20 5 19,oo 21 (.call 112 [(tm 16),(tm 20)]),mv 7 21] []) (.seq (.region [mv 22 7,oo 23 (.bin .neq (tm 22) (Kc 0))] []) (.cond (tm 23) (.seq (.region [mv 24 7,mv 4 24] []) .ret) .skip)))) (.region [mv 14 6,oo 15 (.bin .add (tm 14) (Kc 1)),mv 6 15] [])))))) (.seq (.region [oo 4 (.mov (Kc 0))] []) .ret))))
theorem l71:(Tryz.f71.body.bind (bD Tryz.prog 25 []))=some c71:=by kernel_rfl
def c78:aY:=(.seq (.region [oo 1 (.box 3 (tm 0)),oo 2 (.mov (Kc 0))] []) (.seq (.region [fa 3 2 1,ld 4 3,oo 5 (.call 122 [tm 4]),oo 6 (.bin .sub (tm 5) (Kc 1)),mv 2 6] []) .ret))
theorem l78:(Tryz.f78.body.bind (bD Tryz.prog 7 []))=some c78:=by kernel_rfl
def c64:aY:=(.seq (.region [oo 2 (.mov kF)] []) (.seq (.seq (.region [oo 3 (.mov (Kc 0))] []) (.block 0 (.loop (.seq (.seq (.region [mv 6 3,mv 7 0,oo 8 (.lenS (tm 7)),oo 9 (.bin .lss (tm 6) (tm 8))] []) (.cond (tm 9) .skip (.exit 0))) (.seq (.block 1 (.seq (.region [mv 12 0,mv 13 3,oo 14 (.idxS (tm 12) (tm 13)),oo 15 (.bin .geq (tm 14) (.const (Ui 97))),mv 16 15,mT 17 0 16,mT 18 3 16,oT 19 16 (.idxS (tm 17) (tm 18)),oT 20 16 (.bin .leq (tm 19) (.const (Ui 122))),oo 21 (.pick (tm 16) (tm 20) kF),mv 4 21] []) (.seq (.region [mv 22 0,mv 23 3,oo 24 (.idxS (tm 22) (tm 23)),oo 25 (.bin .geq (tm 24) (.const (Ui 48))),mv 26 25,mT 27 0 26,mT 28 3 26,oT 29 26 (.idxS (tm 27) (tm 28)),oT 30 26 (.bin .leq (tm 29) (.const (Ui 57))),oo 31 (.pick (tm 26) (tm 30) kF),mv 32 31,mF 33 0 32,mF 34 3 32,oF 35 32 (.idxS (tm 33) (tm 34)),oF 36 32 (.bin .eql (tm 35) (.const (Ui 95))),oo 37 (.pick (tm 32) kT (tm 36)),mv 5 37] []) (.seq (.region [mv 38 4,oo 39 (.not (tm 38)),mv 40 39,mT 41 5 40,oT 42 40 (.not (tm 41)),mT 43 42 40,mF 44 3 43,oF 45 43 (.bin .eql (tm 44) (Kc 0)),oT 46 40 (.pick (tm 43) kT (tm 45)),oo 47 (.pick (tm 40) (tm 46) kF)] []) (.cond (tm 47) (.seq (.region [oo 2 (.mov kF)] []) .ret) .skip))))) (.region [mv 10 3,oo 11 (.bin .add (tm 10) (Kc 1)),mv 3 11] [])))))) (.seq (.region [mv 48 0,oo 49 (.lenS (tm 48)),oo 50 (.bin .geq (tm 49) (Kc 1)),mv 51 50,mT 52 0 51,oT 53 51 (.lenS (tm 52)),oT 54 51 (.bin .leq (tm 53) (Kc 24)),oo 55 (.pick (tm 51) (tm 54) kF),mv 2 55] []) .ret)))
theorem l64:(Tryz.f64.body.bind (bD Tryz.prog 56 []))=some c64:=by kernel_rfl
def c65:aY:=(.seq (.region [oo 1 (.box 3 (tm 0)),oo 2 (.mov kF)] []) (.seq (.region [fa 3 2 1,ld 4 3,oo 5 (.bin .geq (tm 4) (Kc 1)),mv 6 5,oT 7 6 (.offA 2 (tm 1)),oT 8 6 (.load 1 false (tm 7)),oT 9 6 (.bin .leq (tm 8) (Kc 16)),oo 10 (.pick (tm 6) (tm 9) kF),mv 11 10,oT 12 11 (.offA 1 (tm 1)),oT 13 11 (.load 1 false (tm 12)),oT 14 11 (.bin .geq (tm 13) (Kc 16)),oo 15 (.pick (tm 11) (tm 14) kF),mv 16 15,oT 17 16 (.offA 1 (tm 1)),oT 18 16 (.load 1 false (tm 17)),oT 19 16 (.bin .leq (tm 18) (Kc 143)),oo 20 (.pick (tm 16) (tm 19) kF),mv 21 20,oT 22 21 (.offA 1 (tm 1)),oT 23 21 (.load 1 false (tm 22)),oT 24 21 (.bin .rem (tm 23) (Kc 16)),oT 25 21 (.offA 2 (tm 1)),oT 26 21 (.load 1 false (tm 25)),oT 27 21 (.bin .add (tm 24) (tm 26)),oT 28 21 (.bin .leq (tm 27) (Kc 16)),oo 29 (.pick (tm 21) (tm 28) kF),mv 2 29] []) .ret))
theorem l65:(Tryz.f65.body.bind (bD Tryz.prog 30 []))=some c65:=by kernel_rfl
def c66:aY:=(.seq (.region [oo 2 (.box 3 (tm 0)),oo 3 (.box 3 (tm 1)),oo 4 (.mov kF)] []) (.seq (.region [fa 5 1 2,ld 6 5,fa 7 1 3,ld 8 7,fa 9 2 3,ld 10 9,oo 11 (.bin .add (tm 8) (tm 10)),oo 12 (.bin .lss (tm 6) (tm 11)),mv 13 12,oT 14 13 (.offA 1 (tm 3)),oT 15 13 (.load 1 false (tm 14)),oT 16 13 (.offA 1 (tm 2)),oT 17 13 (.load 1 false (tm 16)),oT 18 13 (.offA 2 (tm 2)),oT 19 13 (.load 1 false (tm 18)),oT 20 13 (.bin .add (tm 17) (tm 19)),oT 21 13 (.bin .lss (tm 15) (tm 20)),oo 22 (.pick (tm 13) (tm 21) kF),mv 4 22] []) .ret))
theorem l66:(Tryz.f66.body.bind (bD Tryz.prog 23 []))=some c66:=by kernel_rfl
def c74:aY:=(.seq (.region [oo 3 (.box 1 (tm 1)),⟨some 4,.alloc [S0,Z0,Z0],none,[]⟩,oo 5 (.mov kF)] []) (.seq (.seq (.region [ld 7 3,oo 8 (.call 118 []),oo 9 (.fld 0 1 false (tm 8)),oo 10 (.bin .eql (tm 7) (tm 9))] []) (.cond (tm 10) (.seq (.region [oo 11 (.call 118 []),o0 (.store 3 (tm 4) (tm 11)),oo 5 (.mov kT)] []) .ret) .skip)) (.seq (.region [mv 12 0,oo 13 (.mkfn 120 [tm 3]),oo 14 (.call 119 [(tm 12),(tm 13)]),mv 6 14] []) (.seq (.seq (.region [mv 15 6,oo 16 (.bin .lss (tm 15) (Kc 0))] []) (.cond (tm 16) (.seq (.region [⟨some 17,.build [S0,Z0,Z0] [],none,[]⟩,o0 (.store 3 (tm 4) (tm 17)),oo 5 (.mov kF)] []) .ret) .skip)) (.seq (.region [mv 18 0,mv 19 6,ix 20 3 18 19,lA 21 3 20,o0 (.store 3 (tm 4) (tm 21)),oo 5 (.mov kT)] []) .ret)))))
theorem l74:(Tryz.f74.body.bind (bD Tryz.prog 22 []))=some c74:=by kernel_rfl
def Ks:aY:=(.seq (.region [⟨some 0,.alloc [S0,Z0,Z0],none,[]⟩] []) (.seq (.region [⟨some 1,.build [S0,Z0,Z0] [(0,1,(.const (.str ⟨#[112,111,114,116]⟩))),(1,1,(Kc 0)),(2,1,(Kc 16))],none,[]⟩,o0 (.store 3 (tm 0) (tm 1))] []) .ret))
theorem LO:(Tryz.f121.body.bind (bD Tryz.prog 2 []))=some Ks:=by kernel_rfl
def Kt:aY:=(.seq (.region [oo 2 (.mov (Kc 0))] []) (.seq (.region [oo 3 (.mov (Kc 1))] []) (.seq (.seq (.region [oo 4 (.mov (Kc 0))] []) (.block 0 (.loop (.seq (.seq (.region [mv 5 4,mv 6 0,oo 7 (.bin .lss (tm 5) (tm 6))] []) (.cond (tm 7) .skip (.exit 0))) (.seq (.block 1 (.region [mv 10 3,oo 11 (.bin .mul (tm 10) (Kc 2)),mv 3 11] [])) (.region [mv 8 4,oo 9 (.bin .add (tm 8) (Kc 1)),mv 4 9] [])))))) (.seq (.region [mv 12 3,mv 2 12] []) .ret))))
theorem LP:(Tryz.f122.body.bind (bD Tryz.prog 13 []))=some Kt:=by kernel_rfl
def c84:aY:=(.seq (.region [oo 2 (.box 2 (tm 0)),oo 4 (.mov (Kc 0))] []) (.seq (.region [lA 6 2 2,oo 7 (.call 128 [tm 6]),mv 5 7] []) (.seq (.seq (.region [mv 8 5,oo 9 (.bin .eql (tm 8) (Kc 0)),mv 10 9,mT 11 1 10,oT 12 10 (.not (tm 11)),oo 13 (.pick (tm 10) (tm 12) kF)] []) (.cond (tm 13) (.seq (.region [oo 4 (.mov (Kc 1))] []) .ret) .skip)) (.seq (.region [mv 14 5,mv 4 14] []) .ret))))
theorem l84:(Tryz.f84.body.bind (bD Tryz.prog 15 []))=some c84:=by kernel_rfl
def c34:aY:=(.seq (.region [oo 1 (.box 9 (tm 0)),oo 2 (.alloc [Z0,Z0])] []) (.seq (.region [oo 5 (.build [Z0,Z0] [(0,1,(Kc 1)),(1,1,(Kc 1))]),oo 3 (.alloc [Z0,Z0]),o0 (.store 2 (tm 3) (tm 5))] []) (.seq (.seq (.region [fa 6 0 1,ld 7 6,oo 8 (.bin .eql (tm 7) (Kc 1))] []) (.cond (tm 8) (.region [lA 9 2 3,fa 10 1 1,lA 11 5 10,oo 12 (.call 67 [tm 11]),oo 13 (.call 94 [(tm 9),(tm 12)]),o0 (.store 2 (tm 3) (tm 13))] []) .skip)) (.seq (.seq (.region [oo 4 (.mov (Kc 0))] []) (.block 0 (.loop (.seq (.seq (.region [mv 14 4,fa 15 8 1,ld 16 15,ln 17 16,oo 18 (.bin .lss (tm 14) (tm 17))] []) (.cond (tm 18) .skip (.exit 0))) (.seq (.block 1 (.region [lA 21 2 3,fa 22 8 1,ld 23 22,mv 24 4,ix 25 9 23 24,lA 26 9 25,oo 27 (.call 34 [tm 26]),oo 28 (.call 94 [(tm 21),(tm 27)]),o0 (.store 2 (tm 3) (tm 28))] [])) (.region [mv 19 4,oo 20 (.bin .add (tm 19) (Kc 1)),mv 4 20] [])))))) (.seq (.region [lA 29 2 3,o0 (.store 2 (tm 2) (tm 29))] []) .ret)))))
theorem l34:(Tryz.f34.body.bind (bD Tryz.prog 30 []))=some c34:=by kernel_rfl
def c85:aY:=(.seq (.region [oo 1 (.box 9 (tm 0)),oo 2 (.mov kF)] []) (.seq (.region [fa 10 6 1,ld 11 10,oo 12 (.call 129 [tm 11]),mv 3 12] []) (.seq (.region [fa 13 1 1,lA 14 5 13,⟨some 15,.build [Z0,S0,Z0,Z0,.nil] [],none,[]⟩,oo 16 (.call 51 [(tm 14),(tm 15)]),mv 4 16] []) (.seq (.cut (.region [fa 17 6 1,ld 18 17,⟨some 19,.bin .eql (tm 18) (.const S0),none,[]⟩,mv 20 19,oT 21 20 (.offA 7 (tm 1)),oT 22 20 (.load 1 false (tm 21)),oT 23 20 (.bin .eql (tm 22) (Kc 0)),oo 24 (.pick (tm 20) (tm 23) kF),mv 5 24] [])) (.seq (.region [oo 6 (.mov (Kc 0))] []) (.seq (.region [oo 7 (.mov kF)] []) (.seq (.seq (.region [fa 25 0 1,ld 26 25] []) (.cut (.block 0 (.seq (.region [oo 28 (.bin .eql (tm 26) (Kc 1)),mv 27 28] []) (.cond (tm 27) (.region [fa 29 1 1,lA 30 5 29,oo 31 (.call 110 [tm 30]),mv 32 31,mT 33 5 32,oo 34 (.pick (tm 32) (tm 33) kF),mv 7 34] []) (.seq (.region [oo 36 (.bin .eql (tm 26) (Kc 2)),mv 35 36] []) (.cond (tm 35) (.region [mv 37 3,mv 38 37,mT 39 4 38,oo 40 (.pick (tm 38) (tm 39) kF),mv 41 40,oT 42 41 (.offA 7 (tm 1)),oT 43 41 (.load 1 false (tm 42)),oT 44 41 (.bin .geq (tm 43) (Kc 0)),oo 45 (.pick (tm 41) (tm 44) kF),mv 46 45,oT 47 46 (.offA 7 (tm 1)),oT 48 46 (.load 1 false (tm 47)),oT 49 46 (.bin .leq (tm 48) (Kc 65535)),oo 50 (.pick (tm 46) (tm 49) kF),mv 7 50] []) (.seq (.seq (.region [oo 52 (.bin .eql (tm 26) (Kc 3)),mv 51 52] []) (.cond (tm 51) .skip (.region [oo 53 (.bin .eql (tm 26) (Kc 4)),mv 51 53] []))) (.cond (tm 51) (.seq (.region [mv 54 4,mv 55 54,mT 56 5 55,oo 57 (.pick (tm 55) (tm 56) kF),mv 7 57] []) (.region [oo 6 (.mov (Kc 2))] [])) (.seq (.region [oo 59 (.bin .eql (tm 26) (Kc 5)),mv 58 59] []) (.cond (tm 58) (.seq (.region [mv 60 4,mv 61 60,mT 62 5 61,oo 63 (.pick (tm 61) (tm 62) kF),mv 7 63] []) (.region [oo 6 (.mov (Kc 1))] [])) .skip))))))))))) (.seq (.seq (.region [mv 64 7,oo 65 (.not (tm 64)),mv 66 65,oF 67 66 (.offA 8 (tm 1)),oF 68 66 (.load 1 false (tm 67)),oF 69 66 (.len (tm 68)),mF 70 6 66,oF 71 66 (.bin .neq (tm 69) (tm 70)),oo 72 (.pick (tm 66) kT (tm 71))] []) (.cond (tm 72) (.seq (.region [oo 2 (.mov kF)] []) .ret) .skip)) (.seq (.seq (.region [oo 8 (.mov (Kc 0))] []) (.block 1 (.loop (.seq (.seq (.region [mv 73 8,mv 74 6,oo 75 (.bin .lss (tm 73) (tm 74))] []) (.cond (tm 75) .skip (.exit 1))) (.seq (.block 2 (.seq (.region [fa 78 8 1,ld 79 78,mv 80 8,ix 81 9 79 80,lA 82 9 81,oo 83 (.call 85 [tm 82]),mv 9 83] []) (.seq (.region [mv 84 9,oo 85 (.not (tm 84))] []) (.cond (tm 85) (.seq (.region [oo 2 (.mov kF)] []) .ret) .skip)))) (.region [mv 76 8,oo 77 (.bin .add (tm 76) (Kc 1)),mv 8 77] [])))))) (.seq (.region [oo 2 (.mov kT)] []) .ret))))))))))
theorem l85:(Tryz.f85.body.bind (bD Tryz.prog 86 [6000003,4000000]))=some c85:=by kernel_rfl
def Kk:aY:=(.seq (.region [oo 1 (.box 5 (tm 0)),oo 2 (.mov (.const .nil))] []) (.seq (.region [lA 5 5 1,⟨some 6,.buildS 25 5 1 [Z0,S0,Z0,Z0,.nil] [(0,(tm 5))],none,[]⟩,mv 3 6] []) (.seq (.seq (.region [oo 4 (.mov (Kc 0))] []) (.block 0 (.loop (.seq (.seq (.region [mv 7 4,fa 8 4 1,ld 9 8,ln 10 9,oo 11 (.bin .lss (tm 7) (tm 10))] []) (.cond (tm 11) .skip (.exit 0))) (.seq (.block 1 (.region [mv 14 3,fa 15 4 1,ld 16 15,mv 17 4,ix 18 5 16 17,lA 19 5 18,oo 20 (.call 111 [tm 19]),oo 21 (.append 23 25 5 64 (tm 14) (tm 20)),mv 3 21] [])) (.region [mv 12 4,oo 13 (.bin .add (tm 12) (Kc 1)),mv 4 13] [])))))) (.seq (.region [mv 22 3,mv 2 22] []) .ret))))
theorem LG:(Tryz.f111.body.bind (bD Tryz.prog 23 []))=some Kk:=by kernel_rfl
def Kl:aY:=(.seq (.region [oo 3 (.box 5 (tm 1)),oo 4 (.mov (Kc 0))] []) (.seq (.seq (.region [fa 8 0 3,ld 9 8,oo 10 (.bin .neq (tm 9) (Kc 3)),mv 11 10,oT 12 11 (.offA 0 (tm 3)),oT 13 11 (.load 1 false (tm 12)),oT 14 11 (.bin .neq (tm 13) (Kc 4)),oo 15 (.pick (tm 11) (tm 14) kF),mv 16 15,oT 17 16 (.offA 0 (tm 3)),oT 18 16 (.load 1 false (tm 17)),oT 19 16 (.bin .neq (tm 18) (Kc 5)),oo 20 (.pick (tm 16) (tm 19) kF)] []) (.cond (tm 20) (.seq (.region [oo 4 (.mov (Kc 0))] []) .ret) .skip)) (.seq (.region [mv 22 0,fa 23 1 3,ld 24 23,oo 25 (.call 77 [(tm 22),(tm 24)]),mv 21 25,oo 26 (.ext (tm 21) 0),oo 27 (.ext (tm 21) 1),⟨some 5,.alloc [S0,Z0,Z0],none,[]⟩,o0 (.store 3 (tm 5) (tm 26)),mv 6 27] []) (.seq (.seq (.region [mv 28 6,oo 29 (.not (tm 28))] []) (.cond (tm 29) (.seq (.region [oo 4 (.mov (Kc 4))] []) .ret) .skip)) (.seq (.region [fa 30 2 3,ld 31 30,mv 7 31] []) (.seq (.seq (.region [fa 32 0 3,ld 33 32,oo 34 (.bin .eql (tm 33) (Kc 5))] []) (.cond (tm 34) (.region [fa 35 3 3,ld 36 35,mv 7 36] []) .skip)) (.seq (.seq (.region [mv 37 7,lA 38 3 5,oo 39 (.call 78 [tm 38]),oo 40 (.bin .gtr (tm 37) (tm 39)),mv 41 40,oF 42 41 (.offA 0 (tm 3)),oF 43 41 (.load 1 false (tm 42)),oF 44 41 (.bin .eql (tm 43) (Kc 4)),mF 45 44 41,oT 46 45 (.offA 3 (tm 3)),oT 47 45 (.load 1 false (tm 46)),oT 48 45 (.offA 2 (tm 5)),oT 49 45 (.load 1 false (tm 48)),oT 50 45 (.bin .gtr (tm 47) (tm 49)),oF 51 41 (.pick (tm 45) (tm 50) kF),oo 52 (.pick (tm 41) kT (tm 51))] []) (.cond (tm 52) (.seq (.region [oo 4 (.mov (Kc 1))] []) .ret) .skip)) (.seq (.region [oo 4 (.mov (Kc 0))] []) .ret))))))))
theorem LH:(Tryz.f112.body.bind (bD Tryz.prog 53 []))=some Kl:=by kernel_rfl
def Kp:aY:=(.seq (.region [⟨some 0,.alloc [S0,Z0,Z0],none,[]⟩] []) (.seq (.region [⟨some 1,.build [S0,Z0,Z0] [(0,1,(.const (.str ⟨#[112,111,114,116]⟩))),(2,1,(Kc 16))],none,[]⟩,o0 (.store 3 (tm 0) (tm 1))] []) .ret))
theorem LL:(Tryz.f118.body.bind (bD Tryz.prog 2 []))=some Kp:=by kernel_rfl
def Kq:aY:=(.seq (.region [oo 4 (.mov (Kc 0))] []) (.seq (.seq (.region [mv 6 0,ln 7 6,oo 8 (.mov (Kc 0))] []) (.block 0 (.loop (.seq (.region [oo 9 (.bin .lss (tm 8) (tm 7))] []) (.seq (.cond (tm 9) .skip (.exit 0)) (.seq (.block 1 (.seq (.region [mv 10 8,mv 5 10] []) (.seq (.region [mv 11 1,mv 12 0,mv 13 5,ix 14 3 12 13,lA 15 3 14,oo 16 (.b8 (tm 11) [tm 15])] []) (.cond (tm 16) (.seq (.region [mv 17 5,mv 4 17] []) .ret) .skip)))) (.region [oo 18 (.bin .add (tm 8) (Kc 1)),mv 8 18] []))))))) (.seq (.region [oo 4 (.mov (.const (.int .i64 (-1))))] []) .ret)))
theorem LM:(Tryz.f119.body.bind (bD Tryz.prog 19 []))=some Kq:=by kernel_rfl
def Kr:aY:=(.seq (.region [oo 2 (.box 3 (tm 0)),oo 3 (.mov kF)] []) (.seq (.region [fa 4 0 2,ld 5 4,ld 6 1,oo 7 (.bin .eql (tm 5) (tm 6)),mv 3 7] []) .ret))
theorem LN:(Tryz.f120.body.bind (bD Tryz.prog 8 []))=some Kr:=by kernel_rfl
def c75:aY:=(.seq (.region [oo 1 (.box 3 (tm 0)),oo 2 (.mov (Kc 0))] []) (.seq (.region [fa 3 2 1,ld 4 3,oo 5 (.bin .shl (Kc 1) (tm 4)),oo 6 (.bin .sub (tm 5) (Kc 1)),mv 2 6] []) .ret))
theorem l75:(Tryz.f75.body.bind (bD Tryz.prog 7 []))=some c75:=by kernel_rfl
def Kz:aY:=(.seq (.region [oo 1 (.box 2 (tm 0)),oo 2 (.mov (Kc 0))] []) (.seq (.seq (.region [fa 3 0 1,ld 4 3,oo 5 (.bin .gtr (tm 4) (Kc 200)),mv 6 5,oF 7 6 (.offA 1 (tm 1)),oF 8 6 (.load 1 false (tm 7)),oF 9 6 (.bin .gtr (tm 8) (Kc 20)),oo 10 (.pick (tm 6) kT (tm 9))] []) (.cond (tm 10) (.seq (.region [oo 2 (.mov (Kc 2))] []) .ret) .skip)) (.seq (.region [oo 2 (.mov (Kc 0))] []) .ret)))
theorem LW:(Tryz.f128.body.bind (bD Tryz.prog 11 []))=some Kz:=by kernel_rfl
def c94:aY:=(.seq (.region [oo 2 (.box 2 (tm 0)),oo 3 (.box 2 (tm 1)),oo 4 (.alloc [Z0,Z0])] []) (.seq (.region [fa 5 0 2,ld 6 5,fa 7 0 3,ld 8 7,oo 9 (.bin .add (tm 6) (tm 8)),fa 10 1 2,ld 11 10,fa 12 1 3,ld 13 12,oo 14 (.bin .add (tm 13) (Kc 1)),oo 15 (.maxI (tm 11) (tm 14)),oo 16 (.build [Z0,Z0] [(0,1,(tm 9)),(1,1,(tm 15))]),o0 (.store 2 (tm 4) (tm 16))] []) .ret))
theorem l94:(Tryz.f94.body.bind (bD Tryz.prog 17 []))=some c94:=by kernel_rfl
def c67:aY:=(.seq (.region [oo 1 (.box 5 (tm 0)),oo 2 (.alloc [Z0,Z0])] []) (.seq (.region [oo 5 (.build [Z0,Z0] [(0,1,(Kc 1)),(1,1,(Kc 1))]),oo 3 (.alloc [Z0,Z0]),o0 (.store 2 (tm 3) (tm 5))] []) (.seq (.seq (.region [oo 4 (.mov (Kc 0))] []) (.block 0 (.loop (.seq (.seq (.region [mv 6 4,fa 7 4 1,ld 8 7,ln 9 8,oo 10 (.bin .lss (tm 6) (tm 9))] []) (.cond (tm 10) .skip (.exit 0))) (.seq (.block 1 (.region [lA 13 2 3,fa 14 4 1,ld 15 14,mv 16 4,ix 17 5 15 16,lA 18 5 17,oo 19 (.call 67 [tm 18]),oo 20 (.call 94 [(tm 13),(tm 19)]),o0 (.store 2 (tm 3) (tm 20))] [])) (.region [mv 11 4,oo 12 (.bin .add (tm 11) (Kc 1)),mv 4 12] [])))))) (.seq (.region [lA 21 2 3,o0 (.store 2 (tm 2) (tm 21))] []) .ret))))
theorem l67:(Tryz.f67.body.bind (bD Tryz.prog 22 []))=some c67:=by kernel_rfl
def KA:aY:=(.seq (.region [oo 2 (.mov kF)] []) (.seq (.region [mv 4 0,oo 5 (.call 155 [tm 4]),mv 3 5] []) (.seq (.region [mv 6 3,mv 7 6,mF 8 0 7,⟨some 9,.bin .eql (tm 8) (.const (.str ⟨#[112,111,114,116]⟩)),some (7,false),[]⟩,oo 10 (.pick (tm 7) kT (tm 9)),mv 2 10] []) .ret)))
theorem LX:(Tryz.f129.body.bind (bD Tryz.prog 11 []))=some KA:=by kernel_rfl
def c51:aY:=(.seq (.region [oo 2 (.box 5 (tm 0)),oo 3 (.box 5 (tm 1)),oo 4 (.mov kF)] []) (.seq (.seq (.region [fa 7 0 2,ld 8 7,fa 9 0 3,ld 10 9,oo 11 (.bin .neq (tm 8) (tm 10)),mv 12 11,oF 13 12 (.offA 1 (tm 2)),oF 14 12 (.load 1 false (tm 13)),oF 15 12 (.offA 1 (tm 3)),oF 16 12 (.load 1 false (tm 15)),oF 17 12 (.bin .neq (tm 14) (tm 16)),oo 18 (.pick (tm 12) kT (tm 17)),mv 19 18,oF 20 19 (.offA 2 (tm 2)),oF 21 19 (.load 1 false (tm 20)),oF 22 19 (.offA 2 (tm 3)),oF 23 19 (.load 1 false (tm 22)),oF 24 19 (.bin .neq (tm 21) (tm 23)),oo 25 (.pick (tm 19) kT (tm 24)),mv 26 25,oF 27 26 (.offA 3 (tm 2)),oF 28 26 (.load 1 false (tm 27)),oF 29 26 (.offA 3 (tm 3)),oF 30 26 (.load 1 false (tm 29)),oF 31 26 (.bin .neq (tm 28) (tm 30)),oo 32 (.pick (tm 26) kT (tm 31)),mv 33 32,oF 34 33 (.offA 4 (tm 2)),oF 35 33 (.load 1 false (tm 34)),oF 36 33 (.len (tm 35)),oF 37 33 (.offA 4 (tm 3)),oF 38 33 (.load 1 false (tm 37)),oF 39 33 (.len (tm 38)),oF 40 33 (.bin .neq (tm 36) (tm 39)),oo 41 (.pick (tm 33) kT (tm 40))] []) (.cond (tm 41) (.seq (.region [oo 4 (.mov kF)] []) .ret) .skip)) (.seq (.seq (.region [oo 5 (.mov (Kc 0))] []) (.block 0 (.loop (.seq (.seq (.region [mv 42 5,fa 43 4 2,ld 44 43,ln 45 44,oo 46 (.bin .lss (tm 42) (tm 45))] []) (.cond (tm 46) .skip (.exit 0))) (.seq (.block 1 (.seq (.region [fa 49 4 2,ld 50 49,mv 51 5,ix 52 5 50 51,lA 53 5 52,fa 54 4 3,ld 55 54,mv 56 5,ix 57 5 55 56,lA 58 5 57,oo 59 (.call 51 [(tm 53),(tm 58)]),mv 6 59] []) (.seq (.region [mv 60 6,oo 61 (.not (tm 60))] []) (.cond (tm 61) (.seq (.region [oo 4 (.mov kF)] []) .ret) .skip)))) (.region [mv 47 5,oo 48 (.bin .add (tm 47) (Kc 1)),mv 5 48] [])))))) (.seq (.region [oo 4 (.mov kT)] []) .ret))))
theorem l51:(Tryz.f51.body.bind (bD Tryz.prog 62 []))=some c51:=by kernel_rfl
def Kj:aY:=(.seq (.region [oo 1 (.box 5 (tm 0)),oo 2 (.mov kF)] []) (.seq (.region [fa 10 1 1,ld 11 10,oo 12 (.call 129 [tm 11]),mv 3 12] []) (.seq (.cut (.region [fa 13 2 1,ld 14 13,oo 15 (.bin .geq (tm 14) (Kc 0)),mv 16 15,oT 17 16 (.offA 2 (tm 1)),oT 18 16 (.load 1 false (tm 17)),oT 19 16 (.bin .leq (tm 18) (Kc 65535)),oo 20 (.pick (tm 16) (tm 19) kF),mv 4 20] [])) (.seq (.cut (.region [fa 21 1 1,ld 22 21,⟨some 23,.bin .eql (tm 22) (.const S0),none,[]⟩,mv 24 23,oT 25 24 (.offA 2 (tm 1)),oT 26 24 (.load 1 false (tm 25)),oT 27 24 (.bin .eql (tm 26) (Kc 0)),oo 28 (.pick (tm 24) (tm 27) kF),mv 29 28,oT 30 29 (.offA 3 (tm 1)),oT 31 29 (.load 1 false (tm 30)),oT 32 29 (.bin .eql (tm 31) (Kc 0)),oo 33 (.pick (tm 29) (tm 32) kF),mv 5 33] [])) (.seq (.region [oo 6 (.mov (Kc 0))] []) (.seq (.region [oo 7 (.mov kF)] []) (.seq (.seq (.region [fa 34 0 1,ld 35 34] []) (.cut (.block 0 (.seq (.seq (.region [oo 37 (.bin .eql (tm 35) (Kc 1)),mv 36 37] []) (.cond (tm 36) .skip (.region [oo 38 (.bin .eql (tm 35) (Kc 2)),mv 36 38] []))) (.cond (tm 36) (.region [mv 39 5,mv 7 39] []) (.seq (.region [oo 41 (.bin .eql (tm 35) (Kc 3)),mv 40 41] []) (.cond (tm 40) (.region [mv 42 3,mv 43 42,mT 44 4 43,oo 45 (.pick (tm 43) (tm 44) kF),mv 46 45,oT 47 46 (.offA 3 (tm 1)),oT 48 46 (.load 1 false (tm 47)),oT 49 46 (.bin .eql (tm 48) (Kc 0)),oo 50 (.pick (tm 46) (tm 49) kF),mv 7 50] []) (.seq (.region [oo 52 (.bin .eql (tm 35) (Kc 4)),mv 51 52] []) (.cond (tm 51) (.region [mv 53 3,mv 54 53,mT 55 4 54,oo 56 (.pick (tm 54) (tm 55) kF),mv 57 56,oT 58 57 (.offA 3 (tm 1)),oT 59 57 (.load 1 false (tm 58)),oT 60 57 (.bin .geq (tm 59) (Kc 0)),oo 61 (.pick (tm 57) (tm 60) kF),mv 62 61,oT 63 62 (.offA 3 (tm 1)),oT 64 62 (.load 1 false (tm 63)),oT 65 62 (.bin .leq (tm 64) (Kc 16)),oo 66 (.pick (tm 62) (tm 65) kF),mv 7 66] []) (.seq (.region [oo 68 (.bin .eql (tm 35) (Kc 5)),mv 67 68] []) (.cond (tm 67) (.region [mv 69 3,mv 70 69,oT 71 70 (.offA 2 (tm 1)),oT 72 70 (.load 1 false (tm 71)),oT 73 70 (.bin .geq (tm 72) (Kc 0)),oo 74 (.pick (tm 70) (tm 73) kF),mv 75 74,oT 76 75 (.offA 2 (tm 1)),oT 77 75 (.load 1 false (tm 76)),oT 78 75 (.offA 3 (tm 1)),oT 79 75 (.load 1 false (tm 78)),oT 80 75 (.bin .leq (tm 77) (tm 79)),oo 81 (.pick (tm 75) (tm 80) kF),mv 82 81,oT 83 82 (.offA 3 (tm 1)),oT 84 82 (.load 1 false (tm 83)),oT 85 82 (.bin .leq (tm 84) (Kc 65535)),oo 86 (.pick (tm 82) (tm 85) kF),mv 7 86] []) (.seq (.region [oo 88 (.bin .eql (tm 35) (Kc 6)),mv 87 88] []) (.cond (tm 87) (.seq (.region [mv 89 5,mv 7 89] []) (.region [oo 6 (.mov (Kc 1))] [])) (.seq (.seq (.region [oo 91 (.bin .eql (tm 35) (Kc 7)),mv 90 91] []) (.cond (tm 90) .skip (.region [oo 92 (.bin .eql (tm 35) (Kc 8)),mv 90 92] []))) (.cond (tm 90) (.seq (.region [mv 93 5,mv 7 93] []) (.region [oo 6 (.mov (Kc 2))] [])) (.seq (.region [oo 95 (.bin .eql (tm 35) (Kc 9)),mv 94 95] []) (.cond (tm 94) (.region [fa 96 1 1,ld 97 96,⟨some 98,.bin .eql (tm 97) (.const S0),none,[]⟩,mv 99 98,oT 100 99 (.offA 2 (tm 1)),oT 101 99 (.load 1 false (tm 100)),oT 102 99 (.bin .geq (tm 101) (Kc 0)),oo 103 (.pick (tm 99) (tm 102) kF),mv 104 103,oT 105 104 (.offA 2 (tm 1)),oT 106 104 (.load 1 false (tm 105)),oT 107 104 (.offA 3 (tm 1)),oT 108 104 (.load 1 false (tm 107)),oT 109 104 (.bin .lss (tm 106) (tm 108)),oo 110 (.pick (tm 104) (tm 109) kF),mv 111 110,oT 112 111 (.offA 3 (tm 1)),oT 113 111 (.load 1 false (tm 112)),oT 114 111 (.bin .leq (tm 113) (Kc 1073741824)),oo 115 (.pick (tm 111) (tm 114) kF),mv 7 115] []) .skip))))))))))))))))) (.seq (.seq (.region [mv 116 7,oo 117 (.not (tm 116)),mv 118 117,oF 119 118 (.offA 4 (tm 1)),oF 120 118 (.load 1 false (tm 119)),oF 121 118 (.len (tm 120)),mF 122 6 118,oF 123 118 (.bin .neq (tm 121) (tm 122)),oo 124 (.pick (tm 118) kT (tm 123))] []) (.cond (tm 124) (.seq (.region [oo 2 (.mov kF)] []) .ret) .skip)) (.seq (.seq (.region [oo 8 (.mov (Kc 0))] []) (.block 1 (.loop (.seq (.seq (.region [mv 125 8,mv 126 6,oo 127 (.bin .lss (tm 125) (tm 126))] []) (.cond (tm 127) .skip (.exit 1))) (.seq (.block 2 (.seq (.region [fa 130 4 1,ld 131 130,mv 132 8,ix 133 5 131 132,lA 134 5 133,oo 135 (.call 110 [tm 134]),mv 9 135] []) (.seq (.region [mv 136 9,oo 137 (.not (tm 136))] []) (.cond (tm 137) (.seq (.region [oo 2 (.mov kF)] []) .ret) .skip)))) (.region [mv 128 8,oo 129 (.bin .add (tm 128) (Kc 1)),mv 8 129] [])))))) (.seq (.region [oo 2 (.mov kT)] []) .ret))))))))))
theorem LF:(Tryz.f110.body.bind (bD Tryz.prog 138 [6000002,6000003,4000000]))=some Kj:=by kernel_rfl
def KS:aY:=(.seq (.region [oo 2 (.mov kF)] []) (.seq (.region [mv 3 0,oo 4 (.call 169 [tm 3]),mv 2 4] []) .ret))
theorem Ml:(Tryz.f155.body.bind (bD Tryz.prog 5 []))=some KS:=by kernel_rfl
def K2:aY:=(.seq (.region [oo 2 (.mov kF)] []) (.seq (.seq (.region [mv 5 0,oo 6 (.lenS (tm 5)),oo 7 (.bin .eql (tm 6) (Kc 0)),mv 8 7,mF 9 0 8,oF 10 8 (.lenS (tm 9)),oF 11 8 (.bin .gtr (tm 10) (Kc 24)),oo 12 (.pick (tm 8) kT (tm 11))] []) (.cond (tm 12) (.seq (.region [oo 2 (.mov kF)] []) .ret) .skip)) (.seq (.region [mv 13 0,oo 14 (.idxS (tm 13) (Kc 0)),oo 15 (.call 197 [tm 14]),mv 3 15] []) (.seq (.region [mv 16 0,oo 17 (.call 198 [tm 16]),mv 4 17] []) (.seq (.region [mv 18 3,mv 19 18,mT 20 0 19,oT 21 19 (.call 199 [tm 20]),mT 22 0 19,oT 23 19 (.lenS (tm 22)),oT 24 19 (.bin .eql (tm 21) (tm 23)),oo 25 (.pick (tm 19) (tm 24) kF),mv 26 25,mT 27 4 26,oT 28 26 (.not (tm 27)),oo 29 (.pick (tm 26) (tm 28) kF),mv 2 29] []) .ret)))))
theorem Mu:(Tryz.f169.body.bind (bD Tryz.prog 30 []))=some K2:=by kernel_rfl
def Lb:aY:=(.seq (.region [oo 2 (.mov kF)] []) (.seq (.region [mv 3 0,oo 4 (.bin .geq (tm 3) (.const (Ui 97))),mv 5 4,mT 6 0 5,oT 7 5 (.bin .leq (tm 6) (.const (Ui 122))),oo 8 (.pick (tm 5) (tm 7) kF),mv 2 8] []) .ret))
theorem ME:(Tryz.f197.body.bind (bD Tryz.prog 9 []))=some Lb:=by kernel_rfl
def Lc:aY:=(.seq (.region [oo 2 (.mov kF)] []) (.seq (.region [oo 5 (.call 213 []),mv 3 5] []) (.seq (.seq (.region [oo 4 (.mov (Kc 0))] []) (.block 0 (.loop (.seq (.seq (.region [mv 6 4,mv 7 3,ln 8 7,oo 9 (.bin .lss (tm 6) (tm 8))] []) (.cond (tm 9) .skip (.exit 0))) (.seq (.block 1 (.seq (.region [mv 12 3,mv 13 4,ix 14 1 12 13,ld 15 14,mv 16 0,oo 17 (.bin .eql (tm 15) (tm 16))] []) (.cond (tm 17) (.seq (.region [oo 2 (.mov kT)] []) .ret) .skip))) (.region [mv 10 4,oo 11 (.bin .add (tm 10) (Kc 1)),mv 4 11] [])))))) (.seq (.region [oo 2 (.mov kF)] []) .ret))))
theorem MF:(Tryz.f198.body.bind (bD Tryz.prog 18 []))=some Lc:=by kernel_rfl
def Ld:aY:=(.seq (.region [oo 2 (.mov (Kc 0))] []) (.seq (.region [oo 3 (.mov (Kc 0))] []) (.seq (.block 0 (.loop (.seq (.seq (.region [mv 5 3,mv 6 0,oo 7 (.lenS (tm 6)),oo 8 (.bin .lss (tm 5) (tm 7))] []) (.cond (tm 8) .skip (.exit 0))) (.block 1 (.seq (.region [mv 9 0,mv 10 3,oo 11 (.idxS (tm 9) (tm 10)),oo 12 (.call 214 [tm 11]),mv 4 12] []) (.seq (.seq (.region [mv 13 4,oo 14 (.not (tm 13))] []) (.cond (tm 14) (.exit 0) .skip)) (.region [mv 15 3,oo 16 (.bin .add (tm 15) (Kc 1)),mv 3 16] []))))))) (.seq (.region [mv 17 3,mv 2 17] []) .ret))))
theorem MG:(Tryz.f199.body.bind (bD Tryz.prog 18 []))=some Ld:=by kernel_rfl
def Li:aY:=(.seq (.region [oo 0 (.mov (.const .nil))] []) (.seq (.region [⟨some 1,.buildS 9 1 49 [S0] [(0,(.const (.str ⟨#[97,110,100]⟩))),(1,(.const (.str ⟨#[97,110,121]⟩))),(2,(.const (.str ⟨#[97,116]⟩))),(3,(.const (.str ⟨#[98,97,99,107]⟩))),(4,(.const (.str ⟨#[98,111,120]⟩))),(5,(.const (.str ⟨#[98,117,114,115,116]⟩))),(6,(.const (.str ⟨#[98,121]⟩))),(7,(.const (.str ⟨#[99,97,112,97,99,105,116,121]⟩))),(8,(.const (.str ⟨#[99,101,105,108,105,110,103]⟩))),(9,(.const (.str ⟨#[99,104,101,99,107]⟩))),(10,(.const (.str ⟨#[99,111,110,116,114,97,99,116]⟩))),(11,(.const (.str ⟨#[99,111,117,110,116]⟩))),(12,(.const (.str ⟨#[100,101,109,97,110,100]⟩))),(13,(.const (.str ⟨#[100,114,111,112]⟩))),(14,(.const (.str ⟨#[101,97,99,104]⟩))),(15,(.const (.str ⟨#[101,100,103,101]⟩))),(16,(.const (.str ⟨#[101,110,116,114,105,101,115]⟩))),(17,(.const (.str ⟨#[102,97,108,115,101]⟩))),(18,(.const (.str ⟨#[102,105,101,108,100]⟩))),(19,(.const (.str ⟨#[102,108,111,111,114]⟩))),(20,(.const (.str ⟨#[102,114,111,109]⟩))),(21,(.const (.str ⟨#[105,100]⟩))),(22,(.const (.str ⟨#[105,110]⟩))),(23,(.const (.str ⟨#[105,110,110,101,114]⟩))),(24,(.const (.str ⟨#[105,110,116,111]⟩))),(25,(.const (.str ⟨#[108,105,110,107]⟩))),(26,(.const (.str ⟨#[110,101,116,119,111,114,107]⟩))),(27,(.const (.str ⟨#[110,111,100,101]⟩))),(28,(.const (.str ⟨#[110,111,116]⟩))),(29,(.const (.str ⟨#[111,112,101,110]⟩))),(30,(.const (.str ⟨#[111,114]⟩))),(31,(.const (.str ⟨#[112,97,116,104]⟩))),(32,(.const (.str ⟨#[112,111,114,116]⟩))),(33,(.const (.str ⟨#[112,114,105,99,101]⟩))),(34,(.const (.str ⟨#[114,111,117,116,101]⟩))),(35,(.const (.str ⟨#[114,117,108,101,115]⟩))),(36,(.const (.str ⟨#[115,116,97,103,101]⟩))),(37,(.const (.str ⟨#[116,97,107,101]⟩))),(38,(.const (.str ⟨#[116,101,110,97,110,116]⟩))),(39,(.const (.str ⟨#[116,104,101,110]⟩))),(40,(.const (.str ⟨#[116,105,109,101]⟩))),(41,(.const (.str ⟨#[116,111]⟩))),(42,(.const (.str ⟨#[116,111,107,101,110]⟩))),(43,(.const (.str ⟨#[116,114,97,110,115,108,97,116,101]⟩))),(44,(.const (.str ⟨#[116,114,117,101]⟩))),(45,(.const (.str ⟨#[118,105,97]⟩))),(46,(.const (.str ⟨#[119,105,100,116,104]⟩))),(47,(.const (.str ⟨#[119,105,114,101]⟩))),(48,(.const (.str ⟨#[119,105,116,104,105,110]⟩)))],none,[]⟩,mv 0 1] []) .ret))
theorem ML:(Tryz.f213.body.bind (bD Tryz.prog 2 []))=some Li:=by kernel_rfl
def Lj:aY:=(.seq (.region [oo 2 (.mov kF)] []) (.seq (.region [mv 5 0,oo 6 (.call 197 [tm 5]),mv 3 6] []) (.seq (.region [mv 7 0,oo 8 (.call 217 [tm 7]),mv 4 8] []) (.seq (.region [mv 9 3,mv 10 9,mF 11 4 10,oo 12 (.pick (tm 10) kT (tm 11)),mv 13 12,mF 14 0 13,oF 15 13 (.bin .eql (tm 14) (.const (Ui 95))),oo 16 (.pick (tm 13) kT (tm 15)),mv 2 16] []) .ret))))
theorem MN:(Tryz.f214.body.bind (bD Tryz.prog 17 []))=some Lj:=by kernel_rfl
def Lk:aY:=(.seq (.region [oo 2 (.mov kF)] []) (.seq (.region [mv 3 0,oo 4 (.bin .geq (tm 3) (.const (Ui 48))),mv 5 4,mT 6 0 5,oT 7 5 (.bin .leq (tm 6) (.const (Ui 57))),oo 8 (.pick (tm 5) (tm 7) kF),mv 2 8] []) .ret))
theorem MO:(Tryz.f217.body.bind (bD Tryz.prog 9 []))=some Lk:=by kernel_rfl
end Go.MM
end
section
namespace Go.MM
open Go Go.DL
def wordsG:List ByteArray:=[⟨#[97,110,100]⟩,⟨#[97,110,121]⟩,⟨#[97,116]⟩,⟨#[98,97,99,107]⟩,⟨#[98,111,120]⟩,⟨#[98,117,114,115,116]⟩,⟨#[98,121]⟩,⟨#[99,97,112,97,99,105,116,121]⟩,⟨#[99,101,105,108,105,110,103]⟩,⟨#[99,104,101,99,107]⟩,⟨#[99,111,110,116,114,97,99,116]⟩,⟨#[99,111,117,110,116]⟩,⟨#[100,101,109,97,110,100]⟩,⟨#[100,114,111,112]⟩,⟨#[101,97,99,104]⟩,⟨#[101,100,103,101]⟩,⟨#[101,110,116,114,105,101,115]⟩,⟨#[102,97,108,115,101]⟩,⟨#[102,105,101,108,100]⟩,⟨#[102,108,111,111,114]⟩,⟨#[102,114,111,109]⟩,⟨#[105,100]⟩,⟨#[105,110]⟩,⟨#[105,110,110,101,114]⟩,⟨#[105,110,116,111]⟩,⟨#[108,105,110,107]⟩,⟨#[110,101,116,119,111,114,107]⟩,⟨#[110,111,100,101]⟩,⟨#[110,111,116]⟩,⟨#[111,112,101,110]⟩,⟨#[111,114]⟩,⟨#[112,97,116,104]⟩,⟨#[112,111,114,116]⟩,⟨#[112,114,105,99,101]⟩,⟨#[114,111,117,116,101]⟩,⟨#[114,117,108,101,115]⟩,⟨#[115,116,97,103,101]⟩,⟨#[116,97,107,101]⟩,⟨#[116,101,110,97,110,116]⟩,⟨#[116,104,101,110]⟩,⟨#[116,105,109,101]⟩,⟨#[116,111]⟩,⟨#[116,111,107,101,110]⟩,⟨#[116,114,97,110,115,108,97,116,101]⟩,⟨#[116,114,117,101]⟩,⟨#[118,105,97]⟩,⟨#[119,105,100,116,104]⟩,⟨#[119,105,114,101]⟩,⟨#[119,105,116,104,105,110]⟩]
instance : Glb := ⟨fun g => match g with | 0 => some (wordsG.map .str) | _ => none⟩
end Go.MM
end
section
namespace Go.MM
open Go Go.DL Go.Proofs
theorem mixed:Tryz.prog.follows .mixedOrders=true:=by kernel_rfl
abbrev I (n:Int):T:=.int .i64 n
end Go.MM
end
section
namespace Go.MM
open Go Go.DL Go.Proofs
end Go.MM
end
section
namespace Go.MM
open Go Go.DL Go.Proofs
end Go.MM
end
section
namespace Go.MM
open Go Go.DL Go.Proofs
theorem FJ {n:Nat} (h:n<2^63):IntKind.wrap .i64 (n:Int)=n:=mG (by omega) (by omega)
end Go.MM
end
section
namespace Go.MM
open Go Go.DL Go.Proofs
structure Fd where
 name:ByteArray
 a:Nat
 w:Nat
deriving Inhabited
def fd (f:Fd):T:=.agg [.str f.name,I f.a,I f.w]
structure FOk (f:Fd):Prop where
 a:f.a<160
 w1:1≤f.w
 w2:f.a % 16+f.w≤16
theorem t87 (n:Nat) (hn:n≤60):DCalls Tryz.prog 122 [I n] (I (2^n:Nat)):=by
 refine qO (rs:=[.tmp 2]) mixed Tryz.func122 LP rfl rfl rfl (r:=[I (2^n:Nat)]) (nlZ rfl) ?_
 refine rq (α:=Nat) (fun i=>{sl:=[(0,.t (I n)),(3,.t (I (2^i:Nat))),(4,.t (I i))],bx:=[]}) (fun i=>i≤n) (fun i=>n - i) 0 (by simp) ?_ ?_
 ·exact ⟨⟨.same _,.same _,.same _,trivial⟩,trivial,trivial,rfl,fun _ _ _=>trivial,rfl⟩
 rintro i hi
 refine rV trivial (fun hq=>?_) (fun hq=>?_)
 ·have h1:i<n:=by simpa using hq
  refine ⟨i+1,h1,by omega,?_⟩
  have h2:(2:Nat)^(i+1)≤2^60:=Nat.pow_le_pow_right (by decide) (by omega)
  refine ⟨⟨.same _,leI ?_,leI (by rw [mG] <;> omega),trivial⟩,trivial,trivial,rfl,fun _ _ _=>trivial,rfl⟩
  have e:((2^i:Nat):Int) * 2=((2^(i+1):Nat):Int):=by rw [Nat.pow_succ];push_cast;rfl
  rw [e,FJ (by omega)]
 ·have h1:i=n:=by simp at hq;omega
  subst h1
  exact ⟨rfl,trivial⟩
theorem FD {w:Nat} (h:w≤16):2^w≤65536:=Nat.pow_le_pow_right (by decide) h
theorem t66 (f:Fd) (h:FOk f):DCalls Tryz.prog 78 [fd f] (I (2^f.w - 1:Nat)):=by
 refine qO (rs:=[.tmp 2]) mixed Tryz.func78 l78 rfl rfl rfl (r:=[I (2^f.w - 1:Nat)]) (nlZ rfl) ?_
 have hw:f.w≤16:=by have:=h.w2;omega
 have hp:=Nat.two_pow_pos f.w
 refine And.intro rfl ?_
 refine sr (I f.w) (by decide) rfl ?_
 refine rE _ (t87 f.w (by omega)) ?_
 exact ⟨congrArg (fun n=>some (I n)) (by have:=FD hw;rw [mG] <;> omega),trivial⟩
theorem t97 (f:Fd) (h:FOk f):DCalls Tryz.prog 75 [fd f] (I (2^f.w - 1:Nat)):=by
 refine qO (rs:=[.tmp 2]) mixed Tryz.func75 l75 rfl rfl rfl (r:=[I (2^f.w - 1:Nat)]) (nlZ rfl) ?_
 have hw:f.w≤16:=by have:=h.w2;omega
 have hp:=Nat.two_pow_pos f.w
 have:=FD hw
 refine And.intro rfl ?_
 refine sr (I f.w) (by decide) rfl ?_
 refine And.intro (by omega) ?_
 refine ⟨congrArg (fun n=>some (I n)) ?_,trivial⟩
 have e:(1:Int) * 2^(min (f.w:Int).toNat (IntKind.bits .i64))=((2^f.w:Nat):Int):=by
  have:min (f.w:Int).toNat (IntKind.bits .i64)=f.w:=by show min _ 64=_;simp;omega
  rw [this];push_cast;rw [Int.one_mul]
 rw [e,FJ (by omega),mG] <;> omega
end Go.MM
end
section
namespace Go.MM
open Go Go.DL Go.Proofs
end Go.MM
end
section
namespace Go.MM
open Go Go.DL Go.Proofs
def s9:ByteArray:=⟨#[112,111,114,116]⟩
def yq:Fd:=⟨s9,0,16⟩
def zK:Fd:=⟨⟨#[]⟩,0,0⟩
def sC (a b:ByteArray):Bool:=a.data.toList==b.data.toList
theorem sI (a b:ByteArray):(a.toList==b.toList)=sC a b:=by unfold sC;rw [ByteArray.toList_eq,ByteArray.toList_eq]
def fds (l:List Fd):T:=.slice 3 (l.map fd)
def findF (l:List Fd) (s:ByteArray):Option Fd:=if sC s s9 then some yq else l.find? fun f=>sC f.name s
def uU (l:List Fd) (s:ByteArray):T:=match findF l s with
 |some f=>.tup [fd f,.bool true]
 |none=>.tup [fd zK,.bool false]
theorem t94:DCalls Tryz.prog 118 [] (fd yq):=by
 refine qO (rs:=[.cell 0 88]) mixed Tryz.func118 LL rfl rfl rfl (r:=[fd yq]) (nlZ rfl) ?_
 refine And.intro trivial ?_
 refine And.intro ⟨rfl,by decide⟩ ?_
 exact ⟨rfl,trivial⟩
theorem t83:DCalls Tryz.prog 121 [] (fd yq):=by
 refine qO (rs:=[.cell 0 88]) mixed Tryz.func121 LO rfl rfl rfl (r:=[fd yq]) (nlZ rfl) ?_
 refine And.intro trivial ?_
 refine And.intro ⟨rfl,by decide⟩ ?_
 exact ⟨rfl,trivial⟩
theorem t96 (f:Fd) (s:ByteArray):DCalls Tryz.prog 120 [fd f,.cptr [.str s] 0] (.bool (sC f.name s)):=by
 refine qO (rs:=[.tmp 3]) mixed Tryz.func120 LN rfl rfl rfl (r:=[.bool (sC f.name s)]) (nlZ rfl) ?_
 refine And.intro rfl ?_
 refine sr (.str f.name) (by decide) rfl ?_
 refine sr (.str s) (Nat.lt_succ_self 0) rfl ?_
 refine rW (sC f.name s) trivial (sI _ _) ?_
 exact ⟨rfl,trivial⟩
def u9 (l:List Fd) (s:ByteArray):Int:=match l.findIdx? fun f=>sC f.name s with
 |some i=>i
 |none=> -1
theorem t95 (l:List Fd) (s:ByteArray) (hl:l.length<2^60):DCalls Tryz.prog 119 [fds l,.clos 120 [.cptr [.str s] 0]] (I (u9 l s)):=by
 refine qO (rs:=[.tmp 4]) mixed Tryz.func119 LM rfl rfl rfl (r:=[I (u9 l s)]) (nlZ rfl) ?_
 refine rq (α:=Nat) (fun i=>{sl:=[(0,.t (fds l)),(1,.t (.clos 120 [.cptr [.str s] 0])),(7,.t (I l.length)),(8,.t (I i))],bx:=[]}) (fun i=>i≤l.length∧ ∀j (h:j<l.length),j<i→sC l[j].name s=false) (fun i=>l.length - i) 0 (by simp) ?_ ?_
 ·exact ⟨⟨.same _,.same _,leI (by simp),.same _,trivial⟩,trivial,trivial,rfl,fun _ _ _=>trivial,rfl⟩
 rintro i ⟨hi,hp⟩
 refine rV trivial (fun hq=>?_) (fun hq=>?_)
 ·have h1:i<l.length:=by simpa using hq
  refine sr (fd l[i]) (by simpa using h1) (by simp [h1]) ?_
  refine sr (fd l[i]) rfl rfl ?_
  refine rE _ (t96 l[i] s) ?_
  cases hm:sC l[i].name s with
  |true=>
   have:u9 l s=i:=by
    unfold u9
    rw [List.findIdx?_eq_some_iff_getElem.2 ⟨h1,hm,fun j hj=>by simp [hp j (by omega) hj]⟩]
   exact ⟨congrArg (fun n=>some (I n)) this.symm,trivial⟩
  |false=>
   refine ⟨i+1,⟨h1,fun j hj hlt=>?_⟩,by omega,?_⟩
   ·rcases Nat.lt_or_ge j i with h4|h4
    ·exact hp j hj h4
    ·obtain rfl:j=i:=by omega
     exact hm
   ·exact ⟨⟨.same _,.same _,.same _,leI (by rw [mG] <;> omega),trivial⟩,trivial,trivial,rfl,fun _ _ _=>trivial,rfl⟩
 ·have hge:l.length≤i:=by simpa using hq
  have:u9 l s= -1:=by
   unfold u9
   rw [List.findIdx?_eq_none_iff.2 fun f hf=>by
    obtain ⟨j,hj,rfl⟩:=List.mem_iff_getElem.1 hf
    exact hp j hj (by omega)]
  exact ⟨congrArg (fun n=>some (I n)) this.symm,trivial⟩
theorem zT (l:List Fd) (s:ByteArray):(u9 l s= -1∧l.find? (fun f=>sC f.name s)=none)∨ ∃(i:Nat) (h:i<l.length),u9 l s=i∧l.find? (fun f=>sC f.name s)=some l[i]:=by
 unfold u9
 cases hf:l.findIdx? fun f=>sC f.name s with
 |none=>exact .inl ⟨rfl,by rw [List.find?_eq_none];intro f hm;simpa using List.findIdx?_eq_none_iff.1 hf f hm⟩
 |some i=>
  obtain ⟨h1,h2,h3⟩:=List.findIdx?_eq_some_iff_getElem.1 hf
  refine .inr ⟨i,h1,rfl,?_⟩
  rw [List.find?_eq_some_iff_getElem]
  exact ⟨h2,i,h1,rfl,fun j hj=>by simpa using h3 j hj⟩
theorem t74 (l:List Fd) (s:ByteArray) (hl:l.length<2^60):DCalls Tryz.prog 74 [fds l,.str s] (uU l s):=by
 unfold uU findF
 have go: ∀(f:Fd) (b:Bool),wpC Tryz.prog c74 (eU [fds l,.str s]) (nW (dF Tryz.prog) [.cell 4 88,.tmp 5] [fd f,.bool b])→DCalls Tryz.prog 74 [fds l,.str s] (.tup [fd f,.bool b]):=fun f b h=>
  qO (rs:=[.cell 4 88,.tmp 5]) mixed Tryz.func74 l74 rfl rfl rfl (r:=[fd f,.bool b]) (nlZ rfl) h
 by_cases hp:sC s s9=true
 ·rw [if_pos hp]
  refine go _ _ ?_
  refine And.intro trivial ?_
  refine sr (.str s) (by decide) rfl ?_
  refine rE _ t94 ?_
  refine sr (.str s9) (by decide) rfl ?_
  refine rW true trivial ((sI _ _).trans hp) ?_
  refine rE _ t94 ?_
  refine And.intro ⟨rfl,by decide⟩ ?_
  exact ⟨rfl,rfl,trivial⟩
 ·rw [if_neg hp]
  have hp:sC s s9=false:=by simpa using hp
  have pre: ∀(f:Fd) (b:Bool),(∃ i,u9 l s=i∧(i= -1∧f=zK∧b=false∨ ∃(k:Nat) (h:k<l.length),i=k∧f=l[k]∧b=true))→wpC Tryz.prog c74 (eU [fds l,.str s]) (nW (dF Tryz.prog) [.cell 4 88,.tmp 5] [fd f,.bool b]):=fun f b ⟨i,hi,h⟩=>by
   refine And.intro trivial ?_
   refine sr (.str s) (by decide) rfl ?_
   refine rE _ t94 ?_
   refine sr (.str s9) (by decide) rfl ?_
   refine rW false trivial ((sI _ _).trans hp) ?_
   refine ⟨I i,hi▸t95 l s hl,rfl,?_⟩
   rcases h with ⟨rfl,rfl,rfl⟩|⟨k,hk,rfl,rfl,rfl⟩
   ·refine rW true trivial (by decide) ?_
    refine And.intro trivial ?_
    refine And.intro ⟨rfl,by decide⟩ ?_
    exact ⟨rfl,rfl,trivial⟩
   ·refine rW false trivial (by simp) ?_
    refine sr (fd l[k]) (by simpa using hk) (by simp [hk]) ?_
    refine sr (fd l[k]) rfl rfl ?_
    refine And.intro ⟨rfl,by decide⟩ ?_
    exact ⟨rfl,rfl,trivial⟩
  rcases zT l s with ⟨h1,h2⟩|⟨k,hk,h1,h2⟩
  ·rw [h2]
   exact go _ _ (pre _ _ ⟨-1,h1,.inl ⟨rfl,rfl,rfl⟩⟩)
  ·rw [h2]
   exact go _ _ (pre _ _ ⟨k,h1,.inr ⟨k,hk,rfl,rfl,rfl⟩⟩)
theorem t51 (l:List Fd) (s:ByteArray) (hl:l.length<2^60):DCalls Tryz.prog 77 [fds l,.str s] (uU l s):=by
 unfold uU findF
 have go: ∀(f:Fd) (b:Bool),wpC Tryz.prog c77 (eU [fds l,.str s]) (nW (dF Tryz.prog) [.cell 4 88,.tmp 5] [fd f,.bool b])→DCalls Tryz.prog 77 [fds l,.str s] (.tup [fd f,.bool b]):=fun f b h=>
  qO (rs:=[.cell 4 88,.tmp 5]) mixed Tryz.func77 l77 rfl rfl rfl (r:=[fd f,.bool b]) (nlZ rfl) h
 by_cases hp:sC s s9=true
 ·rw [if_pos hp]
  refine go _ _ ?_
  refine rW true trivial ((sI _ _).trans hp) ?_
  refine rE _ t83 ?_
  refine And.intro ⟨rfl,by decide⟩ ?_
  exact ⟨rfl,rfl,trivial⟩
 ·rw [if_neg hp]
  have hp:sC s s9=false:=by simpa using hp
  have pre: ∀(f:Fd) (b:Bool),(∃ i,u9 l s=i∧(i= -1∧f=zK∧b=false∨ ∃(k:Nat) (h:k<l.length),i=k∧f=l[k]∧b=true))→wpC Tryz.prog c77 (eU [fds l,.str s]) (nW (dF Tryz.prog) [.cell 4 88,.tmp 5] [fd f,.bool b]):=fun f b ⟨i,hi,h⟩=>by
   refine rW false trivial ((sI _ _).trans hp) ?_
   refine rq (α:=Nat) (fun i=>{sl:=[(0,.t (fds l)),(1,.t (.str s)),(4,.ptr 4 0),(6,.t (I i))],bx:=[(4,.d 3 [.str ⟨#[]⟩,I 0,I 0])]}) (fun i=>i≤l.length∧ ∀j (h:j<l.length),j<i→sC l[j].name s=false) (fun i=>l.length - i) 0 (by simp) ?_ ?_
   ·exact ⟨⟨.same _,.same _,.same _,.same _,trivial⟩,⟨.same _,trivial⟩,trivial,rfl,fun _ _ _=>trivial,rfl⟩
   rintro j ⟨hj,hpj⟩
   refine rV trivial (fun hq=>?_) (fun hq=>?_)
   ·have h1:j<l.length:=by simpa using hq
    refine sr (fd l[j]) (by simpa using h1) (by simp [h1]) ?_
    refine sr (.str l[j].name) (show 0+0<3 by decide) rfl ?_
    cases hm:sC l[j].name s with
    |true=>
     refine rW true trivial ((sI _ _).trans hm) ?_
     refine sr (fd l[j]) (by simpa using h1) (by simp [h1]) ?_
     refine sr (fd l[j]) rfl rfl ?_
     refine And.intro ⟨rfl,by decide⟩ ?_
     have e:u9 l s=j:=by
      unfold u9
      rw [List.findIdx?_eq_some_iff_getElem.2 ⟨h1,hm,fun j' hj'=>by simp [hpj j' (by omega) hj']⟩]
     rcases h with ⟨rfl,rfl,rfl⟩|⟨k,hk,rfl,rfl,rfl⟩
     ·omega
     ·obtain rfl:k=j:=by omega
      exact ⟨rfl,rfl,trivial⟩
    |false=>
     refine rW false trivial ((sI _ _).trans hm) ?_
     refine ⟨j+1,⟨h1,fun j' hj' hlt=>?_⟩,by omega,?_⟩
     ·rcases Nat.lt_or_ge j' j with h4|h4
      ·exact hpj j' hj' h4
      ·obtain rfl:j'=j:=by omega
       exact hm
     ·exact ⟨⟨.same _,.same _,.same _,leI (by rw [mG] <;> omega),trivial⟩,⟨.same _,trivial⟩,trivial,rfl,fun _ _ _=>trivial,rfl⟩
   ·have hge:l.length≤j:=by simpa using hq
    have e:u9 l s= -1:=by
     unfold u9
     rw [List.findIdx?_eq_none_iff.2 fun f hf=>by
      obtain ⟨j',hj',rfl⟩:=List.mem_iff_getElem.1 hf
      exact hpj j' hj' (by omega)]
    rcases h with ⟨rfl,rfl,rfl⟩|⟨k,hk,rfl,rfl,rfl⟩
    ·refine And.intro trivial ?_
     refine And.intro ⟨rfl,by decide⟩ ?_
     exact ⟨rfl,rfl,trivial⟩
    ·omega
  rcases zT l s with ⟨h1,h2⟩|⟨k,hk,h1,h2⟩
  ·rw [h2]
   exact go _ _ (pre _ _ ⟨-1,h1,.inl ⟨rfl,rfl,rfl⟩⟩)
  ·rw [h2]
   exact go _ _ (pre _ _ ⟨k,h1,.inr ⟨k,hk,rfl,rfl,rfl⟩⟩)
end Go.MM
end
section
namespace Go.MM
open Go Go.DL Go.Proofs
abbrev nm0:T:=.str ⟨#[]⟩
def fld (l:List Fd) (f:ByteArray):Fd:=(findF l f).getD zK
structure LOk (l:List Fd):Prop where
 len:l.length<2^60
 ok: ∀f∈l,FOk f
theorem Gv {l:List Fd} {f:ByteArray} {F:Fd} (h:findF l f=some F):fld l f=F:=by unfold fld;rw [h];rfl
theorem G5:FOk yq:=⟨by decide,by decide,by decide⟩
theorem LOk.find {l:List Fd} (h:LOk l) {s:ByteArray} {f:Fd} (hf:findF l s=some f):FOk f:=by
 unfold findF at hf
 split at hf
 ·cases hf;exact G5
 ·exact h.ok f (List.mem_of_find?_eq_some hf)
end Go.MM
end
section
namespace Go.MM
open Go Go.DL Go.Proofs
end Go.MM
end
section
namespace Go.MM
open Go Go.DL Go.Proofs
inductive RP where
 |mk (kind:Int) (field:ByteArray) (n m:Int) (args:List RP)
namespace RP
def kind:RP→Int|.mk k _ _ _ _=>k
def field:RP→ByteArray|.mk _ f _ _ _=>f
def n:RP→Int|.mk _ _ n _ _=>n
def m:RP→Int|.mk _ _ _ m _=>m
def args:RP→List RP|.mk _ _ _ _ a=>a
end RP
mutual
def sL:RP→T
 |.mk k f n m a=>.agg [I k,.str f,I n,I m,.slice 5 (BP a)]
def BP:List RP→List T
 |[]=>[]
 |r::rs=>sL r::BP rs
end
theorem zO: ∀l:List RP,BP l=l.map sL
 |[]=>rfl
 |r::rs=>congrArg (sL r:: ·) (zO rs)
def sB:RP→List T
 |.mk k f n m a=>[I k,.str f,I n,I m,.slice 5 (a.map sL)]
theorem sF (r:RP):sL r= .agg (sB r):=by
 cases r;simp only [sL,sB,zO]
theorem sD (r:RP):(sB r).length=5:=by cases r;rfl
inductive RO where
 |mk (kind:Int) (pred:RP) (field:ByteArray) (n:Int) (args:List RO)
namespace RO
def kind:RO→Int|.mk k _ _ _ _=>k
def pred:RO→RP|.mk _ p _ _ _=>p
def field:RO→ByteArray|.mk _ _ f _ _=>f
def n:RO→Int|.mk _ _ _ n _=>n
def args:RO→List RO|.mk _ _ _ _ a=>a
end RO
mutual
def sZ:RO→T
 |.mk k p f n a=>.agg (I k::(sB p++[.str f,I n,.slice 9 (BQ a)]))
def BQ:List RO→List T
 |[]=>[]
 |r::rs=>sZ r::BQ rs
end
theorem zP: ∀l:List RO,BQ l=l.map sZ
 |[]=>rfl
 |r::rs=>congrArg (sZ r:: ·) (zP rs)
def sA:RO→List T
 |.mk k p f n a=>I k::(sB p++[.str f,I n,.slice 9 (a.map sZ)])
theorem sJ (r:RO):sZ r= .agg (sA r):=by
 cases r;simp only [sZ,sA,zP]
theorem sE (r:RO):(sA r).length=9:=by cases r;simp [sA,sD]
mutual
def RP.nodes:RP→Nat
 |.mk _ _ _ _ a=>1+sK a
def sK:List RP→Nat
 |[]=>0
 |r::rs=>r.nodes+sK rs
end
mutual
def RP.depth:RP→Nat
 |.mk _ _ _ _ a=>1+tH a
def tH:List RP→Nat
 |[]=>0
 |r::rs=>max r.depth (tH rs)
end
mutual
theorem RP.vA: ∀r:RP,r.depth≤r.nodes
 |.mk _ _ _ _ a=>by have:=wk a;simp only [RP.depth,RP.nodes];omega
theorem wk: ∀l:List RP,tH l≤sK l
 |[]=>Nat.le_refl _
 |r::rs=>by have:=RP.vA r;have:=wk rs;simp only [tH,sK];omega
end
theorem tG: ∀{l:List RP} {j:Nat} (h:j<l.length),sK (l.take (j+1))=sK (l.take j)+l[j].nodes
 |r::rs,0,h=>by simp [sK]
 |r::rs,j+1,h=>by
  have:=tG (l:=rs) (j:=j) (by simpa using h)
  simp only [List.take_succ_cons,sK,List.getElem_cons_succ]
  omega
theorem wC: ∀{l:List RP} {j:Nat} (h:j<l.length),tH (l.take (j+1))=max (tH (l.take j)) l[j].depth
 |r::rs,0,h=>by simp [tH]
 |r::rs,j+1,h=>by
  have:=wC (l:=rs) (j:=j) (by simpa using h)
  simp only [List.take_succ_cons,tH,List.getElem_cons_succ]
  omega
theorem tF: ∀{l:List RP} {j:Nat},sK (l.take j)≤sK l
 |[],j=>by simp
 |r::rs,0=>by simp [sK]
 |r::rs,j+1=>by
  have:=tF (l:=rs) (j:=j)
  simp only [List.take_succ_cons,sK]
  omega
theorem RP.uc (r:RP):1≤r.nodes:=by cases r;simp only [RP.nodes];omega
theorem tU: ∀l:List RP,l.length≤sK l
 |[]=>Nat.le_refl _
 |r::rs=>by have:=tU rs;have:=r.uc;simp only [sK,List.length_cons];omega
def sz (n d:Nat):T:=.agg [I n,I d]
theorem t102 (a b c d:Nat) (h1:a+c<2^62) (_:b<2^62) (h3:d<2^62):DCalls Tryz.prog 94 [sz a b,sz c d] (sz (a+c) (max b (d+1))):=by
 refine qO (rs:=[.cell 4 51]) mixed Tryz.func94 l94 rfl rfl rfl (r:=[sz (a+c) (max b (d+1))]) (nlZ rfl) ?_
 repeat' ((conv=>whnf);first|refine nT_ ?_|refine aS ?_|fail)
 refine And.intro (congrArg some ?_) trivial
 simp (disch:=omega) only [mG,aN,List.take,List.drop,List.nil_append,List.cons_append]
 unfold sz I
 have e:(if (d:Int)+1>(b:Int) then (d:Int)+1 else (b:Int))=((max b (d+1):Nat):Int):=by split <;> omega
 rw [e,Int.natCast_add]
theorem t103 (N:Nat): ∀r:RP,r.nodes≤N→N<2^60→DCalls Tryz.prog 67 [.agg (sB r)] (sz r.nodes r.depth):=by
 induction N with
 |zero=>intro r h;have:=r.uc;omega
 |succ N ih=>
  rintro ⟨k,f,n,m,l⟩ hr hN
  refine qO (rs:=[.cell 2 51]) mixed Tryz.func67 l67 rfl rfl rfl (r:=[sz _ _]) (nlZ rfl) ?_
  simp only [RP.nodes,RP.depth] at hr ⊢
  repeat' ((conv=>whnf);first|refine aS ?_|fail)
  refine rq (α:=Nat) (fun i=>{sl:=[(1,.ptr 1 0),(2,.ptr 2 0),(3,.ptr 3 0),(4,.t (I i))],bx:=[(1,.d 5 (sB (.mk k f n m l))),(2,.d 2 [I 0,I 0]),(3,.d 2 [I (1+sK (l.take i):Nat),I (1+tH (l.take i):Nat)])]})
   (fun i=>i≤l.length) (fun i=>l.length - i) 0 (by omega) ?_ ?_
  ·repeat' (first|exact trivial|exact LeV.same _|exact LeB.same _|exact rfl|exact fun _ _ _=>trivial|refine And.intro ?_ ?_)
  rintro i hi
  rcases Nat.lt_or_ge i l.length with h|h
  ·have hn:=tG h
   have hd:=wC h
   have hm:=tF (l:=l) (j:=i+1)
   have hp:=l[i].uc
   have hl:=tU l
   have hdn:=l[i].vA
   have hd1:=wk (l.take i)
   repeat' ((conv=>whnf);first|(refine nv_ (.agg (sB l[i])) (by first|(simp [h,sF];done)|fail) ?_)|refine rE _ (ih l[i] (by omega) (by omega)) ?_|refine rE _ (t102 _ _ _ _ (by omega) (by omega) (by omega)) ?_|refine nT_ ?_|refine aD1 ?_|(refine And.intro (by first|exact sD _|fail) ?_)|refine aS ?_|fail)
   refine ⟨i+1,by omega,by omega,?_⟩
   repeat' (first|exact trivial|exact LeV.same _|exact LeB.same _|exact rfl|exact fun _ _ _=>trivial|exact lI|refine su ?_|refine And.intro ?_ ?_)
   rw [hn,hd,show 1+(sK (l.take i)+l[i].nodes)=1+sK (l.take i)+l[i].nodes by omega,show 1+max (tH (l.take i)) l[i].depth=max (1+tH (l.take i)) (l[i].depth+1) by omega]
   rfl
  ·have:i=l.length:=by omega
   subst this
   rw [List.take_length]
   repeat' ((conv=>whnf);first|exact trivial|refine nT_ ?_|refine aD0 ?_|refine aS ?_|fail)
end Go.MM
end
section
namespace Go.MM
open Go Go.DL Go.Proofs
def wL:List ByteArray:=[⟨#[97,110,100]⟩,
 ⟨#[97,110,121]⟩,
 ⟨#[97,116]⟩,
 ⟨#[98,97,99,107]⟩,
 ⟨#[98,111,120]⟩,
 ⟨#[98,117,114,115,116]⟩,
 ⟨#[98,121]⟩,
 ⟨#[99,97,112,97,99,105,116,121]⟩,
 ⟨#[99,101,105,108,105,110,103]⟩,
 ⟨#[99,104,101,99,107]⟩,
 ⟨#[99,111,110,116,114,97,99,116]⟩,
 ⟨#[99,111,117,110,116]⟩,
 ⟨#[100,101,109,97,110,100]⟩,
 ⟨#[100,114,111,112]⟩,
 ⟨#[101,97,99,104]⟩,
 ⟨#[101,100,103,101]⟩,
 ⟨#[101,110,116,114,105,101,115]⟩,
 ⟨#[102,97,108,115,101]⟩,
 ⟨#[102,105,101,108,100]⟩,
 ⟨#[102,108,111,111,114]⟩,
 ⟨#[102,114,111,109]⟩,
 ⟨#[105,100]⟩,
 ⟨#[105,110]⟩,
 ⟨#[105,110,110,101,114]⟩,
 ⟨#[105,110,116,111]⟩,
 ⟨#[108,105,110,107]⟩,
 ⟨#[110,101,116,119,111,114,107]⟩,
 ⟨#[110,111,100,101]⟩,
 ⟨#[110,111,116]⟩,
 ⟨#[111,112,101,110]⟩,
 ⟨#[111,114]⟩,
 ⟨#[112,97,116,104]⟩,
 ⟨#[112,111,114,116]⟩,
 ⟨#[112,114,105,99,101]⟩,
 ⟨#[114,111,117,116,101]⟩,
 ⟨#[114,117,108,101,115]⟩,
 ⟨#[115,116,97,103,101]⟩,
 ⟨#[116,97,107,101]⟩,
 ⟨#[116,101,110,97,110,116]⟩,
 ⟨#[116,104,101,110]⟩,
 ⟨#[116,105,109,101]⟩,
 ⟨#[116,111]⟩,
 ⟨#[116,111,107,101,110]⟩,
 ⟨#[116,114,97,110,115,108,97,116,101]⟩,
 ⟨#[116,114,117,101]⟩,
 ⟨#[118,105,97]⟩,
 ⟨#[119,105,100,116,104]⟩,
 ⟨#[119,105,114,101]⟩,
 ⟨#[119,105,116,104,105,110]⟩]
def tO (c:Int):Bool:=decide (97≤c)&&decide (c≤122)
def uF (c:Int):Bool:=decide (48≤c)&&decide (c≤57)
def uW (c:Int):Bool:=tO c||uF c||c==95
def tE (s:ByteArray) (i:Nat):Int:=((s.toList[i]?.getD 0).toNat:Int)
abbrev U (n:Int):T:=.int .u8 n
theorem t110 (c:Int):DCalls Tryz.prog 197 [U c] (.bool (tO c)):=by
 refine qO (rs:=[.tmp 2]) mixed Tryz.func197 ME rfl rfl rfl (r:=[.bool _]) (nlZ rfl) ?_
 unfold tO
 repeat' ((conv=>whnf);first|exact trivial|refine nD_ (fun hq=>?_) (fun hq=>?_)|refine rb1 ?_|refine rb0 ?_|refine aS ?_|fail)
theorem t115 (c:Int):DCalls Tryz.prog 217 [U c] (.bool (uF c)):=by
 refine qO (rs:=[.tmp 2]) mixed Tryz.func217 MO rfl rfl rfl (r:=[.bool _]) (nlZ rfl) ?_
 unfold uF
 repeat' ((conv=>whnf);first|exact trivial|refine nD_ (fun hq=>?_) (fun hq=>?_)|refine rb1 ?_|refine rb0 ?_|refine aS ?_|fail)
theorem t114 (c:Int):DCalls Tryz.prog 214 [U c] (.bool (uW c)):=by
 refine qO (rs:=[.tmp 2]) mixed Tryz.func214 MN rfl rfl rfl (r:=[.bool _]) (nlZ rfl) ?_
 unfold uW
 have h1:=t110 c
 have h2:=t115 c
 generalize tO c=a at *
 generalize uF c=b at *
 cases a <;> cases b
 all_goals repeat' ((conv=>whnf);first|exact trivial|refine rE _ (h1) ?_|refine rE _ (h2) ?_|refine nE_ (fun hq=>?_) (fun hq=>?_)|refine rb1 ?_|refine rb0 ?_|refine aS ?_|fail)
theorem t113:DCalls Tryz.prog 213 [] (.slice 1 (wL.map .str)):=by
 refine qO (rs:=[.tmp 0]) mixed Tryz.func213 ML rfl rfl rfl (r:=[.slice 1 (wL.map .str)]) (nlZ rfl) ?_
 repeat' ((conv=>whnf);first|exact trivial|refine aS ?_|fail)
def vC (s:ByteArray):Bool:=wL.any fun w=>sC w s
theorem t111 (s:ByteArray):DCalls Tryz.prog 198 [.str s] (.bool (vC s)):=by
 refine qO (rs:=[.tmp 2]) mixed Tryz.func198 MF rfl rfl rfl (r:=[.bool _]) (nlZ rfl) ?_
 unfold vC
 have hw:wL.length=49:=rfl
 have h0:=t113
 generalize wL=ws at *
 repeat' ((conv=>whnf);first|refine rE _ (h0) ?_|fail)
 refine rq (α:=Nat) (fun i=>{sl:=[(0,.t (.str s)),(3,.t (.slice 1 (ws.map .str))),(4,.t (I i))],bx:=[]})
  (fun i=>i≤ws.length∧ ∀j (h:j<ws.length),j<i→sC ws[j] s=false) (fun i=>ws.length - i) 0 (by simp) ?_ ?_
 ·repeat' (first|exact trivial|exact LeV.same _|exact rfl|exact fun _ _ _=>trivial|refine And.intro ?_ ?_)
 rintro i ⟨hi,hp⟩
 rcases Nat.lt_or_ge i ws.length with h|h
 ·cases hb:sC ws[i] s with
  |true=>
   have e:(ws.any fun w=>sC w s)=true:=List.any_eq_true.2 ⟨_,List.getElem_mem h,hb⟩
   rw [e]
   repeat' ((conv=>whnf);first|exact trivial|(refine nv_ (.str ws[i]) (by first|(simp [h];done)|fail) ?_)|refine nb_ true ((sI _ _).trans hb) ?_|refine nT_ ?_|refine aD1 ?_|refine rb1 ?_|refine aS ?_|fail)
  |false=>
   repeat' ((conv=>whnf);first|(refine nv_ (.str ws[i]) (by first|(simp [h];done)|fail) ?_)|refine nb_ false ((sI _ _).trans hb) ?_|refine nT_ ?_|refine aD1 ?_|refine aS ?_|fail)
   refine ⟨i+1,⟨h,fun j hj hlt=>?_⟩,by omega,?_⟩
   ·rcases Nat.lt_or_ge j i with h4|h4
    ·exact hp j hj h4
    ·obtain rfl:j=i:=by omega
     exact hb
   ·repeat' (first|exact trivial|exact LeV.same _|exact rfl|exact fun _ _ _=>trivial|exact lI|refine And.intro ?_ ?_)
 ·have e:(ws.any fun w=>sC w s)=false:=by
   rw [List.any_eq_false]
   intro w hw
   obtain ⟨j,hj,rfl⟩:=List.getElem_of_mem hw
   simp [hp j hj (by omega)]
  rw [e]
  repeat' ((conv=>whnf);first|exact trivial|refine aD0 ?_|refine rb0 ?_|refine aS ?_|fail)
def tY:List UInt8→Nat
 |[]=>0
 |b::bs=>if uW (b.toNat:Int) then 1+tY bs else 0
theorem v8: ∀{l:List UInt8} {n:Nat},n≤l.length→(∀ j,j<n→uW ((l[j]?.getD 0).toNat:Int)=true)→(n=l.length∨uW ((l[n]?.getD 0).toNat:Int)=false)→tY l=n
 |[],n,hn,_,_=>by simp at hn;simp [tY,hn]
 |b::bs,0,hn,_,h=>by
  rcases h with h|h
  ·simp at h
  ·simp at h;simp [tY,h]
 |b::bs,n+1,hn,hp,h=>by
  have h0:=hp 0 (by omega)
  simp at h0
  have:=v8 (l:=bs) (n:=n) (by simpa using hn) (fun j hj=>by simpa using hp (j+1) (by omega)) (by simpa using h)
  simp [tY,h0,this];omega
theorem uT (s:ByteArray):s.toList.length=s.size:=by rw [ByteArray.toList_eq];rfl
theorem t112 (s:ByteArray) (hs:s.size<2^62):DCalls Tryz.prog 199 [.str s] (I (tY s.toList)):=by
 refine qO (rs:=[.tmp 2]) mixed Tryz.func199 MG rfl rfl rfl (r:=[.int _ _]) (nlZ rfl) ?_
 have hl:=uT s
 skip
 refine rq (α:=Nat) (fun i=>{sl:=[(0,.t (.str s)),(3,.t (I i))],bx:=[]})
  (fun i=>i≤s.size∧ ∀j,j<i→uW (tE s j)=true) (fun i=>s.size - i) 0 (by simp) ?_ ?_
 ·repeat' (first|exact trivial|exact LeV.same _|exact rfl|exact fun _ _ _=>trivial|refine And.intro ?_ ?_)
 rintro i ⟨hi,hp⟩
 rcases Nat.lt_or_ge i s.size with h|h
 ·have h0:=t114 (tE s i)
  cases hb:uW (tE s i) with
  |true=>
   rw [hb] at h0
   repeat' ((conv=>whnf);first|refine rE _ (h0) ?_|refine nT_ ?_|refine aD1 ?_|refine aS ?_|fail)
   refine ⟨i+1,⟨h,fun j hj=>?_⟩,by omega,?_⟩
   ·rcases Nat.lt_or_ge j i with h4|h4
    ·exact hp j h4
    ·obtain rfl:j=i:=by omega
     exact hb
   ·repeat' (first|exact trivial|exact LeV.same _|exact rfl|exact fun _ _ _=>trivial|exact lI|refine And.intro ?_ ?_)
  |false=>
   rw [hb] at h0
   have e:tY s.toList=i:=v8 (by omega) hp (.inr hb)
   rw [e]
   repeat' ((conv=>whnf);first|exact trivial|refine rE _ (h0) ?_|refine nT_ ?_|refine aD1 ?_|refine rix ?_|refine aS ?_|fail)
 ·have e:tY s.toList=i:=v8 (by omega) hp (.inl (by omega))
  rw [e]
  repeat' ((conv=>whnf);first|exact trivial|refine aD0 ?_|refine rix ?_|refine aS ?_|fail)
def uz (s:ByteArray):Bool:=decide (0<s.size)&&decide (s.size≤24)&&tO (tE s 0)&&(tY s.toList==s.size)&& !vC s
theorem t109 (s:ByteArray) (hs:s.size<2^62):DCalls Tryz.prog 169 [.str s] (.bool (uz s)):=by
 refine qO (rs:=[.tmp 2]) mixed Tryz.func169 Mu rfl rfl rfl (r:=[.bool _]) (nlZ rfl) ?_
 unfold uz
 have h1:=t110 (tE s 0)
 have h2:=t111 s
 have h3:=t112 s hs
 generalize tO (tE s 0)=a at *
 generalize vC s=w at *
 generalize tY s.toList=n at *
 by_cases hz:s.size=0
 ·simp [hz]
  repeat' ((conv=>whnf);first|exact trivial|refine aE1 ?_|refine rb0 ?_|refine aS ?_|fail)
 ·by_cases h24:s.size≤24
  ·simp [h24,show 0<s.size by omega]
   cases a <;> cases w <;> repeat' ((conv=>whnf);first|exact trivial|refine rE _ (h1) ?_|refine rE _ (h2) ?_|refine rE _ (h3) ?_|refine nT_ ?_|refine aE0 ?_|refine aD0 ?_|refine nE_ (fun hq=>?_) (fun hq=>?_)|refine rb1 ?_|refine rb0 ?_|refine aS ?_|fail)
  ·simp [h24]
   repeat' ((conv=>whnf);first|exact trivial|refine aE0 ?_|refine aD1 ?_|refine rb0 ?_|refine aS ?_|fail)
theorem t108 (s:ByteArray) (hs:s.size<2^62):DCalls Tryz.prog 155 [.str s] (.bool (uz s)):=by
 refine qO (rs:=[.tmp 2]) mixed Tryz.func155 Ml rfl rfl rfl (r:=[.bool _]) (nlZ rfl) ?_
 have h1:=t109 s hs
 repeat' ((conv=>whnf);first|exact trivial|refine rE _ (h1) ?_|refine rbx ?_|fail)
def sV (s:ByteArray):Bool:=uz s||sC s s9
theorem t104 (s:ByteArray) (hs:s.size<2^62):DCalls Tryz.prog 129 [.str s] (.bool (sV s)):=by
 refine qO (rs:=[.tmp 2]) mixed Tryz.func129 LX rfl rfl rfl (r:=[.bool _]) (nlZ rfl) ?_
 have h1:=t108 s hs
 unfold sV
 have h2:=sI s s9
 generalize uz s=a at *
 generalize sC s s9=b at *
 cases a <;> cases b <;> repeat' ((conv=>whnf);first|exact trivial|refine rE _ (h1) ?_|refine nb_ _ h2 ?_|refine rb1 ?_|refine rb0 ?_|refine aS ?_|fail)
end Go.MM
end
section
namespace Go.MM
open Go Go.DL Go.Proofs
abbrev e0:ByteArray:=⟨#[]⟩
def ui:RP→Bool
 |.mk k f n m a=>(k==0)&&sC f e0&&(n==0)&&(m==0)&&(a.length==0)
theorem t105 (r:RP):DCalls Tryz.prog 51 [.agg (sB r),.agg [I 0,.str e0,I 0,I 0,.nil]] (.bool (ui r)):=by
 obtain ⟨k,f,n,m,l⟩:=r
 refine qO (rs:=[.tmp 4]) mixed Tryz.func51 l51 rfl rfl rfl (r:=[.bool _]) (nlZ rfl) ?_
 simp only [ui]
 have h2:=sI f e0
 generalize sC f e0=b at *
 cases l <;> repeat' ((conv=>whnf);first|exact trivial|refine nb_ (!b) (congrArg _ h2) ?_|refine nT_ ?_|refine aN1 ?_|refine aN0 ?_|refine nN_ (fun hq=>?_) (fun hq=>?_)|refine rb0 ?_|refine aS ?_|(cases b)|fail)
 refine rq (α:=Unit) (fun _=>{sl:=[(2,.ptr 2 0),(3,.ptr 3 0),(5,.t (I 0))],bx:=[(2,.d 5 (sB (.mk k f n m []))),(3,.d 5 [I 0,.str e0,I 0,I 0,.nil])]}) (fun _=>True) (fun _=>0) () trivial ?_ ?_
 ·repeat' (first|exact trivial|exact LeV.same _|exact LeB.same _|exact rfl|exact fun _ _ _=>trivial|refine And.intro ?_ ?_)
 rintro _ _
 repeat' ((conv=>whnf);first|exact trivial|refine nT_ ?_|refine aD0 ?_|refine rb1 ?_|refine aS ?_|fail)
def tQ (n:Int):Bool:=decide (0≤n)&&decide (n≤65535)
def vl (f:ByteArray) (n m:Int):Bool:=sC f e0&&(n==0)&&(m==0)
def xE (k:Int):Nat:=if k=6 then 1 else if k=7∨k=8 then 2 else 0
def okP (k:Int) (f:ByteArray) (n m:Int):Bool:=
 if k=1∨k=2 then vl f n m
 else if k=3 then sV f&&tQ n&&(m==0)
 else if k=4 then sV f&&tQ n&&decide (0≤m)&&decide (m≤16)
 else if k=5 then sV f&&decide (0≤n)&&decide (n≤m)&&decide (m≤65535)
 else if k=6∨k=7∨k=8 then vl f n m
 else if k=9 then sC f e0&&decide (0≤n)&&decide (n<m)&&decide (m≤1073741824)
 else false
mutual
def sM:RP→Bool
 |.mk k f n m a=>okP k f n m&&(a.length==xE k)&&tx a
def tx:List RP→Bool
 |[]=>true
 |r::rs=>sM r&&tx rs
end
theorem wF: ∀{l:List RP},tx l=true↔ ∀(i:Nat) (h:i<l.length),sM l[i]=true
 |[]=>by simp [tx]
 |r::rs=>by
  simp only [tx,Bool.and_eq_true,wF (l:=rs)]
  constructor
  ·rintro ⟨h0,h⟩ i hi
   cases i with
   |zero=>exact h0
   |succ i=>simpa using h i (by simpa using hi)
  ·intro h
   exact ⟨h 0 (by simp),fun i hi=>h (i+1) (by simpa using hi)⟩
mutual
def uk:RP→Prop
 |.mk _ f _ _ a=>f.size<2^62∧xr a
def xr:List RP→Prop
 |[]=>True
 |r::rs=>uk r∧xr rs
end
theorem w7: ∀{l:List RP},xr l→ ∀(i:Nat) (h:i<l.length),uk l[i]
 |[],_,i,h=>by simp at h
 |r::rs,h,i,hi=>by
  cases i with
  |zero=>exact h.1
  |succ i=>simpa using w7 h.2 i (by simpa using hi)
theorem t106 (N:Nat): ∀r:RP,r.nodes≤N→N<2^60→uk r→DCalls Tryz.prog 110 [.agg (sB r)] (.bool (sM r)):=by
 induction N with
 |zero=>intro r h;have:=r.uc;omega
 |succ N ih=>
  rintro ⟨k,f,n,m,l⟩ hr hN hnm
  refine qO (rs:=[.tmp 2]) mixed Tryz.func110 LF rfl rfl rfl (r:=[.bool _]) (nlZ rfl) ?_
  simp only [RP.nodes,sM] at hr ⊢
  have h104:=t104 f hnm.1
  repeat' ((conv=>whnf);first|refine rE _ (h104) ?_|refine nT_ ?_|refine aS ?_|fail)
  refine rA (β:=Unit) (fun _=>{sl:=[(1,.ptr 1 0),(3,.t (.bool (sV f))),(4,.t (.bool (tQ n)))],bx:=[(1,.d 5 (sB (.mk k f n m l)))]}) (fun _=>True) ?_ ?_
  ·repeat' ((conv=>whnf);first|refine nT_ ?_|refine nD_ (fun hq=>?_) (fun hq=>?_)|refine aS ?_|fail)
   all_goals refine ⟨(),trivial,?_⟩
   all_goals unfold tQ
   all_goals repeat' (first|exact trivial|exact LeV.same _|exact LeB.same _|exact rfl|exact fun _ _ _=>trivial|exact lB|refine And.intro ?_ ?_)
  rintro _ _
  skip
  refine rA (β:=Unit) (fun _=>{sl:=[(1,.ptr 1 0),(3,.t (.bool (sV f))),(4,.t (.bool (tQ n))),(5,.t (.bool (vl f n m)))],bx:=[(1,.d 5 (sB (.mk k f n m l)))]}) (fun _=>True) ?_ ?_
  ·unfold vl
   have h2:=sI f e0
   generalize sC f e0=b at *
   repeat' ((conv=>whnf);first|refine nb_ b h2 ?_|(exact ⟨(),trivial,by (repeat' (first|exact trivial|exact LeV.same _|exact LeB.same _|exact rfl|exact fun _ _ _=>trivial|exact lB|refine And.intro ?_ ?_));done⟩)|refine nT_ ?_|refine nE_ (fun hq=>?_) (fun hq=>?_)|refine aS ?_|(cases b)|fail)
  rintro _ _
  repeat' ((conv=>whnf);first|refine nT_ ?_|refine aS ?_|fail)
  refine rA (β:=Unit) (fun _=>{sl:=[(1,.ptr 1 0),(6,.t (I (xE k))),(7,.t (.bool (okP k f n m)))],bx:=[(1,.d 5 (sB (.mk k f n m l)))]}) (fun _=>True) ?_ ?_
  ·have h2:=sI f e0
   unfold okP xE
   generalize sV f=a at *
   generalize tQ n=b at *
   generalize vl f n m=c at *
   generalize sC f e0=d at *
   repeat' ((conv=>whnf);first|refine nb_ d h2 ?_|(exact ⟨(),trivial,by (repeat' (first|exact trivial|exact LeV.same _|exact LeB.same _|exact rfl|exact fun _ _ _=>trivial|exact lI|exact lB|refine And.intro ?_ ?_));done⟩)|refine nT_ ?_|refine nE_ (fun hq=>?_) (fun hq=>?_)|refine nD_ (fun hq=>?_) (fun hq=>?_)|refine aS ?_|(cases a)|(cases b)|(cases d)|fail)
  rintro _ _
  generalize okP k f n m=ok at *
  cases ok with
  |false=>repeat' ((conv=>whnf);first|exact trivial|refine rb0 ?_|fail)
  |true=>
  by_cases hlen:l.length=xE k
  ·have e:(true&&(l.length==xE k)&&tx l)=tx l:=by simp [hlen]
   rw [e, ←hlen]
   have hnp:=tU l
   repeat' ((conv=>whnf);first|refine nT_ ?_|refine aN0 ?_|refine aS ?_|fail)
   refine rq (α:=Nat) (fun i=>{sl:=[(1,.ptr 1 0),(6,.t (I l.length)),(8,.t (I i))],bx:=[(1,.d 5 (sB (.mk k f n m l)))]})
    (fun i=>i≤l.length∧ ∀j (h:j<l.length),j<i→sM l[j]=true) (fun i=>l.length - i) 0 (by simp) ?_ ?_
   ·repeat' (first|exact trivial|exact LeV.same _|exact LeB.same _|exact rfl|exact fun _ _ _=>trivial|refine And.intro ?_ ?_)
   rintro i ⟨hi,hp⟩
   rcases Nat.lt_or_ge i l.length with h|h
   ·have hn:=tG h
    have hm:=tF (l:=l) (j:=i+1)
    have hc:=ih l[i] (by omega) (by omega) (w7 hnm.2 i h)
    cases hb:sM l[i] with
    |true=>
     rw [hb] at hc
     repeat' ((conv=>whnf);first|(refine nv_ (.agg (sB l[i])) (by first|(simp [h,sF];done)|fail) ?_)|refine rE _ (hc) ?_|refine nT_ ?_|refine aD1 ?_|(refine And.intro (by first|exact sD _|fail) ?_)|refine aS ?_|fail)
     refine ⟨i+1,⟨h,fun j hj hlt=>?_⟩,by omega,?_⟩
     ·rcases Nat.lt_or_ge j i with h4|h4
      ·exact hp j hj h4
      ·obtain rfl:j=i:=by omega
       exact hb
     ·repeat' (first|exact trivial|exact LeV.same _|exact LeB.same _|exact rfl|exact fun _ _ _=>trivial|exact lI|refine And.intro ?_ ?_)
    |false=>
     rw [hb] at hc
     have e2:tx l=false:=by
      cases hx:tx l with
      |false=>rfl
      |true=>rw [wF.1 hx i h] at hb;cases hb
     rw [e2]
     repeat' ((conv=>whnf);first|exact trivial|(refine nv_ (.agg (sB l[i])) (by first|(simp [h,sF];done)|fail) ?_)|refine rE _ (hc) ?_|refine nT_ ?_|refine aD1 ?_|refine rb0 ?_|(refine And.intro (by first|exact sD _|fail) ?_)|refine aS ?_|fail)
   ·have e2:tx l=true:=wF.2 fun j hj=>hp j hj (by omega)
    rw [e2]
    repeat' ((conv=>whnf);first|exact trivial|refine aD0 ?_|refine rb1 ?_|refine aS ?_|fail)
  ·have e:(true&&(l.length==xE k)&&tx l)=false:=by simp [hlen]
   rw [e]
   repeat' ((conv=>whnf);first|exact trivial|refine nT_ ?_|refine aN1 ?_|refine rb0 ?_|refine aS ?_|fail)
end Go.MM
end
section
namespace Go.MM
open Go Go.DL Go.Proofs
mutual
def RO.wt:RO→Nat
 |.mk _ p _ _ a=>1+p.nodes+tl a
def tl:List RO→Nat
 |[]=>0
 |r::rs=>r.wt+tl rs
end
mutual
def RO.size:RO→Nat
 |.mk k p _ _ a=>1+(if k=1 then p.nodes else 0)+tC a
def tC:List RO→Nat
 |[]=>0
 |r::rs=>r.size+tC rs
end
mutual
def RO.deep:RO→Nat
 |.mk k p _ _ a=>1+max (if k=1 then p.depth else 0) (tB a)
def tB:List RO→Nat
 |[]=>0
 |r::rs=>max r.deep (tB rs)
end
mutual
theorem RO.size_le: ∀r:RO,r.size≤r.wt
 |.mk k p _ _ a=>by have:=uq a;simp only [RO.size,RO.wt];split <;> omega
theorem uq: ∀l:List RO,tC l≤tl l
 |[]=>Nat.le_refl _
 |r::rs=>by have:=RO.size_le r;have:=uq rs;simp only [tC,tl];omega
end
mutual
theorem RO.yi: ∀r:RO,r.deep≤r.wt
 |.mk k p _ _ a=>by have:=va a;have:=p.vA;simp only [RO.deep,RO.wt];split <;> omega
theorem va: ∀l:List RO,tB l≤tl l
 |[]=>Nat.le_refl _
 |r::rs=>by have:=RO.yi r;have:=va rs;simp only [tB,tl];omega
end
theorem uh: ∀{l:List RO} {j:Nat} (h:j<l.length),tl (l.take (j+1))=tl (l.take j)+l[j].wt
 |r::rs,0,h=>by simp [tl]
 |r::rs,j+1,h=>by
  have:=uh (l:=rs) (j:=j) (by simpa using h)
  simp only [List.take_succ_cons,tl,List.getElem_cons_succ]
  omega
theorem vT: ∀{l:List RO} {j:Nat} (h:j<l.length),tC (l.take (j+1))=tC (l.take j)+l[j].size
 |r::rs,0,h=>by simp [tC]
 |r::rs,j+1,h=>by
  have:=vT (l:=rs) (j:=j) (by simpa using h)
  simp only [List.take_succ_cons,tC,List.getElem_cons_succ]
  omega
theorem vJ: ∀{l:List RO} {j:Nat} (h:j<l.length),tB (l.take (j+1))=max (tB (l.take j)) l[j].deep
 |r::rs,0,h=>by simp [tB]
 |r::rs,j+1,h=>by
  have:=vJ (l:=rs) (j:=j) (by simpa using h)
  simp only [List.take_succ_cons,tB,List.getElem_cons_succ]
  omega
theorem tV: ∀{l:List RO} {j:Nat},tl (l.take j)≤tl l
 |[],j=>by simp
 |r::rs,0=>by simp [tl]
 |r::rs,j+1=>by
  have:=tV (l:=rs) (j:=j)
  simp only [List.take_succ_cons,tl]
  omega
theorem RO.we (r:RO):1≤r.wt:=by cases r;simp only [RO.wt];omega
theorem uK: ∀l:List RO,l.length≤tl l
 |[]=>Nat.le_refl _
 |r::rs=>by have:=uK rs;have:=r.we;simp only [tl,List.length_cons];omega
theorem two {a b c d:Nat} (h1:a=c) (h2:b=d):[I (a:Int),I (b:Int)]=[I (c:Int),I (d:Int)]:=by rw [h1,h2]
theorem t89 (N:Nat): ∀r:RO,r.wt≤N→N<2^60→DCalls Tryz.prog 34 [.agg (sA r)] (sz r.size r.deep):=by
 induction N with
 |zero=>intro r h;have:=r.we;omega
 |succ N ih=>
  rintro ⟨k,⟨pk,pf,pn,pm,pa⟩,f,n,l⟩ hr hN
  refine qO (rs:=[.cell 2 51]) mixed Tryz.func34 l34 rfl rfl rfl (r:=[sz _ _]) (nlZ rfl) ?_
  simp only [RO.size,RO.deep,RO.wt] at hr ⊢
  have h103:=t103 _ (.mk pk pf pn pm pa) (Nat.le_refl _) (by omega)
  have hpd:=(RP.mk pk pf pn pm pa).vA
  have hlen:=uK l
  by_cases hk:k=1
  ·simp only [hk,if_true]
   repeat' ((conv=>whnf);first|refine rE _ (h103) ?_|refine rE _ (t102 1 1 _ _ (by omega) (by omega) (by omega)) ?_|refine nT_ ?_|refine aE1 ?_|refine aS ?_|fail)
   refine rq (α:=Nat) (fun i=>{sl:=[(1,.ptr 1 0),(2,.ptr 2 0),(3,.ptr 3 0),(4,.t (I i))],bx:=[(1,.d 9 (sA (.mk 1 (.mk pk pf pn pm pa) f n l))),(2,.d 2 [I 0,I 0]),(3,.d 2 [I (1+(RP.mk pk pf pn pm pa).nodes+tC (l.take i):Nat),I (1+max (RP.mk pk pf pn pm pa).depth (tB (l.take i)):Nat)])]})
    (fun i=>i≤l.length) (fun i=>l.length - i) 0 (by omega) ?_ ?_
   ·repeat' (first|exact trivial|exact LeV.same _|exact LeB.same _|exact rfl|exact fun _ _ _=>trivial|refine su ?_|refine And.intro ?_ ?_)
    all_goals exact two (by simp [tC]) (by simp [tB];try omega)
   rintro i hi
   rcases Nat.lt_or_ge i l.length with h|h
   ·have hn:=vT h
    have hd:=vJ h
    have hw:=uh h
    have hm:=tV (l:=l) (j:=i+1)
    have hp:=l[i].we
    have h1:=l[i].size_le
    have h2:=l[i].yi
    have h3:=va (l.take i)
    have h4:=uq (l.take i)
    repeat' ((conv=>whnf);first|(refine nv_ (.agg (sA l[i])) (by first|(simp [h,sJ];done)|fail) ?_)|refine rE _ (ih l[i] (by omega) (by omega)) ?_|refine rE _ (t102 _ _ _ _ (by omega) (by omega) (by omega)) ?_|refine nT_ ?_|refine aD1 ?_|(refine And.intro (by first|exact sE _|fail) ?_)|refine aS ?_|fail)
    refine ⟨i+1,by omega,by omega,?_⟩
    repeat' (first|exact trivial|exact LeV.same _|exact LeB.same _|exact rfl|exact fun _ _ _=>trivial|exact lI|refine su ?_|refine And.intro ?_ ?_)
    exact two (by omega) (by omega)
   ·have:i=l.length:=by omega
    subst this
    rw [List.take_length]
    repeat' ((conv=>whnf);first|exact trivial|refine nT_ ?_|refine aD0 ?_|refine aS ?_|fail)
  ·simp only [hk,if_false]
   repeat' ((conv=>whnf);first|refine nT_ ?_|refine aE0 ?_|refine aS ?_|fail)
   refine rq (α:=Nat) (fun i=>{sl:=[(1,.ptr 1 0),(2,.ptr 2 0),(3,.ptr 3 0),(4,.t (I i))],bx:=[(1,.d 9 (sA (.mk k (.mk pk pf pn pm pa) f n l))),(2,.d 2 [I 0,I 0]),(3,.d 2 [I (1+0+tC (l.take i):Nat),I (1+max 0 (tB (l.take i)):Nat)])]})
    (fun i=>i≤l.length) (fun i=>l.length - i) 0 (by omega) ?_ ?_
   ·repeat' (first|exact trivial|exact LeV.same _|exact LeB.same _|exact rfl|exact fun _ _ _=>trivial|refine And.intro ?_ ?_)
    all_goals exact two (by simp [tC]) (by simp [tB];try omega)
   rintro i hi
   rcases Nat.lt_or_ge i l.length with h|h
   ·have hn:=vT h
    have hd:=vJ h
    have hw:=uh h
    have hm:=tV (l:=l) (j:=i+1)
    have hp:=l[i].we
    have h1:=l[i].size_le
    have h2:=l[i].yi
    have h3:=va (l.take i)
    have h4:=uq (l.take i)
    repeat' ((conv=>whnf);first|(refine nv_ (.agg (sA l[i])) (by first|(simp [h,sJ];done)|fail) ?_)|refine rE _ (ih l[i] (by omega) (by omega)) ?_|refine rE _ (t102 _ _ _ _ (by omega) (by omega) (by omega)) ?_|refine nT_ ?_|refine aD1 ?_|(refine And.intro (by first|exact sE _|fail) ?_)|refine aS ?_|fail)
    refine ⟨i+1,by omega,by omega,?_⟩
    repeat' (first|exact trivial|exact LeV.same _|exact LeB.same _|exact rfl|exact fun _ _ _=>trivial|exact lI|refine su ?_|refine And.intro ?_ ?_)
    exact two (by omega) (by omega)
   ·have:i=l.length:=by omega
    subst this
    rw [List.take_length]
    repeat' ((conv=>whnf);first|exact trivial|refine nT_ ?_|refine aD0 ?_|refine aS ?_|fail)
def wI (n d:Nat):Int:=if n≤200∧d≤20 then 0 else 2
theorem t101 (n d:Nat):DCalls Tryz.prog 128 [sz n d] (I (wI n d)):=by
 refine qO (rs:=[.tmp 2]) mixed Tryz.func128 LW rfl rfl rfl (r:=[.int _ _]) (nlZ rfl) ?_
 unfold wI
 by_cases h1:n≤200
 ·by_cases h2:d≤20
  ·rw [if_pos ⟨h1,h2⟩];repeat' ((conv=>whnf);first|exact trivial|refine nT_ ?_|refine aD0 ?_|refine rix ?_|refine aS ?_|fail)
  ·rw [if_neg (by omega)];repeat' ((conv=>whnf);first|exact trivial|refine nT_ ?_|refine aD1 ?_|refine aD0 ?_|refine rix ?_|refine aS ?_|fail)
 ·rw [if_neg (by omega)];repeat' ((conv=>whnf);first|exact trivial|refine nT_ ?_|refine aD1 ?_|refine rix ?_|refine aS ?_|fail)
def wO (e:Int) (b:Bool):Int:=if e=0 then (if b then 0 else 1) else e
theorem t88 (n d:Nat) (b:Bool):DCalls Tryz.prog 84 [sz n d,.bool b] (I (wO (wI n d) b)):=by
 refine qO (rs:=[.tmp 4]) mixed Tryz.func84 l84 rfl rfl rfl (r:=[.int _ _]) (nlZ rfl) ?_
 have h:=t101 n d
 generalize wI n d=e at *
 unfold wO
 by_cases h0:e=0
 ·subst h0
  cases b <;> repeat' ((conv=>whnf);first|exact trivial|refine rE _ (h) ?_|refine aE1 ?_|refine rix ?_|refine aS ?_|fail)
 ·rw [if_neg h0]
  repeat' ((conv=>whnf);first|exact trivial|refine rE _ (h) ?_|refine aE0 ?_|refine rix ?_|refine aS ?_|fail)
def wh (k:Int):Nat:=if k=3∨k=4 then 2 else if k=5 then 1 else 0
def vN (f:ByteArray) (n:Int):Bool:=sC f e0&&(n==0)
def okO (k:Int) (p:RP) (f:ByteArray) (n:Int):Bool:=
 if k=1 then sM p&&vN f n
 else if k=2 then sV f&&ui p&&decide (0≤n)&&decide (n≤65535)
 else if k=3∨k=4∨k=5 then ui p&&vN f n
 else false
mutual
def sR:RO→Bool
 |.mk k p f n a=>okO k p f n&&(a.length==wh k)&&th a
def th:List RO→Bool
 |[]=>true
 |r::rs=>sR r&&th rs
end
theorem wE: ∀{l:List RO},th l=true↔ ∀(i:Nat) (h:i<l.length),sR l[i]=true
 |[]=>by simp [th]
 |r::rs=>by
  simp only [th,Bool.and_eq_true,wE (l:=rs)]
  constructor
  ·rintro ⟨h0,h⟩ i hi
   cases i with
   |zero=>exact h0
   |succ i=>simpa using h i (by simpa using hi)
  ·intro h
   exact ⟨h 0 (by simp),fun i hi=>h (i+1) (by simpa using hi)⟩
mutual
def uj:RO→Prop
 |.mk _ p f _ a=>uk p∧f.size<2^62∧xq a
def xq:List RO→Prop
 |[]=>True
 |r::rs=>uj r∧xq rs
end
theorem wZ: ∀{l:List RO},xq l→ ∀(i:Nat) (h:i<l.length),uj l[i]
 |[],_,i,h=>by simp at h
 |r::rs,h,i,hi=>by
  cases i with
  |zero=>exact h.1
  |succ i=>simpa using wZ h.2 i (by simpa using hi)
theorem t90 (N:Nat): ∀r:RO,r.wt≤N→N<2^60→uj r→DCalls Tryz.prog 85 [.agg (sA r)] (.bool (sR r)):=by
 induction N with
 |zero=>intro r h;have:=r.we;omega
 |succ N ih=>
  rintro ⟨k,⟨pk,pf,pn,pm,pa⟩,f,n,l⟩ hr hN ⟨hn1,hn2,hn3⟩
  refine qO (rs:=[.tmp 2]) mixed Tryz.func85 l85 rfl rfl rfl (r:=[.bool _]) (nlZ rfl) ?_
  simp only [RO.wt,sR] at hr ⊢
  have h104:=t104 f hn2
  have h105:=t105 (.mk pk pf pn pm pa)
  have h106:=t106 _ (.mk pk pf pn pm pa) (Nat.le_refl _) (by omega) hn1
  repeat' ((conv=>whnf);first|refine rE _ (h104) ?_|refine rE _ (h105) ?_|refine nT_ ?_|refine aS ?_|fail)
  refine rA (β:=Unit) (fun _=>{sl:=[(1,.ptr 1 0),(3,.t (.bool (sV f))),(4,.t (.bool (ui (.mk pk pf pn pm pa)))),(5,.t (.bool (vN f n)))],bx:=[(1,.d 9 (sA (.mk k (.mk pk pf pn pm pa) f n l)))]}) (fun _=>True) ?_ ?_
  ·unfold vN
   have h2:=sI f e0
   generalize sC f e0=b at *
   repeat' ((conv=>whnf);first|refine nb_ b h2 ?_|(exact ⟨(),trivial,by (repeat' (first|exact trivial|exact LeV.same _|exact LeB.same _|exact rfl|exact fun _ _ _=>trivial|exact lB|refine And.intro ?_ ?_));done⟩)|refine nT_ ?_|refine nE_ (fun hq=>?_) (fun hq=>?_)|refine aS ?_|(cases b)|fail)
  rintro _ _
  repeat' ((conv=>whnf);first|refine nT_ ?_|refine aS ?_|fail)
  refine rA (β:=Unit) (fun _=>{sl:=[(1,.ptr 1 0),(6,.t (I (wh k))),(7,.t (.bool (okO k (.mk pk pf pn pm pa) f n)))],bx:=[(1,.d 9 (sA (.mk k (.mk pk pf pn pm pa) f n l)))]}) (fun _=>True) ?_ ?_
  ·unfold okO wh
   generalize sV f=a at *
   generalize sM (.mk pk pf pn pm pa)=b at *
   generalize vN f n=c at *
   generalize ui (.mk pk pf pn pm pa)=d at *
   repeat' ((conv=>whnf);first|refine rE _ (h106) ?_|(exact ⟨(),trivial,by (repeat' (first|exact trivial|exact LeV.same _|exact LeB.same _|exact rfl|exact fun _ _ _=>trivial|exact lI|exact lB|refine And.intro ?_ ?_));done⟩)|refine nT_ ?_|refine nE_ (fun hq=>?_) (fun hq=>?_)|refine nD_ (fun hq=>?_) (fun hq=>?_)|refine aS ?_|(cases a)|(cases b)|(cases d)|fail)
  rintro _ _
  generalize okO k (.mk pk pf pn pm pa) f n=ok at *
  cases ok with
  |false=>repeat' ((conv=>whnf);first|exact trivial|refine rb0 ?_|fail)
  |true=>
  by_cases hlen:l.length=wh k
  ·have e:(true&&(l.length==wh k)&&th l)=th l:=by simp [hlen]
   rw [e, ←hlen]
   have hnp:=uK l
   repeat' ((conv=>whnf);first|refine nT_ ?_|refine aN0 ?_|refine aS ?_|fail)
   refine rq (α:=Nat) (fun i=>{sl:=[(1,.ptr 1 0),(6,.t (I l.length)),(8,.t (I i))],bx:=[(1,.d 9 (sA (.mk k (.mk pk pf pn pm pa) f n l)))]})
    (fun i=>i≤l.length∧ ∀j (h:j<l.length),j<i→sR l[j]=true) (fun i=>l.length - i) 0 (by simp) ?_ ?_
   ·repeat' (first|exact trivial|exact LeV.same _|exact LeB.same _|exact rfl|exact fun _ _ _=>trivial|refine And.intro ?_ ?_)
   rintro i ⟨hi,hp⟩
   rcases Nat.lt_or_ge i l.length with h|h
   ·have hn:=uh h
    have hm:=tV (l:=l) (j:=i+1)
    have hc:=ih l[i] (by omega) (by omega) (wZ hn3 i h)
    cases hb:sR l[i] with
    |true=>
     rw [hb] at hc
     repeat' ((conv=>whnf);first|(refine nv_ (.agg (sA l[i])) (by first|(simp [h,sJ];done)|fail) ?_)|refine rE _ (hc) ?_|refine nT_ ?_|refine aD1 ?_|(refine And.intro (by first|exact sE _|fail) ?_)|refine aS ?_|fail)
     refine ⟨i+1,⟨h,fun j hj hlt=>?_⟩,by omega,?_⟩
     ·rcases Nat.lt_or_ge j i with h4|h4
      ·exact hp j hj h4
      ·obtain rfl:j=i:=by omega
       exact hb
     ·repeat' (first|exact trivial|exact LeV.same _|exact LeB.same _|exact rfl|exact fun _ _ _=>trivial|exact lI|refine And.intro ?_ ?_)
    |false=>
     rw [hb] at hc
     have e2:th l=false:=by
      cases hx:th l with
      |false=>rfl
      |true=>rw [wE.1 hx i h] at hb;cases hb
     rw [e2]
     repeat' ((conv=>whnf);first|exact trivial|(refine nv_ (.agg (sA l[i])) (by first|(simp [h,sJ];done)|fail) ?_)|refine rE _ (hc) ?_|refine nT_ ?_|refine aD1 ?_|refine rb0 ?_|(refine And.intro (by first|exact sE _|fail) ?_)|refine aS ?_|fail)
   ·have e2:th l=true:=wE.2 fun j hj=>hp j hj (by omega)
    rw [e2]
    repeat' ((conv=>whnf);first|exact trivial|refine aD0 ?_|refine rb1 ?_|refine aS ?_|fail)
  ·have e:(true&&(l.length==wh k)&&th l)=false:=by simp [hlen]
   rw [e]
   repeat' ((conv=>whnf);first|exact trivial|refine nT_ ?_|refine aN1 ?_|refine rb0 ?_|refine aS ?_|fail)
def tA (r:RO):Int:=wO (wI r.size r.deep) (sR r)
theorem t63 (r:RO) (hr:r.wt<2^60) (hn:uj r):DCalls Tryz.prog 21 [.agg (sA r)] (I (tA r)):=by
 refine qO (rs:=[.tmp 2]) mixed Tryz.func21 l21 rfl rfl rfl (r:=[.int _ _]) (nlZ rfl) ?_
 have h1:=t89 _ r (Nat.le_refl _) hr
 have h2:=t90 _ r (Nat.le_refl _) hr hn
 have h3:=t88 r.size r.deep (sR r)
 have hl:=sE r
 unfold tA
 repeat' ((conv=>whnf);first|exact trivial|refine rE _ (h1) ?_|refine rE _ (h2) ?_|refine rE _ (h3) ?_|refine rix ?_|refine aS ?_|fail)
end Go.MM
end
section
namespace Go.MM
open Go Go.DL Go.Proofs
structure RF where
 name:ByteArray
 a:Int
 w:Int
deriving Inhabited
def tR (f:RF):List T:=[.str f.name,I f.a,I f.w]
def ur (f:RF):T:=.agg (tR f)
def wm (l:List RF):T:=.slice 3 (l.map ur)
def at8 (s:ByteArray) (i:Nat):Bool:=tO (tE s i)||((uF (tE s i)||tE s i==95)&& !(i==0))
def zL (s:ByteArray):Bool:=(List.range s.size).all fun i=>at8 s i
def vM (s:ByteArray):Bool:=zL s&&(decide (1≤s.size)&&decide (s.size≤24))
theorem t69 (s:ByteArray) (hs:s.size<2^62):DCalls Tryz.prog 64 [.str s] (.bool (vM s)):=by
 refine qO (rs:=[.tmp 2]) mixed Tryz.func64 l64 rfl rfl rfl (r:=[.bool _]) (nlZ rfl) ?_
 skip
 refine rq (α:=Nat) (fun i=>{sl:=[(0,.t (.str s)),(3,.t (I i))],bx:=[]})
  (fun i=>i≤s.size∧ ∀j,j<i→at8 s j=true) (fun i=>s.size - i) 0 (by simp) ?_ ?_
 ·repeat' (first|exact trivial|exact LeV.same _|exact rfl|exact fun _ _ _=>trivial|refine And.intro ?_ ?_)
 rintro i ⟨hi,hp⟩
 rcases Nat.lt_or_ge i s.size with h|h
 ·have good:at8 s i=true→i+1≤s.size∧ ∀j,j<i+1→at8 s j=true:=fun hb=>by
   refine ⟨h,fun j hj=>?_⟩
   rcases Nat.lt_or_ge j i with h4|h4
   ·exact hp j h4
   ·obtain rfl:j=i:=by omega
    exact hb
  have bad:at8 s i=false→vM s=false:=fun hb=>by
   unfold vM
   have:zL s=false:=by
    unfold zL
    rw [List.all_eq_false]
    exact ⟨i,by simpa using h,by simp [hb]⟩
   rw [this];rfl
  have bad':at8 s i=false→false=vM s:=fun hb=>(bad hb).symm
  clear bad
  rw [show at8 s i=(tO (tE s i)||((uF (tE s i)||tE s i==95)&& !(i==0))) from rfl] at good bad'
  have hc:((s.toList[i]?.getD 0).toNat:Int)=tE s i:=rfl
  generalize vM s=N at *
  generalize tE s i=c at *
  repeat' ((conv=>whnf);first|(refine nv_ (U c) (by first|exact congrArg U hc|fail) ?_)|(exact rb (x:=false) (bad' (by simp [tO,uF];omega)) trivial)|(exact ⟨i+1,good (by simp [tO,uF];omega),by omega,by (repeat' (first|exact trivial|exact LeV.same _|exact rfl|exact fun _ _ _=>trivial|exact lI|refine And.intro ?_ ?_));done⟩)|refine aE0 ?_|refine aD1 ?_|refine aD0 ?_|refine nE_ (fun hq=>?_) (fun hq=>?_)|refine nD_ (fun hq=>?_) (fun hq=>?_)|refine aS ?_|fail)
 ·have e:zL s=true:=by
   unfold zL
   rw [List.all_eq_true]
   intro j hj
   exact hp j (by simp at hj;omega)
  unfold vM
  rw [e]
  repeat' ((conv=>whnf);first|exact trivial|refine aD0 ?_|refine nD_ (fun hq=>?_) (fun hq=>?_)|refine rb1 ?_|refine rb0 ?_|refine aS ?_|fail)
def uS (f:RF):Bool:=decide (1≤f.w)&&decide (f.w≤16)&&decide (16≤f.a)&&decide (f.a≤143)&&decide (f.a % 16+f.w≤16)
theorem HT {a:Int} (h:0≤a):a.tmod 16=a % 16:=Int.tmod_eq_emod_of_nonneg h
theorem t70 (f:RF):DCalls Tryz.prog 65 [ur f] (.bool (uS f)):=by
 obtain ⟨s,a,w⟩:=f
 refine qO (rs:=[.tmp 2]) mixed Tryz.func65 l65 rfl rfl rfl (r:=[.bool _]) (nlZ rfl) ?_
 simp only [uS]
 by_cases h16:16≤a
 ·have e:=HT (a:=a) (by omega)
  by_cases h1:1≤w
  ·by_cases h2:w≤16
   ·by_cases h3:a≤143
    ·have e2:IntKind.wrap .i64 (a.tmod 16+w)=a % 16+w:=by rw [e,mG] <;> omega
     have e3:(decide (1≤w)&&decide (w≤16)&&decide (16≤a)&&decide (a≤143)&&decide (a % 16+w≤16))=decide (a % 16+w≤16):=by simp [h16,h1,h2,h3]
     rw [e3]
     by_cases h4:a % 16+w≤16
     ·repeat' ((conv=>whnf);first|exact trivial|(refine qv (by rw [e2];exact h4) ?_)|refine nT_ ?_|refine aD1 ?_|refine rb1 ?_|refine aS ?_|fail)
     ·repeat' ((conv=>whnf);first|exact trivial|(refine qu (by rw [e2];exact h4) ?_)|refine nT_ ?_|refine aD1 ?_|refine rb0 ?_|refine aS ?_|fail)
    ·repeat' ((conv=>whnf);first|exact trivial|refine nT_ ?_|refine aD1 ?_|refine aD0 ?_|refine rb0 ?_|refine aS ?_|fail)
   ·repeat' ((conv=>whnf);first|exact trivial|refine nT_ ?_|refine aD1 ?_|refine aD0 ?_|refine rb0 ?_|refine aS ?_|fail)
  ·repeat' ((conv=>whnf);first|exact trivial|refine nT_ ?_|refine aD0 ?_|refine rb0 ?_|refine aS ?_|fail)
 ·repeat' ((conv=>whnf);first|exact trivial|refine nT_ ?_|refine aD0 ?_|refine nD_ (fun hq=>?_) (fun hq=>?_)|refine rb0 ?_|refine aS ?_|fail)
def xz (f:RF):Prop:= -1000≤f.a∧f.a≤1000∧ -1000≤f.w∧f.w≤1000
def uL (f g:RF):Bool:=decide (f.a<g.a+g.w)&&decide (g.a<f.a+f.w)
theorem t71 (f g:RF) (hf:xz f) (hg:xz g):DCalls Tryz.prog 66 [ur f,ur g] (.bool (uL f g)):=by
 obtain ⟨s,a,w⟩:=f
 obtain ⟨s',b,v⟩:=g
 simp only [xz] at hf hg
 refine qO (rs:=[.tmp 4]) mixed Tryz.func66 l66 rfl rfl rfl (r:=[.bool _]) (nlZ rfl) ?_
 simp only [uL]
 have e1:IntKind.wrap .i64 (b+v)=b+v:=mG (by omega) (by omega)
 have e2:IntKind.wrap .i64 (a+w)=a+w:=mG (by omega) (by omega)
 by_cases h1:a<b+v
 ·by_cases h2:b<a+w
  ·repeat' ((conv=>whnf);first|exact trivial|(refine qv (by rw [e1];exact h1) ?_)|(refine qv (by rw [e2];exact h2) ?_)|refine nT_ ?_|refine rb1 ?_|refine aS ?_|fail)
  ·repeat' ((conv=>whnf);first|exact trivial|(refine qv (by rw [e1];exact h1) ?_)|(refine qu (by rw [e2];exact h2) ?_)|refine nT_ ?_|refine rb0 ?_|refine aS ?_|fail)
 ·repeat' ((conv=>whnf);first|exact trivial|(refine qu (by rw [e1];exact h1) ?_)|refine nT_ ?_|refine rb0 ?_|refine aS ?_|fail)
def tz (l:List RF) (i:Nat) (f:RF):Int:=
 if vM f.name=false∨sC f.name s9=true then 4
 else if ((l.take i).any fun g=>sC g.name f.name)=true then 4
 else if uS f=false then 1
 else if ((l.take i).any fun g=>uL g f)=true then 1 else 0
def sQ:List Int→Int
 |[]=>0
 |x::xs=>if x≠0 then x else sQ xs
theorem vg: ∀{l:List Int} {i:Nat} (h:i<l.length),(∀ j (hj:j<l.length),j<i→l[j]=0)→l[i]≠0→sQ l=l[i]
 |x::xs,0,h,_,h0=>by simp at h0;simp [sQ,h0]
 |x::xs,i+1,h,hz,h0=>by
  have hx:x=0:=hz 0 (by simp) (by omega)
  simp only [sQ,hx,ne_eq,not_true_eq_false,if_false]
  exact vg (by simpa using h) (fun j hj hlt=>hz (j+1) (by simpa using hj) (by omega)) (by simpa using h0)
theorem v7: ∀{l:List Int},(∀ j (hj:j<l.length),l[j]=0)→sQ l=0
 |[],_=>rfl
 |x::xs,hz=>by
  have hx:x=0:=hz 0 (by simp)
  simp only [sQ,hx,ne_eq,not_true_eq_false,if_false]
  exact v7 fun j hj=>hz (j+1) (by simpa using hj)
def xh (l:List RF):Int:=if l.length>16 then 2 else sQ (l.mapIdx fun i f=>tz l i f)
theorem xZ {f:RF} (h:uS f=true):xz f:=by
 simp [uS] at h
 unfold xz;omega
theorem vt {p:RF→Bool} {l:List RF} {i:Nat} (hi:i≤l.length):((l.take i).any p=true)↔ ∃j, ∃h:j<l.length,j<i∧p l[j]=true:=by
 rw [List.any_eq_true]
 constructor
 ·rintro ⟨x,hx,hp⟩
  obtain ⟨j,hj,rfl⟩:=List.getElem_of_mem hx
  simp at hj
  exact ⟨j,by omega,by omega,by simpa using hp⟩
 ·rintro ⟨j,h,hji,hp⟩
  exact ⟨l[j],List.mem_take_iff_getElem.2 ⟨j,by omega,rfl⟩,hp⟩
theorem t47 (l:List RF) (hl:l.length<2^60) (hn: ∀f∈l,f.name.size<2^62):DCalls Tryz.prog 11 [wm l] (I (xh l)):=by
 refine qO (rs:=[.tmp 2]) mixed Tryz.func11 l11 rfl rfl rfl (r:=[.int _ _]) (nlZ rfl) ?_
 unfold xh
 by_cases h16:l.length>16
 ·rw [if_pos h16];repeat' ((conv=>whnf);first|exact trivial|refine aD1 ?_|refine rix ?_|refine aS ?_|fail)
 rw [if_neg h16]
 repeat' ((conv=>whnf);first|refine aD0 ?_|refine aS ?_|fail)
 refine rq (α:=Nat) (fun i=>{sl:=[(0,.t (wm l)),(3,.t (I i))],bx:=[]})
  (fun i=>i≤l.length∧ ∀j (h:j<l.length),j<i→tz l j l[j]=0) (fun i=>l.length - i) 0 (by simp) ?_ ?_
 ·repeat' (first|exact trivial|exact LeV.same _|exact rfl|exact fun _ _ _=>trivial|refine And.intro ?_ ?_)
 rintro i ⟨hi,hp⟩
 rcases Nat.lt_or_ge i l.length with h|h
 ·have res: ∀e,tz l i l[i]=e→e≠0→sQ (l.mapIdx fun i f=>tz l i f)=e:=fun e he h0=>by
   have:=vg (l:=l.mapIdx fun i f=>tz l i f) (i:=i) (by simpa using h) (fun j hj hlt=>by simpa using hp j (by simpa using hj) hlt) (by simpa [he] using h0)
   rw [this];simpa using he
  have next:tz l i l[i]=0→i+1≤l.length∧ ∀j (h:j<l.length),j<i+1→tz l j l[j]=0:=fun h0=>by
   refine ⟨h,fun j hj hlt=>?_⟩
   rcases Nat.lt_or_ge j i with h4|h4
   ·exact hp j hj h4
   ·obtain rfl:j=i:=by omega
    exact h0
  have small: ∀k (hk:k<l.length),k<i→xz l[k]:=fun k hk hlt=>by
   have:=hp k hk hlt
   unfold tz at this
   split at this; ·omega
   split at this; ·omega
   split at this; ·omega
   rename_i h3
   exact xZ (by simpa using h3)
  have c69:=t69 l[i].name (hn _ (List.getElem_mem h))
  have c70:=t70 l[i]
  have s1:=sI l[i].name s9
  cases hA:vM l[i].name with
  |false=>
   rw [hA] at c69
   rw [res 4 (by unfold tz;simp [hA]) (by decide)]
   repeat' ((conv=>whnf);first|exact trivial|(refine nv_ (.agg (tR l[i])) (by first|(simp [h,ur];done)|fail) ?_)|refine rE _ (c69) ?_|refine nT_ ?_|refine aD1 ?_|refine rix ?_|refine aS ?_|fail)
  |true=>
  rw [hA] at c69
  cases hB:sC l[i].name s9 with
  |true=>
   rw [hB] at s1
   rw [res 4 (by unfold tz;simp [hB]) (by decide)]
   repeat' ((conv=>whnf);first|exact trivial|(refine nv_ (.agg (tR l[i])) (by first|(simp [h,ur];done)|fail) ?_)|refine rE _ (c69) ?_|refine nb_ true s1 ?_|refine nT_ ?_|refine aD1 ?_|refine rix ?_|refine aS ?_|fail)
  |false=>
  rw [hB] at s1
  repeat' ((conv=>whnf);first|(refine nv_ (.agg (tR l[i])) (by first|(simp [h,ur];done)|fail) ?_)|refine rE _ (c69) ?_|refine nb_ false s1 ?_|refine nT_ ?_|refine aD1 ?_|refine aS ?_|fail)
  refine rq (α:=Nat) (fun k=>{sl:=[(0,.t (wm l)),(3,.t (I i)),(5,.t (I k))],bx:=[]})
   (fun k=>k≤i∧ ∀j (hj:j<l.length),j<k→sC l[j].name l[i].name=false) (fun k=>i - k) 0 (by simp) ?_ ?_
  ·repeat' (first|exact trivial|exact LeV.same _|exact rfl|exact fun _ _ _=>trivial|refine And.intro ?_ ?_)
  rintro k ⟨hk,hpk⟩
  rcases Nat.lt_or_ge k i with hki|hki
  ·have hkl:k<l.length:=by omega
   have s2:=sI l[k].name l[i].name
   cases hC:sC l[k].name l[i].name with
   |true=>
    rw [hC] at s2
    rw [res 4 (by unfold tz;rw [if_neg (by simp [hA,hB]),if_pos ((vt (by omega)).2 ⟨k,hkl,hki,hC⟩)]) (by decide)]
    repeat' ((conv=>whnf);first|exact trivial|(refine nv_ (.agg (tR l[k])) (by first|(simp [hkl,ur];done)|fail) ?_)|(refine nv_ (.agg (tR l[i])) (by first|(simp [h,ur];done)|fail) ?_)|refine nb_ true s2 ?_|refine nT_ ?_|refine aD1 ?_|refine rix ?_|refine aS ?_|fail)
   |false=>
    rw [hC] at s2
    repeat' ((conv=>whnf);first|(refine nv_ (.agg (tR l[k])) (by first|(simp [hkl,ur];done)|fail) ?_)|(refine nv_ (.agg (tR l[i])) (by first|(simp [h,ur];done)|fail) ?_)|refine nb_ false s2 ?_|refine nT_ ?_|refine aD1 ?_|refine aS ?_|fail)
    refine ⟨k+1,⟨by omega,fun j hj hlt=>?_⟩,by omega,?_⟩
    ·rcases Nat.lt_or_ge j k with h4|h4
     ·exact hpk j hj h4
     ·obtain rfl:j=k:=by omega
      exact hC
    ·repeat' (first|exact trivial|exact LeV.same _|exact rfl|exact fun _ _ _=>trivial|exact lI|refine And.intro ?_ ?_)
  obtain rfl:k=i:=by omega
  have any1: ¬((l.take k).any fun g=>sC g.name l[k].name)=true:=fun hx=>by
   obtain ⟨j,hj,hji,hjp⟩:=(vt hi).1 hx
   rw [hpk j hj hji] at hjp;cases hjp
  cases hD:uS l[k] with
  |false=>
   rw [hD] at c70
   rw [res 1 (by unfold tz;rw [if_neg (by simp [hA,hB]),if_neg any1,if_pos hD]) (by decide)]
   repeat' ((conv=>whnf);first|exact trivial|(refine nv_ (.agg (tR l[k])) (by first|(simp [h,ur];done)|fail) ?_)|refine rE _ (c70) ?_|refine nT_ ?_|refine aD0 ?_|refine rix ?_|refine aS ?_|fail)
  |true=>
  rw [hD] at c70
  have smk:=xZ hD
  repeat' ((conv=>whnf);first|(refine nv_ (.agg (tR l[k])) (by first|(simp [h,ur];done)|fail) ?_)|refine rE _ (c70) ?_|refine nT_ ?_|refine aD0 ?_|refine aS ?_|fail)
  refine rq (α:=Nat) (fun m=>{sl:=[(0,.t (wm l)),(3,.t (I k)),(7,.t (I m))],bx:=[]})
   (fun m=>m≤k∧ ∀j (hj:j<l.length),j<m→uL l[j] l[k]=false) (fun m=>k - m) 0 (by simp) ?_ ?_
  ·repeat' (first|exact trivial|exact LeV.same _|exact rfl|exact fun _ _ _=>trivial|refine And.intro ?_ ?_)
  rintro m ⟨hm,hpm⟩
  rcases Nat.lt_or_ge m k with hmi|hmi
  ·have hml:m<l.length:=by omega
   have c71:=t71 l[m] l[k] (small m hml hmi) smk
   cases hC:uL l[m] l[k] with
   |true=>
    rw [hC] at c71
    rw [res 1 (by unfold tz;rw [if_neg (by simp [hA,hB]),if_neg any1,if_neg (by simp [hD]),if_pos ((vt (by omega)).2 ⟨m,hml,hmi,hC⟩)]) (by decide)]
    repeat' ((conv=>whnf);first|exact trivial|(refine nv_ (.agg (tR l[m])) (by first|(simp [hml,ur];done)|fail) ?_)|(refine nv_ (.agg (tR l[k])) (by first|(simp [h,ur];done)|fail) ?_)|refine rE _ (c71) ?_|refine nT_ ?_|refine aD1 ?_|refine rix ?_|refine aS ?_|fail)
   |false=>
    rw [hC] at c71
    repeat' ((conv=>whnf);first|(refine nv_ (.agg (tR l[m])) (by first|(simp [hml,ur];done)|fail) ?_)|(refine nv_ (.agg (tR l[k])) (by first|(simp [h,ur];done)|fail) ?_)|refine rE _ (c71) ?_|refine nT_ ?_|refine aD1 ?_|refine aS ?_|fail)
    refine ⟨m+1,⟨by omega,fun j hj hlt=>?_⟩,by omega,?_⟩
    ·rcases Nat.lt_or_ge j m with h4|h4
     ·exact hpm j hj h4
     ·obtain rfl:j=m:=by omega
      exact hC
    ·repeat' (first|exact trivial|exact LeV.same _|exact rfl|exact fun _ _ _=>trivial|exact lI|refine And.intro ?_ ?_)
  obtain rfl:m=k:=by omega
  have any2: ¬((l.take m).any fun g=>uL g l[m])=true:=fun hx=>by
   obtain ⟨j,hj,hji,hjp⟩:=(vt hi).1 hx
   rw [hpm j hj hji] at hjp;cases hjp
  have e0:tz l m l[m]=0:=by unfold tz;rw [if_neg (by simp [hA,hB]),if_neg any1,if_neg (by simp [hD]),if_neg any2]
  repeat' ((conv=>whnf);first|(exact ⟨m+1,next e0,by omega,by (repeat' (first|exact trivial|exact LeV.same _|exact rfl|exact fun _ _ _=>trivial|exact lI|refine And.intro ?_ ?_));done⟩)|refine aD0 ?_|refine aS ?_|fail)
 ·rw [v7 fun j hj=>by simpa using hp j (by simpa using hj) (by simp at hj;omega)]
  repeat' ((conv=>whnf);first|exact trivial|refine aD0 ?_|refine rix ?_|refine aS ?_|fail)
end Go.MM
end
section
namespace Go.MM
open Go Go.DL Go.Proofs
mutual
def ud:RP→List RP
 |.mk k f n m a=>.mk k f n m a::tM a
def tM:List RP→List RP
 |[]=>[]
 |r::rs=>ud r++tM rs
end
mutual
theorem uv: ∀r:RP,(ud r).length=r.nodes
 |.mk k f n m a=>by simp only [ud,List.length_cons,w8 a,RP.nodes];omega
theorem w8: ∀l:List RP,(tM l).length=sK l
 |[]=>rfl
 |r::rs=>by simp only [tM,List.length_append,uv r,w8 rs,sK]
end
theorem xX: ∀{l:List RP} {j:Nat} (h:j<l.length),tM (l.take (j+1))=tM (l.take j)++ud l[j]
 |r::rs,0,h=>by simp [tM]
 |r::rs,j+1,h=>by
  have:=xX (l:=rs) (j:=j) (by simpa using h)
  simp only [List.take_succ_cons,tM,List.getElem_cons_succ,this,List.append_assoc]
theorem t91 (N:Nat): ∀r:RP,r.nodes≤N→N<2^40→DCalls Tryz.prog 111 [.agg (sB r)] (.slice 5 ((ud r).map sL)):=by
 induction N with
 |zero=>intro r h;have:=r.uc;omega
 |succ N ih=>
  rintro ⟨k,f,n,m,l⟩ hr hN
  refine qO (rs:=[.tmp 2]) mixed Tryz.func111 LG rfl rfl rfl (r:=[.slice 5 _]) (nlZ rfl) ?_
  simp only [RP.nodes,ud] at hr ⊢
  have hl:=tU l
  repeat' ((conv=>whnf);first|refine aS ?_|fail)
  refine rq (α:=Nat×Nat) (fun q=>{sl:=[(1,.ptr 1 0),(3,.own q.1 25 5 ((RP.mk k f n m l::tM (l.take q.2)).map sL)),(4,.t (I q.2))],bx:=[(1,.d 5 (sB (.mk k f n m l)))]})
   (fun q=>q.2≤l.length) (fun q=>l.length - q.2) (6,0) (by simp) ?_ ?_
  ·repeat' (first|exact trivial|exact LeV.same _|exact LeB.same _|exact rfl|exact fun _ _ _=>trivial|refine rX ?_|refine And.intro ?_ ?_)
   simp [tM,sF]
  rintro ⟨o,i⟩ hi
  dsimp only at hi
  rcases Nat.lt_or_ge i l.length with h|h
  ·have hn:=tG h
   have hm:=tF (l:=l) (j:=i+1)
   have hc:=ih l[i] (by omega) (by omega)
   have e1:=uv l[i]
   have e2:=w8 (l.take i)
   have e3:=xX h
   repeat' ((conv=>whnf);first|(refine nv_ (.agg (sB l[i])) (by first|(simp [h,sF];done)|fail) ?_)|refine rE _ (hc) ?_|refine nT_ ?_|refine aD1 ?_|(refine And.intro (by first|exact sD _|((simp only [List.length_map,List.length_cons];omega);done)|fail) ?_)|refine aS ?_|fail)
   refine ⟨(21,i+1),by dsimp only;omega,by dsimp only;omega,?_⟩
   repeat' (first|exact trivial|exact LeV.same _|exact LeB.same _|exact rfl|exact fun _ _ _=>trivial|exact lI|refine rX ?_|refine And.intro ?_ ?_)
   simp [e3]
  ·have:i=l.length:=by omega
   subst this
   rw [List.take_length]
   repeat' ((conv=>whnf);first|exact trivial|refine nT_ ?_|refine aD0 ?_|refine aS ?_|fail)
mutual
def tL:RO→List RO
 |.mk k p f n a=>.mk k p f n a::tq a
def tq:List RO→List RO
 |[]=>[]
 |r::rs=>tL r++tq rs
end
mutual
def RO.cnt:RO→Nat
 |.mk _ _ _ _ a=>1+yh a
def yh:List RO→Nat
 |[]=>0
 |r::rs=>r.cnt+yh rs
end
mutual
theorem RO.vY: ∀r:RO,r.cnt≤r.wt
 |.mk k p _ _ a=>by have:=yH a;simp only [RO.cnt,RO.wt];omega
theorem yH: ∀l:List RO,yh l≤tl l
 |[]=>Nat.le_refl _
 |r::rs=>by have:=RO.vY r;have:=yH rs;simp only [yh,tl];omega
end
mutual
theorem ue: ∀r:RO,(tL r).length=r.cnt
 |.mk k p f n a=>by simp only [tL,List.length_cons,w9 a,RO.cnt];omega
theorem w9: ∀l:List RO,(tq l).length=yh l
 |[]=>rfl
 |r::rs=>by simp only [tq,List.length_append,ue r,w9 rs,yh]
end
theorem xY: ∀{l:List RO} {j:Nat} (h:j<l.length),tq (l.take (j+1))=tq (l.take j)++tL l[j]
 |r::rs,0,h=>by simp [tq]
 |r::rs,j+1,h=>by
  have:=xY (l:=rs) (j:=j) (by simpa using h)
  simp only [List.take_succ_cons,tq,List.getElem_cons_succ,this,List.append_assoc]
theorem t64 (N:Nat): ∀r:RO,r.wt≤N→N<2^40→DCalls Tryz.prog 76 [.agg (sA r)] (.slice 9 ((tL r).map sZ)):=by
 induction N with
 |zero=>intro r h;have:=r.we;omega
 |succ N ih=>
  rintro ⟨k,⟨pk,pf,pn,pm,pa⟩,f,n,l⟩ hr hN
  refine qO (rs:=[.tmp 2]) mixed Tryz.func76 l76 rfl rfl rfl (r:=[.slice 9 _]) (nlZ rfl) ?_
  simp only [RO.wt,tL] at hr ⊢
  have hl:=uK l
  repeat' ((conv=>whnf);first|refine aS ?_|fail)
  refine rq (α:=Nat×Nat) (fun q=>{sl:=[(1,.ptr 1 0),(3,.own q.1 28 9 ((RO.mk k (.mk pk pf pn pm pa) f n l::tq (l.take q.2)).map sZ)),(4,.t (I q.2))],bx:=[(1,.d 9 (sA (.mk k (.mk pk pf pn pm pa) f n l)))]})
   (fun q=>q.2≤l.length) (fun q=>l.length - q.2) (6,0) (by simp) ?_ ?_
  ·repeat' (first|exact trivial|exact LeV.same _|exact LeB.same _|exact rfl|exact fun _ _ _=>trivial|refine rX ?_|refine And.intro ?_ ?_)
   simp [tq,sJ]
  rintro ⟨o,i⟩ hi
  dsimp only at hi
  rcases Nat.lt_or_ge i l.length with h|h
  ·have hn:=uh h
   have hm:=tV (l:=l) (j:=i+1)
   have hc:=ih l[i] (by omega) (by omega)
   have e1:=ue l[i]
   have e2:=w9 (l.take i)
   have e3:=xY h
   have e4:=yH (l.take i)
   have e5:=l[i].vY
   repeat' ((conv=>whnf);first|(refine nv_ (.agg (sA l[i])) (by first|(simp [h,sJ];done)|fail) ?_)|refine rE _ (hc) ?_|refine nT_ ?_|refine aD1 ?_|(refine And.intro (by first|exact sE _|((simp only [List.length_map,List.length_cons];omega);done)|fail) ?_)|refine aS ?_|fail)
   refine ⟨(21,i+1),by dsimp only;omega,by dsimp only;omega,?_⟩
   repeat' (first|exact trivial|exact LeV.same _|exact LeB.same _|exact rfl|exact fun _ _ _=>trivial|exact lI|refine rX ?_|refine And.intro ?_ ?_)
   simp [e3]
  ·have:i=l.length:=by omega
   subst this
   rw [List.take_length]
   repeat' ((conv=>whnf);first|exact trivial|refine nT_ ?_|refine aD0 ?_|refine aS ?_|fail)
end Go.MM
end
section
namespace Go.MM
open Go Go.DL Go.Proofs
def wD (l:List Fd):RP→Int
 |.mk k f n m _=>if k=3∨k=4∨k=5 then (match findF l f with
   |none=>4
   |some F=>if (if k=5 then m else n)>((2^F.w - 1:Nat):Int)∨(k=4∧m>F.w) then 1 else 0) else 0
theorem Es {l:List Fd} (hl:LOk l) {s:ByteArray} {F:Fd} (h:findF l s=some F):F.w≤16:=by
 have:=(hl.find h).w2;omega
theorem t92 (l:List Fd) (hl:LOk l) (r:RP):DCalls Tryz.prog 112 [fds l,.agg (sB r)] (I (wD l r)):=by
 obtain ⟨k,f,n,m,a⟩:=r
 refine qO (rs:=[.tmp 4]) mixed Tryz.func112 LH rfl rfl rfl (r:=[.int _ _]) (nlZ rfl) ?_
 have h51:=t51 l f hl.len
 simp only [wD]
 by_cases hk:k=3∨k=4∨k=5
 ·rw [if_pos hk]
  unfold uU at h51
  cases hF:findF l f with
  |none=>
   rw [hF] at h51
   simp only at h51 ⊢
   rcases hk with rfl|rfl|rfl <;> repeat' ((conv=>whnf);first|exact trivial|refine rE _ (h51) ?_|refine nT_ ?_|refine aN1 ?_|refine aN0 ?_|refine rix ?_|refine aS ?_|fail)
  |some F=>
   rw [hF] at h51
   simp only at h51 ⊢
   have hw:=Es hl hF
   have h66:=t66 F (hl.find hF)
   obtain ⟨s,fa,w⟩:=F
   simp only at hw h66 ⊢
   generalize hM:((2^w - 1:Nat):Int)=M at *
   rcases hk with rfl|rfl|rfl
   ·by_cases c:n>M
    ·rw [if_pos (by simp;omega)];repeat' ((conv=>whnf);first|exact trivial|refine rE _ (h51) ?_|refine rE _ (h66) ?_|refine nT_ ?_|refine aE0 ?_|refine aN0 ?_|refine aD1 ?_|refine rix ?_|refine aS ?_|fail)
    ·rw [if_neg (by simp;omega)];repeat' ((conv=>whnf);first|exact trivial|refine rE _ (h51) ?_|refine rE _ (h66) ?_|refine nT_ ?_|refine aE0 ?_|refine aN0 ?_|refine aD0 ?_|refine rix ?_|refine aS ?_|fail)
   ·by_cases c:n>M
    ·rw [if_pos (by simp;omega)];repeat' ((conv=>whnf);first|exact trivial|refine rE _ (h51) ?_|refine rE _ (h66) ?_|refine nT_ ?_|refine aE0 ?_|refine aN1 ?_|refine aN0 ?_|refine aD1 ?_|refine rix ?_|refine aS ?_|fail)
    ·by_cases d:m>(w:Int)
     ·rw [if_pos (by simp;omega)];repeat' ((conv=>whnf);first|exact trivial|refine rE _ (h51) ?_|refine rE _ (h66) ?_|refine nT_ ?_|refine aE1 ?_|refine aE0 ?_|refine aN1 ?_|refine aN0 ?_|refine aD1 ?_|refine aD0 ?_|refine rix ?_|refine aS ?_|fail)
     ·rw [if_neg (by simp;omega)];repeat' ((conv=>whnf);first|exact trivial|refine rE _ (h51) ?_|refine rE _ (h66) ?_|refine nT_ ?_|refine aE1 ?_|refine aE0 ?_|refine aN1 ?_|refine aN0 ?_|refine aD0 ?_|refine rix ?_|refine aS ?_|fail)
   ·by_cases c:m>M
    ·rw [if_pos (by simp;omega)];repeat' ((conv=>whnf);first|exact trivial|refine rE _ (h51) ?_|refine rE _ (h66) ?_|refine nT_ ?_|refine aE1 ?_|refine aN1 ?_|refine aN0 ?_|refine aD1 ?_|refine rix ?_|refine aS ?_|fail)
    ·rw [if_neg (by simp;omega)];repeat' ((conv=>whnf);first|exact trivial|refine rE _ (h51) ?_|refine rE _ (h66) ?_|refine nT_ ?_|refine aE1 ?_|refine aE0 ?_|refine aN1 ?_|refine aN0 ?_|refine aD0 ?_|refine rix ?_|refine aS ?_|fail)
 ·rw [if_neg hk]
  have h3:k≠3:=fun h=>hk (.inl h)
  have h4:k≠4:=fun h=>hk (.inr (.inl h))
  have h5:k≠5:=fun h=>hk (.inr (.inr h))
  repeat' ((conv=>whnf);first|exact trivial|refine nT_ ?_|refine aN1 ?_|refine rix ?_|refine aS ?_|fail)
def fitAll (l:List Fd) (r:RP):Int:=sQ ((ud r).map (wD l))
theorem t65 (l:List Fd) (hl:LOk l) (r:RP) (hr:r.nodes<2^40):DCalls Tryz.prog 71 [fds l,.agg (sB r)] (I (fitAll l r)):=by
 refine qO (rs:=[.tmp 4]) mixed Tryz.func71 l71 rfl rfl rfl (r:=[.int _ _]) (nlZ rfl) ?_
 have h91:=t91 _ r (Nat.le_refl _) hr
 have hlen:=uv r
 unfold fitAll
 generalize ud r=ps at *
 repeat' ((conv=>whnf);first|refine rE _ (h91) ?_|(refine And.intro (by first|exact sD _|fail) ?_)|fail)
 refine rq (α:=Nat) (fun i=>{sl:=[(0,.t (fds l)),(5,.t (.slice 5 (ps.map sL))),(6,.t (I i))],bx:=[]})
  (fun i=>i≤ps.length∧ ∀j (h:j<ps.length),j<i→wD l ps[j]=0) (fun i=>ps.length - i) 0 (by simp) ?_ ?_
 ·repeat' (first|exact trivial|exact LeV.same _|exact rfl|exact fun _ _ _=>trivial|refine And.intro ?_ ?_)
 rintro i ⟨hi,hp⟩
 rcases Nat.lt_or_ge i ps.length with h|h
 ·have h92:=t92 l hl ps[i]
  by_cases h0:wD l ps[i]=0
  ·rw [h0] at h92
   repeat' ((conv=>whnf);first|(refine nv_ (.agg (sB ps[i])) (by first|(simp [h,sF];done)|fail) ?_)|refine rE _ (h92) ?_|refine nT_ ?_|refine aN0 ?_|refine aD1 ?_|(refine And.intro (by first|exact sD _|fail) ?_)|refine aS ?_|fail)
   refine ⟨i+1,⟨h,fun j hj hlt=>?_⟩,by omega,?_⟩
   ·rcases Nat.lt_or_ge j i with h4|h4
    ·exact hp j hj h4
    ·obtain rfl:j=i:=by omega
     exact h0
   ·repeat' (first|exact trivial|exact LeV.same _|exact rfl|exact fun _ _ _=>trivial|exact lI|refine And.intro ?_ ?_)
  ·have e:sQ (ps.map (wD l))=wD l ps[i]:=by
    have:=vg (l:=ps.map (wD l)) (i:=i) (by simpa using h) (fun j hj hlt=>by simpa using hp j (by simpa using hj) hlt) (by simpa using h0)
    simpa using this
   rw [e]
   generalize wD l ps[i]=e at *
   repeat' ((conv=>whnf);first|exact trivial|(refine nv_ (.agg (sB ps[i])) (by first|(simp [h,sF];done)|fail) ?_)|refine rE _ (h92) ?_|refine nT_ ?_|refine aN1 ?_|refine aD1 ?_|refine rix ?_|(refine And.intro (by first|exact sD _|fail) ?_)|refine aS ?_|fail)
 ·rw [v7 fun j hj=>by simpa using hp j (by simpa using hj) (by simp at hj;omega)]
  repeat' ((conv=>whnf);first|exact trivial|refine aD0 ?_|refine rix ?_|refine aS ?_|fail)
def uZ (l:List Fd):RO→Int
 |.mk k p f n _=>if k=1 then fitAll l p else if k=2 then (match findF l f with
   |none=>4
   |some F=>if n>((2^F.w - 1:Nat):Int) then 1 else 0) else 0
def B4 (l:List Fd) (r:RO):Int:=if tA r≠0 then tA r else sQ ((tL r).map (uZ l))
mutual
theorem uH: ∀r:RO, ∀x∈tL r,x.wt≤r.wt
 |.mk k p f n a=>fun x hx=>by
  simp only [tL,List.mem_cons] at hx
  rcases hx with rfl|hx
  ·exact Nat.le_refl _
  ·have:=yT a x hx;simp only [RO.wt];omega
theorem yT: ∀l:List RO, ∀x∈tq l,x.wt≤tl l
 |[]=>fun x hx=>by simp [tq] at hx
 |r::rs=>fun x hx=>by
  simp only [tq,List.mem_append] at hx
  simp only [tl]
  rcases hx with hx|hx
  ·have:=uH r x hx;omega
  ·have:=yT rs x hx;omega
end
theorem t40 (l:List Fd) (hl:LOk l) (r:RO) (hr:r.wt<2^40) (hn:uj r):DCalls Tryz.prog 18 [fds l,.agg (sA r)] (I (B4 l r)):=by
 refine qO (rs:=[.tmp 4]) mixed Tryz.func18 l18 rfl rfl rfl (r:=[.int _ _]) (nlZ rfl) ?_
 have h63:=t63 r (by omega) hn
 have h64:=t64 _ r (Nat.le_refl _) hr
 have hlen:=ue r
 have hw:=uH r
 have hcl:=r.vY
 unfold B4
 generalize tL r=ps at *
 by_cases hc:tA r≠0
 ·rw [if_pos hc]
  generalize tA r=e at *
  repeat' ((conv=>whnf);first|exact trivial|refine rE _ (h63) ?_|refine aN1 ?_|refine rix ?_|(refine And.intro (by first|exact sE _|fail) ?_)|refine aS ?_|fail)
 rw [if_neg hc]
 have hc:tA r=0:=Decidable.not_not.1 hc
 rw [hc] at h63
 repeat' ((conv=>whnf);first|refine rE _ (h63) ?_|refine rE _ (h64) ?_|refine aN0 ?_|(refine And.intro (by first|exact sE _|fail) ?_)|refine aS ?_|fail)
 refine rq (α:=Nat) (fun i=>{sl:=[(0,.t (fds l)),(5,.t (I 0)),(6,.t (.slice 9 (ps.map sZ))),(7,.t (I i))],bx:=[]})
  (fun i=>i≤ps.length∧ ∀j (h:j<ps.length),j<i→uZ l ps[j]=0) (fun i=>ps.length - i) 0 (by simp) ?_ ?_
 ·repeat' (first|exact trivial|exact LeV.same _|exact rfl|exact fun _ _ _=>trivial|refine And.intro ?_ ?_)
 rintro i ⟨hi,hp⟩
 rcases Nat.lt_or_ge i ps.length with h|h
 ·have res: ∀e,uZ l ps[i]=e→e≠0→sQ (ps.map (uZ l))=e:=fun e he h0=>by
   have:=vg (l:=ps.map (uZ l)) (i:=i) (by simpa using h) (fun j hj hlt=>by simpa using hp j (by simpa using hj) hlt) (by simpa [he] using h0)
   rw [this];simpa using he
  have next:uZ l ps[i]=0→i+1≤ps.length∧ ∀j (h:j<ps.length),j<i+1→uZ l ps[j]=0:=fun h0=>by
   refine ⟨h,fun j hj hlt=>?_⟩
   rcases Nat.lt_or_ge j i with h4|h4
   ·exact hp j hj h4
   ·obtain rfl:j=i:=by omega
    exact h0
  have hwi:=hw _ (List.getElem_mem h)
  have hg:(ps.map sZ)[i]?.getD .nil= .agg (sA ps[i]):=by simp [h,sJ]
  generalize ps[i]=x at *
  obtain ⟨k,⟨pk,pf,pn,pm,pa⟩,f,n,a⟩:=x
  have h51:=t51 l f hl.len
  by_cases hk1:k=1
  ·subst hk1
   have h65:=t65 l hl (.mk pk pf pn pm pa) (by simp only [RO.wt] at hwi;omega)
   have ef:uZ l (.mk 1 (.mk pk pf pn pm pa) f n a)=fitAll l (.mk pk pf pn pm pa):=by simp [uZ]
   rw [ef] at res next
   generalize fitAll l (.mk pk pf pn pm pa)=e at *
   by_cases h0:e=0
   ·subst h0
    repeat' ((conv=>whnf);first|(refine nv_ (.agg (sA (.mk 1 (.mk pk pf pn pm pa) f n a))) (by first|exact hg|fail) ?_)|refine rE _ (h65) ?_|(exact ⟨i+1,next rfl,by omega,by (repeat' (first|exact trivial|exact LeV.same _|exact rfl|exact fun _ _ _=>trivial|exact lI|refine And.intro ?_ ?_));done⟩)|refine nT_ ?_|refine aE1 ?_|refine aE0 ?_|refine aN0 ?_|refine aD1 ?_|refine aS ?_|fail)
   ·rw [res e rfl h0]
    repeat' ((conv=>whnf);first|exact trivial|(refine nv_ (.agg (sA (.mk 1 (.mk pk pf pn pm pa) f n a))) (by first|exact hg|fail) ?_)|refine rE _ (h65) ?_|refine nT_ ?_|refine aE1 ?_|refine aE0 ?_|refine aN1 ?_|refine aD1 ?_|refine rix ?_|refine aS ?_|fail)
  ·by_cases hk2:k=2
   ·subst hk2
    unfold uU at h51
    cases hF:findF l f with
    |none=>
     rw [hF] at h51
     rw [res 4 (by simp [uZ,hF]) (by decide)]
     simp only at h51
     repeat' ((conv=>whnf);first|exact trivial|(refine nv_ (.agg (sA (.mk 2 (.mk pk pf pn pm pa) f n a))) (by first|exact hg|fail) ?_)|refine rE _ (h51) ?_|refine nT_ ?_|refine aE1 ?_|refine aE0 ?_|refine aN1 ?_|refine aD1 ?_|refine rix ?_|refine aS ?_|fail)
    |some F=>
     rw [hF] at h51
     simp only at h51
     have h66:=t66 F (hl.find hF)
     by_cases hc:n>((2^F.w - 1:Nat):Int)
     ·rw [res 1 (by simp only [uZ,hF];rw [if_neg (by decide),if_pos trivial,if_pos hc]) (by decide)]
      generalize ((2^F.w - 1:Nat):Int)=M at *
      repeat' ((conv=>whnf);first|exact trivial|(refine nv_ (.agg (sA (.mk 2 (.mk pk pf pn pm pa) f n a))) (by first|exact hg|fail) ?_)|refine rE _ (h51) ?_|refine rE _ (h66) ?_|refine nT_ ?_|refine aE1 ?_|refine aE0 ?_|refine aN1 ?_|refine aD1 ?_|refine rix ?_|refine aS ?_|fail)
     ·have next:=next (by simp only [uZ,hF];rw [if_neg (by decide),if_pos trivial,if_neg hc])
      generalize ((2^F.w - 1:Nat):Int)=M at *
      repeat' ((conv=>whnf);first|(refine nv_ (.agg (sA (.mk 2 (.mk pk pf pn pm pa) f n a))) (by first|exact hg|fail) ?_)|refine rE _ (h51) ?_|refine rE _ (h66) ?_|(exact ⟨i+1,next,by omega,by (repeat' (first|exact trivial|exact LeV.same _|exact rfl|exact fun _ _ _=>trivial|exact lI|refine And.intro ?_ ?_));done⟩)|refine nT_ ?_|refine aE1 ?_|refine aE0 ?_|refine aD1 ?_|refine aD0 ?_|refine aS ?_|fail)
   ·have next:=next (by simp only [uZ];rw [if_neg hk1,if_neg hk2])
    repeat' ((conv=>whnf);first|(refine nv_ (.agg (sA (.mk k (.mk pk pf pn pm pa) f n a))) (by first|exact hg|fail) ?_)|(exact ⟨i+1,next,by omega,by (repeat' (first|exact trivial|exact LeV.same _|exact rfl|exact fun _ _ _=>trivial|exact lI|refine And.intro ?_ ?_));done⟩)|refine nT_ ?_|refine aE0 ?_|refine aN0 ?_|refine aD1 ?_|refine aS ?_|fail)
 ·rw [v7 fun j hj=>by simpa using hp j (by simpa using hj) (by simp at hj;omega)]
  repeat' ((conv=>whnf);first|exact trivial|refine aD0 ?_|refine rix ?_|refine aS ?_|fail)
def RF.fd (f:RF):Fd:=⟨f.name,f.a.toNat,f.w.toNat⟩
structure Checked (l:List RF):Prop where
 len:l.length≤16
 name: ∀f∈l,vM f.name=true
 port: ∀f∈l,sC f.name s9=false
 place: ∀f∈l,uS f=true
 uniq: ∀i j (hi:i<l.length) (hj:j<l.length),j<i→sC l[j].name l[i].name=false
 apart: ∀i j (hi:i<l.length) (hj:j<l.length),j<i→uL l[j] l[i]=false
theorem yw: ∀{l:List Int},sQ l=0→ ∀x∈l,x=0
 |[],_,x,hx=>by cases hx
 |y::ys,h,x,hx=>by
  simp only [sQ] at h
  split at h
  ·rename_i hy;exact absurd h hy
  ·rename_i hy
   rcases List.mem_cons.1 hx with rfl|hx
   ·exact Decidable.not_not.1 hy
   ·exact yw h x hx
theorem BL {l:List RF} (h:xh l=0):Checked l:=by
 unfold xh at h
 split at h
 ·cases h
 rename_i hlen
 have hz: ∀i (hi:i<l.length),tz l i l[i]=0:=fun i hi=>yw h _ (List.mem_iff_getElem.2 ⟨i,by simpa using hi,by simp⟩)
 have key: ∀i (hi:i<l.length),(¬ (vM l[i].name=false∨sC l[i].name s9=true))∧(¬ ((l.take i).any fun g=>sC g.name l[i].name)=true)∧(¬ uS l[i]=false)∧ ¬((l.take i).any fun g=>uL g l[i])=true:=fun i hi=>by
  have:=hz i hi
  unfold tz at this
  split at this; ·cases this
  split at this; ·cases this
  split at this; ·cases this
  split at this; ·cases this
  rename_i h1 h2 h3 h4
  exact ⟨h1,h2,h3,h4⟩
 refine ⟨by omega,fun f hf=>?_,fun f hf=>?_,fun f hf=>?_,fun i j hi hj hji=>?_,fun i j hi hj hji=>?_⟩
 ·obtain ⟨i,hi,rfl⟩:=List.getElem_of_mem hf
  have:=(key i hi).1;simp at this;exact this.1
 ·obtain ⟨i,hi,rfl⟩:=List.getElem_of_mem hf
  have:=(key i hi).1;simp at this;exact this.2
 ·obtain ⟨i,hi,rfl⟩:=List.getElem_of_mem hf
  have:=(key i hi).2.2.1;simpa using this
 ·have:=(key i hi).2.1
  rw [vt (by omega)] at this
  cases hs:sC l[j].name l[i].name with
  |false=>rfl
  |true=>exact absurd ⟨j,hj,hji,hs⟩ this
 ·have:=(key i hi).2.2.2
  rw [vt (by omega)] at this
  cases hs:uL l[j] l[i] with
  |false=>rfl
  |true=>exact absurd ⟨j,hj,hji,hs⟩ this
theorem Checked.fds {l:List RF} (h:Checked l):wm l=MM.fds (l.map RF.fd):=by
 unfold wm MM.fds
 rw [List.map_map]
 congr 1
 refine List.map_congr_left fun f hf=>?_
 have:=h.place f hf
 simp [uS] at this
 obtain ⟨s,a,w⟩:=f
 simp only at this
 simp only [ur,tR,Function.comp,MM.fd,RF.fd]
 rw [Int.toNat_of_nonneg (by omega),Int.toNat_of_nonneg (by omega)]
theorem Checked.ok {l:List RF} (h:Checked l):LOk (l.map RF.fd):=by
 refine ⟨by have:=h.len;simp;omega,fun f hf=>?_⟩
 obtain ⟨g,hg,rfl⟩:=List.mem_map.1 hf
 have:=h.place g hg
 simp [uS] at this
 exact ⟨by simp only [RF.fd];omega,by simp only [RF.fd];omega,by simp only [RF.fd];omega⟩
end Go.MM
end
section
namespace Go.MM
open Go Go.DL Go.Proofs
theorem yu:Tryz.prog.underlying 23=some (.slice 25):=by kernel_rfl
theorem yv:Tryz.prog.underlying 26=some (.slice 28):=by kernel_rfl
theorem yN:Tryz.prog.cellsOf 3=1:=by kernel_rfl
theorem uQ {us:List T} (h:cE Tryz.prog 3 us): ∃n,us=[I n]∧(Lit.int .i64 n).wf=true:=by
 cases h with
 |int h n hw=>rw [Tryz.underlying3] at h;cases h;exact ⟨n,rfl,hw⟩
 |bool h|str h|nil h|slice h|struct h|array h=>rw [Tryz.underlying3] at h;cases h
end Go.MM
end
section
namespace Go.MM
open Go Go.DL Go.Proofs
theorem xg:Tryz.prog.cellsOf 9=1:=by kernel_rfl
theorem FK:Tryz.prog.cellsOf 23=1:=by kernel_rfl
theorem zh:Tryz.prog.cellsOf 25=5:=by kernel_rfl
theorem FM:Tryz.prog.cellsOf 26=1:=by kernel_rfl
theorem Bm:Tryz.prog.cellsOf 28=9:=by kernel_rfl
theorem Bn:Tryz.prog.cellsOf 88=3:=by kernel_rfl
theorem G2 (us:List T):mkT Tryz.prog 25 us= .agg us:=by unfold mkT;rw [Tryz.underlying25]
theorem G3 (us:List T):mkT Tryz.prog 28 us= .agg us:=by unfold mkT;rw [Tryz.underlying28]
theorem MP (us:List T):mkT Tryz.prog 88 us= .agg us:=by unfold mkT;rw [Tryz.underlying88]
theorem HV:Tryz.prog.underlying 9=some .string:=by kernel_rfl
theorem xp {us:List T} (h:cE Tryz.prog 9 us): ∃s,us=[.str s]:=by
 cases h with
 |str h s hs=>exact ⟨s,rfl⟩
 |bool h|int h|nil h|slice h|struct h|array h=>rw [HV] at h;cases h
def RdP (us:List T):Prop:= ∃r:RP,dp us (sB r)∧r.nodes≤aV us∧(aV us<2^62→uk r)
def Ka (us:List T):Prop:= ∃rs:List RP,dp us [.slice 5 (rs.map sL)]∧sK rs+1≤aV us∧(aV us<2^62→xr rs)
theorem F5 {xs:List (List T)} (h: ∀x∈xs,RdP x): ∃rs:List RP,rs.length=xs.length∧(∀ (i:Nat) (x:List T) (r:RP),xs[i]? =some x→rs[i]? =some r→dp x (sB r))∧sK rs≤aV (xs.map .agg)∧(aV (xs.map .agg)<2^62→xr rs):=by
 induction xs with
 |nil=>exact ⟨[],rfl,by simp,by simp [sK],fun _=>trivial⟩
 |cons x xs ih=>
  obtain ⟨r,h1,h2,h3⟩:=h x (by simp)
  obtain ⟨rs,k1,k2,k3,k4⟩:=ih fun y hy=>h y (by simp [hy])
  refine ⟨r::rs,by simp [k1],fun i a b ha hb=>?_,?_,fun hb=>?_⟩
  ·cases i with
   |zero=>simp at ha hb;subst ha;subst hb;exact h1
   |succ i=>exact k2 i a b (by simpa using ha) (by simpa using hb)
  ·simp only [sK,List.map_cons,aV,T.bulk];omega
  ·simp only [List.map_cons,aV,T.bulk] at hb
   exact ⟨h3 (by omega),k4 (by omega)⟩
theorem B3 {us:List T} (h:us.length=5): ∃a b c d e,us=[a,b,c,d,e]:=by
 match us,h with
 |[a,b,c,d,e],_=>exact ⟨a,b,c,d,e,rfl⟩
theorem Bz {t:TypeId} {us:List T} (h:cE Tryz.prog t us):(t=25→RdP us)∧(t=23→Ka us):=by
 induction h with
 |bool h b=>exact ⟨fun e=>(by subst e;rw [Tryz.underlying25] at h;cases h),fun e=>(by subst e;rw [yu] at h;cases h)⟩
 |int h n hw=>exact ⟨fun e=>(by subst e;rw [Tryz.underlying25] at h;cases h),fun e=>(by subst e;rw [yu] at h;cases h)⟩
 |str h s hs=>exact ⟨fun e=>(by subst e;rw [Tryz.underlying25] at h;cases h),fun e=>(by subst e;rw [yu] at h;cases h)⟩
 |array h us hl hf ih=>exact ⟨fun e=>(by subst e;rw [Tryz.underlying25] at h;cases h),fun e=>(by subst e;rw [yu] at h;cases h)⟩
 |nil h=>
  refine ⟨fun e=>(by subst e;rw [Tryz.underlying25] at h;cases h),fun e=>?_⟩
  exact ⟨[],.cons (Les.nil 5) rfl .nil,by simp [sK,aV,T.bulk],fun _=>trivial⟩
 |slice h xs hx hl ih=>
  refine ⟨fun e=>(by subst e;rw [Tryz.underlying25] at h;cases h),fun e=>?_⟩
  subst e
  rw [yu] at h
  cases h
  obtain ⟨rs,k1,k2,k3,k4⟩:=F5 (xs:=xs) fun x hm=>(ih x hm).1 rfl
  have em:xs.map (mkT Tryz.prog 25)=xs.map .agg:=List.map_congr_left fun x _=>G2 x
  rw [em,zh]
  refine ⟨rs,.cons (Les.slice (by simp [k1]) fun i x y hx hy=>?_) rfl .nil,by simp only [aV,T.bulk];omega,fun hb=>k4 (by simp only [aV,T.bulk] at hb;omega)⟩
  rw [List.getElem?_map] at hx hy
  obtain ⟨x',hx',rfl⟩:=Option.map_eq_some_iff.1 hx
  obtain ⟨r',hr',rfl⟩:=Option.map_eq_some_iff.1 hy
  rw [sF]
  exact ⟨k2 i x' r' hx' hr',sD r'⟩
 |struct h us hl hf ih=>
  refine ⟨fun e=>?_,fun e=>(by subst e;rw [yu] at h;cases h)⟩
  subst e
  rw [Tryz.underlying25] at h
  cases h
  rw [zh] at hl
  obtain ⟨a,b,c,d,e,rfl⟩:=B3 hl
  have f0:=hf ⟨ "Kind",3,0,false, "", "",0⟩ (by simp)
  have f1:=hf ⟨ "Field",9,1,false, "", "",8⟩ (by simp)
  have f2:=hf ⟨ "N",3,2,false, "", "",24⟩ (by simp)
  have f3:=hf ⟨ "M",3,3,false, "", "",32⟩ (by simp)
  have f4:=(ih ⟨ "Args",23,4,false, "", "",40⟩ (by simp)).2 rfl
  simp only [yN,xg,FK,List.drop,List.take] at f0 f1 f2 f3 f4
  obtain ⟨k,e0,_⟩:=uQ f0
  obtain ⟨s,e1⟩:=xp f1
  obtain ⟨n,e2,_⟩:=uQ f2
  obtain ⟨m,e3,_⟩:=uQ f3
  obtain ⟨rs,g1,g2,g3⟩:=f4
  simp only [List.cons.injEq,and_true] at e0 e1 e2 e3
  subst e0;subst e1;subst e2;subst e3
  refine ⟨.mk k s n m rs,.cons (Les.refl _) rfl (.cons (Les.refl _) rfl (.cons (Les.refl _) rfl (.cons (Les.refl _) rfl g1))),?_,fun hb=>?_⟩
  ·simp only [RP.nodes,aV,T.bulk] at g2 ⊢;omega
  ·simp only [aV,T.bulk] at g3 hb
   exact ⟨by omega,g3 (by omega)⟩
def RdO (us:List T):Prop:= ∃r:RO,dp us (sA r)∧r.wt≤aV us∧(aV us<2^62→uj r)
def J9 (us:List T):Prop:= ∃rs:List RO,dp us [.slice 9 (rs.map sZ)]∧tl rs+1≤aV us∧(aV us<2^62→xq rs)
theorem F4 {xs:List (List T)} (h: ∀x∈xs,RdO x): ∃rs:List RO,rs.length=xs.length∧(∀ (i:Nat) (x:List T) (r:RO),xs[i]? =some x→rs[i]? =some r→dp x (sA r))∧tl rs≤aV (xs.map .agg)∧(aV (xs.map .agg)<2^62→xq rs):=by
 induction xs with
 |nil=>exact ⟨[],rfl,by simp,by simp [tl],fun _=>trivial⟩
 |cons x xs ih=>
  obtain ⟨r,h1,h2,h3⟩:=h x (by simp)
  obtain ⟨rs,k1,k2,k3,k4⟩:=ih fun y hy=>h y (by simp [hy])
  refine ⟨r::rs,by simp [k1],fun i a b ha hb=>?_,?_,fun hb=>?_⟩
  ·cases i with
   |zero=>simp at ha hb;subst ha;subst hb;exact h1
   |succ i=>exact k2 i a b (by simpa using ha) (by simpa using hb)
  ·simp only [tl,List.map_cons,aV,T.bulk];omega
  ·simp only [List.map_cons,aV,T.bulk] at hb
   exact ⟨h3 (by omega),k4 (by omega)⟩
theorem IP {us:List T} (h:us.length=9): ∃a b c d e f g i j,us=[a,b,c,d,e,f,g,i,j]:=by
 match us,h with
 |[a,b,c,d,e,f,g,i,j],_=>exact ⟨a,b,c,d,e,f,g,i,j,rfl⟩
theorem dp.J8 {a b c d e:T} {r:RP} (h:dp [a,b,c,d,e] (sB r)) {x y:T} {xs ys:List T} (k:dp (x::xs) (y::ys)):dp (a::b::c::d::e::x::xs) (sB r++y::ys):=dp.append h k
theorem D0 {t:TypeId} {us:List T} (h:cE Tryz.prog t us):(t=28→RdO us)∧(t=26→J9 us):=by
 induction h with
 |bool h b=>exact ⟨fun e=>(by subst e;rw [Tryz.underlying28] at h;cases h),fun e=>(by subst e;rw [yv] at h;cases h)⟩
 |int h n hw=>exact ⟨fun e=>(by subst e;rw [Tryz.underlying28] at h;cases h),fun e=>(by subst e;rw [yv] at h;cases h)⟩
 |str h s hs=>exact ⟨fun e=>(by subst e;rw [Tryz.underlying28] at h;cases h),fun e=>(by subst e;rw [yv] at h;cases h)⟩
 |array h us hl hf ih=>exact ⟨fun e=>(by subst e;rw [Tryz.underlying28] at h;cases h),fun e=>(by subst e;rw [yv] at h;cases h)⟩
 |nil h=>
  refine ⟨fun e=>(by subst e;rw [Tryz.underlying28] at h;cases h),fun e=>?_⟩
  exact ⟨[],.cons (Les.nil 9) rfl .nil,by simp [tl,aV,T.bulk],fun _=>trivial⟩
 |slice h xs hx hl ih=>
  refine ⟨fun e=>(by subst e;rw [Tryz.underlying28] at h;cases h),fun e=>?_⟩
  subst e
  rw [yv] at h
  cases h
  obtain ⟨rs,k1,k2,k3,k4⟩:=F4 (xs:=xs) fun x hm=>(ih x hm).1 rfl
  have em:xs.map (mkT Tryz.prog 28)=xs.map .agg:=List.map_congr_left fun x _=>G3 x
  rw [em,Bm]
  refine ⟨rs,.cons (Les.slice (by simp [k1]) fun i x y hx hy=>?_) rfl .nil,by simp only [aV,T.bulk];omega,fun hb=>k4 (by simp only [aV,T.bulk] at hb;omega)⟩
  rw [List.getElem?_map] at hx hy
  obtain ⟨x',hx',rfl⟩:=Option.map_eq_some_iff.1 hx
  obtain ⟨r',hr',rfl⟩:=Option.map_eq_some_iff.1 hy
  rw [sJ]
  exact ⟨k2 i x' r' hx' hr',sE r'⟩
 |struct h us hl hf ih=>
  refine ⟨fun e=>?_,fun e=>(by subst e;rw [yv] at h;cases h)⟩
  subst e
  rw [Tryz.underlying28] at h
  cases h
  rw [Bm] at hl
  obtain ⟨a,b,c,d,e,f,g,i,j,rfl⟩:=IP hl
  have f0:=hf ⟨ "Kind",3,0,false, "", "",0⟩ (by simp)
  have f1:=(Bz (hf ⟨ "Pred",25,1,false, "", "",8⟩ (by simp))).1 rfl
  have f2:=hf ⟨ "Field",9,6,false, "", "",72⟩ (by simp)
  have f3:=hf ⟨ "N",3,7,false, "", "",88⟩ (by simp)
  have f4:=(ih ⟨ "Args",26,8,false, "", "",96⟩ (by simp)).2 rfl
  simp only [yN,xg,zh,FM,List.drop,List.take] at f0 f1 f2 f3 f4
  obtain ⟨k,e0,_⟩:=uQ f0
  obtain ⟨p,p1,p2,p3⟩:=f1
  obtain ⟨s,e1⟩:=xp f2
  obtain ⟨n,e2,_⟩:=uQ f3
  obtain ⟨rs,g1,g2,g3⟩:=f4
  simp only [List.cons.injEq,and_true] at e0 e1 e2
  subst e0;subst e1;subst e2
  refine ⟨.mk k p s n rs,.cons (Les.refl _) rfl (dp.J8 p1 (.cons (Les.refl _) rfl (.cons (Les.refl _) rfl g1))),?_,fun hb=>?_⟩
  ·simp only [RO.wt,aV,T.bulk] at p2 g2 ⊢;omega
  ·simp only [aV,T.bulk] at p3 g3 hb
   exact ⟨p3 (by omega),by omega,g3 (by omega)⟩
theorem EB {us:List T} (h:cE Tryz.prog 88 us): ∃f:RF,us=tR f∧f.name.size<aV us:=by
 cases h with
 |struct h us hl hf=>
  rw [Tryz.underlying88] at h
  cases h
  rw [Bn] at hl
  match us,hl with
  |[a,b,c],_=>
   have f0:=hf ⟨ "Name",9,0,false, "", "",0⟩ (by simp)
   have f1:=hf ⟨ "At",3,1,false, "", "",16⟩ (by simp)
   have f2:=hf ⟨ "Width",3,2,false, "", "",24⟩ (by simp)
   simp only [yN,xg,List.drop,List.take] at f0 f1 f2
   obtain ⟨s,e0⟩:=xp f0
   obtain ⟨n,e1,_⟩:=uQ f1
   obtain ⟨m,e2,_⟩:=uQ f2
   simp only [List.cons.injEq,and_true] at e0 e1 e2
   subst e0;subst e1;subst e2
   exact ⟨⟨s,n,m⟩,rfl,by simp [aV,T.bulk];omega⟩
 |int h|bool h|str h|nil h|slice h|array h=>rw [Tryz.underlying88] at h;cases h
theorem DZ {us:List T} (h:cE Tryz.prog 22 us): ∃l:List RF,Les (mkT Tryz.prog 22 us) (wm l)∧l.length≤aV us∧ ∀f∈l,f.name.size<aV us:=by
 have e: ∀t,mkT Tryz.prog 22 [t]=t:=fun t=>by unfold mkT;rw [Tryz.underlying22];rfl
 cases h with
 |nil h=>exact ⟨[],by rw [e];exact Les.nil 3,by simp,by simp⟩
 |slice h xs hx hl=>
  rw [Tryz.underlying22] at h
  cases h
  rw [e,Bn]
  have em:xs.map (mkT Tryz.prog 88)=xs.map .agg:=List.map_congr_left fun x _=>MP x
  rw [em]
  have key: ∃l:List RF,l.length=xs.length∧xs.map .agg=l.map ur∧l.length≤aV (xs.map .agg)∧ ∀f∈l,f.name.size<aV (xs.map .agg):=by
   clear hl em
   induction xs with
   |nil=>exact ⟨[],rfl,rfl,by simp,by simp⟩
   |cons x xs ih=>
    obtain ⟨f,h1,h2⟩:=EB (hx x (by simp))
    obtain ⟨l,k1,k2,k3,k4⟩:=ih fun y hy=>hx y (by simp [hy])
    refine ⟨f::l,by simp [k1],by simp only [List.map_cons,k2,h1];rfl,by simp only [List.map_cons,aV,T.bulk,List.length_cons];omega,fun g hg=>?_⟩
    simp only [List.map_cons,aV,T.bulk]
    rcases List.mem_cons.1 hg with rfl|hg
    ·omega
    ·have:=k4 g hg;omega
  obtain ⟨l,k1,k2,k3,k4⟩:=key
  refine ⟨l,by rw [k2];exact Les.refl _,by simp only [aV,T.bulk];omega,fun f hf=>by simp only [aV,T.bulk];have:=k4 f hf;omega⟩
 |int h|bool h|str h|array h|struct h=>rw [Tryz.underlying22] at h;cases h
end Go.MM
end
section
namespace Go.TY
instance memBA (a : ByteArray) (l : List ByteArray) : Decidable (a ∈ l) := @List.instDecidableMemOfLawfulBEq ByteArray instBEqOfDecidableEq inferInstance a l
structure Lin {α:Type} (lt:α→α→Bool):Prop where
 irr: ∀a,lt a a=false
 tr: ∀a b c,lt a b=true→lt b c=true→lt a c=true
 tot: ∀a b,lt a b=false→lt b a=false→a=b
section
variable {α:Type} {lt:α→α→Bool}
theorem Lin.ne (h:Lin lt) {a b:α} (hl:lt a b=true):a≠b:=fun e=>by
 subst e;rw [h.irr] at hl;cases hl
theorem Lin.asym (h:Lin lt) {a b:α} (hl:lt a b=true):lt b a=false:=by
 cases e:lt b a with
 |false=>rfl
 |true=>have:=h.tr _ _ _ hl e;rw [h.irr] at this;cases this
variable [DecidableEq α]
def put (lt:α→α→Bool):List α→α→List α
 |[],s=>[s]
 |x::xs,s=>if lt x s=true then x::put lt xs s else s::(x::xs).filter fun y=> !decide (y=s)
def Inc (lt:α→α→Bool) (l:List α):Prop:=l.Pairwise fun a b=>lt a b=true
theorem Bt {l:List α} {s x:α}:x∈put lt l s↔x=s∨x∈l:=by
 induction l with
 |nil=>simp [put]
 |cons y ys ih=>
  unfold put
  by_cases hl:lt y s=true
  ·rw [if_pos hl,List.mem_cons,ih,List.mem_cons]
   exact ⟨fun h=>by rcases h with h|h|h <;> simp [h],fun h=>by rcases h with h|h|h <;> simp [h]⟩
  ·rw [if_neg hl,List.mem_cons,List.mem_filter]
   by_cases hx:x=s
   ·simp [hx]
   ·simp [hx]
theorem Inc.put (h:Lin lt) {l:List α} (hl:Inc lt l) (s:α):Inc lt (put lt l s):=by
 induction l with
 |nil=>simp [TY.put,Inc]
 |cons y ys ih=>
  have h2:=List.pairwise_cons.1 hl
  unfold TY.put
  by_cases hys:lt y s=true
  ·rw [if_pos hys]
   refine List.pairwise_cons.2 ⟨fun z hz=>?_,ih h2.2⟩
   rcases Bt.1 hz with rfl|hz
   ·exact hys
   ·exact h2.1 z hz
  ·rw [if_neg hys]
   have hys':lt y s=false:=by simpa using hys
   refine List.pairwise_cons.2 ⟨fun z hz=>?_,hl.filter _⟩
   obtain ⟨h3,h4⟩:=List.mem_filter.1 hz
   have hzs:z≠s:=by simpa using h4
   cases e:lt s z with
   |true=>rfl
   |false=>
    exfalso
    cases e2:lt z s with
    |false=>exact hzs (h.tot _ _ e2 e)
    |true=>
     rcases List.mem_cons.1 h3 with rfl|h3
     ·rw [hys'] at e2;cases e2
     ·have:=h.tr _ _ _ (h2.1 z h3) e2
      rw [hys'] at this;cases this
theorem Inc.ext (h:Lin lt): ∀{a b:List α},Inc lt a→Inc lt b→(∀ x,x∈a↔x∈b)→a=b
 |[],[],_,_,_=>rfl
 |[],y::ys,_,_,hm=>by have:=(hm y).2 (by simp);simp at this
 |x::xs,[],_,_,hm=>by have:=(hm x).1 (by simp);simp at this
 |x::xs,y::ys,ha,hb,hm=>by
  have h1:=List.pairwise_cons.1 ha
  have h2:=List.pairwise_cons.1 hb
  have e:x=y:=by
   by_cases e:x=y
   ·exact e
   ·exfalso
    have hx:x∈ys:=by have:=(hm x).1 (by simp);simpa [e] using this
    have hy:y∈xs:=by have:=(hm y).2 (by simp);simpa [show ¬y=x from fun h=>e h.symm] using this
    have l1:=h1.1 y hy
    have l2:=h2.1 x hx
    rw [h.asym l1] at l2;cases l2
  subst e
  rw [Inc.ext h h1.2 h2.2 fun z=>?_]
  have:=hm z
  simp only [List.mem_cons] at this
  by_cases e:z=x
  ·subst e
   exact ⟨fun hz=>absurd rfl (h.ne (h1.1 z hz)),fun hz=>absurd rfl (h.ne (h2.1 z hz))⟩
  ·simpa [e] using this
def uo (lt:α→α→Bool) (l:List α):List α:=l.foldl (put lt) []
theorem Bd {l:List α}: ∀{acc:List α} {x:α},x∈l.foldl (put lt) acc↔x∈acc∨x∈l:=by
 induction l with
 |nil=>simp
 |cons y ys ih=>
  intro acc x
  rw [List.foldl_cons,ih,Bt,List.mem_cons]
  exact ⟨fun h=>by rcases h with (h|h)|h <;> simp [h],fun h=>by rcases h with h|h|h <;> simp [h]⟩
theorem wv {l:List α} {x:α}:x∈uo lt l↔x∈l:=by simp [uo,Bd]
theorem Ba (h:Lin lt) {l:List α}: ∀{acc:List α},Inc lt acc→Inc lt (l.foldl (put lt) acc):=by
 induction l with
 |nil=>exact fun h=>h
 |cons y ys ih=>intro acc ha;exact ih (ha.put h y)
theorem xK (h:Lin lt) (l:List α):Inc lt (uo lt l):=Ba h List.Pairwise.nil
theorem wU (h:Lin lt) {a b:List α} (hm: ∀x,x∈a↔x∈b):uo lt a=uo lt b:=
 Inc.ext h (xK h a) (xK h b) fun x=>by rw [wv,wv,hm]
def once:List α→List α→List α
 |acc,[]=>acc
 |acc,x::xs=>once (if x∈acc then acc else acc++[x]) xs
theorem vD: ∀{l acc:List α} {x:α},x∈once acc l↔x∈acc∨x∈l
 |[],acc,x=>by simp [once]
 |y::ys,acc,x=>by
  unfold once
  rw [vD,List.mem_cons]
  by_cases h:y∈acc
  ·rw [if_pos h]
   exact ⟨fun h=>by rcases h with h|h <;> simp [h],fun k=>by rcases k with k|rfl|k <;> simp [*]⟩
  ·rw [if_neg h]
   simp [or_assoc]
theorem uN: ∀{l acc:List α},acc.Nodup→(once acc l).Nodup
 |[],_,h=>h
 |y::ys,acc,h=>by
  unfold once
  refine uN ?_
  by_cases hc:y∈acc
  ·rw [if_pos hc];exact h
  ·rw [if_neg hc]
   refine List.nodup_append.2 ⟨h,by simp,fun a ha b hb e=>hc ?_⟩
   rw [List.mem_singleton.1 hb] at e
   subst e
   exact ha
theorem yE (h:Lin lt) {a zs:List α} (hn:zs.Nodup) (hs:zs.Pairwise fun x y=>lt y x=false) (hm: ∀x,x∈zs↔x∈a):zs=uo lt a:=by
 refine Inc.ext h ?_ (xK h a) fun x=>by rw [hm,wv]
 refine (hs.and (List.nodup_iff_pairwise_ne.1 hn)).imp fun {x y} hxy=>?_
 cases e:lt x y with
 |true=>rfl
 |false=>exact absurd (h.tot _ _ e hxy.1) hxy.2
end
def ltI (a b:Int):Bool:=decide (a<b)
theorem Ew:Lin ltI where
 irr:=fun a=>by simp [ltI]
 tr:=fun a b c h k=>by simp only [ltI,decide_eq_true_eq] at *;omega
 tot:=fun a b h k=>by simp only [ltI,decide_eq_false_iff_not] at *;omega
def ltS (a b:ByteArray):Bool:=Op.bytesLess a.toList b.toList
theorem zt {a b:ByteArray} (h:a.toList=b.toList):a=b:=by
 rw [ByteArray.toList_eq,ByteArray.toList_eq] at h
 exact ByteArray.ext (Array.ext' h)
theorem Ab:Lin ltS where
 irr:=fun a=>by simp [ltS,Go.Proofs.bytesLess_eq]
 tr:=fun a b c h k=>by
  simp only [ltS,Go.Proofs.bytesLess_eq,decide_eq_true_eq] at *
  exact List.lt_trans h k
 tot:=fun a b h k=>by
  simp only [ltS,Go.Proofs.bytesLess_eq,decide_eq_false_iff_not,List.not_lt] at *
  exact zt (List.le_antisymm k h)
end Go.TY
end
section
namespace Go.TY
open Go Go.DL Go.MM
abbrev Fd:=Go.MM.Fd
structure RS where
 kind:Int
 var:ByteArray
 key:List ByteArray
 field:ByteArray
 n:Int
 m:Int
def sH (s:RS):List T:=[I s.kind,.str s.var,.slice 1 (s.key.map .str),.str s.field,I s.n,I s.m]
structure RV where
 name:ByteArray
 fam:Int
 ws:List Int
 n:Int
 m:Int
 deriving DecidableEq
def vW (v:RV):List T:=[.str v.name,I v.fam,.slice 1 (v.ws.map I),I v.n,I v.m]
def sW (v:RV):T:=.agg (vW v)
def RS.own (s:RS):Bool:=s.kind==4||s.kind==6
def tS (k:Int):Int:=if k=1 then 1 else if k=2∨k=3 then 2 else if k=4∨k=5 then 3 else 4
def s7 (l:List Fd) (s:RS):List Int:=s.key.map fun k=>((fld l k).w:Int)
def vOf (l:List Fd) (s:RS):RV:=⟨s.var,tS s.kind,s7 l s,if s.own then s.n else 0,if s.own then s.m else 0⟩
def vV (l:List Fd) (s t:RS):Bool:= !(s.own&&t.own&&((s.n !=t.n)||(s.m !=t.m)))&&((s7 l s==s7 l t)&&(tS s.kind==tS t.kind))
theorem tZ {l:List Fd} {s t:RS}:vV l s t=true↔(s.own=true→t.own=true→s.n=t.n∧s.m=t.m)∧s7 l s=s7 l t∧tS s.kind=tS t.kind:=by
 unfold vV
 cases h1:s.own <;> cases h2:t.own <;> simp
theorem A6 {l:List Fd} (s:RS):vV l s s=true:=by rw [tZ];simp
theorem A7 {l:List Fd} {s t:RS} (h:vV l s t=true):vV l t s=true:=by
 rw [tZ] at *
 exact ⟨fun a b=>⟨(h.1 b a).1.symm,(h.1 b a).2.symm⟩,h.2.1.symm,h.2.2.symm⟩
def PW (l:List Fd) (ss:List RS):Prop:=ss.Pairwise fun s t=>s.var=t.var→vV l s t=true
theorem PW.all {l:List Fd} {ss:List RS} (h:PW l ss): ∀s∈ss, ∀t∈ss,s.var=t.var→vV l s t=true:=by
 induction ss with
 |nil=>intro s hs;simp at hs
 |cons x xs ih=>
  have h2:=List.pairwise_cons.1 h
  intro s hs t ht e
  rcases List.mem_cons.1 hs with e1|hs'
  ·rcases List.mem_cons.1 ht with e2|ht'
   ·rw [e1,e2];exact A6 _
   ·subst e1;exact h2.1 t ht' e
  ·rcases List.mem_cons.1 ht with e2|ht'
   ·subst e2;exact A7 (h2.1 s hs' e.symm)
   ·exact ih h2.2 s hs' t ht' e
theorem Bl {l:List Fd} {ss:List RS} {t:RS}:PW l (ss++[t])↔PW l ss∧ ∀s∈ss,s.var=t.var→vV l s t=true:=by
 unfold PW
 rw [List.pairwise_append]
 exact ⟨fun h=>⟨h.1,fun s hs=>h.2.2 s hs t (by simp)⟩,fun h=>⟨h.1,by simp,fun a ha b hb=>by rw [List.mem_singleton.1 hb];exact h.2 a ha⟩⟩
def ti (ss:List RS) (name:ByteArray):Option RS:=ss.find? fun s=>decide (s.var=name)&&s.own
def wg (l:List Fd) (ss:List RS) (name:ByteArray):Option RV:=match ss.find? fun s=>decide (s.var=name) with
 |none=>none
 |some s=>some ⟨name,tS s.kind,s7 l s,((ti ss name).map (·.n)).getD 0,((ti ss name).map (·.m)).getD 0⟩
structure VS where
 all:List RV
 num:List (ByteArray×Bool)
def td (all:List RV) (name:ByteArray):Option RV:=all.find? fun v=>decide (v.name=name)
def uI (v:RV):List RV→List RV
 |[]=>[v]
 |x::xs=>if x.name=v.name then v::xs else x::uI v xs
def tX (num:List (ByteArray×Bool)) (name:ByteArray):Option Bool:=(num.find? fun p=>decide (p.1=name)).map (·.2)
def xc (name:ByteArray) (b:Bool):List (ByteArray×Bool)→List (ByteArray×Bool)
 |[]=>[(name,b)]
 |x::xs=>if x.1=name then (name,b)::xs else x::xc name b xs
theorem wP {v:RV} {all:List RV} {name:ByteArray}:td (uI v all) name=if v.name=name then some v else td all name:=by
 induction all with
 |nil=>unfold uI td;by_cases h:v.name=name <;> simp [h]
 |cons x xs ih=>
  unfold uI
  by_cases hx:x.name=v.name
  ·rw [if_pos hx]
   unfold td
   by_cases h:v.name=name
   ·simp [h]
   ·have: ¬x.name=name:=fun e=>h (hx.symm.trans e)
    simp [h,this]
  ·rw [if_neg hx]
   unfold td at ih ⊢
   rw [List.find?_cons,List.find?_cons,ih]
   by_cases h:x.name=name
   ·have: ¬v.name=name:=fun e=>hx (h.trans e.symm)
    simp [h,this]
   ·simp [h]
theorem CZ {n:ByteArray} {b:Bool} {num:List (ByteArray×Bool)} {name:ByteArray}:tX (xc n b num) name=if n=name then some b else tX num name:=by
 induction num with
 |nil=>unfold xc tX;by_cases h:n=name <;> simp [h]
 |cons x xs ih=>
  unfold xc
  by_cases hx:x.1=n
  ·rw [if_pos hx]
   unfold tX
   by_cases h:n=name
   ·simp [h]
   ·have: ¬x.1=name:=fun e=>h (hx.symm.trans e)
    simp [h,this]
  ·rw [if_neg hx]
   unfold tX at ih ⊢
   rw [List.find?_cons,List.find?_cons]
   by_cases h:x.1=name
   ·have: ¬n=name:=fun e=>hx (h.trans e.symm)
    simp [h,this]
   ·simp only [h,decide_false];exact ih
theorem yX {v:RV} {all:List RV}:(uI v all).map (·.name)=if v.name∈all.map (·.name) then all.map (·.name) else all.map (·.name)++[v.name]:=by
 induction all with
 |nil=>simp [uI]
 |cons x xs ih=>
  unfold uI
  by_cases hx:x.name=v.name
  ·rw [if_pos hx,if_pos (by rw [List.map_cons,hx];exact List.mem_cons_self)];simp [hx]
  ·rw [if_neg hx,List.map_cons,ih,List.map_cons]
   by_cases hm:v.name∈xs.map (·.name)
   ·rw [if_pos hm,if_pos (List.mem_cons_of_mem _ hm)]
   ·rw [if_neg hm,if_neg (fun h=>by
     rcases List.mem_cons.1 h with h|h
     ·exact hx h.symm
     ·exact hm h)]
    rfl
def uV (l:List Fd) (st:VS) (s:RS):Option VS:=
 let num:=xc s.var (((tX st.num s.var).getD false)||s.own) st.num
 match td st.all s.var with
 |none=>some ⟨uI (vOf l s) st.all,num⟩
 |some old=>if (old.fam !=tS s.kind)|| !(old.ws==s7 l s)||(s.own&&((tX st.num s.var).getD false)&&((old.n !=s.n)||(old.m !=s.m))) then none
  else some ⟨if s.own then uI (vOf l s) st.all else st.all,num⟩
def ug (l:List Fd):VS→List RS→Option VS
 |st,[]=>some st
 |st,s::ss=>(uV l st s).bind fun st=>ug l st ss
structure xD (l:List Fd) (ss:List RS) (st:VS):Prop where
 pw:PW l ss
 look: ∀name,td st.all name=wg l ss name
 num: ∀name,(tX st.num name).getD false=(ti ss name).isSome
 names:st.all.map (·.name)=once [] (ss.map (·.var))
theorem vb {α:Type} [DecidableEq α]: ∀{xs acc:List α} {y:α},once acc (xs++[y])=(if y∈once acc xs then once acc xs else once acc xs++[y])
 |[],acc,y=>rfl
 |x::xs,acc,y=>by
  rw [List.cons_append]
  unfold once
  exact vb
theorem uG {α:Type} {p:α→Bool} {ss:List α} {t:α}:(ss++[t]).find? p=match ss.find? p with
  |some s=>some s
  |none=>if p t=true then some t else none:=by
 rw [List.find?_append]
 cases ss.find? p with
 |some s=>rfl
 |none=>simp [List.find?_cons];cases p t <;> rfl
theorem xD.step {l:List Fd} {ss:List RS} {st:VS} (h:xD l ss st) (t:RS):
  (PW l (ss++[t])→ ∃st',uV l st t=some st'∧xD l (ss++[t]) st')∧(¬ PW l (ss++[t])→uV l st t=none):=by
 have hl:=h.look t.var
 have hn:=h.num t.var
 have hsome: ∀s0,ss.find? (fun s=>decide (s.var=t.var))=some s0→s0∈ss∧s0.var=t.var:=fun s0 h0=>⟨List.mem_of_find?_eq_some h0,by simpa using List.find?_some h0⟩
 have hown: ∀s1,ti ss t.var=some s1→s1∈ss∧s1.var=t.var∧s1.own=true:=fun s1 h1=>⟨List.mem_of_find?_eq_some h1,by simpa using List.find?_some h1⟩
 have hpw:=h.pw.all
 have lookO: ∀(x:List RV) name, ¬t.var=name→td x name=td st.all name→td x name=wg l (ss++[t]) name:=fun x name hne hx=>by
  rw [hx,h.look name]
  unfold wg ti
  rw [uG,uG]
  simp only [hne,decide_false,Bool.false_and]
  cases ss.find? fun s=>decide (s.var=name) with
  |none=>rfl
  |some s=>simp only;cases ss.find? fun s=>decide (s.var=name)&&s.own <;> rfl
 have numI: ∀name,(tX (xc t.var (((tX st.num t.var).getD false)||t.own) st.num) name).getD false=(ti (ss++[t]) name).isSome:=fun name=>by
  rw [CZ]
  unfold ti
  rw [uG]
  by_cases hne:t.var=name
  ·subst hne
   rw [if_pos rfl,Option.getD_some,hn]
   unfold ti
   cases ss.find? fun s=>decide (s.var=t.var)&&s.own with
   |some s=>simp
   |none=>cases ho:t.own <;> simp []
  ·rw [if_neg hne,h.num name]
   unfold ti
   simp only [hne,decide_false,Bool.false_and]
   cases ss.find? fun s=>decide (s.var=name)&&s.own <;> rfl
 unfold uV
 dsimp only
 cases hf:ss.find? (fun s=>decide (s.var=t.var)) with
 |none=>
  have hno: ∀s∈ss, ¬s.var=t.var:=fun s hs=>by
   have:=List.find?_eq_none.1 hf s hs;simpa using this
  have hlk:td st.all t.var=none:=by rw [hl];unfold wg;rw [hf]
  rw [hlk]
  have hp2:PW l (ss++[t]):=Bl.2 ⟨h.pw,fun s hs e=>absurd e (hno s hs)⟩
  refine ⟨fun _=>⟨_,rfl,hp2,fun name=>?_,numI,?_⟩,fun hc=>absurd hp2 hc⟩
  ·by_cases hne:t.var=name
   ·subst hne
    rw [wP]
    have h0:ti ss t.var=none:=by
     unfold ti
     rw [List.find?_eq_none]
     intro s hs;simp [hno s hs]
    unfold wg
    rw [uG,hf]
    have:(vOf l t).name=t.var:=rfl
    rw [if_pos this]
    simp only [decide_true,if_true]
    unfold ti at h0 ⊢
    rw [uG,h0]
    simp only [decide_true,Bool.true_and,vOf]
    cases t.own <;> rfl
   ·refine lookO _ name hne ?_
    rw [wP]
    exact if_neg hne
  ·show (uI (vOf l t) st.all).map (·.name)=_
   rw [yX,h.names,List.map_append,List.map_cons,List.map_nil,vb]
   rfl
 |some s0=>
  obtain ⟨m0,v0⟩:=hsome s0 hf
  have hlk:td st.all t.var=some ⟨t.var,tS s0.kind,s7 l s0,((ti ss t.var).map (·.n)).getD 0,((ti ss t.var).map (·.m)).getD 0⟩:=by rw [hl];unfold wg;rw [hf]
  rw [hlk]
  dsimp only
  have key:PW l (ss++[t])↔(tS s0.kind=tS t.kind∧s7 l s0=s7 l t)∧(t.own=true→ ∀s1,ti ss t.var=some s1→s1.n=t.n∧s1.m=t.m):=by
   rw [Bl]
   constructor
   ·rintro ⟨_,ha⟩
    have h0:=tZ.1 (ha s0 m0 v0)
    exact ⟨⟨h0.2.2,h0.2.1⟩,fun ho s1 h1=>by
     obtain ⟨k1,k2,k3⟩:=hown s1 h1
     exact (tZ.1 (ha s1 k1 k2)).1 k3 ho⟩
   ·rintro ⟨⟨f1,f2⟩,f3⟩
    refine ⟨h.pw,fun s hs e=>tZ.2 ⟨fun hso hto=>?_,?_,?_⟩⟩
    ·have:(ti ss t.var).isSome=true:=by
      unfold ti
      rw [List.find?_isSome]
      exact ⟨s,hs,by simp [e,hso]⟩
     obtain ⟨s1,h1⟩:=Option.isSome_iff_exists.1 this
     obtain ⟨k1,k2,k3⟩:=hown s1 h1
     have h4:=(tZ.1 (hpw s hs s1 k1 (e.trans k2.symm))).1 hso k3
     have h5:=f3 hto s1 h1
     exact ⟨h4.1.trans h5.1,h4.2.trans h5.2⟩
    ·exact (tZ.1 (hpw s hs s0 m0 (e.trans v0.symm))).2.1.trans f2
    ·exact (tZ.1 (hpw s hs s0 m0 (e.trans v0.symm))).2.2.trans f1
  have cond:((tS s0.kind !=tS t.kind)|| !(s7 l s0==s7 l t)||(t.own&&((tX st.num t.var).getD false)&&((((ti ss t.var).map (·.n)).getD 0 !=t.n)||(((ti ss t.var).map (·.m)).getD 0 !=t.m))))=true↔ ¬PW l (ss++[t]):=by
   rw [key,hn]
   cases ho:ti ss t.var with
   |none=>simp;exact ⟨fun h=>by rcases h with h|h <;> simp [h],fun h=>by
     by_cases e:tS s0.kind=tS t.kind
     ·exact Or.inr (h e)
     ·exact Or.inl e⟩
   |some s1=>
    simp only [Option.map_some,Option.getD_some,Option.isSome_some,Bool.and_true,Bool.or_eq_true,Bool.and_eq_true,bne_iff_ne,ne_eq,Bool.not_eq_true',beq_eq_false_iff_ne,Option.some.injEq]
    constructor
    ·rintro ((h|h)|⟨h1,h2⟩) ⟨⟨k1,k2⟩,k3⟩
     ·exact h k1
     ·exact h k2
     ·have:=k3 h1 s1 rfl
      rcases h2 with h2|h2
      ·exact h2 this.1
      ·exact h2 this.2
    ·intro hn'
     by_cases e1:tS s0.kind=tS t.kind
     ·by_cases e2:s7 l s0=s7 l t
      ·by_cases e3:t.own=true
       ·refine Or.inr ⟨e3,?_⟩
        by_cases e4:s1.n=t.n
        ·refine Or.inr fun e5=>hn' ⟨⟨e1,e2⟩,fun _ s h=>by rw [← h];exact ⟨e4,e5⟩⟩
        ·exact Or.inl e4
       ·exact absurd ⟨⟨e1,e2⟩,fun h=>absurd h e3⟩ hn'
      ·exact Or.inl (Or.inr e2)
     ·exact Or.inl (Or.inl e1)
  constructor
  ·intro hp
   rw [if_neg (fun hc=>cond.1 hc hp)]
   obtain ⟨⟨f1,f2⟩,f3⟩:=key.1 hp
   refine ⟨_,rfl,hp,fun name=>?_,numI,?_⟩
   ·by_cases hne:t.var=name
    ·subst hne
     have hs:wg l (ss++[t]) t.var=some ⟨t.var,tS s0.kind,s7 l s0,((ti (ss++[t]) t.var).map (·.n)).getD 0,((ti (ss++[t]) t.var).map (·.m)).getD 0⟩:=by
      unfold wg
      rw [uG,hf]
     have ho:ti (ss++[t]) t.var=match ti ss t.var with
       |some s=>some s
       |none=>if t.own=true then some t else none:=by
      unfold ti
      rw [uG]
      simp only [decide_true,Bool.true_and]
      cases ss.find? fun s=>decide (s.var=t.var)&&s.own <;> rfl
     rw [hs,ho]
     show td (if t.own=true then uI (vOf l t) st.all else st.all) t.var=_
     cases hto:t.own with
     |false=>
      simp only [Bool.false_eq_true,if_false]
      rw [hlk]
      cases ti ss t.var <;> rfl
     |true=>
      simp only [if_true]
      rw [wP,if_pos (show (vOf l t).name=t.var from rfl)]
      unfold vOf
      rw [hto,f1,f2]
      cases ho2:ti ss t.var with
      |none=>rfl
      |some s1=>
       obtain ⟨k1,k2⟩:=f3 hto s1 ho2
       simp [k1,k2]
    ·refine lookO _ name hne ?_
     show td (if t.own=true then uI (vOf l t) st.all else st.all) name=_
     cases t.own with
     |false=>rfl
     |true=>
      simp only [if_true]
      rw [wP]
      exact if_neg hne
   ·show (if t.own=true then uI (vOf l t) st.all else st.all).map (·.name)=_
    have hc:t.var∈once [] (ss.map (·.var)):=by
     rw [vD]
     exact Or.inr (List.mem_map.2 ⟨s0,m0,v0⟩)
    rw [List.map_append,List.map_cons,List.map_nil,vb,if_pos hc]
    cases t.own with
    |false=>exact h.names
    |true=>
     simp only [if_true]
     rw [yX,h.names]
     exact if_pos (show (vOf l t).name∈_ from hc)
  ·intro hp
   rw [if_pos (cond.2 hp)]
theorem zc {l:List Fd}: ∀{ts ss:List RS} {st:VS},xD l ss st→(PW l (ss++ts)→ ∃st',ug l st ts=some st'∧xD l (ss++ts) st')∧(¬ PW l (ss++ts)→ug l st ts=none)
 |[],ss,st,h=>by
  rw [List.append_nil]
  exact ⟨fun _=>⟨st,rfl,h⟩,fun hn=>absurd h.pw hn⟩
 |t::ts,ss,st,h=>by
  have hs:=h.step t
  have e:ss++t::ts=(ss++[t])++ts:=by simp
  rw [e]
  by_cases hp:PW l (ss++[t])
  ·obtain ⟨st',h1,h2⟩:=hs.1 hp
   have:=zc (ts:=ts) h2
   unfold ug
   rw [h1,Option.bind_some]
   exact this
  ·have hnp: ¬PW l ((ss++[t])++ts):=fun hq=>hp (List.Pairwise.sublist (List.sublist_append_left _ _) hq)
   refine ⟨fun hq=>absurd hq hnp,fun _=>?_⟩
   unfold ug
   rw [hs.2 hp];rfl
theorem xD.start {l:List Fd}:xD l [] ⟨[],[]⟩:=⟨List.Pairwise.nil,fun _=>rfl,fun _=>rfl,rfl⟩
def tk (ss:List RS):List RS:=ss.filter fun s=>s.kind !=0
end Go.TY
end
section
namespace Go.TY
open Go Go.DL Go.MM Go.Proofs
structure RG where
 pol:RO
 st:RS
def sN (g:RG):List T:=sA g.pol++sH g.st
def tP (g:RG):T:=.agg (sN g)
theorem sS (g:RG):(sN g).length=15:=by simp [sN,sE,sH]
structure SmS (B:Nat) (s:RS):Prop where
 var:s.var.size<B
 field:s.field.size<B
 keys: ∀k∈s.key,k.size<B
 len:s.key.length<B
theorem SmS.mono {B B':Nat} {s:RS} (h:SmS B s) (hb:B≤B'):SmS B' s:=⟨by have:=h.var;omega,by have:=h.field;omega,fun k hk=>by have:=h.keys k hk;omega,by have:=h.len;omega⟩
structure SmG (B:Nat) (g:RG):Prop where
 st:SmS B g.st
 wt:g.pol.wt≤B
 names:B≤2^61→uj g.pol
theorem BJ:Tryz.prog.underlying 29=some (.slice 9):=by kernel_rfl
theorem CY:Tryz.prog.cellsOf 29=1:=by kernel_rfl
theorem CX:Tryz.prog.cellsOf 31=6:=by kernel_rfl
theorem G4 (us:List T):mkT Tryz.prog 31 us= .agg us:=by unfold mkT;rw [Tryz.underlying31]
theorem mkStr (t:T):mkT Tryz.prog 9 [t]=t:=by unfold mkT;rw [HV];rfl
theorem F7 {us:List T} (h:cE Tryz.prog 29 us): ∃l:List ByteArray,dp us [.slice 1 (l.map .str)]∧l.length+1≤aV us∧ ∀s∈l,s.size<aV us:=by
 cases h with
 |nil h=>exact ⟨[],.cons (Les.nil 1) rfl .nil,by simp [aV,T.bulk],by simp⟩
 |slice h xs hx hl=>
  rw [BJ] at h
  cases h
  rw [xg]
  have key: ∃l:List ByteArray,xs.map (mkT Tryz.prog 9)=l.map .str∧l.length≤aV (xs.map (mkT Tryz.prog 9))∧ ∀s∈l,s.size<aV (xs.map (mkT Tryz.prog 9)):=by
   clear hl
   induction xs with
   |nil=>exact ⟨[],rfl,by simp,by simp⟩
   |cons x xs ih=>
    obtain ⟨s,rfl⟩:=xp (hx x (by simp))
    obtain ⟨l,k1,k2,k3⟩:=ih fun y hy=>hx y (by simp [hy])
    refine ⟨s::l,by simp only [List.map_cons,k1,mkStr],?_,fun z hz=>?_⟩
    ·simp only [List.map_cons,aV,mkStr,T.bulk,List.length_cons];omega
    ·simp only [List.map_cons,aV,mkStr,T.bulk]
     rcases List.mem_cons.1 hz with rfl|hz
     ·omega
     ·have:=k3 z hz;omega
  obtain ⟨l,k1,k2,k3⟩:=key
  refine ⟨l,by rw [← k1];exact .cons (Les.refl _) rfl .nil,by simp only [aV,T.bulk];omega,fun s hs=>by simp only [aV,T.bulk];have:=k3 s hs;omega⟩
 |int h|bool h|str h|array h|struct h=>rw [BJ] at h;cases h
theorem IM {us:List T} (h:us.length=6): ∃a b c d e f,us=[a,b,c,d,e,f]:=by
 match us,h with
 |[a,b,c,d,e,f],_=>exact ⟨a,b,c,d,e,f,rfl⟩
theorem F6 {us:List T} (h:cE Tryz.prog 31 us): ∃s:RS,dp us (sH s)∧SmS (aV us) s:=by
 cases h with
 |struct h us hl hf=>
  rw [Tryz.underlying31] at h
  cases h
  rw [CX] at hl
  obtain ⟨a,b,c,d,e,f,rfl⟩:=IM hl
  have f0:=hf ⟨ "Kind",3,0,false, "", "",0⟩ (by simp)
  have f1:=hf ⟨ "Var",9,1,false, "", "",8⟩ (by simp)
  have f2:=hf ⟨ "Key",29,2,false, "", "",24⟩ (by simp)
  have f3:=hf ⟨ "Field",9,3,false, "", "",48⟩ (by simp)
  have f4:=hf ⟨ "N",3,4,false, "", "",64⟩ (by simp)
  have f5:=hf ⟨ "M",3,5,false, "", "",72⟩ (by simp)
  simp only [yN,xg,CY,List.drop,List.take] at f0 f1 f2 f3 f4 f5
  obtain ⟨k,e0,_⟩:=uQ f0
  obtain ⟨v,e1⟩:=xp f1
  obtain ⟨l,g1,g2,g3⟩:=F7 f2
  obtain ⟨s,e3⟩:=xp f3
  obtain ⟨n,e4,_⟩:=uQ f4
  obtain ⟨m,e5,_⟩:=uQ f5
  simp only [List.cons.injEq,and_true] at e0 e1 e3 e4 e5
  subst e0;subst e1;subst e3;subst e4;subst e5
  refine ⟨⟨k,v,l,s,n,m⟩,.cons (Les.refl _) rfl (.cons (Les.refl _) rfl (dp.append (us:=[T.slice 1 (l.map .str)]) g1 (.cons (Les.refl _) rfl (.cons (Les.refl _) rfl (.cons (Les.refl _) rfl .nil))))),?_⟩
  simp only [aV,T.bulk] at g2 g3 ⊢
  exact ⟨by show v.size<_;omega,by show s.size<_;omega,fun z hz=>by have:=g3 z hz;omega,by show l.length<_;omega⟩
 |int h|bool h|str h|nil h|slice h|array h=>rw [Tryz.underlying31] at h;cases h
end Go.TY
end
section
namespace Go.TY
open Go Go.DL Go.MM Go.Proofs Go.RowKit
def typesT:List TypeId:=[22,88,25,23,28,26,31,29,61,56,66,46,9,3,4,5]
theorem typesT_ok:eP Tryz.prog typesT=true:=by kernel_rfl
theorem aPol {us:List T} (h:cE Tryz.prog 28 us) (hb:aV us≤1048576): ∃r,Les (mkT Tryz.prog 28 us) (.agg (sA r))∧r.wt≤1048576∧uj r:=by
 obtain ⟨r,r1,r2,r3⟩:=(D0 h).1 rfl
 exact ⟨r,by rw [G3];exact Les.agg r1,by omega,r3 (by omega)⟩
theorem aPred {us:List T} (h:cE Tryz.prog 25 us) (hb:aV us≤1048576): ∃r,Les (mkT Tryz.prog 25 us) (.agg (sB r))∧r.nodes≤1048576∧uk r:=by
 obtain ⟨r,r1,r2,r3⟩:=(Bz h).1 rfl
 exact ⟨r,by rw [G2];exact Les.agg r1,by omega,r3 (by omega)⟩
theorem aFields {us:List T} (h:cE Tryz.prog 22 us) (hb:aV us≤1048576): ∃l,Les (mkT Tryz.prog 22 us) (wm l)∧l.length<2^60∧ ∀f∈l,f.name.size<2^62:=by
 obtain ⟨l,h1,h2,h3⟩:=DZ h
 exact ⟨l,h1,by omega,fun f hf=>by have:=h3 f hf;omega⟩
theorem aStep {us:List T} (h:cE Tryz.prog 31 us) (hb:aV us≤1048576): ∃s,Les (mkT Tryz.prog 31 us) (.agg (sH s))∧SmS (2^30) s:=by
 obtain ⟨s,h1,h2⟩:=F6 h
 exact ⟨s,by rw [G4];exact Les.agg h1,h2.mono (by omega)⟩
def CU {H:Type} (ss:List ByteArray):DataW H:=.agg (ss.map fun s=>.lit (.string s.data.toList))
theorem zC {H:Type} {enc:TypeId×Value→H} {P:Program} {w:World} {base:Nat} {sp:Nat→Bool} {held:Bool} {fuel:Nat} {t e:TypeId} {n:Nat} {cs:List Value} {ss:List ByteArray} {p:List MemPlace}
  (ht:P.underlying t=some (.array n e)) (he:P.underlying e=some .string) (hce:P.cellsOf e=1) (hct:P.cellsOf t=n)
  (h:DataW.trod enc P w base sp held fuel t cs=some (CU ss,p)):cs=ss.map fun z=>Value.string z:=by
 cases fuel with
 |zero=>simp [DataW.trod] at h
 |succ fuel=>
  simp only [DataW.trod,ht,hce,hct,Nat.mul_one] at h
  split at h
  ·rename_i hl
   obtain ⟨xs,hm,hx⟩:=Option.map_eq_some_iff.1 h
   have hxs:xs.map (·.1)=ss.map fun s=>(DataW.lit (.string s.data.toList):DataW H):=by
    have:=congrArg Prod.fst hx
    simpa [CU] using this
   have hxl:xs.length=n:=by simpa using Lib.mapM_length hm
   have hzl:ss.length=n:=by
    have:=congrArg List.length hxs
    simp at this
    omega
   apply List.ext_getElem?
   intro i
   by_cases hi:i<n
   ·obtain ⟨b,hb,hf⟩:=Lib.mapM_at hm i i (by simp [hi])
    obtain ⟨z,hc,rfl,_⟩:=DataW.trod_string he hf
    have h1:cs[i]? =some (.string z):=by
     have:=congrArg (·[0]?) hc
     simpa [List.getElem?_take,List.getElem?_drop] using this
    have h2:(xs.map (·.1))[i]? =some (DataW.lit (.string z.data.toList):DataW H):=by simp [hb]
    rw [hxs] at h2
    simp only [List.getElem?_map,Option.map_eq_some_iff,DataW.lit.injEq,Lit.string.injEq] at h2
    obtain ⟨z',hz',e⟩:=h2
    have e:z'=z:=ByteArray.ext (Array.ext' e)
    simp [h1,hz',e]
   ·rw [List.getElem?_eq_none (by omega),List.getElem?_eq_none (by simp;omega)]
  ·cases h
theorem A3 {P:Program} {W:World} {name:String} {ss:List ByteArray} {rest:List (String×DataW Unit)} {g:Nat} {t e:TypeId} {n:Nat}
  (hg:P.globalNamed name=some g) (hty:(P.globals[g]?).map (·.type)=some t) (ht:P.underlying t=some (.array n e)) (he:P.underlying e=some .string) (hce:P.cellsOf e=1) (hct:P.cellsOf t=n)
  (h:laidMet P ((name,CU ss)::rest) W):W.var? P name=some (ss.map fun z=>Value.string z).toArray:=by
 obtain ⟨ps,⟨g',t',cs,fuel,p,q,hg',ht',hvar,hd,_,_⟩,_⟩:=h
 obtain rfl:=Option.some.inj (hg.symm.trans hg')
 obtain rfl:=Option.some.inj (hty.symm.trans ht')
 rw [hvar, ←zC ht he hce hct hd]
theorem Br:Tryz.prog.globalNamed "interlace/token.words" =some 0:=by kernel_rfl
theorem A9:(Tryz.prog.globals[0]?).map (·.type)=some 185:=by kernel_rfl
theorem Em:Tryz.prog.cellsOf 185=49:=by kernel_rfl
theorem globOk_words {W:World} (h:laidMet Tryz.prog [("interlace/token.words",CU wordsG)] W):bM (fun b _=>b<W.heap.size) W:=fun g cs hg=>by
 match g,hg with
 |0,hg=>
  cases hg
  have hv:=A3 Br A9 Tryz.underlying185 Tryz.underlying9 xg Em h
  have hc: ∀i,i<wordsG.length→W.cell? ⟨0,i,none⟩=some (.string (wordsG.getD i e0)):=fun i hi=>by
   have:=World.var?_cell Br hv i
   simpa [List.getD,hi] using this
  have lt:0<W.heap.size:=by
   have:=hc 0 (by decide)
   unfold World.cell? at this
   rcases Nat.lt_or_ge 0 W.heap.size with h|h
   ·exact h
   ·simp [Array.getElem?_eq_none h] at this
  refine ⟨lt,fun i=>.string (wordsG.getD i e0),fun i t ht=>?_⟩
  rw [List.getElem?_map,Option.map_eq_some_iff] at ht
  obtain ⟨z,hz,rfl⟩:=ht
  have hi:=(gsZ hz).1
  have e:wordsG.getD i e0=z:=by simp [List.getD,hz]
  exact ⟨hc i hi,lt,rfl,rfl,by show Rep _ _ (.string (wordsG.getD i e0)) _;rw [e];exact .str z⟩
end Go.TY
end
section
namespace Go.TY
open Go Go.DL Go.MM
mutual
def tg:RP→List RP
 |.mk k f n m a=>.mk k f n m a::sY a
def sY:List RP→List RP
 |[]=>[]
 |r::rs=>tg r++sY rs
end
theorem xw (r:RP):tg r=r::sY r.args:=by cases r;simp [tg,RP.args]
theorem x5: ∀(a b:List RP),sY (a++b)=sY a++sY b
 |[],_=>by simp [sY]
 |r::a,b=>by rw [List.cons_append,sY,sY,x5 a b,List.append_assoc]
theorem DV (r:RP):sY [r]=tg r:=by simp [sY]
theorem yW {l:List RP} {j:Nat} (h:j<l.length):sY (l.take (j+1))=sY (l.take j)++tg l[j]:=by
 rw [List.take_succ_eq_append_getElem h,x5,DV]
theorem DU {l:List RP} {r:RP} (h:r∈l):(tg r).length≤(sY l).length:=by
 induction l with
 |nil=>simp at h
 |cons x l ih=>
  rw [sY,List.length_append]
  rcases List.mem_cons.1 h with rfl|h
  ·omega
  ·have:=ih h;omega
theorem DS {l:List RP} {j i:Nat} {x:RP} (h:j<l.length) (hx:(tg l[j])[i]? =some x):(sY l)[(sY (l.take j)).length+i]? =some x:=by
 have e:sY l=sY (l.take j)++(tg l[j]++sY (l.drop (j+1))):=by
  conv=>lhs;rw [← List.take_append_drop (j+1) l]
  rw [x5,yW h,List.append_assoc]
 have hi:=(gsZ hx).1
 rw [e,List.getElem?_append_right (by omega),Nat.add_sub_cancel_left,List.getElem?_append_left hi]
 exact hx
theorem DT {l:List RP} {j:Nat} (h:j<l.length):(tg l[j]).length≤(sY l).length:=DU (List.getElem_mem h)
theorem Ai: ∀(l:List RP),l.length≤(sY l).length
 |[]=>Nat.zero_le _
 |r::l=>by
  have:=Ai l
  rw [sY,xw,List.cons_append,List.length_cons,List.length_cons,List.length_append];omega
def sX:RO→List T
 |.mk k p f n a=>[I k,I p.kind,.str p.field,I p.n,I p.m,.slice 5 (p.args.map sL),.str f,I n,.slice 9 (a.map sZ)]
theorem uE (r:RO):sX r=sA r:=by
 obtain ⟨k,⟨pk,pf,pn,pm,pa⟩,f,n,a⟩:=r;rfl
abbrev uB (r:RO):T:=sZ r
theorem sP (r:RO):uB r= .agg (sX r):=by rw [uE,uB,sJ]
theorem tw (r:RO):(sX r).length=9:=by cases r;rfl
mutual
def sG:RO→List RO
 |.mk k p f n a=>.mk k p f n a::sU a
def sU:List RO→List RO
 |[]=>[]
 |r::rs=>sG r++sU rs
end
theorem xv (r:RO):sG r=r::sU r.args:=by cases r;simp [sG,RO.args]
theorem x4: ∀(a b:List RO),sU (a++b)=sU a++sU b
 |[],_=>by simp [sU]
 |r::a,b=>by rw [List.cons_append,sU,sU,x4 a b,List.append_assoc]
theorem DR (r:RO):sU [r]=sG r:=by simp [sU]
theorem yV {l:List RO} {j:Nat} (h:j<l.length):sU (l.take (j+1))=sU (l.take j)++sG l[j]:=by
 rw [List.take_succ_eq_append_getElem h,x4,DR]
theorem DQ {l:List RO} {r:RO} (h:r∈l):(sG r).length≤(sU l).length:=by
 induction l with
 |nil=>simp at h
 |cons x l ih=>
  rw [sU,List.length_append]
  rcases List.mem_cons.1 h with rfl|h
  ·omega
  ·have:=ih h;omega
theorem DO {l:List RO} {j i:Nat} {x:RO} (h:j<l.length) (hx:(sG l[j])[i]? =some x):(sU l)[(sU (l.take j)).length+i]? =some x:=by
 have e:sU l=sU (l.take j)++(sG l[j]++sU (l.drop (j+1))):=by
  conv=>lhs;rw [← List.take_append_drop (j+1) l]
  rw [x4,yV h,List.append_assoc]
 have hi:=(gsZ hx).1
 rw [e,List.getElem?_append_right (by omega),Nat.add_sub_cancel_left,List.getElem?_append_left hi]
 exact hx
theorem DP {l:List RO} {j:Nat} (h:j<l.length):(sG l[j]).length≤(sU l).length:=DQ (List.getElem_mem h)
theorem Ah: ∀(l:List RO),l.length≤(sU l).length
 |[]=>Nat.zero_le _
 |r::l=>by
  have:=Ah l
  rw [sU,xv,List.cons_append,List.length_cons,List.length_cons,List.length_append];omega
end Go.TY
end
noncomputable section
namespace Go.TY
open Go Go.DL Go.Proofs
theorem mx:Tryz.prog.follows .mixedOrders=true:=by kernel_rfl
def zg:Code:=(Tryz.f145.body).getD .skip
theorem IA:Tryz.f145.body=some zg:=by kernel_rfl
def Ap:Code:=ir [0] zg
def Dg:aY:=(.region [oo 2 (.box 1 (tm 0))] [])
theorem Ha:bD Tryz.prog 8 [] Ap=some Dg:=by kernel_rfl
theorem GH [Glb] {st:St} {Q:aB→St→Prop} (hw:wpC Tryz.prog Dg st Q):aI Tryz.prog 8 Ap st Q:=aI.low mx Ha (by kernel_rfl) (by kernel_rfl) hw
def Aw:Code:=ir [1,0] zg
def Dl:aY:=(.region [oo 3 (.alloc [.nilfn])] [])
theorem Hf:bD Tryz.prog 8 [] Aw=some Dl:=by kernel_rfl
theorem GM [Glb] {st:St} {Q:aB→St→Prop} (hw:wpC Tryz.prog Dl st Q):aI Tryz.prog 8 Aw st Q:=aI.low mx Hf (by kernel_rfl) (by kernel_rfl) hw
def Az:Code:=ir [1,1,0] zg
def Dr:aY:=(.region [oo 4 (.mkfn 146 [(tm 2),(tm 3)]),o0 (.store 1 (tm 3) (tm 4))] [])
theorem Hj:bD Tryz.prog 8 [] Az=some Dr:=by kernel_rfl
theorem GP [Glb] {st:St} {Q:aB→St→Prop} (hw:wpC Tryz.prog Dr st Q):aI Tryz.prog 8 Az st Q:=aI.low mx Hj (by kernel_rfl) (by kernel_rfl) hw
def y6:Code:=ir [1,1,1] zg
theorem Gr:y6= .region 3 (sy y6) false:=by kernel_rfl
theorem HZ [Glb] {st:St} {Q:aB→St→Prop} (hw:aA Tryz.prog [⟨some 5,.load 1 false (.tmp 3),none,[]⟩,⟨some 6,.load 5 true (.tmp 1),none,[]⟩] st fun s0=>gR Tryz.prog (ev s0.sl (.tmp 5)) (List.map (ev s0.sl) [(.tmp 6)]) (some 7) s0 fun s1=>aA Tryz.prog [] s1 (Q .normal)):aI Tryz.prog 8 y6 st Q:=by
 rw [Gr]
 exact aI.rB (k1:=[0,1]) (k:=2) (k2:=[]) (by kernel_rfl) (by kernel_rfl) (by kernel_rfl) (by kernel_rfl) (by kernel_rfl) (X:=.tmp 5) (az:= #[.tmp 6]) (ats:= #[25]) (d:=7) (by kernel_rfl) rfl rfl (by decide) hw
theorem Lu:zg=(.seq Ap (.seq Aw (.seq Az y6))):=by kernel_rfl
def vz:Code:=(Tryz.f146.body).getD .skip
theorem IB:Tryz.f146.body=some vz:=by kernel_rfl
def Aq:Code:=ir [0] vz
def Dh:aY:=(.region [oo 3 (.box 5 (tm 0)),oo 4 (.mov kF)] [])
theorem Hb:bD Tryz.prog 23 [] Aq=some Dh:=by kernel_rfl
theorem GI [Glb] {st:St} {Q:aB→St→Prop} (hw:wpC Tryz.prog Dh st Q):aI Tryz.prog 23 Aq st Q:=aI.low mx Hb (by kernel_rfl) (by kernel_rfl) hw
def y4:Code:=ir [1,0,0] vz
theorem Gp:y4= .region 1 (sy y4) false:=by kernel_rfl
theorem HX [Glb] {st:St} {Q:aB→St→Prop} (hw:aA Tryz.prog [⟨some 7,.load 1 false (.tmp 1),none,[]⟩,⟨some 8,.load 5 true (.tmp 3),none,[]⟩] st fun s0=>gR Tryz.prog (ev s0.sl (.tmp 7)) (List.map (ev s0.sl) [(.tmp 8)]) (some 9) s0 fun s1=>aA Tryz.prog [⟨some 10,.not (.tmp 9),none,[]⟩] s1 (Q .normal)):aI Tryz.prog 23 y4 st Q:=by
 rw [Gp]
 exact aI.rB (k1:=[0,1]) (k:=2) (k2:=[3]) (by kernel_rfl) (by kernel_rfl) (by kernel_rfl) (by kernel_rfl) (by kernel_rfl) (X:=.tmp 7) (az:= #[.tmp 8]) (ats:= #[25]) (d:=9) (by kernel_rfl) rfl rfl (by decide) hw
def AA:Code:=ir [1,0,1] vz
def Dt:aY:=(.cond (tm 10) (.seq (.region [oo 4 (.mov kF)] []) .ret) .skip)
theorem Hk:bD Tryz.prog 23 [] AA=some Dt:=by kernel_rfl
theorem C2 [Glb] {st:St} {Q:aB→St→Prop} (hw:wpC Tryz.prog Dt st Q):aI Tryz.prog 23 AA st Q:=aI.low mx Hk (by kernel_rfl) (by kernel_rfl) hw
def AD:Code:=ir [1,1,0,0] vz
def Dw:aY:=(.region [fa 11 4 3,ld 12 11,ln 13 12,oo 14 (.mov (Kc 0))] [])
theorem Hn:bD Tryz.prog 23 [] AD=some Dw:=by kernel_rfl
theorem GS [Glb] {st:St} {Q:aB→St→Prop} (hw:wpC Tryz.prog Dw st Q):aI Tryz.prog 23 AD st Q:=aI.low mx Hn (by kernel_rfl) (by kernel_rfl) hw
def AF:Code:=ir [1,1,0,1,0,0,0] vz
def Dz:aY:=(.region [oo 15 (.bin .lss (tm 14) (tm 13))] [])
theorem Hq:bD Tryz.prog 23 [] AF=some Dz:=by kernel_rfl
theorem GW [Glb] {st:St} {Q:aB→St→Prop} (hw:wpC Tryz.prog Dz st Q):aI Tryz.prog 23 AF st Q:=aI.low mx Hq (by kernel_rfl) (by kernel_rfl) hw
def AH:Code:=ir [1,1,0,1,0,0,1,0] vz
def DC:aY:=(.cond (tm 15) .skip (.exit 0))
theorem Ht:bD Tryz.prog 23 [] AH=some DC:=by kernel_rfl
theorem C4 [Glb] {st:St} {Q:aB→St→Prop} (hw:wpC Tryz.prog DC st Q):aI Tryz.prog 23 AH st Q:=aI.low mx Ht (by kernel_rfl) (by kernel_rfl) hw
def AJ:Code:=ir [1,1,0,1,0,0,1,1,0,0,0] vz
def DE:aY:=(.region [ix 16 5 12 14,lA 17 5 16,⟨some 6,.alloc [Z0,S0,Z0,Z0,.nil],none,[]⟩,o0 (.store 5 (tm 6) (tm 17))] [])
theorem Hv:bD Tryz.prog 23 [] AJ=some DE:=by kernel_rfl
theorem GZ [Glb] {st:St} {Q:aB→St→Prop} (hw:wpC Tryz.prog DE st Q):aI Tryz.prog 23 AJ st Q:=aI.low mx Hv (by kernel_rfl) (by kernel_rfl) hw
def y8:Code:=ir [1,1,0,1,0,0,1,1,0,0,1,0] vz
theorem Gu:y8= .region 6 (sy y8) false:=by kernel_rfl
theorem H3 [Glb] {st:St} {Q:aB→St→Prop} (hw:aA Tryz.prog [⟨some 18,.load 1 false (.tmp 2),none,[]⟩,⟨some 19,.load 5 true (.tmp 6),none,[]⟩] st fun s0=>gR Tryz.prog (ev s0.sl (.tmp 18)) (List.map (ev s0.sl) [(.tmp 19)]) (some 20) s0 fun s1=>aA Tryz.prog [⟨some 21,.not (.tmp 20),none,[]⟩] s1 (Q .normal)):aI Tryz.prog 23 y8 st Q:=by
 rw [Gu]
 exact aI.rB (k1:=[0,1]) (k:=2) (k2:=[3]) (by kernel_rfl) (by kernel_rfl) (by kernel_rfl) (by kernel_rfl) (by kernel_rfl) (X:=.tmp 18) (az:= #[.tmp 19]) (ats:= #[25]) (d:=20) (by kernel_rfl) rfl rfl (by decide) hw
def AL:Code:=ir [1,1,0,1,0,0,1,1,0,0,1,1] vz
def DH:aY:=(.cond (tm 21) (.seq (.region [oo 4 (.mov kF)] []) .ret) .skip)
theorem Hy:bD Tryz.prog 23 [] AL=some DH:=by kernel_rfl
theorem C7 [Glb] {st:St} {Q:aB→St→Prop} (hw:wpC Tryz.prog DH st Q):aI Tryz.prog 23 AL st Q:=aI.low mx Hy (by kernel_rfl) (by kernel_rfl) hw
def AN:Code:=ir [1,1,0,1,0,0,1,1,1] vz
def DK:aY:=(.region [oo 22 (.bin .add (tm 14) (Kc 1)),mv 14 22] [])
theorem HA:bD Tryz.prog 23 [] AN=some DK:=by kernel_rfl
theorem G1 [Glb] {st:St} {Q:aB→St→Prop} (hw:wpC Tryz.prog DK st Q):aI Tryz.prog 23 AN st Q:=aI.low mx HA (by kernel_rfl) (by kernel_rfl) hw
def zo:Code:=ir [1,1,1] vz
def Bx:aY:=(.seq (.region [oo 4 (.mov kT)] []) .ret)
theorem F3:bD Tryz.prog 23 [] zo=some Bx:=by kernel_rfl
theorem FZ [Glb] {st:St} {Q:aB→St→Prop} (hw:wpC Tryz.prog Bx st Q):aI Tryz.prog 23 zo st Q:=aI.low mx F3 (by kernel_rfl) (by kernel_rfl) hw
theorem Lv:vz=(.seq Aq (.seq (.seq y4 AA) (.seq (.seq AD (.block 0 (.loop (.seq AF (.seq AH (.seq (.block 1 (.seq AJ (.seq y8 AL))) AN)))))) zo))):=by kernel_rfl
def zf:Code:=(Tryz.f116.body).getD .skip
theorem Ix:Tryz.f116.body=some zf:=by kernel_rfl
def Al:Code:=ir [0] zf
def Dc:aY:=(.region [oo 2 (.box 1 (tm 0))] [])
theorem G7:bD Tryz.prog 8 [] Al=some Dc:=by kernel_rfl
theorem GD [Glb] {st:St} {Q:aB→St→Prop} (hw:wpC Tryz.prog Dc st Q):aI Tryz.prog 8 Al st Q:=aI.low mx G7 (by kernel_rfl) (by kernel_rfl) hw
def Au:Code:=ir [1,0] zf
def Dj:aY:=(.region [oo 3 (.alloc [.nilfn])] [])
theorem Hd:bD Tryz.prog 8 [] Au=some Dj:=by kernel_rfl
theorem GK [Glb] {st:St} {Q:aB→St→Prop} (hw:wpC Tryz.prog Dj st Q):aI Tryz.prog 8 Au st Q:=aI.low mx Hd (by kernel_rfl) (by kernel_rfl) hw
def Ax:Code:=ir [1,1,0] zf
def Dm:aY:=(.region [oo 4 (.mkfn 117 [(tm 2),(tm 3)]),o0 (.store 1 (tm 3) (tm 4))] [])
theorem Hg:bD Tryz.prog 8 [] Ax=some Dm:=by kernel_rfl
theorem GN [Glb] {st:St} {Q:aB→St→Prop} (hw:wpC Tryz.prog Dm st Q):aI Tryz.prog 8 Ax st Q:=aI.low mx Hg (by kernel_rfl) (by kernel_rfl) hw
def y5:Code:=ir [1,1,1] zf
theorem Gq:y5= .region 3 (sy y5) false:=by kernel_rfl
theorem HY [Glb] {st:St} {Q:aB→St→Prop} (hw:aA Tryz.prog [⟨some 5,.load 1 false (.tmp 3),none,[]⟩,⟨some 6,.load 9 true (.tmp 1),none,[]⟩] st fun s0=>gR Tryz.prog (ev s0.sl (.tmp 5)) (List.map (ev s0.sl) [(.tmp 6)]) (some 7) s0 fun s1=>aA Tryz.prog [] s1 (Q .normal)):aI Tryz.prog 8 y5 st Q:=by
 rw [Gq]
 exact aI.rB (k1:=[0,1]) (k:=2) (k2:=[]) (by kernel_rfl) (by kernel_rfl) (by kernel_rfl) (by kernel_rfl) (by kernel_rfl) (X:=.tmp 5) (az:= #[.tmp 6]) (ats:= #[28]) (d:=7) (by kernel_rfl) rfl rfl (by decide) hw
theorem Lr:zf=(.seq Al (.seq Au (.seq Ax y5))):=by kernel_rfl
def vu:Code:=(Tryz.f117.body).getD .skip
theorem Iy:Tryz.f117.body=some vu:=by kernel_rfl
def Am:Code:=ir [0] vu
def De:aY:=(.region [oo 3 (.box 9 (tm 0)),oo 4 (.mov kF)] [])
theorem G8:bD Tryz.prog 23 [] Am=some De:=by kernel_rfl
theorem GF [Glb] {st:St} {Q:aB→St→Prop} (hw:wpC Tryz.prog De st Q):aI Tryz.prog 23 Am st Q:=aI.low mx G8 (by kernel_rfl) (by kernel_rfl) hw
def y0:Code:=ir [1,0,0] vu
theorem Gn:y0= .region 1 (sy y0) false:=by kernel_rfl
theorem HW [Glb] {st:St} {Q:aB→St→Prop} (hw:aA Tryz.prog [⟨some 7,.load 1 false (.tmp 1),none,[]⟩,⟨some 8,.load 9 true (.tmp 3),none,[]⟩] st fun s0=>gR Tryz.prog (ev s0.sl (.tmp 7)) (List.map (ev s0.sl) [(.tmp 8)]) (some 9) s0 fun s1=>aA Tryz.prog [⟨some 10,.not (.tmp 9),none,[]⟩] s1 (Q .normal)):aI Tryz.prog 23 y0 st Q:=by
 rw [Gn]
 exact aI.rB (k1:=[0,1]) (k:=2) (k2:=[3]) (by kernel_rfl) (by kernel_rfl) (by kernel_rfl) (by kernel_rfl) (by kernel_rfl) (X:=.tmp 7) (az:= #[.tmp 8]) (ats:= #[28]) (d:=9) (by kernel_rfl) rfl rfl (by decide) hw
def Ay:Code:=ir [1,0,1] vu
def Dp:aY:=(.cond (tm 10) (.seq (.region [oo 4 (.mov kF)] []) .ret) .skip)
theorem Hh:bD Tryz.prog 23 [] Ay=some Dp:=by kernel_rfl
theorem C1 [Glb] {st:St} {Q:aB→St→Prop} (hw:wpC Tryz.prog Dp st Q):aI Tryz.prog 23 Ay st Q:=aI.low mx Hh (by kernel_rfl) (by kernel_rfl) hw
def AB:Code:=ir [1,1,0,0] vu
def Du:aY:=(.region [fa 11 8 3,ld 12 11,ln 13 12,oo 14 (.mov (Kc 0))] [])
theorem Hl:bD Tryz.prog 23 [] AB=some Du:=by kernel_rfl
theorem GQ [Glb] {st:St} {Q:aB→St→Prop} (hw:wpC Tryz.prog Du st Q):aI Tryz.prog 23 AB st Q:=aI.low mx Hl (by kernel_rfl) (by kernel_rfl) hw
def AE:Code:=ir [1,1,0,1,0,0,0] vu
def Dx:aY:=(.region [oo 15 (.bin .lss (tm 14) (tm 13))] [])
theorem Ho:bD Tryz.prog 23 [] AE=some Dx:=by kernel_rfl
theorem GU [Glb] {st:St} {Q:aB→St→Prop} (hw:wpC Tryz.prog Dx st Q):aI Tryz.prog 23 AE st Q:=aI.low mx Ho (by kernel_rfl) (by kernel_rfl) hw
def AG:Code:=ir [1,1,0,1,0,0,1,0] vu
def DA:aY:=(.cond (tm 15) .skip (.exit 0))
theorem Hr:bD Tryz.prog 23 [] AG=some DA:=by kernel_rfl
theorem C3 [Glb] {st:St} {Q:aB→St→Prop} (hw:wpC Tryz.prog DA st Q):aI Tryz.prog 23 AG st Q:=aI.low mx Hr (by kernel_rfl) (by kernel_rfl) hw
def AI:Code:=ir [1,1,0,1,0,0,1,1,0,0,0] vu
def DD:aY:=(.region [ix 16 9 12 14,lA 17 9 16,⟨some 6,.alloc [Z0,Z0,S0,Z0,Z0,.nil,S0,Z0,.nil],none,[]⟩,o0 (.store 9 (tm 6) (tm 17))] [])
theorem Hu:bD Tryz.prog 23 [] AI=some DD:=by kernel_rfl
theorem GY [Glb] {st:St} {Q:aB→St→Prop} (hw:wpC Tryz.prog DD st Q):aI Tryz.prog 23 AI st Q:=aI.low mx Hu (by kernel_rfl) (by kernel_rfl) hw
def y7:Code:=ir [1,1,0,1,0,0,1,1,0,0,1,0] vu
theorem Gt:y7= .region 6 (sy y7) false:=by kernel_rfl
theorem H2 [Glb] {st:St} {Q:aB→St→Prop} (hw:aA Tryz.prog [⟨some 18,.load 1 false (.tmp 2),none,[]⟩,⟨some 19,.load 9 true (.tmp 6),none,[]⟩] st fun s0=>gR Tryz.prog (ev s0.sl (.tmp 18)) (List.map (ev s0.sl) [(.tmp 19)]) (some 20) s0 fun s1=>aA Tryz.prog [⟨some 21,.not (.tmp 20),none,[]⟩] s1 (Q .normal)):aI Tryz.prog 23 y7 st Q:=by
 rw [Gt]
 exact aI.rB (k1:=[0,1]) (k:=2) (k2:=[3]) (by kernel_rfl) (by kernel_rfl) (by kernel_rfl) (by kernel_rfl) (by kernel_rfl) (X:=.tmp 18) (az:= #[.tmp 19]) (ats:= #[28]) (d:=20) (by kernel_rfl) rfl rfl (by decide) hw
def AK:Code:=ir [1,1,0,1,0,0,1,1,0,0,1,1] vu
def DG:aY:=(.cond (tm 21) (.seq (.region [oo 4 (.mov kF)] []) .ret) .skip)
theorem Hx:bD Tryz.prog 23 [] AK=some DG:=by kernel_rfl
theorem C6 [Glb] {st:St} {Q:aB→St→Prop} (hw:wpC Tryz.prog DG st Q):aI Tryz.prog 23 AK st Q:=aI.low mx Hx (by kernel_rfl) (by kernel_rfl) hw
def AM:Code:=ir [1,1,0,1,0,0,1,1,1] vu
def DJ:aY:=(.region [oo 22 (.bin .add (tm 14) (Kc 1)),mv 14 22] [])
theorem Hz:bD Tryz.prog 23 [] AM=some DJ:=by kernel_rfl
theorem G0 [Glb] {st:St} {Q:aB→St→Prop} (hw:wpC Tryz.prog DJ st Q):aI Tryz.prog 23 AM st Q:=aI.low mx Hz (by kernel_rfl) (by kernel_rfl) hw
def zn:Code:=ir [1,1,1] vu
def Bw:aY:=(.seq (.region [oo 4 (.mov kT)] []) .ret)
theorem F2:bD Tryz.prog 23 [] zn=some Bw:=by kernel_rfl
theorem FY [Glb] {st:St} {Q:aB→St→Prop} (hw:wpC Tryz.prog Bw st Q):aI Tryz.prog 23 zn st Q:=aI.low mx F2 (by kernel_rfl) (by kernel_rfl) hw
theorem Ls:vu=(.seq Am (.seq (.seq y0 Ay) (.seq (.seq AB (.block 0 (.loop (.seq AE (.seq AG (.seq (.block 1 (.seq AI (.seq y7 AK))) AM)))))) zn))):=by kernel_rfl
def wX:Code:=(Tryz.f130.body).getD .skip
theorem Iz:Tryz.f130.body=some wX:=by kernel_rfl
def Ao:Code:=ir [0] wX
def Df:aY:=(.region [oo 2 (.box 1 (tm 0))] [])
theorem G9:bD Tryz.prog 19 [] Ao=some Df:=by kernel_rfl
theorem GG [Glb] {st:St} {Q:aB→St→Prop} (hw:wpC Tryz.prog Df st Q):aI Tryz.prog 19 Ao st Q:=aI.low mx G9 (by kernel_rfl) (by kernel_rfl) hw
def Av:Code:=ir [1,0] wX
def Dk:aY:=(.region [lA 5 9 1,oo 6 (.call 73 [tm 5])] [])
theorem He:bD Tryz.prog 19 [] Av=some Dk:=by kernel_rfl
theorem GL [Glb] {st:St} {Q:aB→St→Prop} (hw:wpC Tryz.prog Dk st Q):aI Tryz.prog 19 Av st Q:=aI.low mx He (by kernel_rfl) (by kernel_rfl) hw
def x6:Code:=ir [1,1,0,0] wX
def Dq:aY:=(.region [⟨some 3,.alloc [Z0,Z0,S0,Z0,Z0,.nil,S0,Z0,.nil],none,[]⟩,o0 (.store 9 (tm 3) (tm 7))] [])
theorem Hi:bD Tryz.prog 19 [] x6=some Dq:=by kernel_rfl
theorem GO [Glb] {st:St} {Q:aB→St→Prop} (hw:wpC Tryz.prog Dq st Q):aI Tryz.prog 19 x6 st Q:=aI.low mx Hi (by kernel_rfl) (by kernel_rfl) hw
def x7:Code:=ir [1,1,0,1,0,0] wX
def Dv:aY:=(.seq (.region [fa 8 0 3,ld 9 8,oo 10 (.bin .neq (tm 9) (Kc 1))] []) (.cond (tm 10) (.exit 1) .skip))
theorem Hm:bD Tryz.prog 19 [] x7=some Dv:=by kernel_rfl
theorem GR [Glb] {st:St} {Q:aB→St→Prop} (hw:wpC Tryz.prog Dv st Q):aI Tryz.prog 19 x7 st Q:=aI.low mx Hm (by kernel_rfl) (by kernel_rfl) hw
def x8:Code:=ir [1,1,0,1,0,1,0] wX
def Dy:aY:=(.region [fa 11 1 3,lA 12 5 11,oo 13 (.call 109 [tm 12])] [])
theorem Hp:bD Tryz.prog 19 [] x8=some Dy:=by kernel_rfl
theorem GV [Glb] {st:St} {Q:aB→St→Prop} (hw:wpC Tryz.prog Dy st Q):aI Tryz.prog 19 x8 st Q:=aI.low mx Hp (by kernel_rfl) (by kernel_rfl) hw
def xx:Code:=ir [1,1,0,1,0,1,1,0,0] wX
def DB:aY:=(.region [⟨some 4,.alloc [Z0,S0,Z0,Z0,.nil],none,[]⟩,o0 (.store 5 (tm 4) (tm 14))] [])
theorem Hs:bD Tryz.prog 19 [] xx=some DB:=by kernel_rfl
theorem GX [Glb] {st:St} {Q:aB→St→Prop} (hw:wpC Tryz.prog DB st Q):aI Tryz.prog 19 xx st Q:=aI.low mx Hs (by kernel_rfl) (by kernel_rfl) hw
def wJ:Code:=ir [1,1,0,1,0,1,1,0,1,0,0] wX
theorem Gs:wJ= .region 6 (sy wJ) false:=by kernel_rfl
theorem H0 [Glb] {st:St} {Q:aB→St→Prop} (hw:aA Tryz.prog [⟨some 15,.load 1 false (.tmp 2),none,[]⟩,⟨some 16,.load 5 true (.tmp 4),none,[]⟩] st fun s0=>gR Tryz.prog (ev s0.sl (.tmp 15)) (List.map (ev s0.sl) [(.tmp 16)]) (some 17) s0 fun s1=>aA Tryz.prog [⟨some 18,.not (.tmp 17),none,[]⟩] s1 (Q .normal)):aI Tryz.prog 19 wJ st Q:=by
 rw [Gs]
 exact aI.rB (k1:=[0,1]) (k:=2) (k2:=[3]) (by kernel_rfl) (by kernel_rfl) (by kernel_rfl) (by kernel_rfl) (by kernel_rfl) (X:=.tmp 15) (az:= #[.tmp 16]) (ats:= #[25]) (d:=17) (by kernel_rfl) rfl rfl (by decide) hw
def xy:Code:=ir [1,1,0,1,0,1,1,0,1,0,1] wX
def DF:aY:=(.cond (tm 18) .ret .skip)
theorem Hw:bD Tryz.prog 19 [] xy=some DF:=by kernel_rfl
theorem C5 [Glb] {st:St} {Q:aB→St→Prop} (hw:wpC Tryz.prog DF st Q):aI Tryz.prog 19 xy st Q:=aI.low mx Hw (by kernel_rfl) (by kernel_rfl) hw
theorem Lt:wX=(.seq Ao (.seq Av (.block 0 (.rangeFunc (.tmp 6) #[7] x6 (.block 1 (.seq x7 (.seq x8 (.block 2 (.rangeFunc (.tmp 13) #[14] xx (.block 3 (.seq wJ xy))))))))))):=by kernel_rfl
def b69:Code:=(Tryz.f69.body).getD .skip
theorem Lq:Tryz.f69.body=some b69:=by kernel_rfl
def Cg:Code:=ir [0] b69
def EW:aY:=(.region [oo 2 (.box 1 (tm 0)),oo 3 (.box 5 (tm 1)),oo 4 (.alloc [Z0])] [])
theorem Jy:bD Tryz.prog 49 [] Cg=some EW:=by kernel_rfl
theorem IW [Glb] {st:St} {Q:aB→St→Prop} (hw:wpC Tryz.prog EW st Q):aI Tryz.prog 49 Cg st Q:=aI.low mx Jy (by kernel_rfl) (by kernel_rfl) hw
def Cm:Code:=ir [1,0,0] b69
def E8:aY:=(.region [lA 9 5 3,oo 10 (.call 109 [tm 9])] [])
theorem JE:bD Tryz.prog 49 [] Cm=some E8:=by kernel_rfl
theorem I2 [Glb] {st:St} {Q:aB→St→Prop} (hw:wpC Tryz.prog E8 st Q):aI Tryz.prog 49 Cm st Q:=aI.low mx JE (by kernel_rfl) (by kernel_rfl) hw
def Cs:Code:=ir [1,0,1,0,0] b69
def Ff:aY:=(.region [⟨some 5,.alloc [Z0,S0,Z0,Z0,.nil],none,[]⟩,o0 (.store 5 (tm 5) (tm 11))] [])
theorem JK:bD Tryz.prog 49 [] Cs=some Ff:=by kernel_rfl
theorem I8 [Glb] {st:St} {Q:aB→St→Prop} (hw:wpC Tryz.prog Ff st Q):aI Tryz.prog 49 Cs st Q:=aI.low mx JK (by kernel_rfl) (by kernel_rfl) hw
def Cy:Code:=ir [1,0,1,0,1] b69
def Fl:aY:=(.block 1 (.seq (.seq (.region [fa 12 1 5,ld 13 12,⟨some 14,.bin .eql (tm 13) (.const S0),none,[]⟩] []) (.cond (tm 14) (.exit 1) .skip)) (.seq (.region [ld 16 2,fa 17 1 5,ld 18 17,oo 19 (.call 74 [(tm 16),(tm 18)]),mv 15 19,oo 20 (.ext (tm 15) 0),oo 21 (.ext (tm 15) 1),⟨some 6,.alloc [S0,Z0,Z0],none,[]⟩,o0 (.store 3 (tm 6) (tm 20)),mv 7 21] []) (.seq (.region [fa 22 2 5,ld 23 22,mv 8 23] []) (.seq (.seq (.region [fa 24 0 5,ld 25 24,oo 26 (.bin .eql (tm 25) (Kc 5))] []) (.cond (tm 26) (.region [fa 27 3 5,ld 28 27,mv 8 28] []) .skip)) (.block 2 (.seq (.region [mv 30 7,oo 31 (.not (tm 30)),mv 29 31] []) (.cond (tm 29) (.seq (.region [o0 (.store 1 (tm 4) (Kc 4))] []) .ret) (.seq (.region [mv 33 8,lA 34 3 6,oo 35 (.call 75 [tm 34]),oo 36 (.bin .gtr (tm 33) (tm 35)),mv 37 36,oF 38 37 (.offA 0 (tm 5)),oF 39 37 (.load 1 false (tm 38)),oF 40 37 (.bin .eql (tm 39) (Kc 4)),mF 41 40 37,oT 42 41 (.offA 3 (tm 5)),oT 43 41 (.load 1 false (tm 42)),oT 44 41 (.offA 2 (tm 6)),oT 45 41 (.load 1 false (tm 44)),oT 46 41 (.bin .gtr (tm 43) (tm 45)),oF 47 37 (.pick (tm 41) (tm 46) kF),oo 48 (.pick (tm 37) kT (tm 47)),mv 32 48] []) (.cond (tm 32) (.seq (.region [o0 (.store 1 (tm 4) (Kc 1))] []) .ret) .skip))))))))))
theorem JQ:bD Tryz.prog 49 [] Cy=some Fl:=by kernel_rfl
theorem Je [Glb] {st:St} {Q:aB→St→Prop} (hw:wpC Tryz.prog Fl st Q):aI Tryz.prog 49 Cy st Q:=aI.low mx JQ (by kernel_rfl) (by kernel_rfl) hw
def CE:Code:=ir [1,1] b69
def Ft:aY:=(.seq (.region [o0 (.store 1 (tm 4) (Kc 0))] []) .ret)
theorem JW:bD Tryz.prog 49 [] CE=some Ft:=by kernel_rfl
theorem Jj [Glb] {st:St} {Q:aB→St→Prop} (hw:wpC Tryz.prog Ft st Q):aI Tryz.prog 49 CE st Q:=aI.low mx JW (by kernel_rfl) (by kernel_rfl) hw
theorem k69:b69=(.seq Cg (.seq (.seq Cm (.block 0 (.rangeFunc (.tmp 10) #[11] Cs Cy))) CE)):=by kernel_rfl
def b17:Code:=(Tryz.f17.body).getD .skip
theorem Ll:Tryz.f17.body=some b17:=by kernel_rfl
def Cb:Code:=ir [0] b17
def ER:aY:=(.region [oo 2 (.box 1 (tm 0)),oo 3 (.box 9 (tm 1)),oo 4 (.alloc [Z0])] [])
theorem Jt:bD Tryz.prog 47 [] Cb=some ER:=by kernel_rfl
theorem IQ [Glb] {st:St} {Q:aB→St→Prop} (hw:wpC Tryz.prog ER st Q):aI Tryz.prog 47 Cb st Q:=aI.low mx Jt (by kernel_rfl) (by kernel_rfl) hw
def Ch:Code:=ir [1,0] b17
def EX:aY:=(.seq (.region [lA 10 9 3,oo 11 (.call 72 [tm 10]),mv 5 11] []) (.seq (.region [mv 12 5,oo 13 (.bin .neq (tm 12) (Kc 0))] []) (.cond (tm 13) (.seq (.region [mv 14 5,o0 (.store 1 (tm 4) (tm 14))] []) .ret) .skip)))
theorem Jz:bD Tryz.prog 47 [] Ch=some EX:=by kernel_rfl
theorem IX [Glb] {st:St} {Q:aB→St→Prop} (hw:wpC Tryz.prog EX st Q):aI Tryz.prog 47 Ch st Q:=aI.low mx Jz (by kernel_rfl) (by kernel_rfl) hw
def Cn:Code:=ir [1,1,0,0] b17
def E9:aY:=(.region [lA 15 9 3,oo 16 (.call 73 [tm 15])] [])
theorem JF:bD Tryz.prog 47 [] Cn=some E9:=by kernel_rfl
theorem I3 [Glb] {st:St} {Q:aB→St→Prop} (hw:wpC Tryz.prog E9 st Q):aI Tryz.prog 47 Cn st Q:=aI.low mx JF (by kernel_rfl) (by kernel_rfl) hw
def Ct:Code:=ir [1,1,0,1,0,0] b17
def Fg:aY:=(.region [⟨some 6,.alloc [Z0,Z0,S0,Z0,Z0,.nil,S0,Z0,.nil],none,[]⟩,o0 (.store 9 (tm 6) (tm 17))] [])
theorem JL:bD Tryz.prog 47 [] Ct=some Fg:=by kernel_rfl
theorem I9 [Glb] {st:St} {Q:aB→St→Prop} (hw:wpC Tryz.prog Fg st Q):aI Tryz.prog 47 Ct st Q:=aI.low mx JL (by kernel_rfl) (by kernel_rfl) hw
def Cz:Code:=ir [1,1,0,1,0,1] b17
def Fm:aY:=(.block 1 (.seq (.region [fa 18 0 6,ld 19 18] []) (.block 2 (.seq (.region [oo 21 (.bin .eql (tm 19) (Kc 1)),mv 20 21] []) (.cond (tm 20) (.seq (.region [ld 22 2,fa 23 1 6,lA 24 5 23,oo 25 (.call 69 [(tm 22),(tm 24)]),mv 7 25] []) (.seq (.region [mv 26 7,oo 27 (.bin .neq (tm 26) (Kc 0))] []) (.cond (tm 27) (.seq (.region [mv 28 7,o0 (.store 1 (tm 4) (tm 28))] []) .ret) .skip))) (.seq (.region [oo 30 (.bin .eql (tm 19) (Kc 2)),mv 29 30] []) (.cond (tm 29) (.seq (.region [ld 32 2,fa 33 6 6,ld 34 33,oo 35 (.call 74 [(tm 32),(tm 34)]),mv 31 35,oo 36 (.ext (tm 31) 0),oo 37 (.ext (tm 31) 1),⟨some 8,.alloc [S0,Z0,Z0],none,[]⟩,o0 (.store 3 (tm 8) (tm 36)),mv 9 37] []) (.block 3 (.seq (.region [mv 39 9,oo 40 (.not (tm 39)),mv 38 40] []) (.cond (tm 38) (.seq (.region [o0 (.store 1 (tm 4) (Kc 4))] []) .ret) (.seq (.region [fa 42 7 6,ld 43 42,lA 44 3 8,oo 45 (.call 75 [tm 44]),oo 46 (.bin .gtr (tm 43) (tm 45)),mv 41 46] []) (.cond (tm 41) (.seq (.region [o0 (.store 1 (tm 4) (Kc 1))] []) .ret) .skip)))))) .skip)))))))
theorem JR:bD Tryz.prog 47 [] Cz=some Fm:=by kernel_rfl
theorem Jf [Glb] {st:St} {Q:aB→St→Prop} (hw:wpC Tryz.prog Fm st Q):aI Tryz.prog 47 Cz st Q:=aI.low mx JR (by kernel_rfl) (by kernel_rfl) hw
def CF:Code:=ir [1,1,1] b17
def Fu:aY:=(.seq (.region [o0 (.store 1 (tm 4) (Kc 0))] []) .ret)
theorem JX:bD Tryz.prog 47 [] CF=some Fu:=by kernel_rfl
theorem Jk [Glb] {st:St} {Q:aB→St→Prop} (hw:wpC Tryz.prog Fu st Q):aI Tryz.prog 47 CF st Q:=aI.low mx JX (by kernel_rfl) (by kernel_rfl) hw
theorem k17:b17=(.seq Cb (.seq Ch (.seq (.seq Cn (.block 0 (.rangeFunc (.tmp 16) #[17] Ct Cz))) CF))):=by kernel_rfl
def b23:Code:=(Tryz.f23.body).getD .skip
theorem Lm:Tryz.f23.body=some b23:=by kernel_rfl
def Cc:Code:=ir [0] b23
def ES:aY:=(.region [oo 1 (.box 9 (tm 0)),oo 2 (.mov (.const .nil))] [])
theorem Ju:bD Tryz.prog 18 [] Cc=some ES:=by kernel_rfl
theorem IS [Glb] {st:St} {Q:aB→St→Prop} (hw:wpC Tryz.prog ES st Q):aI Tryz.prog 18 Cc st Q:=aI.low mx Ju (by kernel_rfl) (by kernel_rfl) hw
def Ci:Code:=ir [1,0] b23
def EY:aY:=(.region [oo 5 (.mkmap false [.str]),oo 3 (.alloc [.nilmap]),o0 (.store 1 (tm 3) (tm 5))] [])
theorem JA:bD Tryz.prog 18 [] Ci=some EY:=by kernel_rfl
theorem IY [Glb] {st:St} {Q:aB→St→Prop} (hw:wpC Tryz.prog EY st Q):aI Tryz.prog 18 Ci st Q:=aI.low mx JA (by kernel_rfl) (by kernel_rfl) hw
def Co:Code:=ir [1,1,0,0] b23
def Fa:aY:=(.region [lA 6 9 1,oo 7 (.call 86 [tm 6])] [])
theorem JG:bD Tryz.prog 18 [] Co=some Fa:=by kernel_rfl
theorem I4 [Glb] {st:St} {Q:aB→St→Prop} (hw:wpC Tryz.prog Fa st Q):aI Tryz.prog 18 Co st Q:=aI.low mx JG (by kernel_rfl) (by kernel_rfl) hw
def Cu:Code:=ir [1,1,0,1,0,0] b23
def Fh:aY:=(.region [⟨some 4,.alloc [Z0,S0,Z0,Z0,.nil],none,[]⟩,o0 (.store 5 (tm 4) (tm 8))] [])
theorem JM:bD Tryz.prog 18 [] Cu=some Fh:=by kernel_rfl
theorem Ja [Glb] {st:St} {Q:aB→St→Prop} (hw:wpC Tryz.prog Fh st Q):aI Tryz.prog 18 Cu st Q:=aI.low mx JM (by kernel_rfl) (by kernel_rfl) hw
def CA:Code:=ir [1,1,0,1,0,1] b23
def Fo:aY:=(.block 1 (.seq (.region [fa 9 1 4,ld 10 9,⟨some 11,.bin .neq (tm 10) (.const S0),none,[]⟩] []) (.cond (tm 11) (.region [ld 12 3,fa 13 1 4,ld 14 13,o0 (.bK false [.str] (tm 12) (tm 14) kT)] []) .skip)))
theorem JS:bD Tryz.prog 18 [] CA=some Fo:=by kernel_rfl
theorem Jg [Glb] {st:St} {Q:aB→St→Prop} (hw:wpC Tryz.prog Fo st Q):aI Tryz.prog 18 CA st Q:=aI.low mx JS (by kernel_rfl) (by kernel_rfl) hw
def CG:Code:=ir [1,1,1] b23
def Fv:aY:=(.seq (.region [ld 15 3,oo 16 (.call 88 [tm 15]),oo 17 (.call 87 [tm 16]),mv 2 17] []) .ret)
theorem JY:bD Tryz.prog 18 [] CG=some Fv:=by kernel_rfl
theorem Jl [Glb] {st:St} {Q:aB→St→Prop} (hw:wpC Tryz.prog Fv st Q):aI Tryz.prog 18 CG st Q:=aI.low mx JY (by kernel_rfl) (by kernel_rfl) hw
theorem k23:b23=(.seq Cc (.seq Ci (.seq (.seq Co (.block 0 (.rangeFunc (.tmp 7) #[8] Cu CA))) CG))):=by kernel_rfl
def b25:Code:=(Tryz.f25.body).getD .skip
theorem Ln:Tryz.f25.body=some b25:=by kernel_rfl
def Cd:Code:=ir [0] b25
def ET:aY:=(.region [oo 1 (.box 9 (tm 0)),oo 2 (.mov (.const .nil))] [])
theorem Jv:bD Tryz.prog 18 [] Cd=some ET:=by kernel_rfl
theorem IT [Glb] {st:St} {Q:aB→St→Prop} (hw:wpC Tryz.prog ET st Q):aI Tryz.prog 18 Cd st Q:=aI.low mx Jv (by kernel_rfl) (by kernel_rfl) hw
def Cj:Code:=ir [1,0] b25
def EZ:aY:=(.region [oo 5 (.mkmap false [.str]),oo 3 (.alloc [.nilmap]),o0 (.store 1 (tm 3) (tm 5))] [])
theorem JB:bD Tryz.prog 18 [] Cj=some EZ:=by kernel_rfl
theorem IZ [Glb] {st:St} {Q:aB→St→Prop} (hw:wpC Tryz.prog EZ st Q):aI Tryz.prog 18 Cj st Q:=aI.low mx JB (by kernel_rfl) (by kernel_rfl) hw
def Cp:Code:=ir [1,1,0,0] b25
def Fb:aY:=(.region [lA 6 9 1,oo 7 (.call 73 [tm 6])] [])
theorem JH:bD Tryz.prog 18 [] Cp=some Fb:=by kernel_rfl
theorem I5 [Glb] {st:St} {Q:aB→St→Prop} (hw:wpC Tryz.prog Fb st Q):aI Tryz.prog 18 Cp st Q:=aI.low mx JH (by kernel_rfl) (by kernel_rfl) hw
def Cv:Code:=ir [1,1,0,1,0,0] b25
def Fi:aY:=(.region [⟨some 4,.alloc [Z0,Z0,S0,Z0,Z0,.nil,S0,Z0,.nil],none,[]⟩,o0 (.store 9 (tm 4) (tm 8))] [])
theorem JN:bD Tryz.prog 18 [] Cv=some Fi:=by kernel_rfl
theorem Jb [Glb] {st:St} {Q:aB→St→Prop} (hw:wpC Tryz.prog Fi st Q):aI Tryz.prog 18 Cv st Q:=aI.low mx JN (by kernel_rfl) (by kernel_rfl) hw
def CB:Code:=ir [1,1,0,1,0,1] b25
def Fp:aY:=(.block 1 (.seq (.region [fa 9 0 4,ld 10 9,oo 11 (.bin .eql (tm 10) (Kc 2))] []) (.cond (tm 11) (.region [ld 12 3,fa 13 6 4,ld 14 13,o0 (.bK false [.str] (tm 12) (tm 14) kT)] []) .skip)))
theorem JT:bD Tryz.prog 18 [] CB=some Fp:=by kernel_rfl
theorem Jh [Glb] {st:St} {Q:aB→St→Prop} (hw:wpC Tryz.prog Fp st Q):aI Tryz.prog 18 CB st Q:=aI.low mx JT (by kernel_rfl) (by kernel_rfl) hw
def CH:Code:=ir [1,1,1] b25
def Fw:aY:=(.seq (.region [ld 15 3,oo 16 (.call 88 [tm 15]),oo 17 (.call 87 [tm 16]),mv 2 17] []) .ret)
theorem JZ:bD Tryz.prog 18 [] CH=some Fw:=by kernel_rfl
theorem Jm [Glb] {st:St} {Q:aB→St→Prop} (hw:wpC Tryz.prog Fw st Q):aI Tryz.prog 18 CH st Q:=aI.low mx JZ (by kernel_rfl) (by kernel_rfl) hw
theorem k25:b25=(.seq Cd (.seq Cj (.seq (.seq Cp (.block 0 (.rangeFunc (.tmp 7) #[8] Cv CB))) CH))):=by kernel_rfl
def b28:Code:=(Tryz.f28.body).getD .skip
theorem Lo:Tryz.f28.body=some b28:=by kernel_rfl
def Ce:Code:=ir [0] b28
def EU:aY:=(.region [oo 1 (.box 9 (tm 0)),oo 2 (.mov (.const .nil))] [])
theorem Jw:bD Tryz.prog 23 [] Ce=some EU:=by kernel_rfl
theorem IU [Glb] {st:St} {Q:aB→St→Prop} (hw:wpC Tryz.prog EU st Q):aI Tryz.prog 23 Ce st Q:=aI.low mx Jw (by kernel_rfl) (by kernel_rfl) hw
def Ck:Code:=ir [1,0] b28
def E0:aY:=(.region [oo 5 (.mkmap false [.int .i64]),oo 3 (.alloc [.nilmap]),o0 (.store 1 (tm 3) (tm 5))] [])
theorem JC:bD Tryz.prog 23 [] Ck=some E0:=by kernel_rfl
theorem I0 [Glb] {st:St} {Q:aB→St→Prop} (hw:wpC Tryz.prog E0 st Q):aI Tryz.prog 23 Ck st Q:=aI.low mx JC (by kernel_rfl) (by kernel_rfl) hw
def Cq:Code:=ir [1,1,0,0] b28
def Fc:aY:=(.region [lA 6 9 1,oo 7 (.call 73 [tm 6])] [])
theorem JI:bD Tryz.prog 23 [] Cq=some Fc:=by kernel_rfl
theorem I6 [Glb] {st:St} {Q:aB→St→Prop} (hw:wpC Tryz.prog Fc st Q):aI Tryz.prog 23 Cq st Q:=aI.low mx JI (by kernel_rfl) (by kernel_rfl) hw
def Cw:Code:=ir [1,1,0,1,0,0] b28
def Fj:aY:=(.region [⟨some 4,.alloc [Z0,Z0,S0,Z0,Z0,.nil,S0,Z0,.nil],none,[]⟩,o0 (.store 9 (tm 4) (tm 8))] [])
theorem JO:bD Tryz.prog 23 [] Cw=some Fj:=by kernel_rfl
theorem Jc [Glb] {st:St} {Q:aB→St→Prop} (hw:wpC Tryz.prog Fj st Q):aI Tryz.prog 23 Cw st Q:=aI.low mx JO (by kernel_rfl) (by kernel_rfl) hw
def CC:Code:=ir [1,1,0,1,0,1] b28
def Fq:aY:=(.block 1 (.seq (.region [fa 9 0 4,ld 10 9,oo 11 (.bin .eql (tm 10) (Kc 2)),mv 12 11,oT 13 12 (.offA 6 (tm 4)),oT 14 12 (.load 1 false (tm 13)),⟨some 15,.bin .eql (tm 14) (.const (.str ⟨#[112,111,114,116]⟩)),some (12,true),[]⟩,oo 16 (.pick (tm 12) (tm 15) kF)] []) (.cond (tm 16) (.region [ld 17 3,fa 18 7 4,ld 19 18,o0 (.bK false [.int .i64] (tm 17) (tm 19) kT)] []) .skip)))
theorem JU:bD Tryz.prog 23 [] CC=some Fq:=by kernel_rfl
theorem Ji [Glb] {st:St} {Q:aB→St→Prop} (hw:wpC Tryz.prog Fq st Q):aI Tryz.prog 23 CC st Q:=aI.low mx JU (by kernel_rfl) (by kernel_rfl) hw
def CI:Code:=ir [1,1,1] b28
def Fx:aY:=(.seq (.region [ld 20 3,oo 21 (.call 92 [tm 20]),oo 22 (.call 91 [tm 21]),mv 2 22] []) .ret)
theorem J0:bD Tryz.prog 23 [] CI=some Fx:=by kernel_rfl
theorem Jn [Glb] {st:St} {Q:aB→St→Prop} (hw:wpC Tryz.prog Fx st Q):aI Tryz.prog 23 CI st Q:=aI.low mx J0 (by kernel_rfl) (by kernel_rfl) hw
theorem k28:b28=(.seq Ce (.seq Ck (.seq (.seq Cq (.block 0 (.rangeFunc (.tmp 7) #[8] Cw CC))) CI))):=by kernel_rfl
def b57:Code:=(Tryz.f57.body).getD .skip
theorem Lp:Tryz.f57.body=some b57:=by kernel_rfl
def Cf:Code:=ir [0] b57
def EV:aY:=(.region [oo 2 (.mov (.const .nil))] [])
theorem Jx:bD Tryz.prog 31 [] Cf=some EV:=by kernel_rfl
theorem IV [Glb] {st:St} {Q:aB→St→Prop} (hw:wpC Tryz.prog EV st Q):aI Tryz.prog 31 Cf st Q:=aI.low mx Jx (by kernel_rfl) (by kernel_rfl) hw
def Cl:Code:=ir [1,0] b57
def E7:aY:=(.region [oo 7 (.mkmap false [.int .i64]),oo 3 (.alloc [.nilmap]),o0 (.store 1 (tm 3) (tm 7))] [])
theorem JD:bD Tryz.prog 31 [] Cl=some E7:=by kernel_rfl
theorem I1 [Glb] {st:St} {Q:aB→St→Prop} (hw:wpC Tryz.prog E7 st Q):aI Tryz.prog 31 Cl st Q:=aI.low mx JD (by kernel_rfl) (by kernel_rfl) hw
def Cr:Code:=ir [1,1,0,0] b57
def Fe:aY:=(.region [mv 8 0,ln 9 8,oo 10 (.mov (Kc 0))] [])
theorem JJ:bD Tryz.prog 31 [] Cr=some Fe:=by kernel_rfl
theorem I7 [Glb] {st:St} {Q:aB→St→Prop} (hw:wpC Tryz.prog Fe st Q):aI Tryz.prog 31 Cr st Q:=aI.low mx JJ (by kernel_rfl) (by kernel_rfl) hw
def Cx:Code:=ir [1,1,0,1,0,0,0] b57
def Fk:aY:=(.region [oo 11 (.bin .lss (tm 10) (tm 9))] [])
theorem JP:bD Tryz.prog 31 [] Cx=some Fk:=by kernel_rfl
theorem Jd [Glb] {st:St} {Q:aB→St→Prop} (hw:wpC Tryz.prog Fk st Q):aI Tryz.prog 31 Cx st Q:=aI.low mx JP (by kernel_rfl) (by kernel_rfl) hw
def CD:Code:=ir [1,1,0,1,0,0,1,0] b57
def Fs:aY:=(.cond (tm 11) .skip (.exit 0))
theorem JV:bD Tryz.prog 31 [] CD=some Fs:=by kernel_rfl
theorem EP [Glb] {st:St} {Q:aB→St→Prop} (hw:wpC Tryz.prog Fs st Q):aI Tryz.prog 31 CD st Q:=aI.low mx JV (by kernel_rfl) (by kernel_rfl) hw
def CJ:Code:=ir [1,1,0,1,0,0,1,1,0,0,0] b57
def Fy:aY:=(.region [ix 12 15 8 10,lA 13 15 12,⟨some 5,.alloc [Z0,Z0,S0,Z0,Z0,.nil,S0,Z0,.nil,Z0,S0,.nil,S0,Z0,Z0],none,[]⟩,o0 (.store 15 (tm 5) (tm 13))] [])
theorem J1:bD Tryz.prog 31 [] CJ=some Fy:=by kernel_rfl
theorem Jo [Glb] {st:St} {Q:aB→St→Prop} (hw:wpC Tryz.prog Fy st Q):aI Tryz.prog 31 CJ st Q:=aI.low mx J1 (by kernel_rfl) (by kernel_rfl) hw
def CK:Code:=ir [1,1,0,1,0,0,1,1,0,0,1,0] b57
def Fz:aY:=(.region [fa 14 0 5,lA 15 9 14,oo 16 (.call 86 [tm 15])] [])
theorem J2:bD Tryz.prog 31 [] CK=some Fz:=by kernel_rfl
theorem Jp [Glb] {st:St} {Q:aB→St→Prop} (hw:wpC Tryz.prog Fz st Q):aI Tryz.prog 31 CK st Q:=aI.low mx J2 (by kernel_rfl) (by kernel_rfl) hw
def CL:Code:=ir [1,1,0,1,0,0,1,1,0,0,1,1,0,0] b57
def FA:aY:=(.region [⟨some 6,.alloc [Z0,S0,Z0,Z0,.nil],none,[]⟩,o0 (.store 5 (tm 6) (tm 17))] [])
theorem J3:bD Tryz.prog 31 [] CL=some FA:=by kernel_rfl
theorem Jq [Glb] {st:St} {Q:aB→St→Prop} (hw:wpC Tryz.prog FA st Q):aI Tryz.prog 31 CL st Q:=aI.low mx J3 (by kernel_rfl) (by kernel_rfl) hw
def CM:Code:=ir [1,1,0,1,0,0,1,1,0,0,1,1,0,1] b57
def FB:aY:=(.block 3 (.seq (.region [fa 18 0 6,ld 19 18,oo 20 (.bin .eql (tm 19) (Kc 9))] []) (.cond (tm 20) (.region [ld 21 3,fa 22 2 6,ld 23 22,ld 24 3,fa 25 3 6,ld 26 25,o0 (.bK false [.int .i64] (tm 21) (tm 23) kT),o0 (.bK false [.int .i64] (tm 24) (tm 26) kT)] [[],[],[],[],[],[],[3,5],[]]) .skip)))
theorem J4:bD Tryz.prog 31 [] CM=some FB:=by kernel_rfl
theorem Jr [Glb] {st:St} {Q:aB→St→Prop} (hw:wpC Tryz.prog FB st Q):aI Tryz.prog 31 CM st Q:=aI.low mx J4 (by kernel_rfl) (by kernel_rfl) hw
def CN:Code:=ir [1,1,0,1,0,0,1,1,1] b57
def FC:aY:=(.region [oo 27 (.bin .add (tm 10) (Kc 1)),mv 10 27] [])
theorem J5:bD Tryz.prog 31 [] CN=some FC:=by kernel_rfl
theorem Js [Glb] {st:St} {Q:aB→St→Prop} (hw:wpC Tryz.prog FC st Q):aI Tryz.prog 31 CN st Q:=aI.low mx J5 (by kernel_rfl) (by kernel_rfl) hw
def Ar:Code:=ir [1,1,1] b57
def Di:aY:=(.seq (.region [ld 28 3,oo 29 (.call 92 [tm 28]),oo 30 (.call 91 [tm 29]),mv 2 30] []) .ret)
theorem Hc:bD Tryz.prog 31 [] Ar=some Di:=by kernel_rfl
theorem GJ [Glb] {st:St} {Q:aB→St→Prop} (hw:wpC Tryz.prog Di st Q):aI Tryz.prog 31 Ar st Q:=aI.low mx Hc (by kernel_rfl) (by kernel_rfl) hw
theorem k57:b57=(.seq Cf (.seq Cl (.seq (.seq Cr (.block 0 (.loop (.seq Cx (.seq CD (.seq (.block 1 (.seq CJ (.seq CK (.block 2 (.rangeFunc (.tmp 16) #[17] CL CM))))) CN)))))) Ar))):=by kernel_rfl
end Go.TY
end
section
namespace Go.TY
open Go Go.DL Go.MM Go.Proofs
attribute [local irreducible] aI gR WCM YC
section
variable [Glb]
theorem ze {l:Nat} {rc:Option Code→Loop} {cxo:aa→World→Prop} {own:St} {F:Nat→Prop} {hi:Nat} {xs:List T} {outs:Nat→List (Nat×BX)} {stop:Code→(aa→World→Prop)→List (Nat×BX)→Prop} (G:dR Tryz.prog l rc cxo own F hi xs outs stop) (yb wb:Nat) (hyb:hi≤yb) (hwb:hi≤wb):
  ∀(b:Nat) (r:RP),(tg r).length≤b→b<2^60→ ∀(k m off:Nat) (st:St) (d:Option Nat) (K:St→Prop),(∀ j x,(tg r)[j]? =some x→xs[k+j]? =some (sL x))→AtI qF l (rc none) cxo own F (outs k) m st→
   (∀ n,off≤n→st.bx n=none)→yb<off→wb<off→hi≤off→st.bx yb=some (.v [lV l])→st.bx wb=some (.v [.fn 146 [.ptr yb 0,.ptr wb 0]])→
   K (({st with bx:=aK st.bx (outs (k+(tg r).length))}:St).set d (.t (.bool true)))→
   (∀ c cx' o',stop c cx' o'→K (({st with bx:=aK st.bx o',cx:=dC l (rc (some c)) cx' m }:St).set d (.t (.bool false))))→
   WCM Tryz.prog 146 [.t (sL r),.ptr yb 0,.ptr wb 0] d st K
 |0,r,hb=>by rw [xw] at hb;simp at hb
 |b+1,r,hb=>by
  intro hB k m off st d K hxs hA hfree hyo hwo hio hy hw hK hS
  have ih:=ze G yb wb hyb hwb b
  refine WCM.clean (fun hnb=>?_) (bQ Tryz.func146 rfl rfl)
  refine WCM.run Tryz.func146 IB rfl off (nlZ rfl) ?_
  rw [Lv]
  obtain ⟨kd,f,n,mm,args⟩:=r
  have hA1:=hA.enter [.t (sL (.mk kd f n mm args)),.ptr yb 0,.ptr wb 0] off
  have hf3:=hfree (3+off) (by omega)
  have hnm: ∀{k:Nat} {q:Nat},hi≤q→ ∀p∈outs k,p.1≠q:=fun h p hp e=>by have:=(G.nm _ p hp).1;omega
  have hnms: ∀{c cx o} {q:Nat},stop c cx o→hi≤q→ ∀p∈o,p.1≠q:=fun hs h p hp e=>by have:=(G.nms _ _ _ hs p hp).1;omega
  have hpl:(tg (.mk kd f n mm args)).length=1+(sY args).length:=by rw [xw,List.length_cons];exact Nat.add_comm _ _
  rw [sF] at hA1 ⊢
  have endT: ∀(s2:St),s2.gh=dO st.sl st.gh→s2.cx=dC l (rc none) cxo (m+1)→(∀ q, ¬q∈[3+off]→s2.bx q=aK st.bx (outs (k+(tg (.mk kd f n mm args)).length)) q)→s2.sl 4= .t (.bool true)→
    qJ Tryz.f146.results.toList st.off d (fun s=> ∃fr s',K s'∧DL.Clean st fr s s') .ret s2:=fun s2 h1 h2 h3 h4=>by
   refine ⟨[.t (.bool true)],st.cx,?_,by rw [h2,hA.cx];rfl,by rw [hA.cx];exact qj G.cxo_,[3+off],_,hK,?_⟩
   ·show (match s2.sl 4 with|u=>some [u])=_
    rw [h4]
   ·exact mL (by rw [h1];rfl) (fun j=>by rw [h1];rfl) h3 (fun q hq=>by rw [List.mem_singleton.1 hq];exact ⟨hf3,hnm (by omega)⟩) (G.sf (G.lvA hA.at_) _)
  have endF: ∀(c:Code) (cx':aa→World→Prop) (o':List (Nat×BX)) (s2:St),stop c cx' o'→s2.gh=dO st.sl st.gh→s2.cx=dC l (rc (some c)) cx' (m+1)→(∀ q, ¬q∈[3+off]→s2.bx q=aK st.bx o' q)→s2.sl 4= .t (.bool false)→
    qJ Tryz.f146.results.toList st.off d (fun s=> ∃fr s',K s'∧DL.Clean st fr s s') .ret s2:=fun c cx' o' s2 hs h1 h2 h3 h4=>by
   refine ⟨[.t (.bool false)],dC l (rc (some c)) cx' m,?_,h2,qj (G.cxd _ _ _ hs),[3+off],_,hS c cx' o' hs,?_⟩
   ·show (match s2.sl 4 with|u=>some [u])=_
    rw [h4]
   ·exact mL (by rw [h1];rfl) (fun j=>by rw [h1];rfl) h3 (fun q hq=>by rw [List.mem_singleton.1 hq];exact ⟨hf3,hnms hs (by omega)⟩) (G.sfs (G.lvA hA.at_) _ _ _ hs)
  generalize qJ Tryz.f146.results.toList st.off d (fun s=> ∃fr s',K s'∧DL.Clean st fr s s')=nW at endT endF ⊢
  refine aI.seq (GI (pX (r7 (cs:=sB (.mk kd f n mm args)) rfl rfl hf3 (sg rfl (qW ?_)))))
  refine aI.seq (aI.seq (HX (r8 (b:=yb) rfl ((ae _ _ _ _ (show yb≠3+off by omega)).trans hy) rfl (r9 (b:=3+off) rfl (ah _ _ _) (qW (rS rfl rfl ?_))))))
  have hx0:xs[k]? =some (T.agg (sB (.mk kd f n mm args))):=by rw [← sF];exact hxs 0 _ (by rw [xw];rfl)
  refine G.yld qF k _ (m+1) _ _ _ hx0 (hA1.of rfl rfl (fun q h1=>ae _ _ _ _ (show q≠3+off by have:=G.fh q h1;omega)) (fun p hp=>(ae _ _ _ _ (hnm (show hi≤3+off by omega) p hp)).trans (hA1.at_ p hp)) ⟨off+4,fun q hq=>(ae _ _ _ _ (show q≠3+off by omega)).trans (hfree q (by omega))⟩) ?t (fun c cx' o' hs=> ?f)
  case f=>
   refine sj rfl (qW ?_)
   refine C2 (rN rfl (rr (sg rfl (qW (rP ?_)))))
   refine endF c cx' o' _ hs rfl rfl (fun q hq=>?_) rfl
   exact oZ (ae _ _ _ _ (show q≠3+off from fun e=>hq (by rw [e];simp))) o'
  case t=>
  refine sj rfl (qW ?_)
  refine C2 (rM rfl (rQ ?_))
  let b1:Nat→Option BX:=upd st.bx (3+off) (some (.d 5 (sB (.mk kd f n mm args))))
  have hb13: ∀{k:Nat},aK b1 (outs k) (3+off)=some (.d 5 (sB (.mk kd f n mm args))):=(e7 (hnm (by omega))).trans (ah _ _ _)
  refine aI.seq (aI.seq (GS (pX (rL (b:=3+off) (off:=0) rfl (sb (b:=3+off) (off:=0+4) rfl hb13 (by decide) rfl (sd (xs:=args.map sL) (n:=5) rfl (sg rfl (qW ?_))))))))
  refine aI.block (aI.rY (fun μ s=> ∃j sl,μ=args.length - j∧j≤args.length∧s={sl:=sl,bx:=aK b1 (outs (k+1+(sY (args.take j)).length)),gh:=dO st.sl st.gh,off:=off,cx:=dC l (rc none) cxo (m+1)}∧sl 1= .ptr yb 0∧sl 2= .ptr wb 0∧sl 12= .t (.slice 5 (args.map sL))∧sl 13= .t (I args.length)∧sl 14= .t (I j)) args.length ?_ ?_)
  ·exact ⟨0,_,by omega,by omega,St.ext' rfl rfl rfl rfl hA1.cx,rfl,rfl,rfl,by show V.t (.int .i64 ((args.map sL).length:Int))=_;rw [List.length_map],rfl⟩
  rintro μ s ⟨j,sl,rfl,hj,rfl,e1,e2,e12,e13,e14⟩
  refine aI.clean (fun _=>?_)
  refine aI.seq (GW (pX (se (a:=j) (b:=args.length) e14 e13 (qW ?_))))
  by_cases hlt:j<args.length
  case neg=>
   refine aI.seq (C4 (rM (by show V.t (.bool (decide ((j:Int)<(args.length:Int))))=_;rw [decide_eq_false (by omega)]) (rO ?_)))
   refine ⟨[],{sl:=upd sl 15 .top,bx:=aK b1 (outs (k+1+(sY (args.take j)).length)),gh:=dO st.sl st.gh,off:=off,cx:=dC l (rc none) cxo (m+1)},?_,⟨fun q=>?_,⟨rfl,rfl⟩,rfl,rfl,fun q=>rfl,fun q _=>Or.inl rfl,fun q h=>h,by simp⟩⟩
   ·refine FZ (rr (sg rfl (qW (rP ?_))))
    refine endT _ rfl rfl (fun q hq=>?_) rfl
    have hjl:j=args.length:=by omega
    show aK b1 (outs (k+1+(sY (args.take j)).length)) q=_
    rw [hjl,List.take_length,hpl,Nat.add_assoc]
    exact oZ (ae _ _ _ _ (fun e=>hq (by rw [e];simp))) _
   ·by_cases h:q=15
    ·subst h;exact Or.inl (show upd sl 15 V.top 15=V.top from ah _ _ _)
    ·have h1:upd sl 15 V.top q=sl q:=ae _ _ _ _ h
     exact Or.inr ⟨h1.trans (show sl q=upd sl 15 _ q from (ae _ _ _ _ h).symm),Or.inl h1⟩
  refine aI.seq (C4 (rN (by show V.t (.bool (decide ((j:Int)<(args.length:Int))))=_;rw [decide_eq_true (by omega)]) (rQ ?_)))
  have hv:(args.map sL)[((j:Int)).toNat]?.getD .nil=T.agg (sB args[j]):=by
   rw [Int.toNat_natCast,List.getElem?_map,ggZ hlt]
   show sL args[j]=_
   exact sF _
  have hf6: ∀{k:Nat},aK b1 (outs k) (6+off)=none:=(e7 (hnm (by omega))).trans ((ae _ _ _ _ (by omega)).trans (hfree _ (by omega)))
  have hpt:=yW hlt
  have hpg:=fun i x=>@DS args j i x hlt
  have hpm:=DT hlt
  have hcl:=sD args[j]
  have hec:=sF args[j]
  generalize args[j]=aj at hv hpt hpg hpm hcl hec
  refine aI.seq (aI.block (aI.seq (GZ (pX (rJ (xs:=args.map sL) (k:=(j:Int)) e12 e14 ⟨by omega,by rw [List.length_map];omega⟩ hv (sa (cs:=sB aj) rfl hcl (pW hf6 (rp (b:=6+off) (off:=0) rfl (ah _ _ _) rfl ⟨hcl,Nat.le_refl _⟩ (qW ?_)))))))))
  have hbo: ∀{x y:Option BX} {q k:Nat},q≠6+off→upd (upd (aK b1 (outs k)) (6+off) x) (6+off) y q=aK b1 (outs k) q:=fun h=>(ae _ _ _ _ h).trans (ae _ _ _ _ h)
  have hbo2: ∀{k q:Nat},hi≤q→q≠3+off→aK b1 (outs k) q=st.bx q:=fun h h'=>(e7 (hnm h)).trans (ae _ _ _ _ h')
  refine aI.seq (H3 (r8 (b:=wb) e2 ((hbo (by omega)).trans ((hbo2 hwb (by omega)).trans hw)) rfl (r9 (b:=6+off) rfl (ah _ _ _) (qW (rR (us':=[.t (sL aj),.ptr yb 0,.ptr wb 0]) rfl (by
   show [V.t (.agg (aN [.int .i64 0,.str ⟨#[]⟩,.int .i64 0,.int .i64 0,.nil] 0 5 (sB aj))),V.ptr yb 0,V.ptr wb 0]=_
   rw [mU (n:=5) rfl,hec]) ?_)))))
  refine ih aj (by omega) (by omega) (k+1+(sY (args.take j)).length) (m+1) (off+7) _ _ _ (fun i x hx=>?_) (hA1.of hA1.cx.symm rfl (fun q h1=>?_) (fun p hp=>?_) ⟨off+7,fun q hq=>?_⟩) (fun q hq=>?_) (by omega) (by omega) (by omega) ?_ ?_ ?t (fun c cx' o' hs=> ?f)
  ·rw [Nat.add_assoc,Nat.add_assoc]
   refine hxs _ x ?_
   rw [xw,Nat.add_comm,List.getElem?_cons_succ]
   exact hpg i x hx
  ·have hq1:=G.fh q h1
   exact (hbo (by omega)).trans ((e7 (fun p hp e=>(G.nm _ p hp).2 (by rw [e];exact h1))).trans (ae _ _ _ _ (by omega)))
  ·exact (hbo (hnm (show hi≤6+off by omega) p hp)).trans (mC (G.nd _) hp)
  ·exact (hbo (by omega)).trans ((hbo2 (by omega) (by omega)).trans (hfree q (by omega)))
  ·exact (hbo (by omega)).trans ((hbo2 (by omega) (by omega)).trans (hfree q (by omega)))
  ·exact (hbo (by omega)).trans ((hbo2 hyb (by omega)).trans hy)
  ·exact (hbo (by omega)).trans ((hbo2 hwb (by omega)).trans hw)
  case f=>
   refine sj rfl (qW ?_)
   refine C7 (rN rfl (rr (sg rfl (qW (rP ?_)))))
   refine ⟨[6+off],{sl:=fun n=>cond (Nat.beq n 4) (.t (.bool false)) .top,bx:=aK (aK b1 (outs (k+1+(sY (args.take j)).length))) o',gh:=dO st.sl st.gh,off:=off,cx:=dC l (rc (some c)) cx' (m+1)},endF c cx' o' _ hs rfl rfl (fun q hq=>?_) rfl,?_⟩
   ·show aK (aK b1 (outs _)) o' q=_
    rw [qY (G.covs _ _ _ hs _)]
    exact oZ (ae _ _ _ _ (fun e=>hq (by rw [e];simp))) _
   ·refine nj (fun q=>?_) rfl (fun q hq=>oZ (hbo (fun e=>hq (by rw [e];simp))) o') (fun q hq=>?_) (G.sfs (G.lvU _ _) _ _ _ hs)
    ·by_cases h:q=4
     ·subst h;exact Or.inr ⟨rfl,Or.inr (.t _)⟩
     ·refine Or.inl ?_
      show cond (Nat.beq q 4) _ _=_
      rw [eS h];rfl
    ·rw [List.mem_singleton.1 hq]
     exact ⟨hf6,hnms hs (by omega)⟩
  case t=>
   refine sj rfl (qW ?_)
   refine C7 (rM rfl (rQ ?_))
   have hge:=Ai args
   have hw1:IntKind.i64.wrap ((j:Int)+1)=((j+1:Nat):Int):=by rw [mG (by omega) (by omega)];rfl
   refine G1 (pX (rZ (a:=(j:Int)) (b:=1) e14 rfl hw1 (sg rfl (qW ?_))))
   have hix:k+1+(sY (args.take j)).length+(tg aj).length=k+1+(sY (args.take (j+1))).length:=by rw [hpt,List.length_append];omega
   refine ⟨[6+off],{sl:=upd (fun n=>cond (Nat.beq n 1||Nat.beq n 2||Nat.beq n 12||Nat.beq n 13) (sl n) .top) 14 (.t (I (j+1:Nat))),bx:=aK (aK b1 (outs (k+1+(sY (args.take j)).length))) (outs (k+1+(sY (args.take j)).length+(tg aj).length)),gh:=dO st.sl st.gh,off:=off,cx:=dC l (rc none) cxo (m+1)},⟨args.length - (j+1),by omega,j+1,_,rfl,by omega,St.ext' rfl ((qY (G.cov _ _)).trans (congrArg (fun i=>aK b1 (outs i)) hix)) rfl rfl rfl,e1,e2,e12,e13,rfl⟩,?_⟩
   refine nj (fun q=>?_) rfl (fun q hq=>oZ (hbo (fun e=>hq (by rw [e];simp))) _) (fun q hq=>?_) (G.sf (G.lvU _ _) _)
   ·by_cases h14:q=14
    ·subst h14;exact Or.inr ⟨rfl,Or.inr (.t _)⟩
    by_cases h1:q=1
    ·subst h1;exact Or.inr ⟨by (conv=>lhs;whnf);(conv=>rhs;whnf),Or.inl rfl⟩
    by_cases h2:q=2
    ·subst h2;exact Or.inr ⟨by (conv=>lhs;whnf);(conv=>rhs;whnf),Or.inl rfl⟩
    by_cases h12:q=12
    ·subst h12;exact Or.inr ⟨by (conv=>lhs;whnf);(conv=>rhs;whnf),Or.inl rfl⟩
    by_cases h13:q=13
    ·subst h13;exact Or.inr ⟨by (conv=>lhs;whnf);(conv=>rhs;whnf),Or.inl rfl⟩
    refine Or.inl ?_
    show upd _ 14 _ q=_
    rw [ae _ _ _ _ h14]
    show cond (Nat.beq q 1||Nat.beq q 2||Nat.beq q 12||Nat.beq q 13) _ _=_
    rw [eS h1,eS h2,eS h12,eS h13];rfl
   ·rw [List.mem_singleton.1 hq]
    exact ⟨hf6,hnm (by omega)⟩
end
end Go.TY
end
section
namespace Go.TY
open Go Go.DL Go.MM Go.Proofs
attribute [local irreducible] aI gR WCM YC
section
variable [Glb]
theorem zd {l:Nat} {rc:Option Code→Loop} {cxo:aa→World→Prop} {own:St} {F:Nat→Prop} {hi:Nat} {xs:List T} {outs:Nat→List (Nat×BX)} {stop:Code→(aa→World→Prop)→List (Nat×BX)→Prop} (G:dR Tryz.prog l rc cxo own F hi xs outs stop) (yb wb:Nat) (hyb:hi≤yb) (hwb:hi≤wb):
  ∀(b:Nat) (r:RO),(sG r).length≤b→b<2^60→ ∀(k m off:Nat) (st:St) (d:Option Nat) (K:St→Prop),(∀ j x,(sG r)[j]? =some x→xs[k+j]? =some (uB x))→AtI qF l (rc none) cxo own F (outs k) m st→
   (∀ n,off≤n→st.bx n=none)→yb<off→wb<off→hi≤off→st.bx yb=some (.v [lV l])→st.bx wb=some (.v [.fn 117 [.ptr yb 0,.ptr wb 0]])→
   K (({st with bx:=aK st.bx (outs (k+(sG r).length))}:St).set d (.t (.bool true)))→
   (∀ c cx' o',stop c cx' o'→K (({st with bx:=aK st.bx o',cx:=dC l (rc (some c)) cx' m }:St).set d (.t (.bool false))))→
   WCM Tryz.prog 117 [.t (uB r),.ptr yb 0,.ptr wb 0] d st K
 |0,r,hb=>by rw [xv] at hb;simp at hb
 |b+1,r,hb=>by
  intro hB k m off st d K hxs hA hfree hyo hwo hio hy hw hK hS
  have ih:=zd G yb wb hyb hwb b
  refine WCM.clean (fun hnb=>?_) (bQ Tryz.func117 rfl rfl)
  refine WCM.run Tryz.func117 Iy rfl off (nlZ rfl) ?_
  rw [Ls]
  obtain ⟨kd,f,n,mm,args⟩:=r
  have hA1:=hA.enter [.t (uB (.mk kd f n mm args)),.ptr yb 0,.ptr wb 0] off
  have hf3:=hfree (3+off) (by omega)
  have hnm: ∀{k:Nat} {q:Nat},hi≤q→ ∀p∈outs k,p.1≠q:=fun h p hp e=>by have:=(G.nm _ p hp).1;omega
  have hnms: ∀{c cx o} {q:Nat},stop c cx o→hi≤q→ ∀p∈o,p.1≠q:=fun hs h p hp e=>by have:=(G.nms _ _ _ hs p hp).1;omega
  have hpl:(sG (.mk kd f n mm args)).length=1+(sU args).length:=by rw [xv,List.length_cons];exact Nat.add_comm _ _
  rw [sP] at hA1 ⊢
  have endT: ∀(s2:St),s2.gh=dO st.sl st.gh→s2.cx=dC l (rc none) cxo (m+1)→(∀ q, ¬q∈[3+off]→s2.bx q=aK st.bx (outs (k+(sG (.mk kd f n mm args)).length)) q)→s2.sl 4= .t (.bool true)→
    qJ Tryz.f117.results.toList st.off d (fun s=> ∃fr s',K s'∧DL.Clean st fr s s') .ret s2:=fun s2 h1 h2 h3 h4=>by
   refine ⟨[.t (.bool true)],st.cx,?_,by rw [h2,hA.cx];rfl,by rw [hA.cx];exact qj G.cxo_,[3+off],_,hK,?_⟩
   ·show (match s2.sl 4 with|u=>some [u])=_
    rw [h4]
   ·exact mL (by rw [h1];rfl) (fun j=>by rw [h1];rfl) h3 (fun q hq=>by rw [List.mem_singleton.1 hq];exact ⟨hf3,hnm (by omega)⟩) (G.sf (G.lvA hA.at_) _)
  have endF: ∀(c:Code) (cx':aa→World→Prop) (o':List (Nat×BX)) (s2:St),stop c cx' o'→s2.gh=dO st.sl st.gh→s2.cx=dC l (rc (some c)) cx' (m+1)→(∀ q, ¬q∈[3+off]→s2.bx q=aK st.bx o' q)→s2.sl 4= .t (.bool false)→
    qJ Tryz.f117.results.toList st.off d (fun s=> ∃fr s',K s'∧DL.Clean st fr s s') .ret s2:=fun c cx' o' s2 hs h1 h2 h3 h4=>by
   refine ⟨[.t (.bool false)],dC l (rc (some c)) cx' m,?_,h2,qj (G.cxd _ _ _ hs),[3+off],_,hS c cx' o' hs,?_⟩
   ·show (match s2.sl 4 with|u=>some [u])=_
    rw [h4]
   ·exact mL (by rw [h1];rfl) (fun j=>by rw [h1];rfl) h3 (fun q hq=>by rw [List.mem_singleton.1 hq];exact ⟨hf3,hnms hs (by omega)⟩) (G.sfs (G.lvA hA.at_) _ _ _ hs)
  generalize qJ Tryz.f117.results.toList st.off d (fun s=> ∃fr s',K s'∧DL.Clean st fr s s')=nW at endT endF ⊢
  refine aI.seq (GF (pX (r7 (cs:=sX (.mk kd f n mm args)) rfl rfl hf3 (sg rfl (qW ?_)))))
  refine aI.seq (aI.seq (HW (r8 (b:=yb) rfl ((ae _ _ _ _ (show yb≠3+off by omega)).trans hy) rfl (r9 (b:=3+off) rfl (ah _ _ _) (qW (rS rfl rfl ?_))))))
  have hx0:xs[k]? =some (T.agg (sX (.mk kd f n mm args))):=by rw [← sP];exact hxs 0 _ (by rw [xv];rfl)
  refine G.yld qF k _ (m+1) _ _ _ hx0 (hA1.of rfl rfl (fun q h1=>ae _ _ _ _ (show q≠3+off by have:=G.fh q h1;omega)) (fun p hp=>(ae _ _ _ _ (hnm (show hi≤3+off by omega) p hp)).trans (hA1.at_ p hp)) ⟨off+4,fun q hq=>(ae _ _ _ _ (show q≠3+off by omega)).trans (hfree q (by omega))⟩) ?t (fun c cx' o' hs=> ?f)
  case f=>
   refine sj rfl (qW ?_)
   refine C1 (rN rfl (rr (sg rfl (qW (rP ?_)))))
   refine endF c cx' o' _ hs rfl rfl (fun q hq=>?_) rfl
   exact oZ (ae _ _ _ _ (show q≠3+off from fun e=>hq (by rw [e];simp))) o'
  case t=>
  refine sj rfl (qW ?_)
  refine C1 (rM rfl (rQ ?_))
  let b1:Nat→Option BX:=upd st.bx (3+off) (some (.d 9 (sX (.mk kd f n mm args))))
  have hb13: ∀{k:Nat},aK b1 (outs k) (3+off)=some (.d 9 (sX (.mk kd f n mm args))):=(e7 (hnm (by omega))).trans (ah _ _ _)
  refine aI.seq (aI.seq (GQ (pX (rL (b:=3+off) (off:=0) rfl (sb (b:=3+off) (off:=0+8) rfl hb13 (by decide) rfl (sd (xs:=args.map uB) (n:=9) rfl (sg rfl (qW ?_))))))))
  refine aI.block (aI.rY (fun μ s=> ∃j sl,μ=args.length - j∧j≤args.length∧s={sl:=sl,bx:=aK b1 (outs (k+1+(sU (args.take j)).length)),gh:=dO st.sl st.gh,off:=off,cx:=dC l (rc none) cxo (m+1)}∧sl 1= .ptr yb 0∧sl 2= .ptr wb 0∧sl 12= .t (.slice 9 (args.map uB))∧sl 13= .t (I args.length)∧sl 14= .t (I j)) args.length ?_ ?_)
  ·exact ⟨0,_,by omega,by omega,St.ext' rfl rfl rfl rfl hA1.cx,rfl,rfl,rfl,by show V.t (.int .i64 ((args.map uB).length:Int))=_;rw [List.length_map],rfl⟩
  rintro μ s ⟨j,sl,rfl,hj,rfl,e1,e2,e12,e13,e14⟩
  refine aI.clean (fun _=>?_)
  refine aI.seq (GU (pX (se (a:=j) (b:=args.length) e14 e13 (qW ?_))))
  by_cases hlt:j<args.length
  case neg=>
   refine aI.seq (C3 (rM (by show V.t (.bool (decide ((j:Int)<(args.length:Int))))=_;rw [decide_eq_false (by omega)]) (rO ?_)))
   refine ⟨[],{sl:=upd sl 15 .top,bx:=aK b1 (outs (k+1+(sU (args.take j)).length)),gh:=dO st.sl st.gh,off:=off,cx:=dC l (rc none) cxo (m+1)},?_,⟨fun q=>?_,⟨rfl,rfl⟩,rfl,rfl,fun q=>rfl,fun q _=>Or.inl rfl,fun q h=>h,by simp⟩⟩
   ·refine FY (rr (sg rfl (qW (rP ?_))))
    refine endT _ rfl rfl (fun q hq=>?_) rfl
    have hjl:j=args.length:=by omega
    show aK b1 (outs (k+1+(sU (args.take j)).length)) q=_
    rw [hjl,List.take_length,hpl,Nat.add_assoc]
    exact oZ (ae _ _ _ _ (fun e=>hq (by rw [e];simp))) _
   ·by_cases h:q=15
    ·subst h;exact Or.inl (show upd sl 15 V.top 15=V.top from ah _ _ _)
    ·have h1:upd sl 15 V.top q=sl q:=ae _ _ _ _ h
     exact Or.inr ⟨h1.trans (show sl q=upd sl 15 _ q from (ae _ _ _ _ h).symm),Or.inl h1⟩
  refine aI.seq (C3 (rN (by show V.t (.bool (decide ((j:Int)<(args.length:Int))))=_;rw [decide_eq_true (by omega)]) (rQ ?_)))
  have hv:(args.map uB)[((j:Int)).toNat]?.getD .nil=T.agg (sX args[j]):=by
   rw [Int.toNat_natCast,List.getElem?_map,ggZ hlt]
   show uB args[j]=_
   exact sP _
  have hf6: ∀{k:Nat},aK b1 (outs k) (6+off)=none:=(e7 (hnm (by omega))).trans ((ae _ _ _ _ (by omega)).trans (hfree _ (by omega)))
  have hpt:=yV hlt
  have hpg:=fun i x=>@DO args j i x hlt
  have hpm:=DP hlt
  have hcl:=tw args[j]
  have hec:=sP args[j]
  generalize args[j]=aj at hv hpt hpg hpm hcl hec
  refine aI.seq (aI.block (aI.seq (GY (pX (rJ (xs:=args.map uB) (k:=(j:Int)) e12 e14 ⟨by omega,by rw [List.length_map];omega⟩ hv (sa (cs:=sX aj) rfl hcl (pW hf6 (rp (b:=6+off) (off:=0) rfl (ah _ _ _) rfl ⟨hcl,Nat.le_refl _⟩ (qW ?_)))))))))
  have hbo: ∀{x y:Option BX} {q k:Nat},q≠6+off→upd (upd (aK b1 (outs k)) (6+off) x) (6+off) y q=aK b1 (outs k) q:=fun h=>(ae _ _ _ _ h).trans (ae _ _ _ _ h)
  have hbo2: ∀{k q:Nat},hi≤q→q≠3+off→aK b1 (outs k) q=st.bx q:=fun h h'=>(e7 (hnm h)).trans (ae _ _ _ _ h')
  refine aI.seq (H2 (r8 (b:=wb) e2 ((hbo (by omega)).trans ((hbo2 hwb (by omega)).trans hw)) rfl (r9 (b:=6+off) rfl (ah _ _ _) (qW (rR (us':=[.t (uB aj),.ptr yb 0,.ptr wb 0]) rfl (by
   show [V.t (.agg (aN [.int .i64 0,.int .i64 0,.str ⟨#[]⟩,.int .i64 0,.int .i64 0,.nil,.str ⟨#[]⟩,.int .i64 0,.nil] 0 9 (sX aj))),V.ptr yb 0,V.ptr wb 0]=_
   rw [mU (n:=9) rfl,hec]) ?_)))))
  refine ih aj (by omega) (by omega) (k+1+(sU (args.take j)).length) (m+1) (off+7) _ _ _ (fun i x hx=>?_) (hA1.of hA1.cx.symm rfl (fun q h1=>?_) (fun p hp=>?_) ⟨off+7,fun q hq=>?_⟩) (fun q hq=>?_) (by omega) (by omega) (by omega) ?_ ?_ ?t (fun c cx' o' hs=> ?f)
  ·rw [Nat.add_assoc,Nat.add_assoc]
   refine hxs _ x ?_
   rw [xv,Nat.add_comm,List.getElem?_cons_succ]
   exact hpg i x hx
  ·have hq1:=G.fh q h1
   exact (hbo (by omega)).trans ((e7 (fun p hp e=>(G.nm _ p hp).2 (by rw [e];exact h1))).trans (ae _ _ _ _ (by omega)))
  ·exact (hbo (hnm (show hi≤6+off by omega) p hp)).trans (mC (G.nd _) hp)
  ·exact (hbo (by omega)).trans ((hbo2 (by omega) (by omega)).trans (hfree q (by omega)))
  ·exact (hbo (by omega)).trans ((hbo2 (by omega) (by omega)).trans (hfree q (by omega)))
  ·exact (hbo (by omega)).trans ((hbo2 hyb (by omega)).trans hy)
  ·exact (hbo (by omega)).trans ((hbo2 hwb (by omega)).trans hw)
  case f=>
   refine sj rfl (qW ?_)
   refine C6 (rN rfl (rr (sg rfl (qW (rP ?_)))))
   refine ⟨[6+off],{sl:=fun n=>cond (Nat.beq n 4) (.t (.bool false)) .top,bx:=aK (aK b1 (outs (k+1+(sU (args.take j)).length))) o',gh:=dO st.sl st.gh,off:=off,cx:=dC l (rc (some c)) cx' (m+1)},endF c cx' o' _ hs rfl rfl (fun q hq=>?_) rfl,?_⟩
   ·show aK (aK b1 (outs _)) o' q=_
    rw [qY (G.covs _ _ _ hs _)]
    exact oZ (ae _ _ _ _ (fun e=>hq (by rw [e];simp))) _
   ·refine nj (fun q=>?_) rfl (fun q hq=>oZ (hbo (fun e=>hq (by rw [e];simp))) o') (fun q hq=>?_) (G.sfs (G.lvU _ _) _ _ _ hs)
    ·by_cases h:q=4
     ·subst h;exact Or.inr ⟨rfl,Or.inr (.t _)⟩
     ·refine Or.inl ?_
      show cond (Nat.beq q 4) _ _=_
      rw [eS h];rfl
    ·rw [List.mem_singleton.1 hq]
     exact ⟨hf6,hnms hs (by omega)⟩
  case t=>
   refine sj rfl (qW ?_)
   refine C6 (rM rfl (rQ ?_))
   have hge:=Ah args
   have hw1:IntKind.i64.wrap ((j:Int)+1)=((j+1:Nat):Int):=by rw [mG (by omega) (by omega)];rfl
   refine G0 (pX (rZ (a:=(j:Int)) (b:=1) e14 rfl hw1 (sg rfl (qW ?_))))
   have hix:k+1+(sU (args.take j)).length+(sG aj).length=k+1+(sU (args.take (j+1))).length:=by rw [hpt,List.length_append];omega
   refine ⟨[6+off],{sl:=upd (fun n=>cond (Nat.beq n 1||Nat.beq n 2||Nat.beq n 12||Nat.beq n 13) (sl n) .top) 14 (.t (I (j+1:Nat))),bx:=aK (aK b1 (outs (k+1+(sU (args.take j)).length))) (outs (k+1+(sU (args.take j)).length+(sG aj).length)),gh:=dO st.sl st.gh,off:=off,cx:=dC l (rc none) cxo (m+1)},⟨args.length - (j+1),by omega,j+1,_,rfl,by omega,St.ext' rfl ((qY (G.cov _ _)).trans (congrArg (fun i=>aK b1 (outs i)) hix)) rfl rfl rfl,e1,e2,e12,e13,rfl⟩,?_⟩
   refine nj (fun q=>?_) rfl (fun q hq=>oZ (hbo (fun e=>hq (by rw [e];simp))) _) (fun q hq=>?_) (G.sf (G.lvU _ _) _)
   ·by_cases h14:q=14
    ·subst h14;exact Or.inr ⟨rfl,Or.inr (.t _)⟩
    by_cases h1:q=1
    ·subst h1;exact Or.inr ⟨by (conv=>lhs;whnf);(conv=>rhs;whnf),Or.inl rfl⟩
    by_cases h2:q=2
    ·subst h2;exact Or.inr ⟨by (conv=>lhs;whnf);(conv=>rhs;whnf),Or.inl rfl⟩
    by_cases h12:q=12
    ·subst h12;exact Or.inr ⟨by (conv=>lhs;whnf);(conv=>rhs;whnf),Or.inl rfl⟩
    by_cases h13:q=13
    ·subst h13;exact Or.inr ⟨by (conv=>lhs;whnf);(conv=>rhs;whnf),Or.inl rfl⟩
    refine Or.inl ?_
    show upd _ 14 _ q=_
    rw [ae _ _ _ _ h14]
    show cond (Nat.beq q 1||Nat.beq q 2||Nat.beq q 12||Nat.beq q 13) _ _=_
    rw [eS h1,eS h2,eS h12,eS h13];rfl
   ·rw [List.mem_singleton.1 hq]
    exact ⟨hf6,hnm (by omega)⟩
end
end Go.TY
end
section
namespace Go.TY
open Go Go.DL Go.MM Go.Proofs
attribute [local irreducible] aI gR WCM YC
section
variable [Glb]
theorem yB {N:Nat} {st:St} {g:Operand} {y:O} {p:Nat} {asg body:Code} (hg:aq g=some y) (r:RP) (hv:ev st.sl y= .t (.clos 145 [.cptr (sB r) 0])) (off:Nat) (F:Nat→Prop) (hi:Nat) (hio:hi≤off) (hB:(tg r).length<2^59) (hfl: ∀n,F n→st.bx n=none) (hfo: ∀n,off≤n→st.bx n=none) (hcn:CxN st.cx)
  {outs:Nat→List (Nat×BX)} {stop:Code→(aa→World→Prop)→List (Nat×BX)→Prop} {Q:aB→St→Prop} (h0: ∀q∈outs 0,st.bx q.1=some q.2)
  (hG: ∀(l D:Nat) (fn:FuncId) (tmps:Array Value),tmps.size=N→dR Tryz.prog l (rcE fn tmps p asg body D) st.cx st F hi ((tg r).map sL) outs stop)
  (hend:Q .normal {st with bx:=aK st.bx (outs (tg r).length)})
  (hstop: ∀c cx' o',stop c cx' o'→(c= .ret∧Q .ret {st with bx:=aK st.bx o',cx:=cx' })∨ ∃id,c= .exit id∧Q (.exit id) {st with bx:=aK st.bx o',cx:=cx' }):
  aI Tryz.prog N (.rangeFunc g #[p] asg body) st Q:=by
 refine aI.clean (fun _=>?_)
 refine aI.range (N:=N) hg (gf:=145) (caps:=[.t (.cptr (sB r) 0)]) (by rw [hv];rfl) Tryz.func145 IA rfl rfl (nlZ rfl) off hcn (fun l D fn tmps hN=>?_)
 have G:=hG l D fn tmps hN
 rw [Lu]
 have hA:AtI qF l (rcE fn tmps p asg body D none) st.cx st F (outs 0) 0 (st.itr l [.t (.cptr (sB r) 0)] off (rdy fn tmps p asg body D)):=
  ⟨rfl,rfl,fun j=>by
   show dO st.sl st.gh (0+0+1+j)=_
   rw [show 0+0+1+j=j+1 by omega];rfl,h0,hfl,off,hfo⟩
 have hnm: ∀{k:Nat} {q:Nat},hi≤q→ ∀p∈outs k,p.1≠q:=fun h p hp e=>by have:=(G.nm _ p hp).1;omega
 have hnms: ∀{c cx o} {q:Nat},stop c cx o→hi≤q→ ∀p∈o,p.1≠q:=fun hs h p hp e=>by have:=(G.nms _ _ _ hs p hp).1;omega
 have hf2:st.bx (2+off)=none:=hfo _ (by omega)
 have hf3:st.bx (3+off)=none:=hfo _ (by omega)
 have fin: ∀{s2:St} {o:List (Nat×BX)} {cx:aa→World→Prop},s2.gh=dO st.sl st.gh→(∀ q, ¬q∈[2+off,3+off]→s2.bx q=aK st.bx o q)→(∀ q∈[2+off,3+off], ∀p∈o,p.1≠q)→(∀ p∈o,bz (fun n=>(st.bx n).isSome=true) p.2)→
   DL.Clean st [2+off,3+off] (s2.bE st.off cx) {st with bx:=aK st.bx o,cx:=cx }:=fun h1 h2 h3 h4=>
  mL (d:=none) (v:=.nil) (by rw [h1];rfl) (fun j=>by rw [h1];rfl) h2 (fun q hq=>⟨by
   rcases List.mem_cons.1 hq with rfl|hq
   ·exact hf2
   ·rw [List.mem_singleton.1 hq];exact hf3,h3 q hq⟩) h4
 refine aI.seq (GH (pX (rH (v:=.func (.yield l) #[] #[]) rfl hf2 (qW ?_))))
 refine aI.seq (GM (pX (pW ((ae _ _ _ _ (show 3+off≠2+off by omega)).trans hf3) (qW ?_))))
 refine aI.seq (GP (pX (rK rfl (sq (b:=3+off) rfl (ah _ _ _) rfl (qW ?_)))))
 have hbo: ∀{x y z:Option BX} {q:Nat},q≠2+off→q≠3+off→upd (upd (upd st.bx (2+off) x) (3+off) y) (3+off) z q=st.bx q:=fun h1 h2=>(ae _ _ _ _ h2).trans ((ae _ _ _ _ h2).trans (ae _ _ _ _ h1))
 have h23:2+off≠3+off:=by omega
 have hq2: ∀q, ¬q∈[2+off,3+off]→q≠2+off∧q≠3+off:=fun q h=>⟨fun e=>h (by rw [e];simp),fun e=>h (by rw [e];simp)⟩
 refine HZ (r8 (b:=3+off) rfl (ah _ _ _) rfl (sa (cs:=sB r) rfl (sD r) (qW (rR (us':=[.t (sL r),.ptr (2+off) 0,.ptr (3+off) 0]) rfl (by rw [sF];rfl) ?_))))
 refine ze G (2+off) (3+off) (by omega) (by omega) (tg r).length r (Nat.le_refl _) (by omega) 0 0 (off+4) _ _ _ (fun j x hx=>by rw [Nat.zero_add,List.getElem?_map,hx];rfl) (hA.of rfl rfl (fun q h1=>hbo (by have:=G.fh q h1;omega) (by have:=G.fh q h1;omega)) (fun q hq=>(hbo (hnm (by omega) q hq) (hnm (by omega) q hq)).trans (h0 q hq)) ⟨off+4,fun q hq=>(hbo (by omega) (by omega)).trans (hfo q (by omega))⟩)
  (fun q hq=>(hbo (by omega) (by omega)).trans (hfo q (by omega))) (by omega) (by omega) (by omega) ((ae _ _ _ _ h23).trans ((ae _ _ _ _ h23).trans (ah _ _ _))) (ah _ _ _) ?t (fun c cx' o' hs=> ?f)
 case t=>
  refine qW ⟨none,st.cx,rfl,G.cxo_,[2+off,3+off],_,?_,fin (o:=outs (tg r).length) rfl (fun q hq=>?_) (fun q hq=>hnm (by
   rcases List.mem_cons.1 hq with rfl|hq
   ·omega
   ·rw [List.mem_singleton.1 hq];omega)) (G.sf (G.lvA h0) _)⟩
  ·exact hend
  ·show aK _ (outs (0+(tg r).length)) q=_
   rw [Nat.zero_add]
   exact oZ (hbo (hq2 q hq).1 (hq2 q hq).2) _
 case f=>
  rcases hstop c cx' o' hs with ⟨rfl,hq⟩|⟨id,rfl,hq⟩
  all_goals
   refine qW ⟨some _,cx',rfl,G.cxd _ _ _ hs,[2+off,3+off],_,hq,fin (o:=o') rfl (fun q hq=>?_) (fun q hq=>hnms hs (by
    rcases List.mem_cons.1 hq with rfl|hq
    ·omega
    ·rw [List.mem_singleton.1 hq];omega)) (G.sfs (G.lvA h0) _ _ _ hs)⟩
   exact oZ (hbo (hq2 q hq).1 (hq2 q hq).2) _
theorem vS {N:Nat} {st:St} {g:Operand} {y:O} {p:Nat} {asg body:Code} (hg:aq g=some y) (r:RO) (hv:ev st.sl y= .t (.clos 116 [.cptr (sX r) 0])) (off:Nat) (F:Nat→Prop) (hi:Nat) (hio:hi≤off) (hB:(sG r).length<2^59) (hfl: ∀n,F n→st.bx n=none) (hfo: ∀n,off≤n→st.bx n=none) (hcn:CxN st.cx)
  {outs:Nat→List (Nat×BX)} {stop:Code→(aa→World→Prop)→List (Nat×BX)→Prop} {Q:aB→St→Prop} (h0: ∀q∈outs 0,st.bx q.1=some q.2)
  (hG: ∀(l D:Nat) (fn:FuncId) (tmps:Array Value),tmps.size=N→dR Tryz.prog l (rcE fn tmps p asg body D) st.cx st F hi ((sG r).map uB) outs stop)
  (hend:Q .normal {st with bx:=aK st.bx (outs (sG r).length)})
  (hstop: ∀c cx' o',stop c cx' o'→(c= .ret∧Q .ret {st with bx:=aK st.bx o',cx:=cx' })∨ ∃id,c= .exit id∧Q (.exit id) {st with bx:=aK st.bx o',cx:=cx' }):
  aI Tryz.prog N (.rangeFunc g #[p] asg body) st Q:=by
 refine aI.clean (fun _=>?_)
 refine aI.range (N:=N) hg (gf:=116) (caps:=[.t (.cptr (sX r) 0)]) (by rw [hv];rfl) Tryz.func116 Ix rfl rfl (nlZ rfl) off hcn (fun l D fn tmps hN=>?_)
 have G:=hG l D fn tmps hN
 rw [Lr]
 have hA:AtI qF l (rcE fn tmps p asg body D none) st.cx st F (outs 0) 0 (st.itr l [.t (.cptr (sX r) 0)] off (rdy fn tmps p asg body D)):=
  ⟨rfl,rfl,fun j=>by
   show dO st.sl st.gh (0+0+1+j)=_
   rw [show 0+0+1+j=j+1 by omega];rfl,h0,hfl,off,hfo⟩
 have hnm: ∀{k:Nat} {q:Nat},hi≤q→ ∀p∈outs k,p.1≠q:=fun h p hp e=>by have:=(G.nm _ p hp).1;omega
 have hnms: ∀{c cx o} {q:Nat},stop c cx o→hi≤q→ ∀p∈o,p.1≠q:=fun hs h p hp e=>by have:=(G.nms _ _ _ hs p hp).1;omega
 have hf2:st.bx (2+off)=none:=hfo _ (by omega)
 have hf3:st.bx (3+off)=none:=hfo _ (by omega)
 have fin: ∀{s2:St} {o:List (Nat×BX)} {cx:aa→World→Prop},s2.gh=dO st.sl st.gh→(∀ q, ¬q∈[2+off,3+off]→s2.bx q=aK st.bx o q)→(∀ q∈[2+off,3+off], ∀p∈o,p.1≠q)→(∀ p∈o,bz (fun n=>(st.bx n).isSome=true) p.2)→
   DL.Clean st [2+off,3+off] (s2.bE st.off cx) {st with bx:=aK st.bx o,cx:=cx }:=fun h1 h2 h3 h4=>
  mL (d:=none) (v:=.nil) (by rw [h1];rfl) (fun j=>by rw [h1];rfl) h2 (fun q hq=>⟨by
   rcases List.mem_cons.1 hq with rfl|hq
   ·exact hf2
   ·rw [List.mem_singleton.1 hq];exact hf3,h3 q hq⟩) h4
 refine aI.seq (GD (pX (rH (v:=.func (.yield l) #[] #[]) rfl hf2 (qW ?_))))
 refine aI.seq (GK (pX (pW ((ae _ _ _ _ (show 3+off≠2+off by omega)).trans hf3) (qW ?_))))
 refine aI.seq (GN (pX (rK rfl (sq (b:=3+off) rfl (ah _ _ _) rfl (qW ?_)))))
 have hbo: ∀{x y z:Option BX} {q:Nat},q≠2+off→q≠3+off→upd (upd (upd st.bx (2+off) x) (3+off) y) (3+off) z q=st.bx q:=fun h1 h2=>(ae _ _ _ _ h2).trans ((ae _ _ _ _ h2).trans (ae _ _ _ _ h1))
 have h23:2+off≠3+off:=by omega
 have hq2: ∀q, ¬q∈[2+off,3+off]→q≠2+off∧q≠3+off:=fun q h=>⟨fun e=>h (by rw [e];simp),fun e=>h (by rw [e];simp)⟩
 refine HY (r8 (b:=3+off) rfl (ah _ _ _) rfl (sa (cs:=sX r) rfl (tw r) (qW (rR (us':=[.t (uB r),.ptr (2+off) 0,.ptr (3+off) 0]) rfl (by rw [sP];rfl) ?_))))
 refine zd G (2+off) (3+off) (by omega) (by omega) (sG r).length r (Nat.le_refl _) (by omega) 0 0 (off+4) _ _ _ (fun j x hx=>by rw [Nat.zero_add,List.getElem?_map,hx];rfl) (hA.of rfl rfl (fun q h1=>hbo (by have:=G.fh q h1;omega) (by have:=G.fh q h1;omega)) (fun q hq=>(hbo (hnm (by omega) q hq) (hnm (by omega) q hq)).trans (h0 q hq)) ⟨off+4,fun q hq=>(hbo (by omega) (by omega)).trans (hfo q (by omega))⟩)
  (fun q hq=>(hbo (by omega) (by omega)).trans (hfo q (by omega))) (by omega) (by omega) (by omega) ((ae _ _ _ _ h23).trans ((ae _ _ _ _ h23).trans (ah _ _ _))) (ah _ _ _) ?t (fun c cx' o' hs=> ?f)
 case t=>
  refine qW ⟨none,st.cx,rfl,G.cxo_,[2+off,3+off],_,?_,fin (o:=outs (sG r).length) rfl (fun q hq=>?_) (fun q hq=>hnm (by
   rcases List.mem_cons.1 hq with rfl|hq
   ·omega
   ·rw [List.mem_singleton.1 hq];omega)) (G.sf (G.lvA h0) _)⟩
  ·exact hend
  ·show aK _ (outs (0+(sG r).length)) q=_
   rw [Nat.zero_add]
   exact oZ (hbo (hq2 q hq).1 (hq2 q hq).2) _
 case f=>
  rcases hstop c cx' o' hs with ⟨rfl,hq⟩|⟨id,rfl,hq⟩
  all_goals
   refine qW ⟨some _,cx',rfl,G.cxd _ _ _ hs,[2+off,3+off],_,hq,fin (o:=o') rfl (fun q hq=>?_) (fun q hq=>hnms hs (by
    rcases List.mem_cons.1 hq with rfl|hq
    ·omega
    ·rw [List.mem_singleton.1 hq];omega)) (G.sfs (G.lvA h0) _ _ _ hs)⟩
   exact oZ (hbo (hq2 q hq).1 (hq2 q hq).2) _
end
end Go.TY
end
noncomputable section
namespace Go.TY
open Go Go.DL Go.Proofs
def Ki:aY:=(.seq (.region [oo 1 (.box 5 (tm 0)),oo 2 (.mov (.const .nilfn))] []) (.seq (.region [oo 3 (.mkfn 145 [tm 1]),mv 2 3] []) .ret))
theorem LD:(Tryz.f109.body.bind (bD Tryz.prog 4 []))=some Ki:=by kernel_rfl
def c73:aY:=(.seq (.region [oo 1 (.box 9 (tm 0)),oo 2 (.mov (.const .nilfn))] []) (.seq (.region [oo 3 (.mkfn 116 [tm 1]),mv 2 3] []) .ret))
theorem l73:(Tryz.f73.body.bind (bD Tryz.prog 4 []))=some c73:=by kernel_rfl
def c86:aY:=(.seq (.region [oo 1 (.box 9 (tm 0)),oo 2 (.mov (.const .nilfn))] []) (.seq (.region [oo 3 (.mkfn 130 [tm 1]),mv 2 3] []) .ret))
theorem l86:(Tryz.f86.body.bind (bD Tryz.prog 4 []))=some c86:=by kernel_rfl
end Go.TY
end
section
namespace Go.TY
open Go Go.DL Go.MM Go.Proofs
section
variable [Glb]
theorem BI (r:RP):DCalls Tryz.prog 109 [sL r] (.clos 145 [.cptr (sB r) 0]):=by
 rw [sF]
 refine qO (rs:=[.tmp 2]) mx Tryz.func109 LD rfl rfl rfl (r:=[.clos 145 [.cptr (sB r) 0]]) (nlZ rfl) ?_
 repeat' ((conv=>whnf);first|exact trivial|(refine And.intro (by first|exact sD r|fail) ?_)|refine aS ?_|fail)
theorem yt (r:RO):DCalls Tryz.prog 73 [uB r] (.clos 116 [.cptr (sX r) 0]):=by
 rw [sP]
 refine qO (rs:=[.tmp 2]) mx Tryz.func73 l73 rfl rfl rfl (r:=[.clos 116 [.cptr (sX r) 0]]) (nlZ rfl) ?_
 repeat' ((conv=>whnf);first|exact trivial|(refine And.intro (by first|exact tw r|fail) ?_)|refine aS ?_|fail)
theorem BG (r:RO):DCalls Tryz.prog 86 [uB r] (.clos 130 [.cptr (sX r) 0]):=by
 rw [sP]
 refine qO (rs:=[.tmp 2]) mx Tryz.func86 l86 rfl rfl rfl (r:=[.clos 130 [.cptr (sX r) 0]]) (nlZ rfl) ?_
 repeat' ((conv=>whnf);first|exact trivial|(refine And.intro (by first|exact tw r|fail) ?_)|refine aS ?_|fail)
def uw (o:RO):List RP:=if o.kind=1 then tg o.pred else []
def tf (r:RO):List RP:=(sG r).flatMap uw
def cnt (r:RO) (k:Nat):Nat:=(((sG r).take k).flatMap uw).length
end
section
theorem Eo {r:RO} {k:Nat} {o:RO} (h:(sG r)[k]? =some o):cnt r (k+1)=cnt r k+(uw o).length:=by
 obtain ⟨hl,rfl⟩:=gsZ h
 unfold cnt
 rw [List.take_succ_eq_append_getElem hl,List.flatMap_append,List.length_append]
 simp
theorem FO (r:RO):cnt r (sG r).length=(tf r).length:=by
 unfold cnt tf;rw [List.take_length]
theorem DN {r:RO} {k i:Nat} {o:RO} {t:RP} (h:(sG r)[k]? =some o) (ht:(uw o)[i]? =some t):(tf r)[cnt r k+i]? =some t:=by
 obtain ⟨hl,rfl⟩:=gsZ h
 obtain ⟨hi,_⟩:=gsZ ht
 unfold tf cnt
 have e:(sG r).flatMap uw=((sG r).take k).flatMap uw++(uw (sG r)[k]++((sG r).drop (k+1)).flatMap uw):=by
  conv=>lhs;rw [← List.take_append_drop k (sG r),List.flatMap_append,List.drop_eq_getElem_cons hl,List.flatMap_cons]
 rw [e,List.getElem?_append_right (by omega),Nat.add_sub_cancel_left,List.getElem?_append_left hi]
 exact ht
end
section
variable [Glb]
end
end Go.TY
end
section
namespace Go.TY
open Go Go.DL Go.MM Go.Proofs
attribute [local irreducible] aI gR WCM YC
section
variable [Glb]
end
section
theorem vq {b:Nat→Option BX} {n:Nat} {v:BX} {o:List (Nat×BX)} (hb:b n=some v) (ho: ∀p∈o,p.1≠n):aK b ((n,v)::o)=aK b o:=by
 show upd (aK b o) n (some v)=aK b o
 exact qB ((e7 ho).trans hb)
theorem gh2 {sl sl1 sl2:Nat→V} {gh gh1 gh2:Nat→Nat→V} {a b:Nat} (h1: ∀i,gh1 (a+1+i)=dO sl gh i) (h2: ∀i,gh2 (b+1+i)=dO sl1 gh1 i) (i:Nat):dO sl2 gh2 (b+a+4+i)=dO sl gh i:=by
 rw [show b+a+4+i=(b+1+((a+1+i)+1))+1 by omega]
 exact (h2 _).trans (h1 i)
end
section
variable [Glb]
theorem yA {N:Nat} {st:St} {g:Operand} {y:O} {p:Nat} {asg body:Code} (hg:aq g=some y) (r:RO) (hv:ev st.sl y= .t (.clos 130 [.cptr (sX r) 0])) (off:Nat) (F:Nat→Prop) (hi:Nat) (hio:hi≤off) (hB:(sG r).length<2^59) (hBp: ∀o∈sG r,(tg o.pred).length<2^59) (hfl: ∀n,F n→st.bx n=none) (hfo: ∀n,off≤n→st.bx n=none) (hcn:CxN st.cx)
  {outs:Nat→List (Nat×BX)} {stop:Code→(aa→World→Prop)→List (Nat×BX)→Prop} {Q:aB→St→Prop} (h0: ∀q∈outs 0,st.bx q.1=some q.2)
  (hG: ∀(l D:Nat) (fn:FuncId) (tmps:Array Value),tmps.size=N→dR Tryz.prog l (rcE fn tmps p asg body D) st.cx st F hi ((tf r).map sL) outs stop)
  (hend:Q .normal {st with bx:=aK st.bx (outs (tf r).length)})
  (hstop: ∀c cx' o',stop c cx' o'→(c= .ret∧Q .ret {st with bx:=aK st.bx o',cx:=cx' })∨ ∃id,c= .exit id∧Q (.exit id) {st with bx:=aK st.bx o',cx:=cx' }):
  aI Tryz.prog N (.rangeFunc g #[p] asg body) st Q:=by
 refine aI.clean (fun _=>?_)
 refine aI.range (N:=N) hg (gf:=130) (caps:=[.t (.cptr (sX r) 0)]) (by rw [hv];rfl) Tryz.func130 Iz rfl rfl (nlZ rfl) off hcn (fun l D fn tmps hN=>?_)
 have G:=hG l D fn tmps hN
 rw [Lt]
 have hf2:st.bx (2+off)=none:=hfo _ (by omega)
 have hnm: ∀{k:Nat} {q:Nat},hi≤q→ ∀p∈outs k,p.1≠q:=fun h p hp e=>by have:=(G.nm _ p hp).1;omega
 have hnms: ∀{c cx o} {q:Nat},stop c cx o→hi≤q→ ∀p∈o,p.1≠q:=fun hs h p hp e=>by have:=(G.nms _ _ _ hs p hp).1;omega
 refine aI.seq (GG (pX (rH (v:=.func (.yield l) #[] #[]) rfl hf2 (qW ?_))))
 refine aI.seq (GL (pX (sa (cs:=sX r) rfl (tw r) (rI (ts:=[uB r]) (by rw [sP];rfl) (yt r) (qW ?_)))))
 let b1:Nat→Option BX:=upd st.bx (2+off) (some (.v [lV l]))
 have hb1o: ∀{q:Nat},q≠2+off→b1 q=st.bx q:=fun h=>ae _ _ _ _ h
 let yb:Nat×BX:=(2+off,.v [lV l])
 let rc:=rcE fn tmps p asg body D
 let outs1:Nat→List (Nat×BX):=fun k=>yb::outs (cnt r k)
 let stop1:Code→(aa→World→Prop)→List (Nat×BX)→Prop:=fun c cx' o'=>c= .ret∧ ∃c0 cx0 o0,stop c0 cx0 o0∧cx'=dC l (rc (some c0)) cx0 0∧o'=yb::o0
 have safeY: ∀q:Nat→Prop,bz q yb.2:=fun q c hc=>by
  rw [List.mem_singleton.1 hc];exact .raw _
 have nmY: ∀{k:Nat}, ∀p∈outs k,p.1≠2+off:=hnm (by omega)
 have nmsY: ∀{c cx o},stop c cx o→ ∀p∈o,p.1≠2+off:=fun hs=>hnms hs (by omega)
 have nFY: ¬F (2+off):=fun h=>by have:=G.fh _ h;omega
 let F1:Nat→Prop:=fun n=>F n∨(off+3≤n∧n<off+30)
 have sub1: ∀{hi' lo':Nat} {c:aa→World→Prop} {f:Nat→Nat} {stp:Code→(aa→World→Prop)→List (Nat×BX)→Prop},off+30≤hi'→off+3≤lo'→CxD c→(∀ c cx o',stp c cx o'→CxD cx∧ ∃c0 cx0 o0,stop c0 cx0 o0∧o'=yb::o0)→ph (fun n=>F n∨(lo'≤n∧n<off+30)) hi' c (fun k=>yb::outs (f k)) stp:=fun {hi' lo' c f stp} hh hl hc hst=>
  {fh:=fun n h=>by
    rcases h with h|h
    ·have:=G.fh _ h;omega
    ·omega
   nm:=fun k p hp=>by
    rcases List.mem_cons.1 hp with rfl|hp
    ·exact ⟨by show 2+off<_;omega,fun h=>by
      rcases h with h|h
      ·exact nFY h
      ·have:2+off≥_:=h.1;omega⟩
    ·have h1:=G.nm _ p hp
     exact ⟨by omega,fun h=>by
      rcases h with h|h
      ·exact h1.2 h
      ·omega⟩
   nms:=fun c cx o ho p hp=>by
    obtain ⟨_,c0,cx0,o0,hs0,rfl⟩:=hst _ _ _ ho
    rcases List.mem_cons.1 hp with rfl|hp
    ·exact ⟨by show 2+off<_;omega,fun h=>by
      rcases h with h|h
      ·exact nFY h
      ·have:2+off≥_:=h.1;omega⟩
    ·have h1:=G.nms _ _ _ hs0 p hp
     exact ⟨by omega,fun h=>by
      rcases h with h|h
      ·exact h1.2 h
      ·omega⟩
   cov:=fun k k' p hp=>by
    rcases List.mem_cons.1 hp with rfl|hp
    ·exact ⟨yb,by simp,rfl⟩
    ·obtain ⟨q,hq,e⟩:=G.cov (f k) (f k') p hp
     exact ⟨q,by simp [hq],e⟩
   covs:=fun c cx o ho k p hp=>by
    obtain ⟨_,c0,cx0,o0,hs0,rfl⟩:=hst _ _ _ ho
    rcases List.mem_cons.1 hp with rfl|hp
    ·exact ⟨yb,by simp,rfl⟩
    ·obtain ⟨q,hq,e⟩:=G.covs _ _ _ hs0 (f k) p hp
     exact ⟨q,by simp [hq],e⟩
   safe:=fun k p hp=>by
    rcases List.mem_cons.1 hp with rfl|hp
    ·exact safeY _
    ·exact (G.safe _ p hp).imp fun n ⟨q,hq,e⟩=>by
      obtain ⟨q',hq',e'⟩:=G.cov 0 (f 0) q hq
      exact ⟨q',List.mem_cons_of_mem _ hq',e'.trans e⟩
   safes:=fun c cx o ho p hp=>by
    obtain ⟨_,c0,cx0,o0,hs0,rfl⟩:=hst _ _ _ ho
    rcases List.mem_cons.1 hp with rfl|hp
    ·exact safeY _
    ·exact (G.safes _ _ _ hs0 p hp).imp fun n ⟨q,hq,e⟩=>by
      obtain ⟨q',hq',e'⟩:=G.cov 0 (f 0) q hq
      exact ⟨q',List.mem_cons_of_mem _ hq',e'.trans e⟩
   cxd:=fun c cx o ho=>(hst _ _ _ ho).1
   cxo_:=hc
   nd:=fun k=>List.nodup_cons.2 ⟨fun h=>by
    obtain ⟨p,hp,e⟩:=List.mem_map.1 h
    exact nmY p hp e,G.nd _⟩}
 have cl: ∀{s2:St} {o:List (Nat×BX)} {cx:aa→World→Prop},s2.gh=dO st.sl st.gh→(∀ q,q≠2+off→s2.bx q=aK st.bx o q)→(∀ p∈o,p.1≠2+off)→(∀ p∈o,bz (fun n=>(st.bx n).isSome=true) p.2)→
   DL.Clean st [2+off] (s2.bE st.off cx) {st with bx:=aK st.bx o,cx:=cx }:=fun h1 h2 h3 h4=>
  mL (d:=none) (v:=.nil) (by rw [h1];rfl) (fun j=>by rw [h1];rfl) (fun q hq=>h2 q (fun e=>hq (by rw [e];simp))) (fun q hq=>by rw [List.mem_singleton.1 hq];exact ⟨hf2,h3⟩) h4
 refine aI.block (vS (N:=19) rfl r rfl (off+30) F1 (off+30) (Nat.le_refl _) hB (fun n h=>?_) (fun n h=>(hb1o (by omega)).trans (hfo n (by omega))) (rC hcn) (outs:=outs1) (stop:=stop1) (fun q hq=>?_) (fun l1 D1 fn1 tmps1 hN1=>?_) ?_ (fun c cx' o' h=>?_))
 ·rcases h with h|h
  ·exact (hb1o (fun e=>nFY (by rw [← e];exact h))).trans (hfl n h)
  ·exact (hb1o (by omega)).trans (hfo n (by omega))
 ·rcases List.mem_cons.1 hq with rfl|hq
  ·exact ah _ _ _
  ·exact (hb1o (nmY q hq)).trans (h0 q hq)
 rotate_left
 ·refine ⟨none,st.cx,rfl,G.cxo_,[2+off],_,hend,cl rfl (fun q hq=>?_) nmY (G.sf (G.lvA h0) _)⟩
  show aK b1 (yb::outs (cnt r (sG r).length)) q=_
  rw [vq (b:=b1) (ah _ _ _) nmY,FO]
  exact oZ (hb1o hq) _
 ·obtain ⟨rfl,c0,cx0,o0,hs0,rfl,rfl⟩:=h
  refine Or.inl ⟨rfl,?_⟩
  have hbx: ∀q,q≠2+off→aK b1 (yb::o0) q=aK st.bx o0 q:=fun q hq=>by
   rw [vq (b:=b1) (ah _ _ _) (nmsY hs0)]
   exact oZ (hb1o hq) _
  rcases hstop _ _ _ hs0 with ⟨rfl,hq⟩|⟨id,rfl,hq⟩
  ·exact ⟨some _,cx0,rfl,G.cxd _ _ _ hs0,[2+off],_,hq,cl rfl hbx (nmsY hs0) (G.sfs (G.lvA h0) _ _ _ hs0)⟩
  ·exact ⟨some _,cx0,rfl,G.cxd _ _ _ hs0,[2+off],_,hq,cl rfl hbx (nmsY hs0) (G.sfs (G.lvA h0) _ _ _ hs0)⟩
 refine dR.of (lo:=off+3) (hi:=off+30) (sub1 (Nat.le_refl _) (Nat.le_refl _) (qj G.cxo_) ?_) (fun n h1 h2=>Or.inr ⟨h1,h2⟩) hN1 (by decide) (fun {W1} R1 k x m1 st' hx hA1=>?_)
 ·rintro c cx o' ⟨rfl,c0,cx0,o0,hs0,rfl,rfl⟩
  exact ⟨qj (G.cxd _ _ _ hs0),c0,cx0,o0,hs0,rfl⟩
 obtain ⟨pk,hk,rfl⟩: ∃pk,(sG r)[k]? =some pk∧uB pk=x:=by
  rw [List.getElem?_map,Option.map_eq_some_iff] at hx;exact hx
 have hcs:=Eo hk
 have hget:=fun i t=>DN (r:=r) (k:=k) (i:=i) (o:=pk) (t:=t) hk
 have hBk:=hBp pk (List.mem_of_getElem? hk)
 have hpd:uw pk=if pk.kind=1 then tg pk.pred else []:=rfl
 generalize uw pk=pd at hcs hget hpd
 have hfr1: ∀n,off+3≤n→n<off+30→st'.bx n=none:=fun n h1 h2=>hA1.fr n (Or.inr ⟨h1,h2⟩)
 have hfr1F: ∀n,F n→st'.bx n=none:=fun n h=>hA1.fr n (Or.inl h)
 obtain ⟨B,htop1⟩:=hA1.top
 have hat1:=hA1.at_
 have hsl2:st'.gh (m1+R1.j) 2= .ptr (2+off) 0:=congrFun hA1.g0 2
 have hgs1:=hA1.gs
 have hcx1:=hA1.cx
 clear hA1
 rw [sP]
 obtain ⟨kd,pr,f,n,args⟩:=pk
 refine GO (pX (pW (hfr1 (3+(off+3)) (by omega) (by omega)) (rp (b:=3+(off+3)) (off:=0) rfl (ah _ _ _) rfl ⟨rfl,Nat.le_refl _⟩ (qW ⟨rfl,_,rfl,?_⟩))))
 have hb0: ∀{u v:Option BX} {q:Nat},q≠3+(off+3)→upd (upd st'.bx (3+(off+3)) u) (3+(off+3)) v q=st'.bx q:=fun h=>(ae _ _ _ _ h).trans (ae _ _ _ _ h)
 refine aI.block (aI.seq (GR (rr (rL (b:=3+(off+3)) (off:=0) rfl (sb (b:=3+(off+3)) (off:=0+0) (t:=I kd) rfl (ah _ _ _) (by decide) rfl (si (a:=kd) (b:=1) rfl rfl (qW ?_)))))))
 by_cases hkd:kd=1
 case neg=>
  refine rN (by show V.t (.bool (kd !=1))=_;rw [bne_iff_ne.2 hkd]) (rO ⟨rfl,_,yb::outs (cnt r (k+1)),rfl,fun q hq=>?_,rfl,rfl⟩)
  have e:cnt r (k+1)=cnt r k:=by rw [hcs,hpd,if_neg (show ¬(RO.mk kd pr f n args).kind=1 from hkd)];rfl
  exact (hb0 (show q≠3+(off+3) from fun h=>hq (by omega))).trans (congrFun ((kx hat1).symm.trans (congrArg (fun j=>aK st'.bx (yb::outs j)) e.symm)) q)
 have hpd:pd=tg pr:=hpd.trans (if_pos hkd)
 subst hpd
 refine rM (by show V.t (.bool (kd !=1))=_;rw [hkd];rfl) (rQ ?_)
 have hprc:T.agg (sB pr)=sL pr:=(sF pr).symm
 refine aI.seq (GV (pX (rL (b:=3+(off+3)) (off:=0) rfl (sc (b:=3+(off+3)) (off:=0) (m:=9) (t:=sL pr) rfl (ah _ _ _) (by decide) (by rw [← hprc];cases pr;rfl) (rI (ts:=[sL pr]) rfl (BI pr) (qW ?_))))))
 let off2:=max B (off+30)
 have ho2:B≤off2∧off+30≤off2:=⟨Nat.le_max_left _ _,Nat.le_max_right _ _⟩
 refine aI.block (yB (N:=19) rfl pr rfl off2 (fun n=>F n∨(off+8≤n∧n<off+30)) off2 (Nat.le_refl _) hBk (fun n h=>?_) (fun n h=>(hb0 (by omega)).trans (htop1 n (by omega))) ?_ (outs:=fun i=>yb::outs (cnt r k+i)) (stop:=fun c cx' o'=>c= .ret∧ ∃c0 cx0 o0,stop c0 cx0 o0∧cx'=cq (W1 (dq l1 (bsy fn1 tmps1 7 x6 (.block 1 (.seq x7 (.seq x8 (.block 2 (.rangeFunc (.tmp 13) #[14] xx (.block 3 (.seq wJ xy))))))) D1) (dC l (rc (some c0)) cx0 0) m1))∧o'=yb::o0) (fun q hq=>?_) (fun l2 D2 fn2 tmps2 hN2=>?_) ?_ (fun c cx' o' h=>?_))
 ·rcases h with h|h
  ·exact (hb0 (by have:=G.fh _ h;omega)).trans (hfr1F n h)
  ·exact (hb0 (by omega)).trans (hfr1 n (by omega) (by omega))
 ·exact Wr.cxN (Wr.pop (R1.comp (Wr.r0 l1 _ m1))) (rC hcn)
 ·refine (hb0 ?_).trans (hat1 q hq)
  rcases List.mem_cons.1 hq with rfl|hq
  ·show 2+off≠_;omega
  ·exact hnm (by omega) q hq
 rotate_left
 ·refine ⟨rfl,_,yb::outs (cnt r (k+1)),rfl,fun q hq=>?_,rfl,rfl⟩
  exact (oZ (hb0 (show q≠3+(off+3) from fun h=>hq (by omega))) (yb::outs (cnt r k+(tg pr).length))).trans (congrArg (fun j=>aK st'.bx (yb::outs j) q) hcs.symm)
 ·obtain ⟨rfl,c0,cx0,o0,hs0,rfl,rfl⟩:=h
  exact Or.inl ⟨rfl,rfl,_,yb::o0,rfl,fun q hq=>oZ (hb0 (show q≠3+(off+3) from fun h=>hq (by omega))) (yb::o0),rfl,c0,cx0,o0,hs0,rfl,rfl⟩
 refine dR.of (lo:=off+8) (hi:=off+30) (sub1 (lo':=off+8) (f:=fun i=>cnt r k+i) (by omega) (by omega) (Wr.cxD (Wr.pop (R1.comp (Wr.r0 l1 _ m1))) (qj G.cxo_)) ?_) (fun n h1 h2=>Or.inr ⟨h1,h2⟩) hN2 (by decide) (fun {W2} R2 i x m2 st'' hx2 hA2=>?_)
 ·rintro c cx o' ⟨rfl,c0,cx0,o0,hs0,rfl,rfl⟩
  exact ⟨Wr.cxD (Wr.pop (R1.comp (Wr.r0 l1 _ m1))) (qj (G.cxd _ _ _ hs0)),c0,cx0,o0,hs0,rfl⟩
 have hex: ∃t,(tg pr)[i]? =some t∧T.agg (sB t)=x:=by
  rw [List.getElem?_map,Option.map_eq_some_iff] at hx2
  obtain ⟨t,h1,h2⟩:=hx2
  exact ⟨t,h1,(sF t).symm.trans h2⟩
 obtain ⟨t,ht,hxe⟩:=hex
 subst hxe
 have hxt:((tf r).map sL)[cnt r k+i]? =some (sL t):=by rw [List.getElem?_map,hget i t ht];rfl
 have hfr2: ∀n,off+8≤n→n<off+30→st''.bx n=none:=fun n h1 h2=>hA2.fr n (Or.inr ⟨h1,h2⟩)
 have hfr2F: ∀n,F n→st''.bx n=none:=fun n h=>hA2.fr n (Or.inl h)
 have htop2':=hA2.top
 obtain ⟨B2,htop2⟩:=htop2'
 have hat2:=hA2.at_
 have hsl22:st''.gh (m2+R2.j) 2= .ptr (2+off) 0:=(congrFun hA2.g0 2).trans hsl2
 have hgs2:=hA2.gs
 have hcx2:=hA2.cx
 clear hA2
 have hb2: ∀{u v:Option BX} {q:Nat},q≠4+(off+8)→upd (upd st''.bx (4+(off+8)) u) (4+(off+8)) v q=st''.bx q:=fun h=>(ae _ _ _ _ h).trans (ae _ _ _ _ h)
 have hY2:st''.bx (2+off)=some (.v [lV l]):=hat2 yb (by simp)
 refine GX (pX (pW (hfr2 (4+(off+8)) (by omega) (by omega)) (rp (b:=4+(off+8)) (off:=0) rfl (ah _ _ _) rfl ⟨sD t,Nat.le_refl _⟩ (qW ⟨rfl,_,rfl,?_⟩))))
 refine aI.block (aI.seq (H0 (r8 (b:=2+off) hsl22 ((hb2 (by omega)).trans hY2) rfl (r9 (b:=4+(off+8)) rfl (ah _ _ _) (qW (rS (us':=[.t (sL t)]) rfl (by
   show [V.t (.agg (aN [.int .i64 0,.str ⟨#[]⟩,.int .i64 0,.int .i64 0,.nil] 0 5 (sB t)))]=_
   rw [mU (n:=5) rfl,sF]) ?_))))))
 let R:=Wr.pop (R2.comp ((Wr.r0 l2 (bsy fn2 tmps2 14 xx (.block 3 (.seq wJ xy)) D2) m2).comp (Wr.pop (R1.comp (Wr.r0 l1 (bsy fn1 tmps1 7 x6 (.block 1 (.seq x7 (.seq x8 (.block 2 (.rangeFunc (.tmp 13) #[14] xx (.block 3 (.seq wJ xy))))))) D1) m1)))))
 have hRj:R.j=(m2+R2.j)+(m1+R1.j)+4:=by
  show ((((m1+1)+R1.j)+1+(m2+1))+R2.j)+1=_
  omega
 refine G.yld R (cnt r k+i) (sL t) 0 _ _ _ hxt ⟨rfl,?_,fun j=>?_,fun q hq=>?_,fun q hq=>?_,?_⟩ ?t (fun c cx' o' hs=> ?f)
 ·exact (congrArg (fun k=>dO st''.sl st''.gh k) (show 0+R.j=(m2+R2.j)+(m1+R1.j)+4+0 by omega)).trans (gh2 hgs1 hgs2 0)
 ·exact (congrArg (fun k=>dO st''.sl st''.gh k) (show 0+R.j+1+j=(m2+R2.j)+(m1+R1.j)+4+(j+1) by omega)).trans (gh2 hgs1 hgs2 (j+1))
 ·exact (hb2 (hnm (by omega) q hq)).trans (hat2 q (List.mem_cons_of_mem _ hq))
 ·exact (hb2 (by have:=G.fh _ hq;omega)).trans (hfr2F q hq)
 ·exact ⟨max B2 (off+30),fun q hq=>(hb2 (by omega)).trans (htop2 q (by omega))⟩
 case t=>
  refine sj rfl (qW ?_)
  refine C5 (rM rfl (rQ ?_))
  refine ⟨rfl,_,yb::outs (cnt r k+(i+1)),rfl,fun q hq=>?_,rfl,rfl⟩
  exact (oZ (hb2 (show q≠4+(off+8) from fun h=>hq (by omega))) (outs (cnt r k+i+1))).trans (congrFun (vq hY2 nmY).symm q)
 case f=>
  refine sj rfl (qW ?_)
  refine C5 (rN rfl (rP ?_))
  refine ⟨rfl,_,yb::o',rfl,fun q hq=>?_,rfl,c,cx',o',hs,rfl,rfl⟩
  exact (oZ (hb2 (show q≠4+(off+8) from fun h=>hq (by omega))) o').trans (congrFun (vq hY2 (nmsY hs)).symm q)
end
end Go.TY
end
section
namespace Go.TY
open Go Go.DL Go.MM
def u7 (l:List Fd):RP→Int
 |.mk k f n m _=>if sC f e0 then 0 else match findF l f with
   |none=>4
   |some F=>if (if k=5 then m else n)>((2^F.w - 1:Nat):Int)∨(k=4∧m>F.w) then 1 else 0
def wM (l:List Fd) (r:RP):Int:=sQ ((ud r).map (u7 l))
def zU (l:List Fd) (f:ByteArray) (n:Int):Int:=match findF l f with
 |none=>4
 |some F=>if n>((2^F.w - 1:Nat):Int) then 1 else 0
def vh (l:List Fd):RO→Int
 |.mk k p f n _=>if k=1 then wM l p else if k=2 then zU l f n else 0
def tW (r:RP):Int:=wO (wI r.nodes r.depth) (sM r)
def wQ (l:List Fd) (r:RP):Int:=if tW r≠0 then tW r else wM l r
def FE (l:List Fd) (r:RP):Int:=if tW r≠0 then tW r else fitAll l r
def uC (l:List Fd) (r:RO):Int:=if tA r≠0 then tA r else sQ ((tL r).map (vh l))
theorem EC {f:ByteArray} (h:sC f e0=true):f=e0:=by
 unfold sC at h
 have h:f.data.toList=[]:=by simpa using h
 exact ByteArray.ext (Array.ext' h)
theorem xL {f:ByteArray} (h:sV f=true):sC f e0=false:=by
 cases e:sC f e0 with
 |false=>rfl
 |true=>
  rw [EC e] at h
  have:sV e0=false:=by decide+kernel
  rw [this] at h;cases h
theorem FQ {l:List Fd} {k:Int} {f:ByteArray} {n m:Int} {a:List RP} (h:okP k f n m=true):u7 l (.mk k f n m a)=wD l (.mk k f n m a):=by
 simp only [u7,wD]
 unfold okP at h
 by_cases h1:k=1∨k=2
 ·rw [if_pos h1] at h
  unfold vl at h
  simp only [Bool.and_eq_true] at h
  rw [if_pos h.1.1,if_neg (by omega)]
 rw [if_neg h1] at h
 by_cases h3:k=3
 ·subst h3
  simp only [if_true,Bool.and_eq_true] at h
  rw [xL h.1.1];cases findF l f <;> simp
 rw [if_neg h3] at h
 by_cases h4:k=4
 ·subst h4
  simp only [if_true,Bool.and_eq_true] at h
  rw [xL h.1.1.1];cases findF l f <;> simp
 rw [if_neg h4] at h
 by_cases h5:k=5
 ·subst h5
  simp only [if_true,Bool.and_eq_true] at h
  rw [xL h.1.1.1];cases findF l f <;> simp
 rw [if_neg h5] at h
 by_cases h6:k=6∨k=7∨k=8
 ·rw [if_pos h6] at h
  unfold vl at h
  simp only [Bool.and_eq_true] at h
  rw [if_pos h.1.1,if_neg (by omega)]
 rw [if_neg h6] at h
 by_cases h9:k=9
 ·subst h9
  simp only [if_true,Bool.and_eq_true] at h
  rw [if_pos h.1.1.1,if_neg (by omega)]
 ·rw [if_neg h9] at h;cases h
mutual
theorem xS: ∀r:RP,sM r=true→ ∀x∈ud r,sM x=true
 |.mk k f n m a,h,x,hx=>by
  rw [ud] at hx
  rcases List.mem_cons.1 hx with rfl|hx
  ·exact h
  ·simp only [sM,Bool.and_eq_true] at h
   exact xo a h.2 x hx
theorem xo: ∀l:List RP,tx l=true→ ∀x∈tM l,sM x=true
 |[],_,x,hx=>by simp [tM] at hx
 |r::rs,h,x,hx=>by
  simp only [tx,Bool.and_eq_true] at h
  rw [tM] at hx
  rcases List.mem_append.1 hx with hx|hx
  ·exact xS r h.1 x hx
  ·exact xo rs h.2 x hx
end
mutual
theorem xR: ∀r:RO,sR r=true→ ∀x∈tL r,sR x=true
 |.mk k p f n a,h,x,hx=>by
  rw [tL] at hx
  rcases List.mem_cons.1 hx with rfl|hx
  ·exact h
  ·simp only [sR,Bool.and_eq_true] at h
   exact xj a h.2 x hx
theorem xj: ∀l:List RO,th l=true→ ∀x∈tq l,sR x=true
 |[],_,x,hx=>by simp [tq] at hx
 |r::rs,h,x,hx=>by
  simp only [th,Bool.and_eq_true] at h
  rw [tq] at hx
  rcases List.mem_append.1 hx with hx|hx
  ·exact xR r h.1 x hx
  ·exact xj rs h.2 x hx
end
theorem zW {l:List Fd} {r:RP} (h:sM r=true):wM l r=fitAll l r:=by
 unfold wM fitAll
 congr 1
 refine List.map_congr_left fun x hx=>?_
 have:=xS r h x hx
 obtain ⟨k,f,n,m,a⟩:=x
 simp only [sM,Bool.and_eq_true] at this
 exact FQ this.1.1
theorem Bp {e:Int} {b:Bool} (h:wO e b=0):e=0∧b=true:=by
 unfold wO at h
 by_cases he:e=0
 ·rw [if_pos he] at h
  cases b with
  |true=>exact ⟨he,rfl⟩
  |false=>simp at h
 ·rw [if_neg he] at h;exact absurd h he
theorem Ez (l:List Fd) (r:RP):wQ l r=FE l r:=by
 unfold wQ FE
 by_cases h:tW r≠0
 ·rw [if_pos h,if_pos h]
 ·rw [if_neg h,if_neg h]
  exact zW (Bp (Decidable.not_not.1 h)).2
theorem Et {l:List Fd} {r:RO} (h:sR r=true):vh l r=uZ l r:=by
 obtain ⟨k,p,f,n,a⟩:=r
 simp only [vh,uZ]
 by_cases h1:k=1
 ·subst h1
  simp only [sR,okO,if_true,Bool.and_eq_true] at h
  simp only [if_true]
  exact zW h.1.1.1
 ·rw [if_neg h1,if_neg h1];rfl
theorem F0 (l:List Fd) (r:RO):uC l r=B4 l r:=by
 unfold uC B4
 by_cases h:tA r≠0
 ·rw [if_pos h,if_pos h]
 ·rw [if_neg h,if_neg h]
  have hf:=(Bp (Decidable.not_not.1 h)).2
  congr 1
  exact List.map_congr_left fun x hx=>Et (xR r hf x hx)
def G6 (o:RO):List RP:=if o.kind=1 then ud o.pred else []
def B5 (r:RO):List RP:=(tL r).flatMap G6
def D3 (r:RO):List ByteArray:=(B5 r).flatMap fun x=>if sC x.field e0 then [] else [x.field]
def reads (r:RO):List ByteArray:=uo ltS (D3 r)
def BK (r:RO):List ByteArray:=(tL r).flatMap fun o=>if o.kind=2 then [o.field] else []
def writes (r:RO):List ByteArray:=uo ltS (BK r)
def DM (r:RO):List Int:=(tL r).flatMap fun o=>if o.kind=2∧sC o.field s9=true then [o.n] else []
def yU (r:RO):List Int:=uo ltI (DM r)
def xB (x:RP):List Int:=if x.kind=9 then [x.n,x.m] else []
def A4 (r:RO):List Int:=(B5 r).flatMap xB
mutual
def ua:RO→Nat
 |.mk k p _ _ a=>if k=3 then min ((vZ a).getD 0 0+(vZ a).getD 1 0) 65536
  else if k=4 then min ((vZ a).getD 0 0 * (vZ a).getD 1 0) 65536
  else if k=5 then (if (vZ a).getD 0 0=0 then 1 else 65536)
  else if k=1∧p.kind=2 then 0 else 1
def vZ:List RO→List Nat
 |[]=>[]
 |r::rs=>ua r::vZ rs
end
theorem zN (r:RO):ua r≤65536:=by
 obtain ⟨k,p,f,n,a⟩:=r
 rw [ua]
 split
 ·exact Nat.min_le_right _ _
 ·split
  ·exact Nat.min_le_right _ _
  ·split
   ·split <;> omega
   ·split <;> omega
end Go.TY
end
section
namespace Go.TY
open Go Go.DL Go.MM Go.Proofs
mutual
theorem ux: ∀r:RP,tg r=ud r
 |.mk k f n m a=>by rw [tg,ud,yy a]
theorem yy: ∀l:List RP,sY l=tM l
 |[]=>rfl
 |r::rs=>by rw [sY,tM,ux r,yy rs]
end
mutual
theorem tc: ∀r:RO,sG r=tL r
 |.mk k p f n a=>by rw [sG,tL,yx a]
theorem yx: ∀l:List RO,sU l=tq l
 |[]=>rfl
 |r::rs=>by rw [sU,tq,tc r,yx rs]
end
def okB (v:List Int) (k:Nat):Bool:=(v.take k).all fun x=>x==0
theorem Ae {v:List Int} {k:Nat} {x:Int} (h:v[k]? =some x):okB v (k+1)=(okB v k&&(x==0)):=by
 obtain ⟨hl,rfl⟩:=gsZ h
 unfold okB
 rw [List.take_succ_eq_append_getElem hl,List.all_append]
 simp
theorem zy {v:List Int} {k:Nat} {x:Int} (h:v[k]? =some x) (hok:okB v k=true) (hx:x≠0):sQ v=x:=by
 obtain ⟨hl,rfl⟩:=gsZ h
 refine vg hl (fun j hj hlt=>?_) hx
 unfold okB at hok
 have:=List.all_eq_true.1 hok v[j] (List.mem_take_iff_getElem.2 ⟨j,by omega,rfl⟩)
 simpa using this
theorem Bv {v:List Int} (hok:okB v v.length=true):sQ v=0:=by
 refine v7 fun j hj=>?_
 unfold okB at hok
 rw [List.take_length] at hok
 simpa using List.all_eq_true.1 hok v[j] (List.getElem_mem hj)
attribute [local irreducible] aI gR WCM YC
def tD (l:List Fd) (v:List Int) (k:Nat):List (Nat×BX):=[(2,.d 1 [fds l]),(4,.d 1 (if okB v k then [I 0] else []))]
def wV (l:List Fd) (v:List Int) (c:Code) (o:List (Nat×BX)):Prop:=c= .ret∧sQ v≠0∧o=[(2,.d 1 [fds l]),(4,.d 1 [I (sQ v)])]
theorem D7 (l:List Fd) (v:List Int):ph (fun n=>10≤n∧n<100) 100 (fun _ _=>True) (tD l v) (fun c cx o=>cx=(fun _ _=>True)∧wV l v c o) where
 fh:=fun n h=>h.2
 nm:=fun k p hp=>by
  simp only [tD,List.mem_cons,List.not_mem_nil,or_false] at hp
  rcases hp with rfl|rfl <;> exact ⟨by dsimp only;omega,by dsimp only;omega⟩
 nms:=fun c cx o ho p hp=>by
  obtain ⟨_,_,_,rfl⟩:=ho
  simp only [List.mem_cons,List.not_mem_nil,or_false] at hp
  rcases hp with rfl|rfl <;> exact ⟨by dsimp only;omega,by dsimp only;omega⟩
 cov:=fun k k' p hp=>by
  simp only [tD,List.mem_cons,List.not_mem_nil,or_false] at hp ⊢
  rcases hp with rfl|rfl
  ·exact ⟨_,Or.inl rfl,rfl⟩
  ·exact ⟨_,Or.inr rfl,rfl⟩
 covs:=fun c cx o ho k p hp=>by
  obtain ⟨_,_,_,rfl⟩:=ho
  simp only [tD,List.mem_cons,List.not_mem_nil,or_false] at hp ⊢
  rcases hp with rfl|rfl
  ·exact ⟨_,Or.inl rfl,rfl⟩
  ·exact ⟨_,Or.inr rfl,rfl⟩
 safe:=fun k p hp=>by
  simp only [tD,List.mem_cons,List.not_mem_nil,or_false] at hp
  rcases hp with rfl|rfl <;> exact trivial
 safes:=fun c cx o ho p hp=>by
  obtain ⟨_,_,_,rfl⟩:=ho
  simp only [List.mem_cons,List.not_mem_nil,or_false] at hp
  rcases hp with rfl|rfl <;> exact trivial
 cxd:=fun c cx o ho=>by rw [ho.1];exact rT
 cxo_:=rT
 nd:=fun k=>by show ([2,4]:List Nat).Nodup;decide
theorem Eg (l:List Fd) (hl:LOk l) (r:RP) (hr:r.nodes<2^40):DCalls Tryz.prog 69 [fds l,.agg (sB r)] (I (wM l r)):=by
 refine qP Tryz.func69 Lq rfl (r:=[I (wM l r)]) (nlZ rfl) ?_
 have hlen:(tg r).length=r.nodes:=by rw [ux,uv]
 unfold wM
 rw [← ux]
 rw [show Tryz.f69.ntmps=49 from rfl,show Tryz.f69.results.toList=[.cell 4 33] from rfl,k69]
 have ht:=BI r
 rw [sF] at ht
 have hfl: ∀k x,((tg r).map (u7 l))[k]? =some x→ ∃t,(tg r)[k]? =some t∧u7 l t=x:=fun k x h=>by
  rw [List.getElem?_map,Option.map_eq_some_iff] at h;exact h
 generalize hv:(tg r).map (u7 l)=v at *
 refine aI.seq (IW ?_)
 repeat' ((conv=>whnf);first|(refine And.intro (by first|exact sD _|fail) ?_)|refine aS ?_|fail)
 refine aI.seq (aI.seq (I2 ?_))
 repeat' ((conv=>whnf);first|refine rE _ (ht) ?_|fail)
 refine aI.bP (s:={sl:=[(2,.ptr 2 0),(4,.ptr 4 0),(10,.t (.clos 145 [.cptr (sB r) 0]))],bx:=[(2,.d 1 [fds l]),(4,.d 1 [I 0])]}) (by repeat' (first|exact trivial|exact LeV.same _|exact LeB.same _|exact rfl|exact fun _ _ _=>trivial|refine And.intro ?_ ?_)) ?_
 refine aI.block (yB (N:=49) rfl r rfl 100 (fun n=>10≤n∧n<100) 100 (Nat.le_refl _) (by omega) (fun n h=>rz fun p hp=>?_) (fun n h=>rz fun p hp=>?_) (by exact rU) (outs:=tD l v) (stop:=fun c cx o=>cx=(fun _ _=>True)∧wV l v c o) ?_ (fun l0 D fn tmps hN=>?_) ?_ ?_)
 ·simp only [List.mem_cons,List.not_mem_nil,or_false] at hp
  rcases hp with rfl|rfl <;> (dsimp only;omega)
 ·simp only [List.mem_cons,List.not_mem_nil,or_false] at hp
  rcases hp with rfl|rfl <;> (dsimp only;omega)
 ·intro q hq
  simp only [tD,List.mem_cons,List.not_mem_nil,or_false] at hq
  rcases hq with rfl|rfl <;> rfl
 ·refine dR.top (d:=5) (n:=5) (lo:=10) (hi:=100) (D7 l v) (fun n h1 h2=>⟨h1,h2⟩) hN (by decide) (fun hw=>I8 hw) rfl (by decide) (by decide) (fun x hx=>?_) (fun k cs b G C hk hcs=>?_)
  ·obtain ⟨t,_,rfl⟩:=List.mem_map.1 hx
   exact ⟨_,sF t,sD t⟩
  rw [List.getElem?_map,Option.map_eq_some_iff] at hk
  obtain ⟨t,htk,hte⟩:=hk
  rw [sF] at hte
  obtain rfl:sB t=cs:=T.agg.inj hte
  have hvk:v[k]? =some (u7 l t):=by rw [← hv,List.getElem?_map,htk];rfl
  have hs:=Ae hvk
  have hfst:=zy hvk
  cases hok:okB v k with
  |false=>exact aI.absurd (n:=4) (m:=1) (ts:=[]) (by show some (BX.d 1 (if okB v k=true then [I 0] else []))=_;rw [hok];rfl) (by decide)
  |true=>
  have ho:tD l v k=[(2,.d 1 [fds l]),(4,.d 1 [I 0])]:=by unfold tD;rw [hok];rfl
  rw [ho]
  rw [hok,Bool.true_and] at hs
  have hfst:=hfst hok
  clear hok ho
  refine Je ?_
  clear hte
  obtain ⟨kd,f,n,m,args⟩:=t
  have hE:=sI f e0
  have endN: ∀s:St,s.gh=G→s.cx=C→(∀ q, ¬(10≤q∧q<100)→s.bx q=aK b [(2,.d 1 [fds l]),(4,.d 1 [I 0])] q)→u7 l (.mk kd f n m args)=0→RB b G C 10 100 (tD l v (k+1)) (wV l v) .normal s:=fun s h1 h2 h3 h4=>by
   refine ⟨h1,h2,_,h3,?_⟩
   unfold tD
   rw [hs,h4];rfl
  have endR: ∀s:St,s.gh=G→s.cx=C→(∀ q, ¬(10≤q∧q<100)→s.bx q=aK b [(2,.d 1 [fds l]),(4,.d 1 [I (u7 l (.mk kd f n m args))])] q)→u7 l (.mk kd f n m args)≠0→RB b G C 10 100 (tD l v (k+1)) (wV l v) .ret s:=fun s h1 h2 h3 h4=>by
   have e:=hfst h4
   exact ⟨h1,h2,_,h3,rfl,by rw [e];exact h4,by rw [e]⟩
  cases hb:sC f e0 with
  |true=>
   rw [hb] at hE
   have hq:u7 l (.mk kd f n m args)=0:=by simp only [u7];rw [if_pos hb]
   repeat' ((conv=>whnf);first|refine nb_ true hE ?_|refine nT_ ?_|refine aS ?_|fail)
   refine endN _ rfl rfl (fun q hq=>?_) hq
   have hm:=qX (b:=b) hq
   show cond (Nat.beq q 15) _ (cond (Nat.beq q 2) _ (cond (Nat.beq q 4) _ (gE 10 100 b q)))=cond (Nat.beq q 2) _ (cond (Nat.beq q 4) _ (b q))
   rw [eS (show q≠15 by omega),hm];rfl
  |false=>
  rw [hb] at hE
  have h74:=t74 l f hl.len
  unfold uU at h74
  have hq:u7 l (.mk kd f n m args)=(match findF l f with
   |none=>4
   |some F=>if (if kd=5 then m else n)>((2^F.w - 1:Nat):Int)∨(kd=4∧m>F.w) then 1 else 0):=by simp only [u7];rw [hb];rfl
  generalize u7 l (.mk kd f n m args)=x at *
  cases hF:findF l f with
  |none=>
   rw [hF] at h74 hq
   dsimp only at h74 hq
   subst hq
   by_cases h5:kd=5
   all_goals
    repeat' ((conv=>whnf);first|refine nb_ false hE ?_|refine rE _ (h74) ?_|refine qx h5 ?_|refine qw h5 ?_|refine nT_ ?_|refine aS ?_|fail)
    (conv=>whnf)
    refine endR _ rfl rfl (fun q hq=>?_) (by decide)
    have hm:=qX (b:=b) hq
    by_cases h4:q=4
    ·subst h4;rfl
    show cond (Nat.beq q 4) _ (cond (Nat.beq q 16) _ (cond (Nat.beq q 16) _ (cond (Nat.beq q 15) _ (cond (Nat.beq q 2) _ (cond (Nat.beq q 4) _ (gE 10 100 b q))))))=cond (Nat.beq q 2) _ (cond (Nat.beq q 4) _ (b q))
    rw [eS (show q≠15 by omega),eS (show q≠16 by omega),eS h4,hm];rfl
  |some F=>
   rw [hF] at h74 hq
   dsimp only at h74 hq
   have h97:=t97 F (hl.find hF)
   generalize (2^F.w - 1:Nat)=M at *
   have fin: ∀(y:Int),x=y→(y=0∨y=1)→True:=fun _ _ _=>trivial
   by_cases hbad:(if kd=5 then m else n)>(M:Int)∨(kd=4∧m>F.w)
   ·rw [if_pos hbad] at hq
    subst hq
    by_cases h5:kd=5
    ·rw [if_pos h5] at hbad
     have hbad:m>(M:Int):=by omega
     repeat' ((conv=>whnf);first|refine nb_ false hE ?_|refine rE _ (h74) ?_|refine qx h5 ?_|refine rE _ (h97) ?_|refine qv hbad ?_|refine nT_ ?_|refine aS ?_|fail)
     (conv=>whnf)
     refine endR _ rfl rfl (fun q hq=>?_) (by decide)
     have hm:=qX (b:=b) hq
     by_cases h4:q=4
     ·subst h4;rfl
     show cond (Nat.beq q 4) _ (cond (Nat.beq q 16) _ (cond (Nat.beq q 16) _ (cond (Nat.beq q 15) _ (cond (Nat.beq q 2) _ (cond (Nat.beq q 4) _ (gE 10 100 b q))))))=cond (Nat.beq q 2) _ (cond (Nat.beq q 4) _ (b q))
     rw [eS (show q≠15 by omega),eS (show q≠16 by omega),eS h4,hm];rfl
    ·rw [if_neg h5] at hbad
     by_cases hn:n>(M:Int)
     ·repeat' ((conv=>whnf);first|refine nb_ false hE ?_|refine rE _ (h74) ?_|refine qw h5 ?_|refine rE _ (h97) ?_|refine qv hn ?_|refine nT_ ?_|refine aS ?_|fail)
      (conv=>whnf)
      refine endR _ rfl rfl (fun q hq=>?_) (by decide)
      have hm:=qX (b:=b) hq
      by_cases h4:q=4
      ·subst h4;rfl
      show cond (Nat.beq q 4) _ (cond (Nat.beq q 16) _ (cond (Nat.beq q 16) _ (cond (Nat.beq q 15) _ (cond (Nat.beq q 2) _ (cond (Nat.beq q 4) _ (gE 10 100 b q))))))=cond (Nat.beq q 2) _ (cond (Nat.beq q 4) _ (b q))
      rw [eS (show q≠15 by omega),eS (show q≠16 by omega),eS h4,hm];rfl
     ·have h4k:kd=4:=by omega
      have hmw:m>(F.w:Int):=by omega
      repeat' ((conv=>whnf);first|refine nb_ false hE ?_|refine rE _ (h74) ?_|refine qw h5 ?_|refine rE _ (h97) ?_|refine qu hn ?_|refine qx h4k ?_|refine qv hmw ?_|refine nT_ ?_|refine aS ?_|fail)
      (conv=>whnf)
      refine endR _ rfl rfl (fun q hq=>?_) (by decide)
      have hm:=qX (b:=b) hq
      by_cases h4:q=4
      ·subst h4;rfl
      show cond (Nat.beq q 4) _ (cond (Nat.beq q 16) _ (cond (Nat.beq q 16) _ (cond (Nat.beq q 15) _ (cond (Nat.beq q 2) _ (cond (Nat.beq q 4) _ (gE 10 100 b q))))))=cond (Nat.beq q 2) _ (cond (Nat.beq q 4) _ (b q))
      rw [eS (show q≠15 by omega),eS (show q≠16 by omega),eS h4,hm];rfl
   ·rw [if_neg hbad] at hq
    have good: ∀s:St,s.gh=G→s.cx=C→(∀ q,s.bx q=cond (Nat.beq q 16) (s.bx 16) (cond (Nat.beq q 15) (s.bx 15) (cond (Nat.beq q 2) (some (.d 1 [fds l])) (cond (Nat.beq q 4) (some (.d 1 [I 0])) (gE 10 100 b q)))))→RB b G C 10 100 (tD l v (k+1)) (wV l v) .normal s:=fun s h1 h2 h3=>endN s h1 h2 (fun q hq=>by
     have hm:=qX (b:=b) hq
     rw [h3 q,eS (show q≠15 by omega),eS (show q≠16 by omega),hm];rfl) hq
    have r16: ∀(q:Nat) (f:Nat→Option BX) (x y:Option BX),upd (upd f 16 x) 16 y q=cond (Nat.beq q 16) y (f q):=fun q f x y=>by rw [gj];rfl
    by_cases h5:kd=5
    ·rw [if_pos h5] at hbad
     have hbad: ¬m>(M:Int):=by omega
     have h4k:kd≠4:=by omega
     repeat' ((conv=>whnf);first|refine nb_ false hE ?_|refine rE _ (h74) ?_|refine qx h5 ?_|refine rE _ (h97) ?_|refine qu hbad ?_|refine qw h4k ?_|refine nT_ ?_|refine aS ?_|fail)
     (conv=>whnf)
     refine good _ rfl rfl fun q=>?_
     exact (r16 q _ _ _).trans rfl
    ·rw [if_neg h5] at hbad
     have hn: ¬n>(M:Int):=by omega
     by_cases h4k:kd=4
     ·have hmw: ¬m>(F.w:Int):=by omega
      repeat' ((conv=>whnf);first|refine nb_ false hE ?_|refine rE _ (h74) ?_|refine qw h5 ?_|refine rE _ (h97) ?_|refine qu hn ?_|refine qx h4k ?_|refine qu hmw ?_|refine nT_ ?_|refine aS ?_|fail)
      (conv=>whnf)
      refine good _ rfl rfl fun q=>?_
      exact (r16 q _ _ _).trans rfl
     ·repeat' ((conv=>whnf);first|refine nb_ false hE ?_|refine rE _ (h74) ?_|refine qw h5 ?_|refine rE _ (h97) ?_|refine qu hn ?_|refine qw h4k ?_|refine nT_ ?_|refine aS ?_|fail)
      (conv=>whnf)
      refine good _ rfl rfl fun q=>?_
      exact (r16 q _ _ _).trans rfl
 ·have hlv:(tg r).length=v.length:=by rw [← hv,List.length_map]
  rw [hlv]
  cases hok:okB v v.length with
  |false=>exact aI.absurd (n:=4) (m:=1) (ts:=[]) (by show some (BX.d 1 (if okB v v.length=true then [I 0] else []))=_;rw [hok];rfl) (by decide)
  |true=>
   rw [Bv hok]
   have ho:tD l v v.length=[(2,.d 1 [fds l]),(4,.d 1 [I 0])]:=by unfold tD;rw [hok];rfl
   rw [ho]
   refine Jj ?_
   repeat' ((conv=>whnf);first|refine aS ?_|fail)
   exact ⟨⟨⟨Nat.lt_succ_self 0,rfl⟩,trivial⟩,fun _ _=>trivial⟩
 ·rintro c cx o ⟨rfl,rfl,hne,rfl⟩
  refine Or.inl ⟨rfl,?_,fun _ _=>trivial⟩
  (conv=>whnf)
  exact ⟨⟨Nat.lt_succ_self 0,rfl⟩,trivial⟩
end Go.TY
end
