/- Joined by program: parts of a data level over the model, of the program's functions over it, and of the statement's proof. -/
import Derived.Test.YtdfkadeceaepeaaGreatDoorProg
import Derived.Test.YtdfkadeceaepeaaGreatDoorGc
import Derived.KernelRfl
import Derived.Sort.Walk0
import Derived.Stop.LaidErr
import Derived.Lib.LaidTab
set_option maxRecDepth 100000
set_option maxHeartbeats 8000000
noncomputable section
namespace Go.DL
abbrev Kc (n:Int):O:=.const (.int .i64 n)
abbrev Zi (n:Int):T:=.int .i64 n
abbrev Ui (n:Int):T:=.int .u8 n
abbrev tm (n:Nat):O:=.tmp n
abbrev mv (d s:Nat):DI:=⟨some d,.mov (.tmp s),none,[]⟩
abbrev mF (d s g:Nat):DI:=⟨some d,.mov (.tmp s),some (g,false),[]⟩
abbrev mT (d s g:Nat):DI:=⟨some d,.mov (.tmp s),some (g,true),[]⟩
abbrev oo (d:Nat) (p:DOp):DI:=⟨some d,p,none,[]⟩
abbrev oF (d g:Nat) (p:DOp):DI:=⟨some d,p,some (g,false),[]⟩
abbrev oT (d g:Nat) (p:DOp):DI:=⟨some d,p,some (g,true),[]⟩
abbrev o0 (p:DOp):DI:=⟨none,p,none,[]⟩
abbrev ld (d a:Nat):DI:=⟨some d,.load 1 false (.tmp a),none,[]⟩
abbrev lA (d n a:Nat):DI:=⟨some d,.load n true (.tmp a),none,[]⟩
abbrev fa (d k a:Nat):DI:=⟨some d,.offA k (.tmp a),none,[]⟩
abbrev ix (d z a b:Nat):DI:=⟨some d,.idxL z (.tmp a) (.tmp b),none,[]⟩
abbrev ln (d a:Nat):DI:=⟨some d,.len (.tmp a),none,[]⟩
abbrev kT:O:=.const (.bool true)
abbrev kF:O:=.const (.bool false)
abbrev S0:T:=.str ⟨#[]⟩
abbrev Z0:T:=.int .i64 0
end Go.DL
namespace Go.MM
open Go Go.DL Go.Proofs
def c18:aY:=(.seq (.region [oo 3 (.box 9 (tm 1)),oo 4 (.mov (Kc 0))] []) (.seq (.region [lA 10 9 3,oo 11 (.call 21 [tm 10]),mv 5 11] []) (.seq (.seq (.region [mv 12 5,oo 13 (.bin .neq (tm 12) (Kc 0))] []) (.cond (tm 13) (.seq (.region [mv 14 5,mv 4 14] []) .ret) .skip)) (.seq (.region [lA 15 9 3,oo 16 (.call 76 [tm 15]),mv 6 16] []) (.seq (.seq (.region [oo 7 (.mov (Kc 0))] []) (.block 0 (.loop (.seq (.seq (.region [mv 17 7,mv 18 6,ln 19 18,oo 20 (.bin .lss (tm 17) (tm 19))] []) (.cond (tm 20) .skip (.exit 0))) (.seq (.block 1 (.seq (.seq (.region [mv 23 6,mv 24 7,ix 25 9 23 24,fa 26 0 25,ld 27 26,oo 28 (.bin .eql (tm 27) (Kc 1))] []) (.cond (tm 28) (.region [mv 29 0,mv 30 6,mv 31 7,ix 32 9 30 31,fa 33 1 32,lA 34 5 33,oo 35 (.call 71 [(tm 29),(tm 34)]),mv 5 35] []) .skip)) (.seq (.seq (.region [mv 36 6,mv 37 7,ix 38 9 36 37,fa 39 0 38,ld 40 39,oo 41 (.bin .eql (tm 40) (Kc 2))] []) (.cond (tm 41) (.seq (.region [mv 43 0,mv 44 6,mv 45 7,ix 46 9 44 45,fa 47 6 46,ld 48 47,oo 49 (.call 77 [(tm 43),(tm 48)]),mv 42 49,oo 50 (.ext (tm 42) 0),oo 51 (.ext (tm 42) 1),⟨some 8,.alloc [S0,Z0,Z0],none,[]⟩,o0 (.store 3 (tm 8) (tm 50)),mv 9 51] []) (.seq (.region [mv 52 9,oo 53 (.not (tm 52))] []) (.cond (tm 53) (.region [oo 5 (.mov (Kc 4))] []) (.seq (.region [mv 54 6,mv 55 7,ix 56 9 54 55,fa 57 7 56,ld 58 57,lA 59 3 8,oo 60 (.call 78 [tm 59]),oo 61 (.bin .gtr (tm 58) (tm 60))] []) (.cond (tm 61) (.region [oo 5 (.mov (Kc 1))] []) .skip))))) .skip)) (.seq (.region [mv 62 5,oo 63 (.bin .neq (tm 62) (Kc 0))] []) (.cond (tm 63) (.seq (.region [mv 64 5,mv 4 64] []) .ret) .skip))))) (.region [mv 21 7,oo 22 (.bin .add (tm 21) (Kc 1)),mv 7 22] [])))))) (.seq (.region [oo 4 (.mov (Kc 0))] []) .ret))))))
theorem l18:(Tryz.f18.body.bind (bD Tryz.prog 65 []))=some c18:=by kernel_rfl
def c11:aY:=(.seq (.region [oo 2 (.mov (Kc 0))] []) (.seq (.seq (.region [mv 9 0,ln 10 9,oo 11 (.bin .gtr (tm 10) (Kc 16))] []) (.cond (tm 11) (.seq (.region [oo 2 (.mov (Kc 2))] []) .ret) .skip)) (.seq (.seq (.region [oo 3 (.mov (Kc 0))] []) (.block 0 (.loop (.seq (.seq (.region [mv 12 3,mv 13 0,ln 14 13,oo 15 (.bin .lss (tm 12) (tm 14))] []) (.cond (tm 15) .skip (.exit 0))) (.seq (.block 1 (.seq (.region [mv 18 0,mv 19 3,ix 20 3 18 19,fa 21 0 20,ld 22 21,oo 23 (.call 64 [tm 22]),mv 4 23] []) (.seq (.seq (.region [mv 24 4,oo 25 (.not (tm 24)),mv 26 25,mF 27 0 26,mF 28 3 26,oF 29 26 (.idxL 3 (tm 27) (tm 28)),oF 30 26 (.offA 0 (tm 29)),oF 31 26 (.load 1 false (tm 30)),⟨some 32,.bin .eql (tm 31) (.const (.str ⟨#[112,111,114,116]⟩)),some (26,false),[]⟩,oo 33 (.pick (tm 26) kT (tm 32))] []) (.cond (tm 33) (.seq (.region [oo 2 (.mov (Kc 4))] []) .ret) .skip)) (.seq (.seq (.region [oo 5 (.mov (Kc 0))] []) (.block 2 (.loop (.seq (.seq (.region [mv 34 5,mv 35 3,oo 36 (.bin .lss (tm 34) (tm 35))] []) (.cond (tm 36) .skip (.exit 2))) (.seq (.block 3 (.seq (.region [mv 39 0,mv 40 5,ix 41 3 39 40,fa 42 0 41,ld 43 42,mv 44 0,mv 45 3,ix 46 3 44 45,fa 47 0 46,ld 48 47,oo 49 (.bin .eql (tm 43) (tm 48))] []) (.cond (tm 49) (.seq (.region [oo 2 (.mov (Kc 4))] []) .ret) .skip))) (.region [mv 37 5,oo 38 (.bin .add (tm 37) (Kc 1)),mv 5 38] [])))))) (.seq (.region [mv 50 0,mv 51 3,ix 52 3 50 51,lA 53 3 52,oo 54 (.call 65 [tm 53]),mv 6 54] []) (.seq (.seq (.region [mv 55 6,oo 56 (.not (tm 55))] []) (.cond (tm 56) (.seq (.region [oo 2 (.mov (Kc 1))] []) .ret) .skip)) (.seq (.region [oo 7 (.mov (Kc 0))] []) (.block 4 (.loop (.seq (.seq (.region [mv 57 7,mv 58 3,oo 59 (.bin .lss (tm 57) (tm 58))] []) (.cond (tm 59) .skip (.exit 4))) (.seq (.block 5 (.seq (.region [mv 62 0,mv 63 7,ix 64 3 62 63,lA 65 3 64,mv 66 0,mv 67 3,ix 68 3 66 67,lA 69 3 68,oo 70 (.call 66 [(tm 65),(tm 69)]),mv 8 70] []) (.seq (.region [mv 71 8] []) (.cond (tm 71) (.seq (.region [oo 2 (.mov (Kc 1))] []) .ret) .skip)))) (.region [mv 60 7,oo 61 (.bin .add (tm 60) (Kc 1)),mv 7 61] [])))))))))))) (.region [mv 16 3,oo 17 (.bin .add (tm 16) (Kc 1)),mv 3 17] [])))))) (.seq (.region [oo 2 (.mov (Kc 0))] []) .ret))))
theorem l11:(Tryz.f11.body.bind (bD Tryz.prog 72 []))=some c11:=by kernel_rfl
def c77:aY:=(.seq (.region [⟨some 4,.alloc [S0,Z0,Z0],none,[]⟩,oo 5 (.mov kF)] []) (.seq (.seq (.region [mv 7 1,⟨some 8,.bin .eql (tm 7) (.const (.str ⟨#[112,111,114,116]⟩)),none,[]⟩] []) (.cond (tm 8) (.seq (.region [oo 9 (.call 121 []),o0 (.store 3 (tm 4) (tm 9)),oo 5 (.mov kT)] []) .ret) .skip)) (.seq (.seq (.region [oo 6 (.mov (Kc 0))] []) (.block 0 (.loop (.seq (.seq (.region [mv 10 6,mv 11 0,ln 12 11,oo 13 (.bin .lss (tm 10) (tm 12))] []) (.cond (tm 13) .skip (.exit 0))) (.seq (.block 1 (.seq (.region [mv 16 0,mv 17 6,ix 18 3 16 17,fa 19 0 18,ld 20 19,mv 21 1,oo 22 (.bin .eql (tm 20) (tm 21))] []) (.cond (tm 22) (.seq (.region [mv 23 0,mv 24 6,ix 25 3 23 24,lA 26 3 25,o0 (.store 3 (tm 4) (tm 26)),oo 5 (.mov kT)] []) .ret) .skip))) (.region [mv 14 6,oo 15 (.bin .add (tm 14) (Kc 1)),mv 6 15] [])))))) (.seq (.region [⟨some 27,.build [S0,Z0,Z0] [],none,[]⟩,o0 (.store 3 (tm 4) (tm 27)),oo 5 (.mov kF)] []) .ret))))
theorem l77:(Tryz.f77.body.bind (bD Tryz.prog 28 []))=some c77:=by kernel_rfl
def c21:aY:=(.seq (.region [oo 1 (.box 9 (tm 0)),oo 2 (.mov (Kc 0))] []) (.seq (.region [lA 3 9 1,oo 4 (.call 34 [tm 3]),lA 5 9 1,oo 6 (.call 85 [tm 5]),oo 7 (.call 84 [(tm 4),(tm 6)]),mv 2 7] []) .ret))
theorem l21:(Tryz.f21.body.bind (bD Tryz.prog 8 []))=some c21:=by kernel_rfl
def c76:aY:=(.seq (.region [oo 1 (.box 9 (tm 0)),oo 2 (.mov (.const .nil))] []) (.seq (.region [lA 5 9 1,⟨some 6,.buildS 28 9 1 [Z0,Z0,S0,Z0,Z0,.nil,S0,Z0,.nil] [(0,(tm 5))],none,[]⟩,mv 3 6] []) (.seq (.seq (.region [oo 4 (.mov (Kc 0))] []) (.block 0 (.loop (.seq (.seq (.region [mv 7 4,fa 8 8 1,ld 9 8,ln 10 9,oo 11 (.bin .lss (tm 7) (tm 10))] []) (.cond (tm 11) .skip (.exit 0))) (.seq (.block 1 (.region [mv 14 3,fa 15 8 1,ld 16 15,mv 17 4,ix 18 9 16 17,lA 19 9 18,oo 20 (.call 76 [tm 19]),oo 21 (.append 26 28 9 120 (tm 14) (tm 20)),mv 3 21] [])) (.region [mv 12 4,oo 13 (.bin .add (tm 12) (Kc 1)),mv 4 13] [])))))) (.seq (.region [mv 22 3,mv 2 22] []) .ret))))
theorem l76:(Tryz.f76.body.bind (bD Tryz.prog 23 []))=some c76:=by kernel_rfl
def c71:aY:=(.seq (.region [oo 3 (.box 5 (tm 1)),oo 4 (.mov (Kc 0))] []) (.seq (.region [lA 8 5 3,oo 9 (.call 111 [tm 8]),mv 5 9] []) (.seq (.seq (.region [oo 6 (.mov (Kc 0))] []) (.block 0 (.loop (.seq (.seq (.region [mv 10 6,mv 11 5,ln 12 11,oo 13 (.bin .lss (tm 10) (tm 12))] []) (.cond (tm 13) .skip (.exit 0))) (.seq (.block 1 (.seq (.region [mv 16 0,mv 17 5,mv 18 6,ix 19 5 17 18,lA 20 5 19,oo 21 (.call 112 [(tm 16),(tm 20)]),mv 7 21] []) (.seq (.region [mv 22 7,oo 23 (.bin .neq (tm 22) (Kc 0))] []) (.cond (tm 23) (.seq (.region [mv 24 7,mv 4 24] []) .ret) .skip)))) (.region [mv 14 6,oo 15 (.bin .add (tm 14) (Kc 1)),mv 6 15] [])))))) (.seq (.region [oo 4 (.mov (Kc 0))] []) .ret))))
theorem l71:(Tryz.f71.body.bind (bD Tryz.prog 25 []))=some c71:=by kernel_rfl
def c78:aY:=(.seq (.region [oo 1 (.box 3 (tm 0)),oo 2 (.mov (Kc 0))] []) (.seq (.region [fa 3 2 1,ld 4 3,oo 5 (.call 122 [tm 4]),oo 6 (.bin .sub (tm 5) (Kc 1)),mv 2 6] []) .ret))
theorem l78:(Tryz.f78.body.bind (bD Tryz.prog 7 []))=some c78:=by kernel_rfl
def c64:aY:=(.seq (.region [oo 2 (.mov kF)] []) (.seq (.seq (.region [oo 3 (.mov (Kc 0))] []) (.block 0 (.loop (.seq (.seq (.region [mv 6 3,mv 7 0,oo 8 (.lenS (tm 7)),oo 9 (.bin .lss (tm 6) (tm 8))] []) (.cond (tm 9) .skip (.exit 0))) (.seq (.block 1 (.seq (.region [mv 12 0,mv 13 3,oo 14 (.idxS (tm 12) (tm 13)),oo 15 (.bin .geq (tm 14) (.const (Ui 97))),mv 16 15,mT 17 0 16,mT 18 3 16,oT 19 16 (.idxS (tm 17) (tm 18)),oT 20 16 (.bin .leq (tm 19) (.const (Ui 122))),oo 21 (.pick (tm 16) (tm 20) kF),mv 4 21] []) (.seq (.region [mv 22 0,mv 23 3,oo 24 (.idxS (tm 22) (tm 23)),oo 25 (.bin .geq (tm 24) (.const (Ui 48))),mv 26 25,mT 27 0 26,mT 28 3 26,oT 29 26 (.idxS (tm 27) (tm 28)),oT 30 26 (.bin .leq (tm 29) (.const (Ui 57))),oo 31 (.pick (tm 26) (tm 30) kF),mv 32 31,mF 33 0 32,mF 34 3 32,oF 35 32 (.idxS (tm 33) (tm 34)),oF 36 32 (.bin .eql (tm 35) (.const (Ui 95))),oo 37 (.pick (tm 32) kT (tm 36)),mv 5 37] []) (.seq (.region [mv 38 4,oo 39 (.not (tm 38)),mv 40 39,mT 41 5 40,oT 42 40 (.not (tm 41)),mT 43 42 40,mF 44 3 43,oF 45 43 (.bin .eql (tm 44) (Kc 0)),oT 46 40 (.pick (tm 43) kT (tm 45)),oo 47 (.pick (tm 40) (tm 46) kF)] []) (.cond (tm 47) (.seq (.region [oo 2 (.mov kF)] []) .ret) .skip))))) (.region [mv 10 3,oo 11 (.bin .add (tm 10) (Kc 1)),mv 3 11] [])))))) (.seq (.region [mv 48 0,oo 49 (.lenS (tm 48)),oo 50 (.bin .geq (tm 49) (Kc 1)),mv 51 50,mT 52 0 51,oT 53 51 (.lenS (tm 52)),oT 54 51 (.bin .leq (tm 53) (Kc 24)),oo 55 (.pick (tm 51) (tm 54) kF),mv 2 55] []) .ret)))
theorem l64:(Tryz.f64.body.bind (bD Tryz.prog 56 []))=some c64:=by kernel_rfl
def c65:aY:=(.seq (.region [oo 1 (.box 3 (tm 0)),oo 2 (.mov kF)] []) (.seq (.region [fa 3 2 1,ld 4 3,oo 5 (.bin .geq (tm 4) (Kc 1)),mv 6 5,oT 7 6 (.offA 2 (tm 1)),oT 8 6 (.load 1 false (tm 7)),oT 9 6 (.bin .leq (tm 8) (Kc 16)),oo 10 (.pick (tm 6) (tm 9) kF),mv 11 10,oT 12 11 (.offA 1 (tm 1)),oT 13 11 (.load 1 false (tm 12)),oT 14 11 (.bin .geq (tm 13) (Kc 16)),oo 15 (.pick (tm 11) (tm 14) kF),mv 16 15,oT 17 16 (.offA 1 (tm 1)),oT 18 16 (.load 1 false (tm 17)),oT 19 16 (.bin .leq (tm 18) (Kc 143)),oo 20 (.pick (tm 16) (tm 19) kF),mv 21 20,oT 22 21 (.offA 1 (tm 1)),oT 23 21 (.load 1 false (tm 22)),oT 24 21 (.bin .rem (tm 23) (Kc 16)),oT 25 21 (.offA 2 (tm 1)),oT 26 21 (.load 1 false (tm 25)),oT 27 21 (.bin .add (tm 24) (tm 26)),oT 28 21 (.bin .leq (tm 27) (Kc 16)),oo 29 (.pick (tm 21) (tm 28) kF),mv 2 29] []) .ret))
theorem l65:(Tryz.f65.body.bind (bD Tryz.prog 30 []))=some c65:=by kernel_rfl
def c66:aY:=(.seq (.region [oo 2 (.box 3 (tm 0)),oo 3 (.box 3 (tm 1)),oo 4 (.mov kF)] []) (.seq (.region [fa 5 1 2,ld 6 5,fa 7 1 3,ld 8 7,fa 9 2 3,ld 10 9,oo 11 (.bin .add (tm 8) (tm 10)),oo 12 (.bin .lss (tm 6) (tm 11)),mv 13 12,oT 14 13 (.offA 1 (tm 3)),oT 15 13 (.load 1 false (tm 14)),oT 16 13 (.offA 1 (tm 2)),oT 17 13 (.load 1 false (tm 16)),oT 18 13 (.offA 2 (tm 2)),oT 19 13 (.load 1 false (tm 18)),oT 20 13 (.bin .add (tm 17) (tm 19)),oT 21 13 (.bin .lss (tm 15) (tm 20)),oo 22 (.pick (tm 13) (tm 21) kF),mv 4 22] []) .ret))
theorem l66:(Tryz.f66.body.bind (bD Tryz.prog 23 []))=some c66:=by kernel_rfl
def c74:aY:=(.seq (.region [oo 3 (.box 1 (tm 1)),⟨some 4,.alloc [S0,Z0,Z0],none,[]⟩,oo 5 (.mov kF)] []) (.seq (.seq (.region [ld 7 3,oo 8 (.call 118 []),oo 9 (.fld 0 1 false (tm 8)),oo 10 (.bin .eql (tm 7) (tm 9))] []) (.cond (tm 10) (.seq (.region [oo 11 (.call 118 []),o0 (.store 3 (tm 4) (tm 11)),oo 5 (.mov kT)] []) .ret) .skip)) (.seq (.region [mv 12 0,oo 13 (.mkfn 120 [tm 3]),oo 14 (.call 119 [(tm 12),(tm 13)]),mv 6 14] []) (.seq (.seq (.region [mv 15 6,oo 16 (.bin .lss (tm 15) (Kc 0))] []) (.cond (tm 16) (.seq (.region [⟨some 17,.build [S0,Z0,Z0] [],none,[]⟩,o0 (.store 3 (tm 4) (tm 17)),oo 5 (.mov kF)] []) .ret) .skip)) (.seq (.region [mv 18 0,mv 19 6,ix 20 3 18 19,lA 21 3 20,o0 (.store 3 (tm 4) (tm 21)),oo 5 (.mov kT)] []) .ret)))))
theorem l74:(Tryz.f74.body.bind (bD Tryz.prog 22 []))=some c74:=by kernel_rfl
def Lu:aY:=(.seq (.region [⟨some 0,.alloc [S0,Z0,Z0],none,[]⟩] []) (.seq (.region [⟨some 1,.build [S0,Z0,Z0] [(0,1,(.const (.str ⟨#[112,111,114,116]⟩))),(1,1,(Kc 0)),(2,1,(Kc 16))],none,[]⟩,o0 (.store 3 (tm 0) (tm 1))] []) .ret))
theorem MZ:(Tryz.f121.body.bind (bD Tryz.prog 2 []))=some Lu:=by kernel_rfl
def Lv:aY:=(.seq (.region [oo 2 (.mov (Kc 0))] []) (.seq (.region [oo 3 (.mov (Kc 1))] []) (.seq (.seq (.region [oo 4 (.mov (Kc 0))] []) (.block 0 (.loop (.seq (.seq (.region [mv 5 4,mv 6 0,oo 7 (.bin .lss (tm 5) (tm 6))] []) (.cond (tm 7) .skip (.exit 0))) (.seq (.block 1 (.region [mv 10 3,oo 11 (.bin .mul (tm 10) (Kc 2)),mv 3 11] [])) (.region [mv 8 4,oo 9 (.bin .add (tm 8) (Kc 1)),mv 4 9] [])))))) (.seq (.region [mv 12 3,mv 2 12] []) .ret))))
theorem M0:(Tryz.f122.body.bind (bD Tryz.prog 13 []))=some Lv:=by kernel_rfl
def c84:aY:=(.seq (.region [oo 2 (.box 2 (tm 0)),oo 4 (.mov (Kc 0))] []) (.seq (.region [lA 6 2 2,oo 7 (.call 128 [tm 6]),mv 5 7] []) (.seq (.seq (.region [mv 8 5,oo 9 (.bin .eql (tm 8) (Kc 0)),mv 10 9,mT 11 1 10,oT 12 10 (.not (tm 11)),oo 13 (.pick (tm 10) (tm 12) kF)] []) (.cond (tm 13) (.seq (.region [oo 4 (.mov (Kc 1))] []) .ret) .skip)) (.seq (.region [mv 14 5,mv 4 14] []) .ret))))
theorem l84:(Tryz.f84.body.bind (bD Tryz.prog 15 []))=some c84:=by kernel_rfl
def c34:aY:=(.seq (.region [oo 1 (.box 9 (tm 0)),oo 2 (.alloc [Z0,Z0])] []) (.seq (.region [oo 5 (.build [Z0,Z0] [(0,1,(Kc 1)),(1,1,(Kc 1))]),oo 3 (.alloc [Z0,Z0]),o0 (.store 2 (tm 3) (tm 5))] []) (.seq (.seq (.region [fa 6 0 1,ld 7 6,oo 8 (.bin .eql (tm 7) (Kc 1))] []) (.cond (tm 8) (.region [lA 9 2 3,fa 10 1 1,lA 11 5 10,oo 12 (.call 67 [tm 11]),oo 13 (.call 94 [(tm 9),(tm 12)]),o0 (.store 2 (tm 3) (tm 13))] []) .skip)) (.seq (.seq (.region [oo 4 (.mov (Kc 0))] []) (.block 0 (.loop (.seq (.seq (.region [mv 14 4,fa 15 8 1,ld 16 15,ln 17 16,oo 18 (.bin .lss (tm 14) (tm 17))] []) (.cond (tm 18) .skip (.exit 0))) (.seq (.block 1 (.region [lA 21 2 3,fa 22 8 1,ld 23 22,mv 24 4,ix 25 9 23 24,lA 26 9 25,oo 27 (.call 34 [tm 26]),oo 28 (.call 94 [(tm 21),(tm 27)]),o0 (.store 2 (tm 3) (tm 28))] [])) (.region [mv 19 4,oo 20 (.bin .add (tm 19) (Kc 1)),mv 4 20] [])))))) (.seq (.region [lA 29 2 3,o0 (.store 2 (tm 2) (tm 29))] []) .ret)))))
theorem l34:(Tryz.f34.body.bind (bD Tryz.prog 30 []))=some c34:=by kernel_rfl
def c85:aY:=(.seq (.region [oo 1 (.box 9 (tm 0)),oo 2 (.mov kF)] []) (.seq (.region [fa 10 6 1,ld 11 10,oo 12 (.call 129 [tm 11]),mv 3 12] []) (.seq (.region [fa 13 1 1,lA 14 5 13,⟨some 15,.build [Z0,S0,Z0,Z0,.nil] [],none,[]⟩,oo 16 (.call 51 [(tm 14),(tm 15)]),mv 4 16] []) (.seq (.cut (.region [fa 17 6 1,ld 18 17,⟨some 19,.bin .eql (tm 18) (.const S0),none,[]⟩,mv 20 19,oT 21 20 (.offA 7 (tm 1)),oT 22 20 (.load 1 false (tm 21)),oT 23 20 (.bin .eql (tm 22) (Kc 0)),oo 24 (.pick (tm 20) (tm 23) kF),mv 5 24] [])) (.seq (.region [oo 6 (.mov (Kc 0))] []) (.seq (.region [oo 7 (.mov kF)] []) (.seq (.seq (.region [fa 25 0 1,ld 26 25] []) (.cut (.block 0 (.seq (.region [oo 28 (.bin .eql (tm 26) (Kc 1)),mv 27 28] []) (.cond (tm 27) (.region [fa 29 1 1,lA 30 5 29,oo 31 (.call 110 [tm 30]),mv 32 31,mT 33 5 32,oo 34 (.pick (tm 32) (tm 33) kF),mv 7 34] []) (.seq (.region [oo 36 (.bin .eql (tm 26) (Kc 2)),mv 35 36] []) (.cond (tm 35) (.region [mv 37 3,mv 38 37,mT 39 4 38,oo 40 (.pick (tm 38) (tm 39) kF),mv 41 40,oT 42 41 (.offA 7 (tm 1)),oT 43 41 (.load 1 false (tm 42)),oT 44 41 (.bin .geq (tm 43) (Kc 0)),oo 45 (.pick (tm 41) (tm 44) kF),mv 46 45,oT 47 46 (.offA 7 (tm 1)),oT 48 46 (.load 1 false (tm 47)),oT 49 46 (.bin .leq (tm 48) (Kc 65535)),oo 50 (.pick (tm 46) (tm 49) kF),mv 7 50] []) (.seq (.seq (.region [oo 52 (.bin .eql (tm 26) (Kc 3)),mv 51 52] []) (.cond (tm 51) .skip (.region [oo 53 (.bin .eql (tm 26) (Kc 4)),mv 51 53] []))) (.cond (tm 51) (.seq (.region [mv 54 4,mv 55 54,mT 56 5 55,oo 57 (.pick (tm 55) (tm 56) kF),mv 7 57] []) (.region [oo 6 (.mov (Kc 2))] [])) (.seq (.region [oo 59 (.bin .eql (tm 26) (Kc 5)),mv 58 59] []) (.cond (tm 58) (.seq (.region [mv 60 4,mv 61 60,mT 62 5 61,oo 63 (.pick (tm 61) (tm 62) kF),mv 7 63] []) (.region [oo 6 (.mov (Kc 1))] [])) .skip))))))))))) (.seq (.seq (.region [mv 64 7,oo 65 (.not (tm 64)),mv 66 65,oF 67 66 (.offA 8 (tm 1)),oF 68 66 (.load 1 false (tm 67)),oF 69 66 (.len (tm 68)),mF 70 6 66,oF 71 66 (.bin .neq (tm 69) (tm 70)),oo 72 (.pick (tm 66) kT (tm 71))] []) (.cond (tm 72) (.seq (.region [oo 2 (.mov kF)] []) .ret) .skip)) (.seq (.seq (.region [oo 8 (.mov (Kc 0))] []) (.block 1 (.loop (.seq (.seq (.region [mv 73 8,mv 74 6,oo 75 (.bin .lss (tm 73) (tm 74))] []) (.cond (tm 75) .skip (.exit 1))) (.seq (.block 2 (.seq (.region [fa 78 8 1,ld 79 78,mv 80 8,ix 81 9 79 80,lA 82 9 81,oo 83 (.call 85 [tm 82]),mv 9 83] []) (.seq (.region [mv 84 9,oo 85 (.not (tm 84))] []) (.cond (tm 85) (.seq (.region [oo 2 (.mov kF)] []) .ret) .skip)))) (.region [mv 76 8,oo 77 (.bin .add (tm 76) (Kc 1)),mv 8 77] [])))))) (.seq (.region [oo 2 (.mov kT)] []) .ret))))))))))
theorem l85:(Tryz.f85.body.bind (bD Tryz.prog 86 [6000003,4000000]))=some c85:=by kernel_rfl
def Lm:aY:=(.seq (.region [oo 1 (.box 5 (tm 0)),oo 2 (.mov (.const .nil))] []) (.seq (.region [lA 5 5 1,⟨some 6,.buildS 25 5 1 [Z0,S0,Z0,Z0,.nil] [(0,(tm 5))],none,[]⟩,mv 3 6] []) (.seq (.seq (.region [oo 4 (.mov (Kc 0))] []) (.block 0 (.loop (.seq (.seq (.region [mv 7 4,fa 8 4 1,ld 9 8,ln 10 9,oo 11 (.bin .lss (tm 7) (tm 10))] []) (.cond (tm 11) .skip (.exit 0))) (.seq (.block 1 (.region [mv 14 3,fa 15 4 1,ld 16 15,mv 17 4,ix 18 5 16 17,lA 19 5 18,oo 20 (.call 111 [tm 19]),oo 21 (.append 23 25 5 64 (tm 14) (tm 20)),mv 3 21] [])) (.region [mv 12 4,oo 13 (.bin .add (tm 12) (Kc 1)),mv 4 13] [])))))) (.seq (.region [mv 22 3,mv 2 22] []) .ret))))
theorem MR:(Tryz.f111.body.bind (bD Tryz.prog 23 []))=some Lm:=by kernel_rfl
def Ln:aY:=(.seq (.region [oo 3 (.box 5 (tm 1)),oo 4 (.mov (Kc 0))] []) (.seq (.seq (.region [fa 8 0 3,ld 9 8,oo 10 (.bin .neq (tm 9) (Kc 3)),mv 11 10,oT 12 11 (.offA 0 (tm 3)),oT 13 11 (.load 1 false (tm 12)),oT 14 11 (.bin .neq (tm 13) (Kc 4)),oo 15 (.pick (tm 11) (tm 14) kF),mv 16 15,oT 17 16 (.offA 0 (tm 3)),oT 18 16 (.load 1 false (tm 17)),oT 19 16 (.bin .neq (tm 18) (Kc 5)),oo 20 (.pick (tm 16) (tm 19) kF)] []) (.cond (tm 20) (.seq (.region [oo 4 (.mov (Kc 0))] []) .ret) .skip)) (.seq (.region [mv 22 0,fa 23 1 3,ld 24 23,oo 25 (.call 77 [(tm 22),(tm 24)]),mv 21 25,oo 26 (.ext (tm 21) 0),oo 27 (.ext (tm 21) 1),⟨some 5,.alloc [S0,Z0,Z0],none,[]⟩,o0 (.store 3 (tm 5) (tm 26)),mv 6 27] []) (.seq (.seq (.region [mv 28 6,oo 29 (.not (tm 28))] []) (.cond (tm 29) (.seq (.region [oo 4 (.mov (Kc 4))] []) .ret) .skip)) (.seq (.region [fa 30 2 3,ld 31 30,mv 7 31] []) (.seq (.seq (.region [fa 32 0 3,ld 33 32,oo 34 (.bin .eql (tm 33) (Kc 5))] []) (.cond (tm 34) (.region [fa 35 3 3,ld 36 35,mv 7 36] []) .skip)) (.seq (.seq (.region [mv 37 7,lA 38 3 5,oo 39 (.call 78 [tm 38]),oo 40 (.bin .gtr (tm 37) (tm 39)),mv 41 40,oF 42 41 (.offA 0 (tm 3)),oF 43 41 (.load 1 false (tm 42)),oF 44 41 (.bin .eql (tm 43) (Kc 4)),mF 45 44 41,oT 46 45 (.offA 3 (tm 3)),oT 47 45 (.load 1 false (tm 46)),oT 48 45 (.offA 2 (tm 5)),oT 49 45 (.load 1 false (tm 48)),oT 50 45 (.bin .gtr (tm 47) (tm 49)),oF 51 41 (.pick (tm 45) (tm 50) kF),oo 52 (.pick (tm 41) kT (tm 51))] []) (.cond (tm 52) (.seq (.region [oo 4 (.mov (Kc 1))] []) .ret) .skip)) (.seq (.region [oo 4 (.mov (Kc 0))] []) .ret))))))))
theorem MS:(Tryz.f112.body.bind (bD Tryz.prog 53 []))=some Ln:=by kernel_rfl
def Lr:aY:=(.seq (.region [⟨some 0,.alloc [S0,Z0,Z0],none,[]⟩] []) (.seq (.region [⟨some 1,.build [S0,Z0,Z0] [(0,1,(.const (.str ⟨#[112,111,114,116]⟩))),(2,1,(Kc 16))],none,[]⟩,o0 (.store 3 (tm 0) (tm 1))] []) .ret))
theorem MW:(Tryz.f118.body.bind (bD Tryz.prog 2 []))=some Lr:=by kernel_rfl
def Ls:aY:=(.seq (.region [oo 4 (.mov (Kc 0))] []) (.seq (.seq (.region [mv 6 0,ln 7 6,oo 8 (.mov (Kc 0))] []) (.block 0 (.loop (.seq (.region [oo 9 (.bin .lss (tm 8) (tm 7))] []) (.seq (.cond (tm 9) .skip (.exit 0)) (.seq (.block 1 (.seq (.region [mv 10 8,mv 5 10] []) (.seq (.region [mv 11 1,mv 12 0,mv 13 5,ix 14 3 12 13,lA 15 3 14,oo 16 (.b8 (tm 11) [tm 15])] []) (.cond (tm 16) (.seq (.region [mv 17 5,mv 4 17] []) .ret) .skip)))) (.region [oo 18 (.bin .add (tm 8) (Kc 1)),mv 8 18] []))))))) (.seq (.region [oo 4 (.mov (.const (.int .i64 (-1))))] []) .ret)))
theorem MX:(Tryz.f119.body.bind (bD Tryz.prog 19 []))=some Ls:=by kernel_rfl
def Lt:aY:=(.seq (.region [oo 2 (.box 3 (tm 0)),oo 3 (.mov kF)] []) (.seq (.region [fa 4 0 2,ld 5 4,ld 6 1,oo 7 (.bin .eql (tm 5) (tm 6)),mv 3 7] []) .ret))
theorem MY:(Tryz.f120.body.bind (bD Tryz.prog 8 []))=some Lt:=by kernel_rfl
def c75:aY:=(.seq (.region [oo 1 (.box 3 (tm 0)),oo 2 (.mov (Kc 0))] []) (.seq (.region [fa 3 2 1,ld 4 3,oo 5 (.bin .shl (Kc 1) (tm 4)),oo 6 (.bin .sub (tm 5) (Kc 1)),mv 2 6] []) .ret))
theorem l75:(Tryz.f75.body.bind (bD Tryz.prog 7 []))=some c75:=by kernel_rfl
def LB:aY:=(.seq (.region [oo 1 (.box 2 (tm 0)),oo 2 (.mov (Kc 0))] []) (.seq (.seq (.region [fa 3 0 1,ld 4 3,oo 5 (.bin .gtr (tm 4) (Kc 200)),mv 6 5,oF 7 6 (.offA 1 (tm 1)),oF 8 6 (.load 1 false (tm 7)),oF 9 6 (.bin .gtr (tm 8) (Kc 20)),oo 10 (.pick (tm 6) kT (tm 9))] []) (.cond (tm 10) (.seq (.region [oo 2 (.mov (Kc 2))] []) .ret) .skip)) (.seq (.region [oo 2 (.mov (Kc 0))] []) .ret)))
theorem Na:(Tryz.f128.body.bind (bD Tryz.prog 11 []))=some LB:=by kernel_rfl
def c94:aY:=(.seq (.region [oo 2 (.box 2 (tm 0)),oo 3 (.box 2 (tm 1)),oo 4 (.alloc [Z0,Z0])] []) (.seq (.region [fa 5 0 2,ld 6 5,fa 7 0 3,ld 8 7,oo 9 (.bin .add (tm 6) (tm 8)),fa 10 1 2,ld 11 10,fa 12 1 3,ld 13 12,oo 14 (.bin .add (tm 13) (Kc 1)),oo 15 (.maxI (tm 11) (tm 14)),oo 16 (.build [Z0,Z0] [(0,1,(tm 9)),(1,1,(tm 15))]),o0 (.store 2 (tm 4) (tm 16))] []) .ret))
theorem l94:(Tryz.f94.body.bind (bD Tryz.prog 17 []))=some c94:=by kernel_rfl
def c67:aY:=(.seq (.region [oo 1 (.box 5 (tm 0)),oo 2 (.alloc [Z0,Z0])] []) (.seq (.region [oo 5 (.build [Z0,Z0] [(0,1,(Kc 1)),(1,1,(Kc 1))]),oo 3 (.alloc [Z0,Z0]),o0 (.store 2 (tm 3) (tm 5))] []) (.seq (.seq (.region [oo 4 (.mov (Kc 0))] []) (.block 0 (.loop (.seq (.seq (.region [mv 6 4,fa 7 4 1,ld 8 7,ln 9 8,oo 10 (.bin .lss (tm 6) (tm 9))] []) (.cond (tm 10) .skip (.exit 0))) (.seq (.block 1 (.region [lA 13 2 3,fa 14 4 1,ld 15 14,mv 16 4,ix 17 5 15 16,lA 18 5 17,oo 19 (.call 67 [tm 18]),oo 20 (.call 94 [(tm 13),(tm 19)]),o0 (.store 2 (tm 3) (tm 20))] [])) (.region [mv 11 4,oo 12 (.bin .add (tm 11) (Kc 1)),mv 4 12] [])))))) (.seq (.region [lA 21 2 3,o0 (.store 2 (tm 2) (tm 21))] []) .ret))))
theorem l67:(Tryz.f67.body.bind (bD Tryz.prog 22 []))=some c67:=by kernel_rfl
def LC:aY:=(.seq (.region [oo 2 (.mov kF)] []) (.seq (.region [mv 4 0,oo 5 (.call 155 [tm 4]),mv 3 5] []) (.seq (.region [mv 6 3,mv 7 6,mF 8 0 7,⟨some 9,.bin .eql (tm 8) (.const (.str ⟨#[112,111,114,116]⟩)),some (7,false),[]⟩,oo 10 (.pick (tm 7) kT (tm 9)),mv 2 10] []) .ret)))
theorem Nb:(Tryz.f129.body.bind (bD Tryz.prog 11 []))=some LC:=by kernel_rfl
def c51:aY:=(.seq (.region [oo 2 (.box 5 (tm 0)),oo 3 (.box 5 (tm 1)),oo 4 (.mov kF)] []) (.seq (.seq (.region [fa 7 0 2,ld 8 7,fa 9 0 3,ld 10 9,oo 11 (.bin .neq (tm 8) (tm 10)),mv 12 11,oF 13 12 (.offA 1 (tm 2)),oF 14 12 (.load 1 false (tm 13)),oF 15 12 (.offA 1 (tm 3)),oF 16 12 (.load 1 false (tm 15)),oF 17 12 (.bin .neq (tm 14) (tm 16)),oo 18 (.pick (tm 12) kT (tm 17)),mv 19 18,oF 20 19 (.offA 2 (tm 2)),oF 21 19 (.load 1 false (tm 20)),oF 22 19 (.offA 2 (tm 3)),oF 23 19 (.load 1 false (tm 22)),oF 24 19 (.bin .neq (tm 21) (tm 23)),oo 25 (.pick (tm 19) kT (tm 24)),mv 26 25,oF 27 26 (.offA 3 (tm 2)),oF 28 26 (.load 1 false (tm 27)),oF 29 26 (.offA 3 (tm 3)),oF 30 26 (.load 1 false (tm 29)),oF 31 26 (.bin .neq (tm 28) (tm 30)),oo 32 (.pick (tm 26) kT (tm 31)),mv 33 32,oF 34 33 (.offA 4 (tm 2)),oF 35 33 (.load 1 false (tm 34)),oF 36 33 (.len (tm 35)),oF 37 33 (.offA 4 (tm 3)),oF 38 33 (.load 1 false (tm 37)),oF 39 33 (.len (tm 38)),oF 40 33 (.bin .neq (tm 36) (tm 39)),oo 41 (.pick (tm 33) kT (tm 40))] []) (.cond (tm 41) (.seq (.region [oo 4 (.mov kF)] []) .ret) .skip)) (.seq (.seq (.region [oo 5 (.mov (Kc 0))] []) (.block 0 (.loop (.seq (.seq (.region [mv 42 5,fa 43 4 2,ld 44 43,ln 45 44,oo 46 (.bin .lss (tm 42) (tm 45))] []) (.cond (tm 46) .skip (.exit 0))) (.seq (.block 1 (.seq (.region [fa 49 4 2,ld 50 49,mv 51 5,ix 52 5 50 51,lA 53 5 52,fa 54 4 3,ld 55 54,mv 56 5,ix 57 5 55 56,lA 58 5 57,oo 59 (.call 51 [(tm 53),(tm 58)]),mv 6 59] []) (.seq (.region [mv 60 6,oo 61 (.not (tm 60))] []) (.cond (tm 61) (.seq (.region [oo 4 (.mov kF)] []) .ret) .skip)))) (.region [mv 47 5,oo 48 (.bin .add (tm 47) (Kc 1)),mv 5 48] [])))))) (.seq (.region [oo 4 (.mov kT)] []) .ret))))
theorem l51:(Tryz.f51.body.bind (bD Tryz.prog 62 []))=some c51:=by kernel_rfl
def Ll:aY:=(.seq (.region [oo 1 (.box 5 (tm 0)),oo 2 (.mov kF)] []) (.seq (.region [fa 10 1 1,ld 11 10,oo 12 (.call 129 [tm 11]),mv 3 12] []) (.seq (.cut (.region [fa 13 2 1,ld 14 13,oo 15 (.bin .geq (tm 14) (Kc 0)),mv 16 15,oT 17 16 (.offA 2 (tm 1)),oT 18 16 (.load 1 false (tm 17)),oT 19 16 (.bin .leq (tm 18) (Kc 65535)),oo 20 (.pick (tm 16) (tm 19) kF),mv 4 20] [])) (.seq (.cut (.region [fa 21 1 1,ld 22 21,⟨some 23,.bin .eql (tm 22) (.const S0),none,[]⟩,mv 24 23,oT 25 24 (.offA 2 (tm 1)),oT 26 24 (.load 1 false (tm 25)),oT 27 24 (.bin .eql (tm 26) (Kc 0)),oo 28 (.pick (tm 24) (tm 27) kF),mv 29 28,oT 30 29 (.offA 3 (tm 1)),oT 31 29 (.load 1 false (tm 30)),oT 32 29 (.bin .eql (tm 31) (Kc 0)),oo 33 (.pick (tm 29) (tm 32) kF),mv 5 33] [])) (.seq (.region [oo 6 (.mov (Kc 0))] []) (.seq (.region [oo 7 (.mov kF)] []) (.seq (.seq (.region [fa 34 0 1,ld 35 34] []) (.cut (.block 0 (.seq (.seq (.region [oo 37 (.bin .eql (tm 35) (Kc 1)),mv 36 37] []) (.cond (tm 36) .skip (.region [oo 38 (.bin .eql (tm 35) (Kc 2)),mv 36 38] []))) (.cond (tm 36) (.region [mv 39 5,mv 7 39] []) (.seq (.region [oo 41 (.bin .eql (tm 35) (Kc 3)),mv 40 41] []) (.cond (tm 40) (.region [mv 42 3,mv 43 42,mT 44 4 43,oo 45 (.pick (tm 43) (tm 44) kF),mv 46 45,oT 47 46 (.offA 3 (tm 1)),oT 48 46 (.load 1 false (tm 47)),oT 49 46 (.bin .eql (tm 48) (Kc 0)),oo 50 (.pick (tm 46) (tm 49) kF),mv 7 50] []) (.seq (.region [oo 52 (.bin .eql (tm 35) (Kc 4)),mv 51 52] []) (.cond (tm 51) (.region [mv 53 3,mv 54 53,mT 55 4 54,oo 56 (.pick (tm 54) (tm 55) kF),mv 57 56,oT 58 57 (.offA 3 (tm 1)),oT 59 57 (.load 1 false (tm 58)),oT 60 57 (.bin .geq (tm 59) (Kc 0)),oo 61 (.pick (tm 57) (tm 60) kF),mv 62 61,oT 63 62 (.offA 3 (tm 1)),oT 64 62 (.load 1 false (tm 63)),oT 65 62 (.bin .leq (tm 64) (Kc 16)),oo 66 (.pick (tm 62) (tm 65) kF),mv 7 66] []) (.seq (.region [oo 68 (.bin .eql (tm 35) (Kc 5)),mv 67 68] []) (.cond (tm 67) (.region [mv 69 3,mv 70 69,oT 71 70 (.offA 2 (tm 1)),oT 72 70 (.load 1 false (tm 71)),oT 73 70 (.bin .geq (tm 72) (Kc 0)),oo 74 (.pick (tm 70) (tm 73) kF),mv 75 74,oT 76 75 (.offA 2 (tm 1)),oT 77 75 (.load 1 false (tm 76)),oT 78 75 (.offA 3 (tm 1)),oT 79 75 (.load 1 false (tm 78)),oT 80 75 (.bin .leq (tm 77) (tm 79)),oo 81 (.pick (tm 75) (tm 80) kF),mv 82 81,oT 83 82 (.offA 3 (tm 1)),oT 84 82 (.load 1 false (tm 83)),oT 85 82 (.bin .leq (tm 84) (Kc 65535)),oo 86 (.pick (tm 82) (tm 85) kF),mv 7 86] []) (.seq (.region [oo 88 (.bin .eql (tm 35) (Kc 6)),mv 87 88] []) (.cond (tm 87) (.seq (.region [mv 89 5,mv 7 89] []) (.region [oo 6 (.mov (Kc 1))] [])) (.seq (.seq (.region [oo 91 (.bin .eql (tm 35) (Kc 7)),mv 90 91] []) (.cond (tm 90) .skip (.region [oo 92 (.bin .eql (tm 35) (Kc 8)),mv 90 92] []))) (.cond (tm 90) (.seq (.region [mv 93 5,mv 7 93] []) (.region [oo 6 (.mov (Kc 2))] [])) (.seq (.region [oo 95 (.bin .eql (tm 35) (Kc 9)),mv 94 95] []) (.cond (tm 94) (.region [fa 96 1 1,ld 97 96,⟨some 98,.bin .eql (tm 97) (.const S0),none,[]⟩,mv 99 98,oT 100 99 (.offA 2 (tm 1)),oT 101 99 (.load 1 false (tm 100)),oT 102 99 (.bin .geq (tm 101) (Kc 0)),oo 103 (.pick (tm 99) (tm 102) kF),mv 104 103,oT 105 104 (.offA 2 (tm 1)),oT 106 104 (.load 1 false (tm 105)),oT 107 104 (.offA 3 (tm 1)),oT 108 104 (.load 1 false (tm 107)),oT 109 104 (.bin .lss (tm 106) (tm 108)),oo 110 (.pick (tm 104) (tm 109) kF),mv 111 110,oT 112 111 (.offA 3 (tm 1)),oT 113 111 (.load 1 false (tm 112)),oT 114 111 (.bin .leq (tm 113) (Kc 1073741824)),oo 115 (.pick (tm 111) (tm 114) kF),mv 7 115] []) .skip))))))))))))))))) (.seq (.seq (.region [mv 116 7,oo 117 (.not (tm 116)),mv 118 117,oF 119 118 (.offA 4 (tm 1)),oF 120 118 (.load 1 false (tm 119)),oF 121 118 (.len (tm 120)),mF 122 6 118,oF 123 118 (.bin .neq (tm 121) (tm 122)),oo 124 (.pick (tm 118) kT (tm 123))] []) (.cond (tm 124) (.seq (.region [oo 2 (.mov kF)] []) .ret) .skip)) (.seq (.seq (.region [oo 8 (.mov (Kc 0))] []) (.block 1 (.loop (.seq (.seq (.region [mv 125 8,mv 126 6,oo 127 (.bin .lss (tm 125) (tm 126))] []) (.cond (tm 127) .skip (.exit 1))) (.seq (.block 2 (.seq (.region [fa 130 4 1,ld 131 130,mv 132 8,ix 133 5 131 132,lA 134 5 133,oo 135 (.call 110 [tm 134]),mv 9 135] []) (.seq (.region [mv 136 9,oo 137 (.not (tm 136))] []) (.cond (tm 137) (.seq (.region [oo 2 (.mov kF)] []) .ret) .skip)))) (.region [mv 128 8,oo 129 (.bin .add (tm 128) (Kc 1)),mv 8 129] [])))))) (.seq (.region [oo 2 (.mov kT)] []) .ret))))))))))
theorem MQ:(Tryz.f110.body.bind (bD Tryz.prog 138 [6000002,6000003,4000000]))=some Ll:=by kernel_rfl
def LW:aY:=(.seq (.region [oo 2 (.mov kF)] []) (.seq (.region [mv 3 0,oo 4 (.call 169 [tm 3]),mv 2 4] []) .ret))
theorem Ny:(Tryz.f155.body.bind (bD Tryz.prog 5 []))=some LW:=by kernel_rfl
def L9:aY:=(.seq (.region [oo 2 (.mov kF)] []) (.seq (.seq (.region [mv 5 0,oo 6 (.lenS (tm 5)),oo 7 (.bin .eql (tm 6) (Kc 0)),mv 8 7,mF 9 0 8,oF 10 8 (.lenS (tm 9)),oF 11 8 (.bin .gtr (tm 10) (Kc 24)),oo 12 (.pick (tm 8) kT (tm 11))] []) (.cond (tm 12) (.seq (.region [oo 2 (.mov kF)] []) .ret) .skip)) (.seq (.region [mv 13 0,oo 14 (.idxS (tm 13) (Kc 0)),oo 15 (.call 197 [tm 14]),mv 3 15] []) (.seq (.region [mv 16 0,oo 17 (.call 198 [tm 16]),mv 4 17] []) (.seq (.region [mv 18 3,mv 19 18,mT 20 0 19,oT 21 19 (.call 199 [tm 20]),mT 22 0 19,oT 23 19 (.lenS (tm 22)),oT 24 19 (.bin .eql (tm 21) (tm 23)),oo 25 (.pick (tm 19) (tm 24) kF),mv 26 25,mT 27 4 26,oT 28 26 (.not (tm 27)),oo 29 (.pick (tm 26) (tm 28) kF),mv 2 29] []) .ret)))))
theorem NI:(Tryz.f169.body.bind (bD Tryz.prog 30 []))=some L9:=by kernel_rfl
def Mi:aY:=(.seq (.region [oo 2 (.mov kF)] []) (.seq (.region [mv 3 0,oo 4 (.bin .geq (tm 3) (.const (Ui 97))),mv 5 4,mT 6 0 5,oT 7 5 (.bin .leq (tm 6) (.const (Ui 122))),oo 8 (.pick (tm 5) (tm 7) kF),mv 2 8] []) .ret))
theorem NR:(Tryz.f197.body.bind (bD Tryz.prog 9 []))=some Mi:=by kernel_rfl
def Mj:aY:=(.seq (.region [oo 2 (.mov kF)] []) (.seq (.region [oo 5 (.call 213 []),mv 3 5] []) (.seq (.seq (.region [oo 4 (.mov (Kc 0))] []) (.block 0 (.loop (.seq (.seq (.region [mv 6 4,mv 7 3,ln 8 7,oo 9 (.bin .lss (tm 6) (tm 8))] []) (.cond (tm 9) .skip (.exit 0))) (.seq (.block 1 (.seq (.region [mv 12 3,mv 13 4,ix 14 1 12 13,ld 15 14,mv 16 0,oo 17 (.bin .eql (tm 15) (tm 16))] []) (.cond (tm 17) (.seq (.region [oo 2 (.mov kT)] []) .ret) .skip))) (.region [mv 10 4,oo 11 (.bin .add (tm 10) (Kc 1)),mv 4 11] [])))))) (.seq (.region [oo 2 (.mov kF)] []) .ret))))
theorem NS:(Tryz.f198.body.bind (bD Tryz.prog 18 []))=some Mj:=by kernel_rfl
def Mk:aY:=(.seq (.region [oo 2 (.mov (Kc 0))] []) (.seq (.region [oo 3 (.mov (Kc 0))] []) (.seq (.block 0 (.loop (.seq (.seq (.region [mv 5 3,mv 6 0,oo 7 (.lenS (tm 6)),oo 8 (.bin .lss (tm 5) (tm 7))] []) (.cond (tm 8) .skip (.exit 0))) (.block 1 (.seq (.region [mv 9 0,mv 10 3,oo 11 (.idxS (tm 9) (tm 10)),oo 12 (.call 214 [tm 11]),mv 4 12] []) (.seq (.seq (.region [mv 13 4,oo 14 (.not (tm 13))] []) (.cond (tm 14) (.exit 0) .skip)) (.region [mv 15 3,oo 16 (.bin .add (tm 15) (Kc 1)),mv 3 16] []))))))) (.seq (.region [mv 17 3,mv 2 17] []) .ret))))
theorem NT:(Tryz.f199.body.bind (bD Tryz.prog 18 []))=some Mk:=by kernel_rfl
def Mp:aY:=(.seq (.region [oo 0 (.mov (.const .nil))] []) (.seq (.region [⟨some 1,.buildS 9 1 49 [S0] [(0,(.const (.str ⟨#[97,110,100]⟩))),(1,(.const (.str ⟨#[97,110,121]⟩))),(2,(.const (.str ⟨#[97,116]⟩))),(3,(.const (.str ⟨#[98,97,99,107]⟩))),(4,(.const (.str ⟨#[98,111,120]⟩))),(5,(.const (.str ⟨#[98,117,114,115,116]⟩))),(6,(.const (.str ⟨#[98,121]⟩))),(7,(.const (.str ⟨#[99,97,112,97,99,105,116,121]⟩))),(8,(.const (.str ⟨#[99,101,105,108,105,110,103]⟩))),(9,(.const (.str ⟨#[99,104,101,99,107]⟩))),(10,(.const (.str ⟨#[99,111,110,116,114,97,99,116]⟩))),(11,(.const (.str ⟨#[99,111,117,110,116]⟩))),(12,(.const (.str ⟨#[100,101,109,97,110,100]⟩))),(13,(.const (.str ⟨#[100,114,111,112]⟩))),(14,(.const (.str ⟨#[101,97,99,104]⟩))),(15,(.const (.str ⟨#[101,100,103,101]⟩))),(16,(.const (.str ⟨#[101,110,116,114,105,101,115]⟩))),(17,(.const (.str ⟨#[102,97,108,115,101]⟩))),(18,(.const (.str ⟨#[102,105,101,108,100]⟩))),(19,(.const (.str ⟨#[102,108,111,111,114]⟩))),(20,(.const (.str ⟨#[102,114,111,109]⟩))),(21,(.const (.str ⟨#[105,100]⟩))),(22,(.const (.str ⟨#[105,110]⟩))),(23,(.const (.str ⟨#[105,110,110,101,114]⟩))),(24,(.const (.str ⟨#[105,110,116,111]⟩))),(25,(.const (.str ⟨#[108,105,110,107]⟩))),(26,(.const (.str ⟨#[110,101,116,119,111,114,107]⟩))),(27,(.const (.str ⟨#[110,111,100,101]⟩))),(28,(.const (.str ⟨#[110,111,116]⟩))),(29,(.const (.str ⟨#[111,112,101,110]⟩))),(30,(.const (.str ⟨#[111,114]⟩))),(31,(.const (.str ⟨#[112,97,116,104]⟩))),(32,(.const (.str ⟨#[112,111,114,116]⟩))),(33,(.const (.str ⟨#[112,114,105,99,101]⟩))),(34,(.const (.str ⟨#[114,111,117,116,101]⟩))),(35,(.const (.str ⟨#[114,117,108,101,115]⟩))),(36,(.const (.str ⟨#[115,116,97,103,101]⟩))),(37,(.const (.str ⟨#[116,97,107,101]⟩))),(38,(.const (.str ⟨#[116,101,110,97,110,116]⟩))),(39,(.const (.str ⟨#[116,104,101,110]⟩))),(40,(.const (.str ⟨#[116,105,109,101]⟩))),(41,(.const (.str ⟨#[116,111]⟩))),(42,(.const (.str ⟨#[116,111,107,101,110]⟩))),(43,(.const (.str ⟨#[116,114,97,110,115,108,97,116,101]⟩))),(44,(.const (.str ⟨#[116,114,117,101]⟩))),(45,(.const (.str ⟨#[118,105,97]⟩))),(46,(.const (.str ⟨#[119,105,100,116,104]⟩))),(47,(.const (.str ⟨#[119,105,114,101]⟩))),(48,(.const (.str ⟨#[119,105,116,104,105,110]⟩)))],none,[]⟩,mv 0 1] []) .ret))
theorem NY:(Tryz.f213.body.bind (bD Tryz.prog 2 []))=some Mp:=by kernel_rfl
def Mq:aY:=(.seq (.region [oo 2 (.mov kF)] []) (.seq (.region [mv 5 0,oo 6 (.call 197 [tm 5]),mv 3 6] []) (.seq (.region [mv 7 0,oo 8 (.call 217 [tm 7]),mv 4 8] []) (.seq (.region [mv 9 3,mv 10 9,mF 11 4 10,oo 12 (.pick (tm 10) kT (tm 11)),mv 13 12,mF 14 0 13,oF 15 13 (.bin .eql (tm 14) (.const (Ui 95))),oo 16 (.pick (tm 13) kT (tm 15)),mv 2 16] []) .ret))))
theorem NZ:(Tryz.f214.body.bind (bD Tryz.prog 17 []))=some Mq:=by kernel_rfl
def Mr:aY:=(.seq (.region [oo 2 (.mov kF)] []) (.seq (.region [mv 3 0,oo 4 (.bin .geq (tm 3) (.const (Ui 48))),mv 5 4,mT 6 0 5,oT 7 5 (.bin .leq (tm 6) (.const (Ui 57))),oo 8 (.pick (tm 5) (tm 7) kF),mv 2 8] []) .ret))
theorem N0:(Tryz.f217.body.bind (bD Tryz.prog 9 []))=some Mr:=by kernel_rfl
end Go.MM
end
section
namespace Go.MM
open Go Go.DL
def wordsG:List ByteArray:=[⟨#[97,110,100]⟩,⟨#[97,110,121]⟩,⟨#[97,116]⟩,⟨#[98,97,99,107]⟩,⟨#[98,111,120]⟩,⟨#[98,117,114,115,116]⟩,⟨#[98,121]⟩,⟨#[99,97,112,97,99,105,116,121]⟩,⟨#[99,101,105,108,105,110,103]⟩,⟨#[99,104,101,99,107]⟩,⟨#[99,111,110,116,114,97,99,116]⟩,⟨#[99,111,117,110,116]⟩,⟨#[100,101,109,97,110,100]⟩,⟨#[100,114,111,112]⟩,⟨#[101,97,99,104]⟩,⟨#[101,100,103,101]⟩,⟨#[101,110,116,114,105,101,115]⟩,⟨#[102,97,108,115,101]⟩,⟨#[102,105,101,108,100]⟩,⟨#[102,108,111,111,114]⟩,⟨#[102,114,111,109]⟩,⟨#[105,100]⟩,⟨#[105,110]⟩,⟨#[105,110,110,101,114]⟩,⟨#[105,110,116,111]⟩,⟨#[108,105,110,107]⟩,⟨#[110,101,116,119,111,114,107]⟩,⟨#[110,111,100,101]⟩,⟨#[110,111,116]⟩,⟨#[111,112,101,110]⟩,⟨#[111,114]⟩,⟨#[112,97,116,104]⟩,⟨#[112,111,114,116]⟩,⟨#[112,114,105,99,101]⟩,⟨#[114,111,117,116,101]⟩,⟨#[114,117,108,101,115]⟩,⟨#[115,116,97,103,101]⟩,⟨#[116,97,107,101]⟩,⟨#[116,101,110,97,110,116]⟩,⟨#[116,104,101,110]⟩,⟨#[116,105,109,101]⟩,⟨#[116,111]⟩,⟨#[116,111,107,101,110]⟩,⟨#[116,114,97,110,115,108,97,116,101]⟩,⟨#[116,114,117,101]⟩,⟨#[118,105,97]⟩,⟨#[119,105,100,116,104]⟩,⟨#[119,105,114,101]⟩,⟨#[119,105,116,104,105,110]⟩]
instance : Glb := ⟨fun g => match g with | 0 => some (wordsG.map .str) | _ => none⟩
end Go.MM
end
section
namespace Go.MM
open Go Go.DL Go.Proofs
theorem mixed:Tryz.prog.follows .mixedOrders=true:=by kernel_rfl
abbrev I (n:Int):T:=.int .i64 n
end Go.MM
end
section
namespace Go.MM
open Go Go.DL Go.Proofs
end Go.MM
end
section
namespace Go.MM
open Go Go.DL Go.Proofs
end Go.MM
end
section
namespace Go.MM
open Go Go.DL Go.Proofs
theorem Gx {n:Nat} (h:n<2^63):IntKind.wrap .i64 (n:Int)=n:=mG (by omega) (by omega)
end Go.MM
end
section
namespace Go.MM
open Go Go.DL Go.Proofs
structure Fd where
 name:ByteArray
 a:Nat
 w:Nat
deriving Inhabited
def fd (f:Fd):T:=.agg [.str f.name,I f.a,I f.w]
structure FOk (f:Fd):Prop where
 a:f.a<160
 w1:1≤f.w
 w2:f.a % 16+f.w≤16
theorem t87 (n:Nat) (hn:n≤60):DCalls Tryz.prog 122 [I n] (I (2^n:Nat)):=by
 refine qO (rs:=[.tmp 2]) mixed Tryz.func122 M0 rfl rfl rfl (r:=[I (2^n:Nat)]) (nlZ rfl) ?_
 refine rq (α:=Nat) (fun i=>{sl:=[(0,.t (I n)),(3,.t (I (2^i:Nat))),(4,.t (I i))],bx:=[]}) (fun i=>i≤n) (fun i=>n - i) 0 (by simp) ?_ ?_
 ·exact ⟨⟨.same _,.same _,.same _,trivial⟩,trivial,trivial,rfl,fun _ _ _=>trivial,rfl⟩
 rintro i hi
 refine rV trivial (fun hq=>?_) (fun hq=>?_)
 ·have h1:i<n:=by simpa using hq
  refine ⟨i+1,h1,by omega,?_⟩
  have h2:(2:Nat)^(i+1)≤2^60:=Nat.pow_le_pow_right (by decide) (by omega)
  refine ⟨⟨.same _,leI ?_,leI (by rw [mG] <;> omega),trivial⟩,trivial,trivial,rfl,fun _ _ _=>trivial,rfl⟩
  have e:((2^i:Nat):Int) * 2=((2^(i+1):Nat):Int):=by rw [Nat.pow_succ];push_cast;rfl
  rw [e,Gx (by omega)]
 ·have h1:i=n:=by simp at hq;omega
  subst h1
  exact ⟨rfl,trivial⟩
theorem Gs {w:Nat} (h:w≤16):2^w≤65536:=Nat.pow_le_pow_right (by decide) h
theorem t66 (f:Fd) (h:FOk f):DCalls Tryz.prog 78 [fd f] (I (2^f.w - 1:Nat)):=by
 refine qO (rs:=[.tmp 2]) mixed Tryz.func78 l78 rfl rfl rfl (r:=[I (2^f.w - 1:Nat)]) (nlZ rfl) ?_
 have hw:f.w≤16:=by have:=h.w2;omega
 have hp:=Nat.two_pow_pos f.w
 refine And.intro rfl ?_
 refine sr (I f.w) (by decide) rfl ?_
 refine rE _ (t87 f.w (by omega)) ?_
 exact ⟨congrArg (fun n=>some (I n)) (by have:=Gs hw;rw [mG] <;> omega),trivial⟩
theorem t97 (f:Fd) (h:FOk f):DCalls Tryz.prog 75 [fd f] (I (2^f.w - 1:Nat)):=by
 refine qO (rs:=[.tmp 2]) mixed Tryz.func75 l75 rfl rfl rfl (r:=[I (2^f.w - 1:Nat)]) (nlZ rfl) ?_
 have hw:f.w≤16:=by have:=h.w2;omega
 have hp:=Nat.two_pow_pos f.w
 have:=Gs hw
 refine And.intro rfl ?_
 refine sr (I f.w) (by decide) rfl ?_
 refine And.intro (by omega) ?_
 refine ⟨congrArg (fun n=>some (I n)) ?_,trivial⟩
 have e:(1:Int) * 2^(min (f.w:Int).toNat (IntKind.bits .i64))=((2^f.w:Nat):Int):=by
  have:min (f.w:Int).toNat (IntKind.bits .i64)=f.w:=by show min _ 64=_;simp;omega
  rw [this];push_cast;rw [Int.one_mul]
 rw [e,Gx (by omega),mG] <;> omega
end Go.MM
end
section
namespace Go.MM
open Go Go.DL Go.Proofs
end Go.MM
end
section
namespace Go.MM
open Go Go.DL Go.Proofs
def tg:ByteArray:=⟨#[112,111,114,116]⟩
def yN:Fd:=⟨tg,0,16⟩
def AH:Fd:=⟨⟨#[]⟩,0,0⟩
def sB (a b:ByteArray):Bool:=a.data.toList==b.data.toList
theorem sH (a b:ByteArray):(a.toList==b.toList)=sB a b:=by unfold sB;rw [ByteArray.toList_eq,ByteArray.toList_eq]
def fds (l:List Fd):T:=.slice 3 (l.map fd)
def findF (l:List Fd) (s:ByteArray):Option Fd:=if sB s tg then some yN else l.find? fun f=>sB f.name s
def va (l:List Fd) (s:ByteArray):T:=match findF l s with
 |some f=>.tup [fd f,.bool true]
 |none=>.tup [fd AH,.bool false]
theorem t94:DCalls Tryz.prog 118 [] (fd yN):=by
 refine qO (rs:=[.cell 0 88]) mixed Tryz.func118 MW rfl rfl rfl (r:=[fd yN]) (nlZ rfl) ?_
 refine And.intro trivial ?_
 refine And.intro ⟨rfl,by decide⟩ ?_
 exact ⟨rfl,trivial⟩
theorem t83:DCalls Tryz.prog 121 [] (fd yN):=by
 refine qO (rs:=[.cell 0 88]) mixed Tryz.func121 MZ rfl rfl rfl (r:=[fd yN]) (nlZ rfl) ?_
 refine And.intro trivial ?_
 refine And.intro ⟨rfl,by decide⟩ ?_
 exact ⟨rfl,trivial⟩
theorem t96 (f:Fd) (s:ByteArray):DCalls Tryz.prog 120 [fd f,.cptr [.str s] 0] (.bool (sB f.name s)):=by
 refine qO (rs:=[.tmp 3]) mixed Tryz.func120 MY rfl rfl rfl (r:=[.bool (sB f.name s)]) (nlZ rfl) ?_
 refine And.intro rfl ?_
 refine sr (.str f.name) (by decide) rfl ?_
 refine sr (.str s) (Nat.lt_succ_self 0) rfl ?_
 refine rW (sB f.name s) trivial (sH _ _) ?_
 exact ⟨rfl,trivial⟩
def vj (l:List Fd) (s:ByteArray):Int:=match l.findIdx? fun f=>sB f.name s with
 |some i=>i
 |none=> -1
theorem t95 (l:List Fd) (s:ByteArray) (hl:l.length<2^60):DCalls Tryz.prog 119 [fds l,.clos 120 [.cptr [.str s] 0]] (I (vj l s)):=by
 refine qO (rs:=[.tmp 4]) mixed Tryz.func119 MX rfl rfl rfl (r:=[I (vj l s)]) (nlZ rfl) ?_
 refine rq (α:=Nat) (fun i=>{sl:=[(0,.t (fds l)),(1,.t (.clos 120 [.cptr [.str s] 0])),(7,.t (I l.length)),(8,.t (I i))],bx:=[]}) (fun i=>i≤l.length∧ ∀j (h:j<l.length),j<i→sB l[j].name s=false) (fun i=>l.length - i) 0 (by simp) ?_ ?_
 ·exact ⟨⟨.same _,.same _,leI (by simp),.same _,trivial⟩,trivial,trivial,rfl,fun _ _ _=>trivial,rfl⟩
 rintro i ⟨hi,hp⟩
 refine rV trivial (fun hq=>?_) (fun hq=>?_)
 ·have h1:i<l.length:=by simpa using hq
  refine sr (fd l[i]) (by simpa using h1) (by simp [h1]) ?_
  refine sr (fd l[i]) rfl rfl ?_
  refine rE _ (t96 l[i] s) ?_
  cases hm:sB l[i].name s with
  |true=>
   have:vj l s=i:=by
    unfold vj
    rw [List.findIdx?_eq_some_iff_getElem.2 ⟨h1,hm,fun j hj=>by simp [hp j (by omega) hj]⟩]
   exact ⟨congrArg (fun n=>some (I n)) this.symm,trivial⟩
  |false=>
   refine ⟨i+1,⟨h1,fun j hj hlt=>?_⟩,by omega,?_⟩
   ·rcases Nat.lt_or_ge j i with h4|h4
    ·exact hp j hj h4
    ·obtain rfl:j=i:=by omega
     exact hm
   ·exact ⟨⟨.same _,.same _,.same _,leI (by rw [mG] <;> omega),trivial⟩,trivial,trivial,rfl,fun _ _ _=>trivial,rfl⟩
 ·have hge:l.length≤i:=by simpa using hq
  have:vj l s= -1:=by
   unfold vj
   rw [List.findIdx?_eq_none_iff.2 fun f hf=>by
    obtain ⟨j,hj,rfl⟩:=List.mem_iff_getElem.1 hf
    exact hp j hj (by omega)]
  exact ⟨congrArg (fun n=>some (I n)) this.symm,trivial⟩
theorem AQ (l:List Fd) (s:ByteArray):(vj l s= -1∧l.find? (fun f=>sB f.name s)=none)∨ ∃(i:Nat) (h:i<l.length),vj l s=i∧l.find? (fun f=>sB f.name s)=some l[i]:=by
 unfold vj
 cases hf:l.findIdx? fun f=>sB f.name s with
 |none=>exact .inl ⟨rfl,by rw [List.find?_eq_none];intro f hm;simpa using List.findIdx?_eq_none_iff.1 hf f hm⟩
 |some i=>
  obtain ⟨h1,h2,h3⟩:=List.findIdx?_eq_some_iff_getElem.1 hf
  refine .inr ⟨i,h1,rfl,?_⟩
  rw [List.find?_eq_some_iff_getElem]
  exact ⟨h2,i,h1,rfl,fun j hj=>by simpa using h3 j hj⟩
theorem t74 (l:List Fd) (s:ByteArray) (hl:l.length<2^60):DCalls Tryz.prog 74 [fds l,.str s] (va l s):=by
 unfold va findF
 have go: ∀(f:Fd) (b:Bool),wpC Tryz.prog c74 (eU [fds l,.str s]) (nW (dF Tryz.prog) [.cell 4 88,.tmp 5] [fd f,.bool b])→DCalls Tryz.prog 74 [fds l,.str s] (.tup [fd f,.bool b]):=fun f b h=>
  qO (rs:=[.cell 4 88,.tmp 5]) mixed Tryz.func74 l74 rfl rfl rfl (r:=[fd f,.bool b]) (nlZ rfl) h
 by_cases hp:sB s tg=true
 ·rw [if_pos hp]
  refine go _ _ ?_
  refine And.intro trivial ?_
  refine sr (.str s) (by decide) rfl ?_
  refine rE _ t94 ?_
  refine sr (.str tg) (by decide) rfl ?_
  refine rW true trivial ((sH _ _).trans hp) ?_
  refine rE _ t94 ?_
  refine And.intro ⟨rfl,by decide⟩ ?_
  exact ⟨rfl,rfl,trivial⟩
 ·rw [if_neg hp]
  have hp:sB s tg=false:=by simpa using hp
  have pre: ∀(f:Fd) (b:Bool),(∃ i,vj l s=i∧(i= -1∧f=AH∧b=false∨ ∃(k:Nat) (h:k<l.length),i=k∧f=l[k]∧b=true))→wpC Tryz.prog c74 (eU [fds l,.str s]) (nW (dF Tryz.prog) [.cell 4 88,.tmp 5] [fd f,.bool b]):=fun f b ⟨i,hi,h⟩=>by
   refine And.intro trivial ?_
   refine sr (.str s) (by decide) rfl ?_
   refine rE _ t94 ?_
   refine sr (.str tg) (by decide) rfl ?_
   refine rW false trivial ((sH _ _).trans hp) ?_
   refine ⟨I i,hi▸t95 l s hl,rfl,?_⟩
   rcases h with ⟨rfl,rfl,rfl⟩|⟨k,hk,rfl,rfl,rfl⟩
   ·refine rW true trivial (by decide) ?_
    refine And.intro trivial ?_
    refine And.intro ⟨rfl,by decide⟩ ?_
    exact ⟨rfl,rfl,trivial⟩
   ·refine rW false trivial (by simp) ?_
    refine sr (fd l[k]) (by simpa using hk) (by simp [hk]) ?_
    refine sr (fd l[k]) rfl rfl ?_
    refine And.intro ⟨rfl,by decide⟩ ?_
    exact ⟨rfl,rfl,trivial⟩
  rcases AQ l s with ⟨h1,h2⟩|⟨k,hk,h1,h2⟩
  ·rw [h2]
   exact go _ _ (pre _ _ ⟨-1,h1,.inl ⟨rfl,rfl,rfl⟩⟩)
  ·rw [h2]
   exact go _ _ (pre _ _ ⟨k,h1,.inr ⟨k,hk,rfl,rfl,rfl⟩⟩)
theorem t51 (l:List Fd) (s:ByteArray) (hl:l.length<2^60):DCalls Tryz.prog 77 [fds l,.str s] (va l s):=by
 unfold va findF
 have go: ∀(f:Fd) (b:Bool),wpC Tryz.prog c77 (eU [fds l,.str s]) (nW (dF Tryz.prog) [.cell 4 88,.tmp 5] [fd f,.bool b])→DCalls Tryz.prog 77 [fds l,.str s] (.tup [fd f,.bool b]):=fun f b h=>
  qO (rs:=[.cell 4 88,.tmp 5]) mixed Tryz.func77 l77 rfl rfl rfl (r:=[fd f,.bool b]) (nlZ rfl) h
 by_cases hp:sB s tg=true
 ·rw [if_pos hp]
  refine go _ _ ?_
  refine rW true trivial ((sH _ _).trans hp) ?_
  refine rE _ t83 ?_
  refine And.intro ⟨rfl,by decide⟩ ?_
  exact ⟨rfl,rfl,trivial⟩
 ·rw [if_neg hp]
  have hp:sB s tg=false:=by simpa using hp
  have pre: ∀(f:Fd) (b:Bool),(∃ i,vj l s=i∧(i= -1∧f=AH∧b=false∨ ∃(k:Nat) (h:k<l.length),i=k∧f=l[k]∧b=true))→wpC Tryz.prog c77 (eU [fds l,.str s]) (nW (dF Tryz.prog) [.cell 4 88,.tmp 5] [fd f,.bool b]):=fun f b ⟨i,hi,h⟩=>by
   refine rW false trivial ((sH _ _).trans hp) ?_
   refine rq (α:=Nat) (fun i=>{sl:=[(0,.t (fds l)),(1,.t (.str s)),(4,.ptr 4 0),(6,.t (I i))],bx:=[(4,.d 3 [.str ⟨#[]⟩,I 0,I 0])]}) (fun i=>i≤l.length∧ ∀j (h:j<l.length),j<i→sB l[j].name s=false) (fun i=>l.length - i) 0 (by simp) ?_ ?_
   ·exact ⟨⟨.same _,.same _,.same _,.same _,trivial⟩,⟨.same _,trivial⟩,trivial,rfl,fun _ _ _=>trivial,rfl⟩
   rintro j ⟨hj,hpj⟩
   refine rV trivial (fun hq=>?_) (fun hq=>?_)
   ·have h1:j<l.length:=by simpa using hq
    refine sr (fd l[j]) (by simpa using h1) (by simp [h1]) ?_
    refine sr (.str l[j].name) (show 0+0<3 by decide) rfl ?_
    cases hm:sB l[j].name s with
    |true=>
     refine rW true trivial ((sH _ _).trans hm) ?_
     refine sr (fd l[j]) (by simpa using h1) (by simp [h1]) ?_
     refine sr (fd l[j]) rfl rfl ?_
     refine And.intro ⟨rfl,by decide⟩ ?_
     have e:vj l s=j:=by
      unfold vj
      rw [List.findIdx?_eq_some_iff_getElem.2 ⟨h1,hm,fun j' hj'=>by simp [hpj j' (by omega) hj']⟩]
     rcases h with ⟨rfl,rfl,rfl⟩|⟨k,hk,rfl,rfl,rfl⟩
     ·omega
     ·obtain rfl:k=j:=by omega
      exact ⟨rfl,rfl,trivial⟩
    |false=>
     refine rW false trivial ((sH _ _).trans hm) ?_
     refine ⟨j+1,⟨h1,fun j' hj' hlt=>?_⟩,by omega,?_⟩
     ·rcases Nat.lt_or_ge j' j with h4|h4
      ·exact hpj j' hj' h4
      ·obtain rfl:j'=j:=by omega
       exact hm
     ·exact ⟨⟨.same _,.same _,.same _,leI (by rw [mG] <;> omega),trivial⟩,⟨.same _,trivial⟩,trivial,rfl,fun _ _ _=>trivial,rfl⟩
   ·have hge:l.length≤j:=by simpa using hq
    have e:vj l s= -1:=by
     unfold vj
     rw [List.findIdx?_eq_none_iff.2 fun f hf=>by
      obtain ⟨j',hj',rfl⟩:=List.mem_iff_getElem.1 hf
      exact hpj j' hj' (by omega)]
    rcases h with ⟨rfl,rfl,rfl⟩|⟨k,hk,rfl,rfl,rfl⟩
    ·refine And.intro trivial ?_
     refine And.intro ⟨rfl,by decide⟩ ?_
     exact ⟨rfl,rfl,trivial⟩
    ·omega
  rcases AQ l s with ⟨h1,h2⟩|⟨k,hk,h1,h2⟩
  ·rw [h2]
   exact go _ _ (pre _ _ ⟨-1,h1,.inl ⟨rfl,rfl,rfl⟩⟩)
  ·rw [h2]
   exact go _ _ (pre _ _ ⟨k,h1,.inr ⟨k,hk,rfl,rfl,rfl⟩⟩)
end Go.MM
end
section
namespace Go.MM
open Go Go.DL Go.Proofs
abbrev nm0:T:=.str ⟨#[]⟩
def fld (l:List Fd) (f:ByteArray):Fd:=(findF l f).getD AH
structure LOk (l:List Fd):Prop where
 len:l.length<2^60
 ok: ∀f∈l,FOk f
theorem Ht {l:List Fd} {f:ByteArray} {F:Fd} (h:findF l f=some F):fld l f=F:=by unfold fld;rw [h];rfl
theorem H0:FOk yN:=⟨by decide,by decide,by decide⟩
theorem LOk.find {l:List Fd} (h:LOk l) {s:ByteArray} {f:Fd} (hf:findF l s=some f):FOk f:=by
 unfold findF at hf
 split at hf
 ·cases hf;exact H0
 ·exact h.ok f (List.mem_of_find?_eq_some hf)
end Go.MM
end
section
namespace Go.MM
open Go Go.DL Go.Proofs
end Go.MM
end
section
namespace Go.MM
open Go Go.DL Go.Proofs
inductive RP where
 |mk (kind:Int) (field:ByteArray) (n m:Int) (args:List RP)
namespace RP
def kind:RP→Int|.mk k _ _ _ _=>k
def field:RP→ByteArray|.mk _ f _ _ _=>f
def n:RP→Int|.mk _ _ n _ _=>n
def m:RP→Int|.mk _ _ _ m _=>m
def args:RP→List RP|.mk _ _ _ _ a=>a
end RP
mutual
def sU:RP→T
 |.mk k f n m a=>.agg [I k,.str f,I n,I m,.slice 5 (Cz a)]
def Cz:List RP→List T
 |[]=>[]
 |r::rs=>sU r::Cz rs
end
theorem AL: ∀l:List RP,Cz l=l.map sU
 |[]=>rfl
 |r::rs=>congrArg (sU r:: ·) (AL rs)
def sC:RP→List T
 |.mk k f n m a=>[I k,.str f,I n,I m,.slice 5 (a.map sU)]
theorem sI (r:RP):sU r= .agg (sC r):=by
 cases r;simp only [sU,sC,AL]
theorem sK (r:RP):(sC r).length=5:=by cases r;rfl
inductive RO where
 |mk (kind:Int) (pred:RP) (field:ByteArray) (n:Int) (args:List RO)
namespace RO
def kind:RO→Int|.mk k _ _ _ _=>k
def pred:RO→RP|.mk _ p _ _ _=>p
def field:RO→ByteArray|.mk _ _ f _ _=>f
def n:RO→Int|.mk _ _ _ n _=>n
def args:RO→List RO|.mk _ _ _ _ a=>a
end RO
mutual
def tc:RO→T
 |.mk k p f n a=>.agg (I k::(sC p++[.str f,I n,.slice 9 (CA a)]))
def CA:List RO→List T
 |[]=>[]
 |r::rs=>tc r::CA rs
end
theorem AM: ∀l:List RO,CA l=l.map tc
 |[]=>rfl
 |r::rs=>congrArg (tc r:: ·) (AM rs)
def sA:RO→List T
 |.mk k p f n a=>I k::(sC p++[.str f,I n,.slice 9 (a.map tc)])
theorem sM (r:RO):tc r= .agg (sA r):=by
 cases r;simp only [tc,sA,AM]
theorem sF (r:RO):(sA r).length=9:=by cases r;simp [sA,sK]
mutual
def RP.nodes:RP→Nat
 |.mk _ _ _ _ a=>1+sS a
def sS:List RP→Nat
 |[]=>0
 |r::rs=>r.nodes+sS rs
end
mutual
def RP.depth:RP→Nat
 |.mk _ _ _ _ a=>1+tO a
def tO:List RP→Nat
 |[]=>0
 |r::rs=>max r.depth (tO rs)
end
mutual
theorem RP.vO: ∀r:RP,r.depth≤r.nodes
 |.mk _ _ _ _ a=>by have:=wJ a;simp only [RP.depth,RP.nodes];omega
theorem wJ: ∀l:List RP,tO l≤sS l
 |[]=>Nat.le_refl _
 |r::rs=>by have:=RP.vO r;have:=wJ rs;simp only [tO,sS];omega
end
theorem tM: ∀{l:List RP} {j:Nat} (h:j<l.length),sS (l.take (j+1))=sS (l.take j)+l[j].nodes
 |r::rs,0,h=>by simp [sS]
 |r::rs,j+1,h=>by
  have:=tM (l:=rs) (j:=j) (by simpa using h)
  simp only [List.take_succ_cons,sS,List.getElem_cons_succ]
  omega
theorem wW: ∀{l:List RP} {j:Nat} (h:j<l.length),tO (l.take (j+1))=max (tO (l.take j)) l[j].depth
 |r::rs,0,h=>by simp [tO]
 |r::rs,j+1,h=>by
  have:=wW (l:=rs) (j:=j) (by simpa using h)
  simp only [List.take_succ_cons,tO,List.getElem_cons_succ]
  omega
theorem tL: ∀{l:List RP} {j:Nat},sS (l.take j)≤sS l
 |[],j=>by simp
 |r::rs,0=>by simp [sS]
 |r::rs,j+1=>by
  have:=tL (l:=rs) (j:=j)
  simp only [List.take_succ_cons,sS]
  omega
theorem RP.uq (r:RP):1≤r.nodes:=by cases r;simp only [RP.nodes];omega
theorem ue: ∀l:List RP,l.length≤sS l
 |[]=>Nat.le_refl _
 |r::rs=>by have:=ue rs;have:=r.uq;simp only [sS,List.length_cons];omega
def sz (n d:Nat):T:=.agg [I n,I d]
theorem t102 (a b c d:Nat) (h1:a+c<2^62) (_:b<2^62) (h3:d<2^62):DCalls Tryz.prog 94 [sz a b,sz c d] (sz (a+c) (max b (d+1))):=by
 refine qO (rs:=[.cell 4 51]) mixed Tryz.func94 l94 rfl rfl rfl (r:=[sz (a+c) (max b (d+1))]) (nlZ rfl) ?_
 repeat' ((conv=>whnf);first|refine nT_ ?_|refine aS ?_|fail)
 refine And.intro (congrArg some ?_) trivial
 simp (disch:=omega) only [mG,aN,List.take,List.drop,List.nil_append,List.cons_append]
 unfold sz I
 have e:(if (d:Int)+1>(b:Int) then (d:Int)+1 else (b:Int))=((max b (d+1):Nat):Int):=by split <;> omega
 rw [e,Int.natCast_add]
theorem t103 (N:Nat): ∀r:RP,r.nodes≤N→N<2^60→DCalls Tryz.prog 67 [.agg (sC r)] (sz r.nodes r.depth):=by
 induction N with
 |zero=>intro r h;have:=r.uq;omega
 |succ N ih=>
  rintro ⟨k,f,n,m,l⟩ hr hN
  refine qO (rs:=[.cell 2 51]) mixed Tryz.func67 l67 rfl rfl rfl (r:=[sz _ _]) (nlZ rfl) ?_
  simp only [RP.nodes,RP.depth] at hr ⊢
  repeat' ((conv=>whnf);first|refine aS ?_|fail)
  refine rq (α:=Nat) (fun i=>{sl:=[(1,.ptr 1 0),(2,.ptr 2 0),(3,.ptr 3 0),(4,.t (I i))],bx:=[(1,.d 5 (sC (.mk k f n m l))),(2,.d 2 [I 0,I 0]),(3,.d 2 [I (1+sS (l.take i):Nat),I (1+tO (l.take i):Nat)])]})
   (fun i=>i≤l.length) (fun i=>l.length - i) 0 (by omega) ?_ ?_
  ·repeat' (first|exact trivial|exact LeV.same _|exact LeB.same _|exact rfl|exact fun _ _ _=>trivial|refine And.intro ?_ ?_)
  rintro i hi
  rcases Nat.lt_or_ge i l.length with h|h
  ·have hn:=tM h
   have hd:=wW h
   have hm:=tL (l:=l) (j:=i+1)
   have hp:=l[i].uq
   have hl:=ue l
   have hdn:=l[i].vO
   have hd1:=wJ (l.take i)
   repeat' ((conv=>whnf);first|(refine nv_ (.agg (sC l[i])) (by first|(simp [h,sI];done)|fail) ?_)|refine rE _ (ih l[i] (by omega) (by omega)) ?_|refine rE _ (t102 _ _ _ _ (by omega) (by omega) (by omega)) ?_|refine nT_ ?_|refine aD1 ?_|(refine And.intro (by first|exact sK _|fail) ?_)|refine aS ?_|fail)
   refine ⟨i+1,by omega,by omega,?_⟩
   repeat' (first|exact trivial|exact LeV.same _|exact LeB.same _|exact rfl|exact fun _ _ _=>trivial|exact lI|refine su ?_|refine And.intro ?_ ?_)
   rw [hn,hd,show 1+(sS (l.take i)+l[i].nodes)=1+sS (l.take i)+l[i].nodes by omega,show 1+max (tO (l.take i)) l[i].depth=max (1+tO (l.take i)) (l[i].depth+1) by omega]
   rfl
  ·have:i=l.length:=by omega
   subst this
   rw [List.take_length]
   repeat' ((conv=>whnf);first|exact trivial|refine nT_ ?_|refine aD0 ?_|refine aS ?_|fail)
end Go.MM
end
section
namespace Go.MM
open Go Go.DL Go.Proofs
def xd:List ByteArray:=[⟨#[97,110,100]⟩,
 ⟨#[97,110,121]⟩,
 ⟨#[97,116]⟩,
 ⟨#[98,97,99,107]⟩,
 ⟨#[98,111,120]⟩,
 ⟨#[98,117,114,115,116]⟩,
 ⟨#[98,121]⟩,
 ⟨#[99,97,112,97,99,105,116,121]⟩,
 ⟨#[99,101,105,108,105,110,103]⟩,
 ⟨#[99,104,101,99,107]⟩,
 ⟨#[99,111,110,116,114,97,99,116]⟩,
 ⟨#[99,111,117,110,116]⟩,
 ⟨#[100,101,109,97,110,100]⟩,
 ⟨#[100,114,111,112]⟩,
 ⟨#[101,97,99,104]⟩,
 ⟨#[101,100,103,101]⟩,
 ⟨#[101,110,116,114,105,101,115]⟩,
 ⟨#[102,97,108,115,101]⟩,
 ⟨#[102,105,101,108,100]⟩,
 ⟨#[102,108,111,111,114]⟩,
 ⟨#[102,114,111,109]⟩,
 ⟨#[105,100]⟩,
 ⟨#[105,110]⟩,
 ⟨#[105,110,110,101,114]⟩,
 ⟨#[105,110,116,111]⟩,
 ⟨#[108,105,110,107]⟩,
 ⟨#[110,101,116,119,111,114,107]⟩,
 ⟨#[110,111,100,101]⟩,
 ⟨#[110,111,116]⟩,
 ⟨#[111,112,101,110]⟩,
 ⟨#[111,114]⟩,
 ⟨#[112,97,116,104]⟩,
 ⟨#[112,111,114,116]⟩,
 ⟨#[112,114,105,99,101]⟩,
 ⟨#[114,111,117,116,101]⟩,
 ⟨#[114,117,108,101,115]⟩,
 ⟨#[115,116,97,103,101]⟩,
 ⟨#[116,97,107,101]⟩,
 ⟨#[116,101,110,97,110,116]⟩,
 ⟨#[116,104,101,110]⟩,
 ⟨#[116,105,109,101]⟩,
 ⟨#[116,111]⟩,
 ⟨#[116,111,107,101,110]⟩,
 ⟨#[116,114,97,110,115,108,97,116,101]⟩,
 ⟨#[116,114,117,101]⟩,
 ⟨#[118,105,97]⟩,
 ⟨#[119,105,100,116,104]⟩,
 ⟨#[119,105,114,101]⟩,
 ⟨#[119,105,116,104,105,110]⟩]
def tX (c:Int):Bool:=decide (97≤c)&&decide (c≤122)
def uN (c:Int):Bool:=decide (48≤c)&&decide (c≤57)
def ve (c:Int):Bool:=tX c||uN c||c==95
def tK (s:ByteArray) (i:Nat):Int:=((s.toList[i]?.getD 0).toNat:Int)
abbrev U (n:Int):T:=.int .u8 n
theorem t110 (c:Int):DCalls Tryz.prog 197 [U c] (.bool (tX c)):=by
 refine qO (rs:=[.tmp 2]) mixed Tryz.func197 NR rfl rfl rfl (r:=[.bool _]) (nlZ rfl) ?_
 unfold tX
 repeat' ((conv=>whnf);first|exact trivial|refine nD_ (fun hq=>?_) (fun hq=>?_)|refine rb1 ?_|refine rb0 ?_|refine aS ?_|fail)
theorem t115 (c:Int):DCalls Tryz.prog 217 [U c] (.bool (uN c)):=by
 refine qO (rs:=[.tmp 2]) mixed Tryz.func217 N0 rfl rfl rfl (r:=[.bool _]) (nlZ rfl) ?_
 unfold uN
 repeat' ((conv=>whnf);first|exact trivial|refine nD_ (fun hq=>?_) (fun hq=>?_)|refine rb1 ?_|refine rb0 ?_|refine aS ?_|fail)
theorem t114 (c:Int):DCalls Tryz.prog 214 [U c] (.bool (ve c)):=by
 refine qO (rs:=[.tmp 2]) mixed Tryz.func214 NZ rfl rfl rfl (r:=[.bool _]) (nlZ rfl) ?_
 unfold ve
 have h1:=t110 c
 have h2:=t115 c
 generalize tX c=a at *
 generalize uN c=b at *
 cases a <;> cases b
 all_goals repeat' ((conv=>whnf);first|exact trivial|refine rE _ (h1) ?_|refine rE _ (h2) ?_|refine nE_ (fun hq=>?_) (fun hq=>?_)|refine rb1 ?_|refine rb0 ?_|refine aS ?_|fail)
theorem t113:DCalls Tryz.prog 213 [] (.slice 1 (xd.map .str)):=by
 refine qO (rs:=[.tmp 0]) mixed Tryz.func213 NY rfl rfl rfl (r:=[.slice 1 (xd.map .str)]) (nlZ rfl) ?_
 repeat' ((conv=>whnf);first|exact trivial|refine aS ?_|fail)
def vQ (s:ByteArray):Bool:=xd.any fun w=>sB w s
theorem t111 (s:ByteArray):DCalls Tryz.prog 198 [.str s] (.bool (vQ s)):=by
 refine qO (rs:=[.tmp 2]) mixed Tryz.func198 NS rfl rfl rfl (r:=[.bool _]) (nlZ rfl) ?_
 unfold vQ
 have hw:xd.length=49:=rfl
 have h0:=t113
 generalize xd=ws at *
 repeat' ((conv=>whnf);first|refine rE _ (h0) ?_|fail)
 refine rq (α:=Nat) (fun i=>{sl:=[(0,.t (.str s)),(3,.t (.slice 1 (ws.map .str))),(4,.t (I i))],bx:=[]})
  (fun i=>i≤ws.length∧ ∀j (h:j<ws.length),j<i→sB ws[j] s=false) (fun i=>ws.length - i) 0 (by simp) ?_ ?_
 ·repeat' (first|exact trivial|exact LeV.same _|exact rfl|exact fun _ _ _=>trivial|refine And.intro ?_ ?_)
 rintro i ⟨hi,hp⟩
 rcases Nat.lt_or_ge i ws.length with h|h
 ·cases hb:sB ws[i] s with
  |true=>
   have e:(ws.any fun w=>sB w s)=true:=List.any_eq_true.2 ⟨_,List.getElem_mem h,hb⟩
   rw [e]
   repeat' ((conv=>whnf);first|exact trivial|(refine nv_ (.str ws[i]) (by first|(simp [h];done)|fail) ?_)|refine nb_ true ((sH _ _).trans hb) ?_|refine nT_ ?_|refine aD1 ?_|refine rb1 ?_|refine aS ?_|fail)
  |false=>
   repeat' ((conv=>whnf);first|(refine nv_ (.str ws[i]) (by first|(simp [h];done)|fail) ?_)|refine nb_ false ((sH _ _).trans hb) ?_|refine nT_ ?_|refine aD1 ?_|refine aS ?_|fail)
   refine ⟨i+1,⟨h,fun j hj hlt=>?_⟩,by omega,?_⟩
   ·rcases Nat.lt_or_ge j i with h4|h4
    ·exact hp j hj h4
    ·obtain rfl:j=i:=by omega
     exact hb
   ·repeat' (first|exact trivial|exact LeV.same _|exact rfl|exact fun _ _ _=>trivial|exact lI|refine And.intro ?_ ?_)
 ·have e:(ws.any fun w=>sB w s)=false:=by
   rw [List.any_eq_false]
   intro w hw
   obtain ⟨j,hj,rfl⟩:=List.getElem_of_mem hw
   simp [hp j hj (by omega)]
  rw [e]
  repeat' ((conv=>whnf);first|exact trivial|refine aD0 ?_|refine rb0 ?_|refine aS ?_|fail)
def uj:List UInt8→Nat
 |[]=>0
 |b::bs=>if ve (b.toNat:Int) then 1+uj bs else 0
theorem wD: ∀{l:List UInt8} {n:Nat},n≤l.length→(∀ j,j<n→ve ((l[j]?.getD 0).toNat:Int)=true)→(n=l.length∨ve ((l[n]?.getD 0).toNat:Int)=false)→uj l=n
 |[],n,hn,_,_=>by simp at hn;simp [uj,hn]
 |b::bs,0,hn,_,h=>by
  rcases h with h|h
  ·simp at h
  ·simp at h;simp [uj,h]
 |b::bs,n+1,hn,hp,h=>by
  have h0:=hp 0 (by omega)
  simp at h0
  have:=wD (l:=bs) (n:=n) (by simpa using hn) (fun j hj=>by simpa using hp (j+1) (by omega)) (by simpa using h)
  simp [uj,h0,this];omega
theorem u9 (s:ByteArray):s.toList.length=s.size:=by rw [ByteArray.toList_eq];rfl
theorem t112 (s:ByteArray) (hs:s.size<2^62):DCalls Tryz.prog 199 [.str s] (I (uj s.toList)):=by
 refine qO (rs:=[.tmp 2]) mixed Tryz.func199 NT rfl rfl rfl (r:=[.int _ _]) (nlZ rfl) ?_
 have hl:=u9 s
 skip
 refine rq (α:=Nat) (fun i=>{sl:=[(0,.t (.str s)),(3,.t (I i))],bx:=[]})
  (fun i=>i≤s.size∧ ∀j,j<i→ve (tK s j)=true) (fun i=>s.size - i) 0 (by simp) ?_ ?_
 ·repeat' (first|exact trivial|exact LeV.same _|exact rfl|exact fun _ _ _=>trivial|refine And.intro ?_ ?_)
 rintro i ⟨hi,hp⟩
 rcases Nat.lt_or_ge i s.size with h|h
 ·have h0:=t114 (tK s i)
  cases hb:ve (tK s i) with
  |true=>
   rw [hb] at h0
   repeat' ((conv=>whnf);first|refine rE _ (h0) ?_|refine nT_ ?_|refine aD1 ?_|refine aS ?_|fail)
   refine ⟨i+1,⟨h,fun j hj=>?_⟩,by omega,?_⟩
   ·rcases Nat.lt_or_ge j i with h4|h4
    ·exact hp j h4
    ·obtain rfl:j=i:=by omega
     exact hb
   ·repeat' (first|exact trivial|exact LeV.same _|exact rfl|exact fun _ _ _=>trivial|exact lI|refine And.intro ?_ ?_)
  |false=>
   rw [hb] at h0
   have e:uj s.toList=i:=wD (by omega) hp (.inr hb)
   rw [e]
   repeat' ((conv=>whnf);first|exact trivial|refine rE _ (h0) ?_|refine nT_ ?_|refine aD1 ?_|refine rix ?_|refine aS ?_|fail)
 ·have e:uj s.toList=i:=wD (by omega) hp (.inl (by omega))
  rw [e]
  repeat' ((conv=>whnf);first|exact trivial|refine aD0 ?_|refine rix ?_|refine aS ?_|fail)
def uI (s:ByteArray):Bool:=decide (0<s.size)&&decide (s.size≤24)&&tX (tK s 0)&&(uj s.toList==s.size)&& !vQ s
theorem t109 (s:ByteArray) (hs:s.size<2^62):DCalls Tryz.prog 169 [.str s] (.bool (uI s)):=by
 refine qO (rs:=[.tmp 2]) mixed Tryz.func169 NI rfl rfl rfl (r:=[.bool _]) (nlZ rfl) ?_
 unfold uI
 have h1:=t110 (tK s 0)
 have h2:=t111 s
 have h3:=t112 s hs
 generalize tX (tK s 0)=a at *
 generalize vQ s=w at *
 generalize uj s.toList=n at *
 by_cases hz:s.size=0
 ·simp [hz]
  repeat' ((conv=>whnf);first|exact trivial|refine aE1 ?_|refine rb0 ?_|refine aS ?_|fail)
 ·by_cases h24:s.size≤24
  ·simp [h24,show 0<s.size by omega]
   cases a <;> cases w <;> repeat' ((conv=>whnf);first|exact trivial|refine rE _ (h1) ?_|refine rE _ (h2) ?_|refine rE _ (h3) ?_|refine nT_ ?_|refine aE0 ?_|refine aD0 ?_|refine nE_ (fun hq=>?_) (fun hq=>?_)|refine rb1 ?_|refine rb0 ?_|refine aS ?_|fail)
  ·simp [h24]
   repeat' ((conv=>whnf);first|exact trivial|refine aE0 ?_|refine aD1 ?_|refine rb0 ?_|refine aS ?_|fail)
theorem t108 (s:ByteArray) (hs:s.size<2^62):DCalls Tryz.prog 155 [.str s] (.bool (uI s)):=by
 refine qO (rs:=[.tmp 2]) mixed Tryz.func155 Ny rfl rfl rfl (r:=[.bool _]) (nlZ rfl) ?_
 have h1:=t109 s hs
 repeat' ((conv=>whnf);first|exact trivial|refine rE _ (h1) ?_|refine rbx ?_|fail)
def s4 (s:ByteArray):Bool:=uI s||sB s tg
theorem t104 (s:ByteArray) (hs:s.size<2^62):DCalls Tryz.prog 129 [.str s] (.bool (s4 s)):=by
 refine qO (rs:=[.tmp 2]) mixed Tryz.func129 Nb rfl rfl rfl (r:=[.bool _]) (nlZ rfl) ?_
 have h1:=t108 s hs
 unfold s4
 have h2:=sH s tg
 generalize uI s=a at *
 generalize sB s tg=b at *
 cases a <;> cases b <;> repeat' ((conv=>whnf);first|exact trivial|refine rE _ (h1) ?_|refine nb_ _ h2 ?_|refine rb1 ?_|refine rb0 ?_|refine aS ?_|fail)
end Go.MM
end
section
namespace Go.MM
open Go Go.DL Go.Proofs
abbrev e0:ByteArray:=⟨#[]⟩
def uy:RP→Bool
 |.mk k f n m a=>(k==0)&&sB f e0&&(n==0)&&(m==0)&&(a.length==0)
theorem t105 (r:RP):DCalls Tryz.prog 51 [.agg (sC r),.agg [I 0,.str e0,I 0,I 0,.nil]] (.bool (uy r)):=by
 obtain ⟨k,f,n,m,l⟩:=r
 refine qO (rs:=[.tmp 4]) mixed Tryz.func51 l51 rfl rfl rfl (r:=[.bool _]) (nlZ rfl) ?_
 simp only [uy]
 have h2:=sH f e0
 generalize sB f e0=b at *
 cases l <;> repeat' ((conv=>whnf);first|exact trivial|refine nb_ (!b) (congrArg _ h2) ?_|refine nT_ ?_|refine aN1 ?_|refine aN0 ?_|refine nN_ (fun hq=>?_) (fun hq=>?_)|refine rb0 ?_|refine aS ?_|(cases b)|fail)
 refine rq (α:=Unit) (fun _=>{sl:=[(2,.ptr 2 0),(3,.ptr 3 0),(5,.t (I 0))],bx:=[(2,.d 5 (sC (.mk k f n m []))),(3,.d 5 [I 0,.str e0,I 0,I 0,.nil])]}) (fun _=>True) (fun _=>0) () trivial ?_ ?_
 ·repeat' (first|exact trivial|exact LeV.same _|exact LeB.same _|exact rfl|exact fun _ _ _=>trivial|refine And.intro ?_ ?_)
 rintro _ _
 repeat' ((conv=>whnf);first|exact trivial|refine nT_ ?_|refine aD0 ?_|refine rb1 ?_|refine aS ?_|fail)
def tY (n:Int):Bool:=decide (0≤n)&&decide (n≤65535)
def vD (f:ByteArray) (n m:Int):Bool:=sB f e0&&(n==0)&&(m==0)
def xS (k:Int):Nat:=if k=6 then 1 else if k=7∨k=8 then 2 else 0
def okP (k:Int) (f:ByteArray) (n m:Int):Bool:=
 if k=1∨k=2 then vD f n m
 else if k=3 then s4 f&&tY n&&(m==0)
 else if k=4 then s4 f&&tY n&&decide (0≤m)&&decide (m≤16)
 else if k=5 then s4 f&&decide (0≤n)&&decide (n≤m)&&decide (m≤65535)
 else if k=6∨k=7∨k=8 then vD f n m
 else if k=9 then sB f e0&&decide (0≤n)&&decide (n<m)&&decide (m≤1073741824)
 else false
mutual
def sW:RP→Bool
 |.mk k f n m a=>okP k f n m&&(a.length==xS k)&&tE a
def tE:List RP→Bool
 |[]=>true
 |r::rs=>sW r&&tE rs
end
theorem wZ: ∀{l:List RP},tE l=true↔ ∀(i:Nat) (h:i<l.length),sW l[i]=true
 |[]=>by simp [tE]
 |r::rs=>by
  simp only [tE,Bool.and_eq_true,wZ (l:=rs)]
  constructor
  ·rintro ⟨h0,h⟩ i hi
   cases i with
   |zero=>exact h0
   |succ i=>simpa using h i (by simpa using hi)
  ·intro h
   exact ⟨h 0 (by simp),fun i hi=>h (i+1) (by simpa using hi)⟩
mutual
def vC:RP→Prop
 |.mk _ f _ _ a=>f.size<2^62∧xH a
def xH:List RP→Prop
 |[]=>True
 |r::rs=>vC r∧xH rs
end
theorem xw: ∀{l:List RP},xH l→ ∀(i:Nat) (h:i<l.length),vC l[i]
 |[],_,i,h=>by simp at h
 |r::rs,h,i,hi=>by
  cases i with
  |zero=>exact h.1
  |succ i=>simpa using xw h.2 i (by simpa using hi)
theorem t106 (N:Nat): ∀r:RP,r.nodes≤N→N<2^60→vC r→DCalls Tryz.prog 110 [.agg (sC r)] (.bool (sW r)):=by
 induction N with
 |zero=>intro r h;have:=r.uq;omega
 |succ N ih=>
  rintro ⟨k,f,n,m,l⟩ hr hN hnm
  refine qO (rs:=[.tmp 2]) mixed Tryz.func110 MQ rfl rfl rfl (r:=[.bool _]) (nlZ rfl) ?_
  simp only [RP.nodes,sW] at hr ⊢
  have h104:=t104 f hnm.1
  repeat' ((conv=>whnf);first|refine rE _ (h104) ?_|refine nT_ ?_|refine aS ?_|fail)
  refine rA (β:=Unit) (fun _=>{sl:=[(1,.ptr 1 0),(3,.t (.bool (s4 f))),(4,.t (.bool (tY n)))],bx:=[(1,.d 5 (sC (.mk k f n m l)))]}) (fun _=>True) ?_ ?_
  ·repeat' ((conv=>whnf);first|refine nT_ ?_|refine nD_ (fun hq=>?_) (fun hq=>?_)|refine aS ?_|fail)
   all_goals refine ⟨(),trivial,?_⟩
   all_goals unfold tY
   all_goals repeat' (first|exact trivial|exact LeV.same _|exact LeB.same _|exact rfl|exact fun _ _ _=>trivial|exact lB|refine And.intro ?_ ?_)
  rintro _ _
  skip
  refine rA (β:=Unit) (fun _=>{sl:=[(1,.ptr 1 0),(3,.t (.bool (s4 f))),(4,.t (.bool (tY n))),(5,.t (.bool (vD f n m)))],bx:=[(1,.d 5 (sC (.mk k f n m l)))]}) (fun _=>True) ?_ ?_
  ·unfold vD
   have h2:=sH f e0
   generalize sB f e0=b at *
   repeat' ((conv=>whnf);first|refine nb_ b h2 ?_|(exact ⟨(),trivial,by (repeat' (first|exact trivial|exact LeV.same _|exact LeB.same _|exact rfl|exact fun _ _ _=>trivial|exact lB|refine And.intro ?_ ?_));done⟩)|refine nT_ ?_|refine nE_ (fun hq=>?_) (fun hq=>?_)|refine aS ?_|(cases b)|fail)
  rintro _ _
  repeat' ((conv=>whnf);first|refine nT_ ?_|refine aS ?_|fail)
  refine rA (β:=Unit) (fun _=>{sl:=[(1,.ptr 1 0),(6,.t (I (xS k))),(7,.t (.bool (okP k f n m)))],bx:=[(1,.d 5 (sC (.mk k f n m l)))]}) (fun _=>True) ?_ ?_
  ·have h2:=sH f e0
   unfold okP xS
   generalize s4 f=a at *
   generalize tY n=b at *
   generalize vD f n m=c at *
   generalize sB f e0=d at *
   repeat' ((conv=>whnf);first|refine nb_ d h2 ?_|(exact ⟨(),trivial,by (repeat' (first|exact trivial|exact LeV.same _|exact LeB.same _|exact rfl|exact fun _ _ _=>trivial|exact lI|exact lB|refine And.intro ?_ ?_));done⟩)|refine nT_ ?_|refine nE_ (fun hq=>?_) (fun hq=>?_)|refine nD_ (fun hq=>?_) (fun hq=>?_)|refine aS ?_|(cases a)|(cases b)|(cases d)|fail)
  rintro _ _
  generalize okP k f n m=ok at *
  cases ok with
  |false=>repeat' ((conv=>whnf);first|exact trivial|refine rb0 ?_|fail)
  |true=>
  by_cases hlen:l.length=xS k
  ·have e:(true&&(l.length==xS k)&&tE l)=tE l:=by simp [hlen]
   rw [e, ←hlen]
   have hnp:=ue l
   repeat' ((conv=>whnf);first|refine nT_ ?_|refine aN0 ?_|refine aS ?_|fail)
   refine rq (α:=Nat) (fun i=>{sl:=[(1,.ptr 1 0),(6,.t (I l.length)),(8,.t (I i))],bx:=[(1,.d 5 (sC (.mk k f n m l)))]})
    (fun i=>i≤l.length∧ ∀j (h:j<l.length),j<i→sW l[j]=true) (fun i=>l.length - i) 0 (by simp) ?_ ?_
   ·repeat' (first|exact trivial|exact LeV.same _|exact LeB.same _|exact rfl|exact fun _ _ _=>trivial|refine And.intro ?_ ?_)
   rintro i ⟨hi,hp⟩
   rcases Nat.lt_or_ge i l.length with h|h
   ·have hn:=tM h
    have hm:=tL (l:=l) (j:=i+1)
    have hc:=ih l[i] (by omega) (by omega) (xw hnm.2 i h)
    cases hb:sW l[i] with
    |true=>
     rw [hb] at hc
     repeat' ((conv=>whnf);first|(refine nv_ (.agg (sC l[i])) (by first|(simp [h,sI];done)|fail) ?_)|refine rE _ (hc) ?_|refine nT_ ?_|refine aD1 ?_|(refine And.intro (by first|exact sK _|fail) ?_)|refine aS ?_|fail)
     refine ⟨i+1,⟨h,fun j hj hlt=>?_⟩,by omega,?_⟩
     ·rcases Nat.lt_or_ge j i with h4|h4
      ·exact hp j hj h4
      ·obtain rfl:j=i:=by omega
       exact hb
     ·repeat' (first|exact trivial|exact LeV.same _|exact LeB.same _|exact rfl|exact fun _ _ _=>trivial|exact lI|refine And.intro ?_ ?_)
    |false=>
     rw [hb] at hc
     have e2:tE l=false:=by
      cases hx:tE l with
      |false=>rfl
      |true=>rw [wZ.1 hx i h] at hb;cases hb
     rw [e2]
     repeat' ((conv=>whnf);first|exact trivial|(refine nv_ (.agg (sC l[i])) (by first|(simp [h,sI];done)|fail) ?_)|refine rE _ (hc) ?_|refine nT_ ?_|refine aD1 ?_|refine rb0 ?_|(refine And.intro (by first|exact sK _|fail) ?_)|refine aS ?_|fail)
   ·have e2:tE l=true:=wZ.2 fun j hj=>hp j hj (by omega)
    rw [e2]
    repeat' ((conv=>whnf);first|exact trivial|refine aD0 ?_|refine rb1 ?_|refine aS ?_|fail)
  ·have e:(true&&(l.length==xS k)&&tE l)=false:=by simp [hlen]
   rw [e]
   repeat' ((conv=>whnf);first|exact trivial|refine nT_ ?_|refine aN1 ?_|refine rb0 ?_|refine aS ?_|fail)
end Go.MM
end
section
namespace Go.MM
open Go Go.DL Go.Proofs
mutual
def RO.wt:RO→Nat
 |.mk _ p _ _ a=>1+p.nodes+tA a
def tA:List RO→Nat
 |[]=>0
 |r::rs=>r.wt+tA rs
end
mutual
def RO.size:RO→Nat
 |.mk k p _ _ a=>1+(if k=1 then p.nodes else 0)+tH a
def tH:List RO→Nat
 |[]=>0
 |r::rs=>r.size+tH rs
end
mutual
def RO.deep:RO→Nat
 |.mk k p _ _ a=>1+max (if k=1 then p.depth else 0) (tG a)
def tG:List RO→Nat
 |[]=>0
 |r::rs=>max r.deep (tG rs)
end
mutual
theorem RO.size_le: ∀r:RO,r.size≤r.wt
 |.mk k p _ _ a=>by have:=uA a;simp only [RO.size,RO.wt];split <;> omega
theorem uA: ∀l:List RO,tH l≤tA l
 |[]=>Nat.le_refl _
 |r::rs=>by have:=RO.size_le r;have:=uA rs;simp only [tH,tA];omega
end
mutual
theorem RO.yH: ∀r:RO,r.deep≤r.wt
 |.mk k p _ _ a=>by have:=vk a;have:=p.vO;simp only [RO.deep,RO.wt];split <;> omega
theorem vk: ∀l:List RO,tG l≤tA l
 |[]=>Nat.le_refl _
 |r::rs=>by have:=RO.yH r;have:=vk rs;simp only [tG,tA];omega
end
theorem ux: ∀{l:List RO} {j:Nat} (h:j<l.length),tA (l.take (j+1))=tA (l.take j)+l[j].wt
 |r::rs,0,h=>by simp [tA]
 |r::rs,j+1,h=>by
  have:=ux (l:=rs) (j:=j) (by simpa using h)
  simp only [List.take_succ_cons,tA,List.getElem_cons_succ]
  omega
theorem wq: ∀{l:List RO} {j:Nat} (h:j<l.length),tH (l.take (j+1))=tH (l.take j)+l[j].size
 |r::rs,0,h=>by simp [tH]
 |r::rs,j+1,h=>by
  have:=wq (l:=rs) (j:=j) (by simpa using h)
  simp only [List.take_succ_cons,tH,List.getElem_cons_succ]
  omega
theorem vW: ∀{l:List RO} {j:Nat} (h:j<l.length),tG (l.take (j+1))=max (tG (l.take j)) l[j].deep
 |r::rs,0,h=>by simp [tG]
 |r::rs,j+1,h=>by
  have:=vW (l:=rs) (j:=j) (by simpa using h)
  simp only [List.take_succ_cons,tG,List.getElem_cons_succ]
  omega
theorem uf: ∀{l:List RO} {j:Nat},tA (l.take j)≤tA l
 |[],j=>by simp
 |r::rs,0=>by simp [tA]
 |r::rs,j+1=>by
  have:=uf (l:=rs) (j:=j)
  simp only [List.take_succ_cons,tA]
  omega
theorem RO.wH (r:RO):1≤r.wt:=by cases r;simp only [RO.wt];omega
theorem uS: ∀l:List RO,l.length≤tA l
 |[]=>Nat.le_refl _
 |r::rs=>by have:=uS rs;have:=r.wH;simp only [tA,List.length_cons];omega
theorem two {a b c d:Nat} (h1:a=c) (h2:b=d):[I (a:Int),I (b:Int)]=[I (c:Int),I (d:Int)]:=by rw [h1,h2]
theorem t89 (N:Nat): ∀r:RO,r.wt≤N→N<2^60→DCalls Tryz.prog 34 [.agg (sA r)] (sz r.size r.deep):=by
 induction N with
 |zero=>intro r h;have:=r.wH;omega
 |succ N ih=>
  rintro ⟨k,⟨pk,pf,pn,pm,pa⟩,f,n,l⟩ hr hN
  refine qO (rs:=[.cell 2 51]) mixed Tryz.func34 l34 rfl rfl rfl (r:=[sz _ _]) (nlZ rfl) ?_
  simp only [RO.size,RO.deep,RO.wt] at hr ⊢
  have h103:=t103 _ (.mk pk pf pn pm pa) (Nat.le_refl _) (by omega)
  have hpd:=(RP.mk pk pf pn pm pa).vO
  have hlen:=uS l
  by_cases hk:k=1
  ·simp only [hk,if_true]
   repeat' ((conv=>whnf);first|refine rE _ (h103) ?_|refine rE _ (t102 1 1 _ _ (by omega) (by omega) (by omega)) ?_|refine nT_ ?_|refine aE1 ?_|refine aS ?_|fail)
   refine rq (α:=Nat) (fun i=>{sl:=[(1,.ptr 1 0),(2,.ptr 2 0),(3,.ptr 3 0),(4,.t (I i))],bx:=[(1,.d 9 (sA (.mk 1 (.mk pk pf pn pm pa) f n l))),(2,.d 2 [I 0,I 0]),(3,.d 2 [I (1+(RP.mk pk pf pn pm pa).nodes+tH (l.take i):Nat),I (1+max (RP.mk pk pf pn pm pa).depth (tG (l.take i)):Nat)])]})
    (fun i=>i≤l.length) (fun i=>l.length - i) 0 (by omega) ?_ ?_
   ·repeat' (first|exact trivial|exact LeV.same _|exact LeB.same _|exact rfl|exact fun _ _ _=>trivial|refine su ?_|refine And.intro ?_ ?_)
    all_goals exact two (by simp [tH]) (by simp [tG];try omega)
   rintro i hi
   rcases Nat.lt_or_ge i l.length with h|h
   ·have hn:=wq h
    have hd:=vW h
    have hw:=ux h
    have hm:=uf (l:=l) (j:=i+1)
    have hp:=l[i].wH
    have h1:=l[i].size_le
    have h2:=l[i].yH
    have h3:=vk (l.take i)
    have h4:=uA (l.take i)
    repeat' ((conv=>whnf);first|(refine nv_ (.agg (sA l[i])) (by first|(simp [h,sM];done)|fail) ?_)|refine rE _ (ih l[i] (by omega) (by omega)) ?_|refine rE _ (t102 _ _ _ _ (by omega) (by omega) (by omega)) ?_|refine nT_ ?_|refine aD1 ?_|(refine And.intro (by first|exact sF _|fail) ?_)|refine aS ?_|fail)
    refine ⟨i+1,by omega,by omega,?_⟩
    repeat' (first|exact trivial|exact LeV.same _|exact LeB.same _|exact rfl|exact fun _ _ _=>trivial|exact lI|refine su ?_|refine And.intro ?_ ?_)
    exact two (by omega) (by omega)
   ·have:i=l.length:=by omega
    subst this
    rw [List.take_length]
    repeat' ((conv=>whnf);first|exact trivial|refine nT_ ?_|refine aD0 ?_|refine aS ?_|fail)
  ·simp only [hk,if_false]
   repeat' ((conv=>whnf);first|refine nT_ ?_|refine aE0 ?_|refine aS ?_|fail)
   refine rq (α:=Nat) (fun i=>{sl:=[(1,.ptr 1 0),(2,.ptr 2 0),(3,.ptr 3 0),(4,.t (I i))],bx:=[(1,.d 9 (sA (.mk k (.mk pk pf pn pm pa) f n l))),(2,.d 2 [I 0,I 0]),(3,.d 2 [I (1+0+tH (l.take i):Nat),I (1+max 0 (tG (l.take i)):Nat)])]})
    (fun i=>i≤l.length) (fun i=>l.length - i) 0 (by omega) ?_ ?_
   ·repeat' (first|exact trivial|exact LeV.same _|exact LeB.same _|exact rfl|exact fun _ _ _=>trivial|refine And.intro ?_ ?_)
    all_goals exact two (by simp [tH]) (by simp [tG];try omega)
   rintro i hi
   rcases Nat.lt_or_ge i l.length with h|h
   ·have hn:=wq h
    have hd:=vW h
    have hw:=ux h
    have hm:=uf (l:=l) (j:=i+1)
    have hp:=l[i].wH
    have h1:=l[i].size_le
    have h2:=l[i].yH
    have h3:=vk (l.take i)
    have h4:=uA (l.take i)
    repeat' ((conv=>whnf);first|(refine nv_ (.agg (sA l[i])) (by first|(simp [h,sM];done)|fail) ?_)|refine rE _ (ih l[i] (by omega) (by omega)) ?_|refine rE _ (t102 _ _ _ _ (by omega) (by omega) (by omega)) ?_|refine nT_ ?_|refine aD1 ?_|(refine And.intro (by first|exact sF _|fail) ?_)|refine aS ?_|fail)
    refine ⟨i+1,by omega,by omega,?_⟩
    repeat' (first|exact trivial|exact LeV.same _|exact LeB.same _|exact rfl|exact fun _ _ _=>trivial|exact lI|refine su ?_|refine And.intro ?_ ?_)
    exact two (by omega) (by omega)
   ·have:i=l.length:=by omega
    subst this
    rw [List.take_length]
    repeat' ((conv=>whnf);first|exact trivial|refine nT_ ?_|refine aD0 ?_|refine aS ?_|fail)
def w9 (n d:Nat):Int:=if n≤200∧d≤20 then 0 else 2
theorem t101 (n d:Nat):DCalls Tryz.prog 128 [sz n d] (I (w9 n d)):=by
 refine qO (rs:=[.tmp 2]) mixed Tryz.func128 Na rfl rfl rfl (r:=[.int _ _]) (nlZ rfl) ?_
 unfold w9
 by_cases h1:n≤200
 ·by_cases h2:d≤20
  ·rw [if_pos ⟨h1,h2⟩];repeat' ((conv=>whnf);first|exact trivial|refine nT_ ?_|refine aD0 ?_|refine rix ?_|refine aS ?_|fail)
  ·rw [if_neg (by omega)];repeat' ((conv=>whnf);first|exact trivial|refine nT_ ?_|refine aD1 ?_|refine aD0 ?_|refine rix ?_|refine aS ?_|fail)
 ·rw [if_neg (by omega)];repeat' ((conv=>whnf);first|exact trivial|refine nT_ ?_|refine aD1 ?_|refine rix ?_|refine aS ?_|fail)
def xi (e:Int) (b:Bool):Int:=if e=0 then (if b then 0 else 1) else e
theorem t88 (n d:Nat) (b:Bool):DCalls Tryz.prog 84 [sz n d,.bool b] (I (xi (w9 n d) b)):=by
 refine qO (rs:=[.tmp 4]) mixed Tryz.func84 l84 rfl rfl rfl (r:=[.int _ _]) (nlZ rfl) ?_
 have h:=t101 n d
 generalize w9 n d=e at *
 unfold xi
 by_cases h0:e=0
 ·subst h0
  cases b <;> repeat' ((conv=>whnf);first|exact trivial|refine rE _ (h) ?_|refine aE1 ?_|refine rix ?_|refine aS ?_|fail)
 ·rw [if_neg h0]
  repeat' ((conv=>whnf);first|exact trivial|refine rE _ (h) ?_|refine aE0 ?_|refine rix ?_|refine aS ?_|fail)
def wI (k:Int):Nat:=if k=3∨k=4 then 2 else if k=5 then 1 else 0
def wc (f:ByteArray) (n:Int):Bool:=sB f e0&&(n==0)
def okO (k:Int) (p:RP) (f:ByteArray) (n:Int):Bool:=
 if k=1 then sW p&&wc f n
 else if k=2 then s4 f&&uy p&&decide (0≤n)&&decide (n≤65535)
 else if k=3∨k=4∨k=5 then uy p&&wc f n
 else false
mutual
def sY:RO→Bool
 |.mk k p f n a=>okO k p f n&&(a.length==wI k)&&tw a
def tw:List RO→Bool
 |[]=>true
 |r::rs=>sY r&&tw rs
end
theorem wY: ∀{l:List RO},tw l=true↔ ∀(i:Nat) (h:i<l.length),sY l[i]=true
 |[]=>by simp [tw]
 |r::rs=>by
  simp only [tw,Bool.and_eq_true,wY (l:=rs)]
  constructor
  ·rintro ⟨h0,h⟩ i hi
   cases i with
   |zero=>exact h0
   |succ i=>simpa using h i (by simpa using hi)
  ·intro h
   exact ⟨h 0 (by simp),fun i hi=>h (i+1) (by simpa using hi)⟩
mutual
def uP:RO→Prop
 |.mk _ p f _ a=>vC p∧f.size<2^62∧xG a
def xG:List RO→Prop
 |[]=>True
 |r::rs=>uP r∧xG rs
end
theorem xv: ∀{l:List RO},xG l→ ∀(i:Nat) (h:i<l.length),uP l[i]
 |[],_,i,h=>by simp at h
 |r::rs,h,i,hi=>by
  cases i with
  |zero=>exact h.1
  |succ i=>simpa using xv h.2 i (by simpa using hi)
theorem t90 (N:Nat): ∀r:RO,r.wt≤N→N<2^60→uP r→DCalls Tryz.prog 85 [.agg (sA r)] (.bool (sY r)):=by
 induction N with
 |zero=>intro r h;have:=r.wH;omega
 |succ N ih=>
  rintro ⟨k,⟨pk,pf,pn,pm,pa⟩,f,n,l⟩ hr hN ⟨hn1,hn2,hn3⟩
  refine qO (rs:=[.tmp 2]) mixed Tryz.func85 l85 rfl rfl rfl (r:=[.bool _]) (nlZ rfl) ?_
  simp only [RO.wt,sY] at hr ⊢
  have h104:=t104 f hn2
  have h105:=t105 (.mk pk pf pn pm pa)
  have h106:=t106 _ (.mk pk pf pn pm pa) (Nat.le_refl _) (by omega) hn1
  repeat' ((conv=>whnf);first|refine rE _ (h104) ?_|refine rE _ (h105) ?_|refine nT_ ?_|refine aS ?_|fail)
  refine rA (β:=Unit) (fun _=>{sl:=[(1,.ptr 1 0),(3,.t (.bool (s4 f))),(4,.t (.bool (uy (.mk pk pf pn pm pa)))),(5,.t (.bool (wc f n)))],bx:=[(1,.d 9 (sA (.mk k (.mk pk pf pn pm pa) f n l)))]}) (fun _=>True) ?_ ?_
  ·unfold wc
   have h2:=sH f e0
   generalize sB f e0=b at *
   repeat' ((conv=>whnf);first|refine nb_ b h2 ?_|(exact ⟨(),trivial,by (repeat' (first|exact trivial|exact LeV.same _|exact LeB.same _|exact rfl|exact fun _ _ _=>trivial|exact lB|refine And.intro ?_ ?_));done⟩)|refine nT_ ?_|refine nE_ (fun hq=>?_) (fun hq=>?_)|refine aS ?_|(cases b)|fail)
  rintro _ _
  repeat' ((conv=>whnf);first|refine nT_ ?_|refine aS ?_|fail)
  refine rA (β:=Unit) (fun _=>{sl:=[(1,.ptr 1 0),(6,.t (I (wI k))),(7,.t (.bool (okO k (.mk pk pf pn pm pa) f n)))],bx:=[(1,.d 9 (sA (.mk k (.mk pk pf pn pm pa) f n l)))]}) (fun _=>True) ?_ ?_
  ·unfold okO wI
   generalize s4 f=a at *
   generalize sW (.mk pk pf pn pm pa)=b at *
   generalize wc f n=c at *
   generalize uy (.mk pk pf pn pm pa)=d at *
   repeat' ((conv=>whnf);first|refine rE _ (h106) ?_|(exact ⟨(),trivial,by (repeat' (first|exact trivial|exact LeV.same _|exact LeB.same _|exact rfl|exact fun _ _ _=>trivial|exact lI|exact lB|refine And.intro ?_ ?_));done⟩)|refine nT_ ?_|refine nE_ (fun hq=>?_) (fun hq=>?_)|refine nD_ (fun hq=>?_) (fun hq=>?_)|refine aS ?_|(cases a)|(cases b)|(cases d)|fail)
  rintro _ _
  generalize okO k (.mk pk pf pn pm pa) f n=ok at *
  cases ok with
  |false=>repeat' ((conv=>whnf);first|exact trivial|refine rb0 ?_|fail)
  |true=>
  by_cases hlen:l.length=wI k
  ·have e:(true&&(l.length==wI k)&&tw l)=tw l:=by simp [hlen]
   rw [e, ←hlen]
   have hnp:=uS l
   repeat' ((conv=>whnf);first|refine nT_ ?_|refine aN0 ?_|refine aS ?_|fail)
   refine rq (α:=Nat) (fun i=>{sl:=[(1,.ptr 1 0),(6,.t (I l.length)),(8,.t (I i))],bx:=[(1,.d 9 (sA (.mk k (.mk pk pf pn pm pa) f n l)))]})
    (fun i=>i≤l.length∧ ∀j (h:j<l.length),j<i→sY l[j]=true) (fun i=>l.length - i) 0 (by simp) ?_ ?_
   ·repeat' (first|exact trivial|exact LeV.same _|exact LeB.same _|exact rfl|exact fun _ _ _=>trivial|refine And.intro ?_ ?_)
   rintro i ⟨hi,hp⟩
   rcases Nat.lt_or_ge i l.length with h|h
   ·have hn:=ux h
    have hm:=uf (l:=l) (j:=i+1)
    have hc:=ih l[i] (by omega) (by omega) (xv hn3 i h)
    cases hb:sY l[i] with
    |true=>
     rw [hb] at hc
     repeat' ((conv=>whnf);first|(refine nv_ (.agg (sA l[i])) (by first|(simp [h,sM];done)|fail) ?_)|refine rE _ (hc) ?_|refine nT_ ?_|refine aD1 ?_|(refine And.intro (by first|exact sF _|fail) ?_)|refine aS ?_|fail)
     refine ⟨i+1,⟨h,fun j hj hlt=>?_⟩,by omega,?_⟩
     ·rcases Nat.lt_or_ge j i with h4|h4
      ·exact hp j hj h4
      ·obtain rfl:j=i:=by omega
       exact hb
     ·repeat' (first|exact trivial|exact LeV.same _|exact LeB.same _|exact rfl|exact fun _ _ _=>trivial|exact lI|refine And.intro ?_ ?_)
    |false=>
     rw [hb] at hc
     have e2:tw l=false:=by
      cases hx:tw l with
      |false=>rfl
      |true=>rw [wY.1 hx i h] at hb;cases hb
     rw [e2]
     repeat' ((conv=>whnf);first|exact trivial|(refine nv_ (.agg (sA l[i])) (by first|(simp [h,sM];done)|fail) ?_)|refine rE _ (hc) ?_|refine nT_ ?_|refine aD1 ?_|refine rb0 ?_|(refine And.intro (by first|exact sF _|fail) ?_)|refine aS ?_|fail)
   ·have e2:tw l=true:=wY.2 fun j hj=>hp j hj (by omega)
    rw [e2]
    repeat' ((conv=>whnf);first|exact trivial|refine aD0 ?_|refine rb1 ?_|refine aS ?_|fail)
  ·have e:(true&&(l.length==wI k)&&tw l)=false:=by simp [hlen]
   rw [e]
   repeat' ((conv=>whnf);first|exact trivial|refine nT_ ?_|refine aN1 ?_|refine rb0 ?_|refine aS ?_|fail)
def td (r:RO):Int:=xi (w9 r.size r.deep) (sY r)
theorem t63 (r:RO) (hr:r.wt<2^60) (hn:uP r):DCalls Tryz.prog 21 [.agg (sA r)] (I (td r)):=by
 refine qO (rs:=[.tmp 2]) mixed Tryz.func21 l21 rfl rfl rfl (r:=[.int _ _]) (nlZ rfl) ?_
 have h1:=t89 _ r (Nat.le_refl _) hr
 have h2:=t90 _ r (Nat.le_refl _) hr hn
 have h3:=t88 r.size r.deep (sY r)
 have hl:=sF r
 unfold td
 repeat' ((conv=>whnf);first|exact trivial|refine rE _ (h1) ?_|refine rE _ (h2) ?_|refine rE _ (h3) ?_|refine rix ?_|refine aS ?_|fail)
end Go.MM
end
section
namespace Go.MM
open Go Go.DL Go.Proofs
structure RF where
 name:ByteArray
 a:Int
 w:Int
deriving Inhabited
def tZ (f:RF):List T:=[.str f.name,I f.a,I f.w]
def uC (f:RF):T:=.agg (tZ f)
def vZ (l:List RF):T:=.slice 3 (l.map uC)
def at8 (s:ByteArray) (i:Nat):Bool:=tX (tK s i)||((uN (tK s i)||tK s i==95)&& !(i==0))
def AI (s:ByteArray):Bool:=(List.range s.size).all fun i=>at8 s i
def wa (s:ByteArray):Bool:=AI s&&(decide (1≤s.size)&&decide (s.size≤24))
theorem t69 (s:ByteArray) (hs:s.size<2^62):DCalls Tryz.prog 64 [.str s] (.bool (wa s)):=by
 refine qO (rs:=[.tmp 2]) mixed Tryz.func64 l64 rfl rfl rfl (r:=[.bool _]) (nlZ rfl) ?_
 skip
 refine rq (α:=Nat) (fun i=>{sl:=[(0,.t (.str s)),(3,.t (I i))],bx:=[]})
  (fun i=>i≤s.size∧ ∀j,j<i→at8 s j=true) (fun i=>s.size - i) 0 (by simp) ?_ ?_
 ·repeat' (first|exact trivial|exact LeV.same _|exact rfl|exact fun _ _ _=>trivial|refine And.intro ?_ ?_)
 rintro i ⟨hi,hp⟩
 rcases Nat.lt_or_ge i s.size with h|h
 ·have good:at8 s i=true→i+1≤s.size∧ ∀j,j<i+1→at8 s j=true:=fun hb=>by
   refine ⟨h,fun j hj=>?_⟩
   rcases Nat.lt_or_ge j i with h4|h4
   ·exact hp j h4
   ·obtain rfl:j=i:=by omega
    exact hb
  have bad:at8 s i=false→wa s=false:=fun hb=>by
   unfold wa
   have:AI s=false:=by
    unfold AI
    rw [List.all_eq_false]
    exact ⟨i,by simpa using h,by simp [hb]⟩
   rw [this];rfl
  have bad':at8 s i=false→false=wa s:=fun hb=>(bad hb).symm
  clear bad
  rw [show at8 s i=(tX (tK s i)||((uN (tK s i)||tK s i==95)&& !(i==0))) from rfl] at good bad'
  have hc:((s.toList[i]?.getD 0).toNat:Int)=tK s i:=rfl
  generalize wa s=N at *
  generalize tK s i=c at *
  repeat' ((conv=>whnf);first|(refine nv_ (U c) (by first|exact congrArg U hc|fail) ?_)|(exact rb (x:=false) (bad' (by simp [tX,uN];omega)) trivial)|(exact ⟨i+1,good (by simp [tX,uN];omega),by omega,by (repeat' (first|exact trivial|exact LeV.same _|exact rfl|exact fun _ _ _=>trivial|exact lI|refine And.intro ?_ ?_));done⟩)|refine aE0 ?_|refine aD1 ?_|refine aD0 ?_|refine nE_ (fun hq=>?_) (fun hq=>?_)|refine nD_ (fun hq=>?_) (fun hq=>?_)|refine aS ?_|fail)
 ·have e:AI s=true:=by
   unfold AI
   rw [List.all_eq_true]
   intro j hj
   exact hp j (by simp at hj;omega)
  unfold wa
  rw [e]
  repeat' ((conv=>whnf);first|exact trivial|refine aD0 ?_|refine nD_ (fun hq=>?_) (fun hq=>?_)|refine rb1 ?_|refine rb0 ?_|refine aS ?_|fail)
def u7 (f:RF):Bool:=decide (1≤f.w)&&decide (f.w≤16)&&decide (16≤f.a)&&decide (f.a≤143)&&decide (f.a % 16+f.w≤16)
theorem IY {a:Int} (h:0≤a):a.tmod 16=a % 16:=Int.tmod_eq_emod_of_nonneg h
theorem t70 (f:RF):DCalls Tryz.prog 65 [uC f] (.bool (u7 f)):=by
 obtain ⟨s,a,w⟩:=f
 refine qO (rs:=[.tmp 2]) mixed Tryz.func65 l65 rfl rfl rfl (r:=[.bool _]) (nlZ rfl) ?_
 simp only [u7]
 by_cases h16:16≤a
 ·have e:=IY (a:=a) (by omega)
  by_cases h1:1≤w
  ·by_cases h2:w≤16
   ·by_cases h3:a≤143
    ·have e2:IntKind.wrap .i64 (a.tmod 16+w)=a % 16+w:=by rw [e,mG] <;> omega
     have e3:(decide (1≤w)&&decide (w≤16)&&decide (16≤a)&&decide (a≤143)&&decide (a % 16+w≤16))=decide (a % 16+w≤16):=by simp [h16,h1,h2,h3]
     rw [e3]
     by_cases h4:a % 16+w≤16
     ·repeat' ((conv=>whnf);first|exact trivial|(refine qv (by rw [e2];exact h4) ?_)|refine nT_ ?_|refine aD1 ?_|refine rb1 ?_|refine aS ?_|fail)
     ·repeat' ((conv=>whnf);first|exact trivial|(refine qu (by rw [e2];exact h4) ?_)|refine nT_ ?_|refine aD1 ?_|refine rb0 ?_|refine aS ?_|fail)
    ·repeat' ((conv=>whnf);first|exact trivial|refine nT_ ?_|refine aD1 ?_|refine aD0 ?_|refine rb0 ?_|refine aS ?_|fail)
   ·repeat' ((conv=>whnf);first|exact trivial|refine nT_ ?_|refine aD1 ?_|refine aD0 ?_|refine rb0 ?_|refine aS ?_|fail)
  ·repeat' ((conv=>whnf);first|exact trivial|refine nT_ ?_|refine aD0 ?_|refine rb0 ?_|refine aS ?_|fail)
 ·repeat' ((conv=>whnf);first|exact trivial|refine nT_ ?_|refine aD0 ?_|refine nD_ (fun hq=>?_) (fun hq=>?_)|refine rb0 ?_|refine aS ?_|fail)
def xO (f:RF):Prop:= -1000≤f.a∧f.a≤1000∧ -1000≤f.w∧f.w≤1000
def uU (f g:RF):Bool:=decide (f.a<g.a+g.w)&&decide (g.a<f.a+f.w)
theorem t71 (f g:RF) (hf:xO f) (hg:xO g):DCalls Tryz.prog 66 [uC f,uC g] (.bool (uU f g)):=by
 obtain ⟨s,a,w⟩:=f
 obtain ⟨s',b,v⟩:=g
 simp only [xO] at hf hg
 refine qO (rs:=[.tmp 4]) mixed Tryz.func66 l66 rfl rfl rfl (r:=[.bool _]) (nlZ rfl) ?_
 simp only [uU]
 have e1:IntKind.wrap .i64 (b+v)=b+v:=mG (by omega) (by omega)
 have e2:IntKind.wrap .i64 (a+w)=a+w:=mG (by omega) (by omega)
 by_cases h1:a<b+v
 ·by_cases h2:b<a+w
  ·repeat' ((conv=>whnf);first|exact trivial|(refine qv (by rw [e1];exact h1) ?_)|(refine qv (by rw [e2];exact h2) ?_)|refine nT_ ?_|refine rb1 ?_|refine aS ?_|fail)
  ·repeat' ((conv=>whnf);first|exact trivial|(refine qv (by rw [e1];exact h1) ?_)|(refine qu (by rw [e2];exact h2) ?_)|refine nT_ ?_|refine rb0 ?_|refine aS ?_|fail)
 ·repeat' ((conv=>whnf);first|exact trivial|(refine qu (by rw [e1];exact h1) ?_)|refine nT_ ?_|refine rb0 ?_|refine aS ?_|fail)
def tF (l:List RF) (i:Nat) (f:RF):Int:=
 if wa f.name=false∨sB f.name tg=true then 4
 else if ((l.take i).any fun g=>sB g.name f.name)=true then 4
 else if u7 f=false then 1
 else if ((l.take i).any fun g=>uU g f)=true then 1 else 0
def sX:List Int→Int
 |[]=>0
 |x::xs=>if x≠0 then x else sX xs
theorem vr: ∀{l:List Int} {i:Nat} (h:i<l.length),(∀ j (hj:j<l.length),j<i→l[j]=0)→l[i]≠0→sX l=l[i]
 |x::xs,0,h,_,h0=>by simp at h0;simp [sX,h0]
 |x::xs,i+1,h,hz,h0=>by
  have hx:x=0:=hz 0 (by simp) (by omega)
  simp only [sX,hx,ne_eq,not_true_eq_false,if_false]
  exact vr (by simpa using h) (fun j hj hlt=>hz (j+1) (by simpa using hj) (by omega)) (by simpa using h0)
theorem wA: ∀{l:List Int},(∀ j (hj:j<l.length),l[j]=0)→sX l=0
 |[],_=>rfl
 |x::xs,hz=>by
  have hx:x=0:=hz 0 (by simp)
  simp only [sX,hx,ne_eq,not_true_eq_false,if_false]
  exact wA fun j hj=>hz (j+1) (by simpa using hj)
def wV (l:List RF):Int:=if l.length>16 then 2 else sX (l.mapIdx fun i f=>tF l i f)
theorem yu {f:RF} (h:u7 f=true):xO f:=by
 simp [u7] at h
 unfold xO;omega
theorem vL {p:RF→Bool} {l:List RF} {i:Nat} (hi:i≤l.length):((l.take i).any p=true)↔ ∃j, ∃h:j<l.length,j<i∧p l[j]=true:=by
 rw [List.any_eq_true]
 constructor
 ·rintro ⟨x,hx,hp⟩
  obtain ⟨j,hj,rfl⟩:=List.getElem_of_mem hx
  simp at hj
  exact ⟨j,by omega,by omega,by simpa using hp⟩
 ·rintro ⟨j,h,hji,hp⟩
  exact ⟨l[j],List.mem_take_iff_getElem.2 ⟨j,by omega,rfl⟩,hp⟩
theorem t47 (l:List RF) (hl:l.length<2^60) (hn: ∀f∈l,f.name.size<2^62):DCalls Tryz.prog 11 [vZ l] (I (wV l)):=by
 refine qO (rs:=[.tmp 2]) mixed Tryz.func11 l11 rfl rfl rfl (r:=[.int _ _]) (nlZ rfl) ?_
 unfold wV
 by_cases h16:l.length>16
 ·rw [if_pos h16];repeat' ((conv=>whnf);first|exact trivial|refine aD1 ?_|refine rix ?_|refine aS ?_|fail)
 rw [if_neg h16]
 repeat' ((conv=>whnf);first|refine aD0 ?_|refine aS ?_|fail)
 refine rq (α:=Nat) (fun i=>{sl:=[(0,.t (vZ l)),(3,.t (I i))],bx:=[]})
  (fun i=>i≤l.length∧ ∀j (h:j<l.length),j<i→tF l j l[j]=0) (fun i=>l.length - i) 0 (by simp) ?_ ?_
 ·repeat' (first|exact trivial|exact LeV.same _|exact rfl|exact fun _ _ _=>trivial|refine And.intro ?_ ?_)
 rintro i ⟨hi,hp⟩
 rcases Nat.lt_or_ge i l.length with h|h
 ·have res: ∀e,tF l i l[i]=e→e≠0→sX (l.mapIdx fun i f=>tF l i f)=e:=fun e he h0=>by
   have:=vr (l:=l.mapIdx fun i f=>tF l i f) (i:=i) (by simpa using h) (fun j hj hlt=>by simpa using hp j (by simpa using hj) hlt) (by simpa [he] using h0)
   rw [this];simpa using he
  have next:tF l i l[i]=0→i+1≤l.length∧ ∀j (h:j<l.length),j<i+1→tF l j l[j]=0:=fun h0=>by
   refine ⟨h,fun j hj hlt=>?_⟩
   rcases Nat.lt_or_ge j i with h4|h4
   ·exact hp j hj h4
   ·obtain rfl:j=i:=by omega
    exact h0
  have small: ∀k (hk:k<l.length),k<i→xO l[k]:=fun k hk hlt=>by
   have:=hp k hk hlt
   unfold tF at this
   split at this; ·omega
   split at this; ·omega
   split at this; ·omega
   rename_i h3
   exact yu (by simpa using h3)
  have c69:=t69 l[i].name (hn _ (List.getElem_mem h))
  have c70:=t70 l[i]
  have s1:=sH l[i].name tg
  cases hA:wa l[i].name with
  |false=>
   rw [hA] at c69
   rw [res 4 (by unfold tF;simp [hA]) (by decide)]
   repeat' ((conv=>whnf);first|exact trivial|(refine nv_ (.agg (tZ l[i])) (by first|(simp [h,uC];done)|fail) ?_)|refine rE _ (c69) ?_|refine nT_ ?_|refine aD1 ?_|refine rix ?_|refine aS ?_|fail)
  |true=>
  rw [hA] at c69
  cases hB:sB l[i].name tg with
  |true=>
   rw [hB] at s1
   rw [res 4 (by unfold tF;simp [hB]) (by decide)]
   repeat' ((conv=>whnf);first|exact trivial|(refine nv_ (.agg (tZ l[i])) (by first|(simp [h,uC];done)|fail) ?_)|refine rE _ (c69) ?_|refine nb_ true s1 ?_|refine nT_ ?_|refine aD1 ?_|refine rix ?_|refine aS ?_|fail)
  |false=>
  rw [hB] at s1
  repeat' ((conv=>whnf);first|(refine nv_ (.agg (tZ l[i])) (by first|(simp [h,uC];done)|fail) ?_)|refine rE _ (c69) ?_|refine nb_ false s1 ?_|refine nT_ ?_|refine aD1 ?_|refine aS ?_|fail)
  refine rq (α:=Nat) (fun k=>{sl:=[(0,.t (vZ l)),(3,.t (I i)),(5,.t (I k))],bx:=[]})
   (fun k=>k≤i∧ ∀j (hj:j<l.length),j<k→sB l[j].name l[i].name=false) (fun k=>i - k) 0 (by simp) ?_ ?_
  ·repeat' (first|exact trivial|exact LeV.same _|exact rfl|exact fun _ _ _=>trivial|refine And.intro ?_ ?_)
  rintro k ⟨hk,hpk⟩
  rcases Nat.lt_or_ge k i with hki|hki
  ·have hkl:k<l.length:=by omega
   have s2:=sH l[k].name l[i].name
   cases hC:sB l[k].name l[i].name with
   |true=>
    rw [hC] at s2
    rw [res 4 (by unfold tF;rw [if_neg (by simp [hA,hB]),if_pos ((vL (by omega)).2 ⟨k,hkl,hki,hC⟩)]) (by decide)]
    repeat' ((conv=>whnf);first|exact trivial|(refine nv_ (.agg (tZ l[k])) (by first|(simp [hkl,uC];done)|fail) ?_)|(refine nv_ (.agg (tZ l[i])) (by first|(simp [h,uC];done)|fail) ?_)|refine nb_ true s2 ?_|refine nT_ ?_|refine aD1 ?_|refine rix ?_|refine aS ?_|fail)
   |false=>
    rw [hC] at s2
    repeat' ((conv=>whnf);first|(refine nv_ (.agg (tZ l[k])) (by first|(simp [hkl,uC];done)|fail) ?_)|(refine nv_ (.agg (tZ l[i])) (by first|(simp [h,uC];done)|fail) ?_)|refine nb_ false s2 ?_|refine nT_ ?_|refine aD1 ?_|refine aS ?_|fail)
    refine ⟨k+1,⟨by omega,fun j hj hlt=>?_⟩,by omega,?_⟩
    ·rcases Nat.lt_or_ge j k with h4|h4
     ·exact hpk j hj h4
     ·obtain rfl:j=k:=by omega
      exact hC
    ·repeat' (first|exact trivial|exact LeV.same _|exact rfl|exact fun _ _ _=>trivial|exact lI|refine And.intro ?_ ?_)
  obtain rfl:k=i:=by omega
  have any1: ¬((l.take k).any fun g=>sB g.name l[k].name)=true:=fun hx=>by
   obtain ⟨j,hj,hji,hjp⟩:=(vL hi).1 hx
   rw [hpk j hj hji] at hjp;cases hjp
  cases hD:u7 l[k] with
  |false=>
   rw [hD] at c70
   rw [res 1 (by unfold tF;rw [if_neg (by simp [hA,hB]),if_neg any1,if_pos hD]) (by decide)]
   repeat' ((conv=>whnf);first|exact trivial|(refine nv_ (.agg (tZ l[k])) (by first|(simp [h,uC];done)|fail) ?_)|refine rE _ (c70) ?_|refine nT_ ?_|refine aD0 ?_|refine rix ?_|refine aS ?_|fail)
  |true=>
  rw [hD] at c70
  have smk:=yu hD
  repeat' ((conv=>whnf);first|(refine nv_ (.agg (tZ l[k])) (by first|(simp [h,uC];done)|fail) ?_)|refine rE _ (c70) ?_|refine nT_ ?_|refine aD0 ?_|refine aS ?_|fail)
  refine rq (α:=Nat) (fun m=>{sl:=[(0,.t (vZ l)),(3,.t (I k)),(7,.t (I m))],bx:=[]})
   (fun m=>m≤k∧ ∀j (hj:j<l.length),j<m→uU l[j] l[k]=false) (fun m=>k - m) 0 (by simp) ?_ ?_
  ·repeat' (first|exact trivial|exact LeV.same _|exact rfl|exact fun _ _ _=>trivial|refine And.intro ?_ ?_)
  rintro m ⟨hm,hpm⟩
  rcases Nat.lt_or_ge m k with hmi|hmi
  ·have hml:m<l.length:=by omega
   have c71:=t71 l[m] l[k] (small m hml hmi) smk
   cases hC:uU l[m] l[k] with
   |true=>
    rw [hC] at c71
    rw [res 1 (by unfold tF;rw [if_neg (by simp [hA,hB]),if_neg any1,if_neg (by simp [hD]),if_pos ((vL (by omega)).2 ⟨m,hml,hmi,hC⟩)]) (by decide)]
    repeat' ((conv=>whnf);first|exact trivial|(refine nv_ (.agg (tZ l[m])) (by first|(simp [hml,uC];done)|fail) ?_)|(refine nv_ (.agg (tZ l[k])) (by first|(simp [h,uC];done)|fail) ?_)|refine rE _ (c71) ?_|refine nT_ ?_|refine aD1 ?_|refine rix ?_|refine aS ?_|fail)
   |false=>
    rw [hC] at c71
    repeat' ((conv=>whnf);first|(refine nv_ (.agg (tZ l[m])) (by first|(simp [hml,uC];done)|fail) ?_)|(refine nv_ (.agg (tZ l[k])) (by first|(simp [h,uC];done)|fail) ?_)|refine rE _ (c71) ?_|refine nT_ ?_|refine aD1 ?_|refine aS ?_|fail)
    refine ⟨m+1,⟨by omega,fun j hj hlt=>?_⟩,by omega,?_⟩
    ·rcases Nat.lt_or_ge j m with h4|h4
     ·exact hpm j hj h4
     ·obtain rfl:j=m:=by omega
      exact hC
    ·repeat' (first|exact trivial|exact LeV.same _|exact rfl|exact fun _ _ _=>trivial|exact lI|refine And.intro ?_ ?_)
  obtain rfl:m=k:=by omega
  have any2: ¬((l.take m).any fun g=>uU g l[m])=true:=fun hx=>by
   obtain ⟨j,hj,hji,hjp⟩:=(vL hi).1 hx
   rw [hpm j hj hji] at hjp;cases hjp
  have e0:tF l m l[m]=0:=by unfold tF;rw [if_neg (by simp [hA,hB]),if_neg any1,if_neg (by simp [hD]),if_neg any2]
  repeat' ((conv=>whnf);first|(exact ⟨m+1,next e0,by omega,by (repeat' (first|exact trivial|exact LeV.same _|exact rfl|exact fun _ _ _=>trivial|exact lI|refine And.intro ?_ ?_));done⟩)|refine aD0 ?_|refine aS ?_|fail)
 ·rw [wA fun j hj=>by simpa using hp j (by simpa using hj) (by simp at hj;omega)]
  repeat' ((conv=>whnf);first|exact trivial|refine aD0 ?_|refine rix ?_|refine aS ?_|fail)
end Go.MM
end
section
namespace Go.MM
open Go Go.DL Go.Proofs
mutual
def ur:RP→List RP
 |.mk k f n m a=>.mk k f n m a::tU a
def tU:List RP→List RP
 |[]=>[]
 |r::rs=>ur r++tU rs
end
mutual
theorem uF: ∀r:RP,(ur r).length=r.nodes
 |.mk k f n m a=>by simp only [ur,List.length_cons,xx a,RP.nodes];omega
theorem xx: ∀l:List RP,(tU l).length=sS l
 |[]=>rfl
 |r::rs=>by simp only [tU,List.length_append,uF r,xx rs,sS]
end
theorem yr: ∀{l:List RP} {j:Nat} (h:j<l.length),tU (l.take (j+1))=tU (l.take j)++ur l[j]
 |r::rs,0,h=>by simp [tU]
 |r::rs,j+1,h=>by
  have:=yr (l:=rs) (j:=j) (by simpa using h)
  simp only [List.take_succ_cons,tU,List.getElem_cons_succ,this,List.append_assoc]
theorem t91 (N:Nat): ∀r:RP,r.nodes≤N→N<2^40→DCalls Tryz.prog 111 [.agg (sC r)] (.slice 5 ((ur r).map sU)):=by
 induction N with
 |zero=>intro r h;have:=r.uq;omega
 |succ N ih=>
  rintro ⟨k,f,n,m,l⟩ hr hN
  refine qO (rs:=[.tmp 2]) mixed Tryz.func111 MR rfl rfl rfl (r:=[.slice 5 _]) (nlZ rfl) ?_
  simp only [RP.nodes,ur] at hr ⊢
  have hl:=ue l
  repeat' ((conv=>whnf);first|refine aS ?_|fail)
  refine rq (α:=Nat×Nat) (fun q=>{sl:=[(1,.ptr 1 0),(3,.own q.1 25 5 ((RP.mk k f n m l::tU (l.take q.2)).map sU)),(4,.t (I q.2))],bx:=[(1,.d 5 (sC (.mk k f n m l)))]})
   (fun q=>q.2≤l.length) (fun q=>l.length - q.2) (6,0) (by simp) ?_ ?_
  ·repeat' (first|exact trivial|exact LeV.same _|exact LeB.same _|exact rfl|exact fun _ _ _=>trivial|refine rX ?_|refine And.intro ?_ ?_)
   simp [tU,sI]
  rintro ⟨o,i⟩ hi
  dsimp only at hi
  rcases Nat.lt_or_ge i l.length with h|h
  ·have hn:=tM h
   have hm:=tL (l:=l) (j:=i+1)
   have hc:=ih l[i] (by omega) (by omega)
   have e1:=uF l[i]
   have e2:=xx (l.take i)
   have e3:=yr h
   repeat' ((conv=>whnf);first|(refine nv_ (.agg (sC l[i])) (by first|(simp [h,sI];done)|fail) ?_)|refine rE _ (hc) ?_|refine nT_ ?_|refine aD1 ?_|(refine And.intro (by first|exact sK _|((simp only [List.length_map,List.length_cons];omega);done)|fail) ?_)|refine aS ?_|fail)
   refine ⟨(21,i+1),by dsimp only;omega,by dsimp only;omega,?_⟩
   repeat' (first|exact trivial|exact LeV.same _|exact LeB.same _|exact rfl|exact fun _ _ _=>trivial|exact lI|refine rX ?_|refine And.intro ?_ ?_)
   simp [e3]
  ·have:i=l.length:=by omega
   subst this
   rw [List.take_length]
   repeat' ((conv=>whnf);first|exact trivial|refine nT_ ?_|refine aD0 ?_|refine aS ?_|fail)
mutual
def tT:RO→List RO
 |.mk k p f n a=>.mk k p f n a::tB a
def tB:List RO→List RO
 |[]=>[]
 |r::rs=>tT r++tB rs
end
mutual
def RO.cnt:RO→Nat
 |.mk _ _ _ _ a=>1+yG a
def yG:List RO→Nat
 |[]=>0
 |r::rs=>r.cnt+yG rs
end
mutual
theorem RO.wv: ∀r:RO,r.cnt≤r.wt
 |.mk k p _ _ a=>by have:=za a;simp only [RO.cnt,RO.wt];omega
theorem za: ∀l:List RO,yG l≤tA l
 |[]=>Nat.le_refl _
 |r::rs=>by have:=RO.wv r;have:=za rs;simp only [yG,tA];omega
end
mutual
theorem uu: ∀r:RO,(tT r).length=r.cnt
 |.mk k p f n a=>by simp only [tT,List.length_cons,xy a,RO.cnt];omega
theorem xy: ∀l:List RO,(tB l).length=yG l
 |[]=>rfl
 |r::rs=>by simp only [tB,List.length_append,uu r,xy rs,yG]
end
theorem yt: ∀{l:List RO} {j:Nat} (h:j<l.length),tB (l.take (j+1))=tB (l.take j)++tT l[j]
 |r::rs,0,h=>by simp [tB]
 |r::rs,j+1,h=>by
  have:=yt (l:=rs) (j:=j) (by simpa using h)
  simp only [List.take_succ_cons,tB,List.getElem_cons_succ,this,List.append_assoc]
theorem t64 (N:Nat): ∀r:RO,r.wt≤N→N<2^40→DCalls Tryz.prog 76 [.agg (sA r)] (.slice 9 ((tT r).map tc)):=by
 induction N with
 |zero=>intro r h;have:=r.wH;omega
 |succ N ih=>
  rintro ⟨k,⟨pk,pf,pn,pm,pa⟩,f,n,l⟩ hr hN
  refine qO (rs:=[.tmp 2]) mixed Tryz.func76 l76 rfl rfl rfl (r:=[.slice 9 _]) (nlZ rfl) ?_
  simp only [RO.wt,tT] at hr ⊢
  have hl:=uS l
  repeat' ((conv=>whnf);first|refine aS ?_|fail)
  refine rq (α:=Nat×Nat) (fun q=>{sl:=[(1,.ptr 1 0),(3,.own q.1 28 9 ((RO.mk k (.mk pk pf pn pm pa) f n l::tB (l.take q.2)).map tc)),(4,.t (I q.2))],bx:=[(1,.d 9 (sA (.mk k (.mk pk pf pn pm pa) f n l)))]})
   (fun q=>q.2≤l.length) (fun q=>l.length - q.2) (6,0) (by simp) ?_ ?_
  ·repeat' (first|exact trivial|exact LeV.same _|exact LeB.same _|exact rfl|exact fun _ _ _=>trivial|refine rX ?_|refine And.intro ?_ ?_)
   simp [tB,sM]
  rintro ⟨o,i⟩ hi
  dsimp only at hi
  rcases Nat.lt_or_ge i l.length with h|h
  ·have hn:=ux h
   have hm:=uf (l:=l) (j:=i+1)
   have hc:=ih l[i] (by omega) (by omega)
   have e1:=uu l[i]
   have e2:=xy (l.take i)
   have e3:=yt h
   have e4:=za (l.take i)
   have e5:=l[i].wv
   repeat' ((conv=>whnf);first|(refine nv_ (.agg (sA l[i])) (by first|(simp [h,sM];done)|fail) ?_)|refine rE _ (hc) ?_|refine nT_ ?_|refine aD1 ?_|(refine And.intro (by first|exact sF _|((simp only [List.length_map,List.length_cons];omega);done)|fail) ?_)|refine aS ?_|fail)
   refine ⟨(21,i+1),by dsimp only;omega,by dsimp only;omega,?_⟩
   repeat' (first|exact trivial|exact LeV.same _|exact LeB.same _|exact rfl|exact fun _ _ _=>trivial|exact lI|refine rX ?_|refine And.intro ?_ ?_)
   simp [e3]
  ·have:i=l.length:=by omega
   subst this
   rw [List.take_length]
   repeat' ((conv=>whnf);first|exact trivial|refine nT_ ?_|refine aD0 ?_|refine aS ?_|fail)
end Go.MM
end
section
namespace Go.MM
open Go Go.DL Go.Proofs
def wX (l:List Fd):RP→Int
 |.mk k f n m _=>if k=3∨k=4∨k=5 then (match findF l f with
   |none=>4
   |some F=>if (if k=5 then m else n)>((2^F.w - 1:Nat):Int)∨(k=4∧m>F.w) then 1 else 0) else 0
theorem Ff {l:List Fd} (hl:LOk l) {s:ByteArray} {F:Fd} (h:findF l s=some F):F.w≤16:=by
 have:=(hl.find h).w2;omega
theorem t92 (l:List Fd) (hl:LOk l) (r:RP):DCalls Tryz.prog 112 [fds l,.agg (sC r)] (I (wX l r)):=by
 obtain ⟨k,f,n,m,a⟩:=r
 refine qO (rs:=[.tmp 4]) mixed Tryz.func112 MS rfl rfl rfl (r:=[.int _ _]) (nlZ rfl) ?_
 have h51:=t51 l f hl.len
 simp only [wX]
 by_cases hk:k=3∨k=4∨k=5
 ·rw [if_pos hk]
  unfold va at h51
  cases hF:findF l f with
  |none=>
   rw [hF] at h51
   simp only at h51 ⊢
   rcases hk with rfl|rfl|rfl <;> repeat' ((conv=>whnf);first|exact trivial|refine rE _ (h51) ?_|refine nT_ ?_|refine aN1 ?_|refine aN0 ?_|refine rix ?_|refine aS ?_|fail)
  |some F=>
   rw [hF] at h51
   simp only at h51 ⊢
   have hw:=Ff hl hF
   have h66:=t66 F (hl.find hF)
   obtain ⟨s,fa,w⟩:=F
   simp only at hw h66 ⊢
   generalize hM:((2^w - 1:Nat):Int)=M at *
   rcases hk with rfl|rfl|rfl
   ·by_cases c:n>M
    ·rw [if_pos (by simp;omega)];repeat' ((conv=>whnf);first|exact trivial|refine rE _ (h51) ?_|refine rE _ (h66) ?_|refine nT_ ?_|refine aE0 ?_|refine aN0 ?_|refine aD1 ?_|refine rix ?_|refine aS ?_|fail)
    ·rw [if_neg (by simp;omega)];repeat' ((conv=>whnf);first|exact trivial|refine rE _ (h51) ?_|refine rE _ (h66) ?_|refine nT_ ?_|refine aE0 ?_|refine aN0 ?_|refine aD0 ?_|refine rix ?_|refine aS ?_|fail)
   ·by_cases c:n>M
    ·rw [if_pos (by simp;omega)];repeat' ((conv=>whnf);first|exact trivial|refine rE _ (h51) ?_|refine rE _ (h66) ?_|refine nT_ ?_|refine aE0 ?_|refine aN1 ?_|refine aN0 ?_|refine aD1 ?_|refine rix ?_|refine aS ?_|fail)
    ·by_cases d:m>(w:Int)
     ·rw [if_pos (by simp;omega)];repeat' ((conv=>whnf);first|exact trivial|refine rE _ (h51) ?_|refine rE _ (h66) ?_|refine nT_ ?_|refine aE1 ?_|refine aE0 ?_|refine aN1 ?_|refine aN0 ?_|refine aD1 ?_|refine aD0 ?_|refine rix ?_|refine aS ?_|fail)
     ·rw [if_neg (by simp;omega)];repeat' ((conv=>whnf);first|exact trivial|refine rE _ (h51) ?_|refine rE _ (h66) ?_|refine nT_ ?_|refine aE1 ?_|refine aE0 ?_|refine aN1 ?_|refine aN0 ?_|refine aD0 ?_|refine rix ?_|refine aS ?_|fail)
   ·by_cases c:m>M
    ·rw [if_pos (by simp;omega)];repeat' ((conv=>whnf);first|exact trivial|refine rE _ (h51) ?_|refine rE _ (h66) ?_|refine nT_ ?_|refine aE1 ?_|refine aN1 ?_|refine aN0 ?_|refine aD1 ?_|refine rix ?_|refine aS ?_|fail)
    ·rw [if_neg (by simp;omega)];repeat' ((conv=>whnf);first|exact trivial|refine rE _ (h51) ?_|refine rE _ (h66) ?_|refine nT_ ?_|refine aE1 ?_|refine aE0 ?_|refine aN1 ?_|refine aN0 ?_|refine aD0 ?_|refine rix ?_|refine aS ?_|fail)
 ·rw [if_neg hk]
  have h3:k≠3:=fun h=>hk (.inl h)
  have h4:k≠4:=fun h=>hk (.inr (.inl h))
  have h5:k≠5:=fun h=>hk (.inr (.inr h))
  repeat' ((conv=>whnf);first|exact trivial|refine nT_ ?_|refine aN1 ?_|refine rix ?_|refine aS ?_|fail)
def fitAll (l:List Fd) (r:RP):Int:=sX ((ur r).map (wX l))
theorem t65 (l:List Fd) (hl:LOk l) (r:RP) (hr:r.nodes<2^40):DCalls Tryz.prog 71 [fds l,.agg (sC r)] (I (fitAll l r)):=by
 refine qO (rs:=[.tmp 4]) mixed Tryz.func71 l71 rfl rfl rfl (r:=[.int _ _]) (nlZ rfl) ?_
 have h91:=t91 _ r (Nat.le_refl _) hr
 have hlen:=uF r
 unfold fitAll
 generalize ur r=ps at *
 repeat' ((conv=>whnf);first|refine rE _ (h91) ?_|(refine And.intro (by first|exact sK _|fail) ?_)|fail)
 refine rq (α:=Nat) (fun i=>{sl:=[(0,.t (fds l)),(5,.t (.slice 5 (ps.map sU))),(6,.t (I i))],bx:=[]})
  (fun i=>i≤ps.length∧ ∀j (h:j<ps.length),j<i→wX l ps[j]=0) (fun i=>ps.length - i) 0 (by simp) ?_ ?_
 ·repeat' (first|exact trivial|exact LeV.same _|exact rfl|exact fun _ _ _=>trivial|refine And.intro ?_ ?_)
 rintro i ⟨hi,hp⟩
 rcases Nat.lt_or_ge i ps.length with h|h
 ·have h92:=t92 l hl ps[i]
  by_cases h0:wX l ps[i]=0
  ·rw [h0] at h92
   repeat' ((conv=>whnf);first|(refine nv_ (.agg (sC ps[i])) (by first|(simp [h,sI];done)|fail) ?_)|refine rE _ (h92) ?_|refine nT_ ?_|refine aN0 ?_|refine aD1 ?_|(refine And.intro (by first|exact sK _|fail) ?_)|refine aS ?_|fail)
   refine ⟨i+1,⟨h,fun j hj hlt=>?_⟩,by omega,?_⟩
   ·rcases Nat.lt_or_ge j i with h4|h4
    ·exact hp j hj h4
    ·obtain rfl:j=i:=by omega
     exact h0
   ·repeat' (first|exact trivial|exact LeV.same _|exact rfl|exact fun _ _ _=>trivial|exact lI|refine And.intro ?_ ?_)
  ·have e:sX (ps.map (wX l))=wX l ps[i]:=by
    have:=vr (l:=ps.map (wX l)) (i:=i) (by simpa using h) (fun j hj hlt=>by simpa using hp j (by simpa using hj) hlt) (by simpa using h0)
    simpa using this
   rw [e]
   generalize wX l ps[i]=e at *
   repeat' ((conv=>whnf);first|exact trivial|(refine nv_ (.agg (sC ps[i])) (by first|(simp [h,sI];done)|fail) ?_)|refine rE _ (h92) ?_|refine nT_ ?_|refine aN1 ?_|refine aD1 ?_|refine rix ?_|(refine And.intro (by first|exact sK _|fail) ?_)|refine aS ?_|fail)
 ·rw [wA fun j hj=>by simpa using hp j (by simpa using hj) (by simp at hj;omega)]
  repeat' ((conv=>whnf);first|exact trivial|refine aD0 ?_|refine rix ?_|refine aS ?_|fail)
def vh (l:List Fd):RO→Int
 |.mk k p f n _=>if k=1 then fitAll l p else if k=2 then (match findF l f with
   |none=>4
   |some F=>if n>((2^F.w - 1:Nat):Int) then 1 else 0) else 0
def CJ (l:List Fd) (r:RO):Int:=if td r≠0 then td r else sX ((tT r).map (vh l))
mutual
theorem uQ: ∀r:RO, ∀x∈tT r,x.wt≤r.wt
 |.mk k p f n a=>fun x hx=>by
  simp only [tT,List.mem_cons] at hx
  rcases hx with rfl|hx
  ·exact Nat.le_refl _
  ·have:=zu a x hx;simp only [RO.wt];omega
theorem zu: ∀l:List RO, ∀x∈tB l,x.wt≤tA l
 |[]=>fun x hx=>by simp [tB] at hx
 |r::rs=>fun x hx=>by
  simp only [tB,List.mem_append] at hx
  simp only [tA]
  rcases hx with hx|hx
  ·have:=uQ r x hx;omega
  ·have:=zu rs x hx;omega
end
theorem t40 (l:List Fd) (hl:LOk l) (r:RO) (hr:r.wt<2^40) (hn:uP r):DCalls Tryz.prog 18 [fds l,.agg (sA r)] (I (CJ l r)):=by
 refine qO (rs:=[.tmp 4]) mixed Tryz.func18 l18 rfl rfl rfl (r:=[.int _ _]) (nlZ rfl) ?_
 have h63:=t63 r (by omega) hn
 have h64:=t64 _ r (Nat.le_refl _) hr
 have hlen:=uu r
 have hw:=uQ r
 have hcl:=r.wv
 unfold CJ
 generalize tT r=ps at *
 by_cases hc:td r≠0
 ·rw [if_pos hc]
  generalize td r=e at *
  repeat' ((conv=>whnf);first|exact trivial|refine rE _ (h63) ?_|refine aN1 ?_|refine rix ?_|(refine And.intro (by first|exact sF _|fail) ?_)|refine aS ?_|fail)
 rw [if_neg hc]
 have hc:td r=0:=Decidable.not_not.1 hc
 rw [hc] at h63
 repeat' ((conv=>whnf);first|refine rE _ (h63) ?_|refine rE _ (h64) ?_|refine aN0 ?_|(refine And.intro (by first|exact sF _|fail) ?_)|refine aS ?_|fail)
 refine rq (α:=Nat) (fun i=>{sl:=[(0,.t (fds l)),(5,.t (I 0)),(6,.t (.slice 9 (ps.map tc))),(7,.t (I i))],bx:=[]})
  (fun i=>i≤ps.length∧ ∀j (h:j<ps.length),j<i→vh l ps[j]=0) (fun i=>ps.length - i) 0 (by simp) ?_ ?_
 ·repeat' (first|exact trivial|exact LeV.same _|exact rfl|exact fun _ _ _=>trivial|refine And.intro ?_ ?_)
 rintro i ⟨hi,hp⟩
 rcases Nat.lt_or_ge i ps.length with h|h
 ·have res: ∀e,vh l ps[i]=e→e≠0→sX (ps.map (vh l))=e:=fun e he h0=>by
   have:=vr (l:=ps.map (vh l)) (i:=i) (by simpa using h) (fun j hj hlt=>by simpa using hp j (by simpa using hj) hlt) (by simpa [he] using h0)
   rw [this];simpa using he
  have next:vh l ps[i]=0→i+1≤ps.length∧ ∀j (h:j<ps.length),j<i+1→vh l ps[j]=0:=fun h0=>by
   refine ⟨h,fun j hj hlt=>?_⟩
   rcases Nat.lt_or_ge j i with h4|h4
   ·exact hp j hj h4
   ·obtain rfl:j=i:=by omega
    exact h0
  have hwi:=hw _ (List.getElem_mem h)
  have hg:(ps.map tc)[i]?.getD .nil= .agg (sA ps[i]):=by simp [h,sM]
  generalize ps[i]=x at *
  obtain ⟨k,⟨pk,pf,pn,pm,pa⟩,f,n,a⟩:=x
  have h51:=t51 l f hl.len
  by_cases hk1:k=1
  ·subst hk1
   have h65:=t65 l hl (.mk pk pf pn pm pa) (by simp only [RO.wt] at hwi;omega)
   have ef:vh l (.mk 1 (.mk pk pf pn pm pa) f n a)=fitAll l (.mk pk pf pn pm pa):=by simp [vh]
   rw [ef] at res next
   generalize fitAll l (.mk pk pf pn pm pa)=e at *
   by_cases h0:e=0
   ·subst h0
    repeat' ((conv=>whnf);first|(refine nv_ (.agg (sA (.mk 1 (.mk pk pf pn pm pa) f n a))) (by first|exact hg|fail) ?_)|refine rE _ (h65) ?_|(exact ⟨i+1,next rfl,by omega,by (repeat' (first|exact trivial|exact LeV.same _|exact rfl|exact fun _ _ _=>trivial|exact lI|refine And.intro ?_ ?_));done⟩)|refine nT_ ?_|refine aE1 ?_|refine aE0 ?_|refine aN0 ?_|refine aD1 ?_|refine aS ?_|fail)
   ·rw [res e rfl h0]
    repeat' ((conv=>whnf);first|exact trivial|(refine nv_ (.agg (sA (.mk 1 (.mk pk pf pn pm pa) f n a))) (by first|exact hg|fail) ?_)|refine rE _ (h65) ?_|refine nT_ ?_|refine aE1 ?_|refine aE0 ?_|refine aN1 ?_|refine aD1 ?_|refine rix ?_|refine aS ?_|fail)
  ·by_cases hk2:k=2
   ·subst hk2
    unfold va at h51
    cases hF:findF l f with
    |none=>
     rw [hF] at h51
     rw [res 4 (by simp [vh,hF]) (by decide)]
     simp only at h51
     repeat' ((conv=>whnf);first|exact trivial|(refine nv_ (.agg (sA (.mk 2 (.mk pk pf pn pm pa) f n a))) (by first|exact hg|fail) ?_)|refine rE _ (h51) ?_|refine nT_ ?_|refine aE1 ?_|refine aE0 ?_|refine aN1 ?_|refine aD1 ?_|refine rix ?_|refine aS ?_|fail)
    |some F=>
     rw [hF] at h51
     simp only at h51
     have h66:=t66 F (hl.find hF)
     by_cases hc:n>((2^F.w - 1:Nat):Int)
     ·rw [res 1 (by simp only [vh,hF];rw [if_neg (by decide),if_pos trivial,if_pos hc]) (by decide)]
      generalize ((2^F.w - 1:Nat):Int)=M at *
      repeat' ((conv=>whnf);first|exact trivial|(refine nv_ (.agg (sA (.mk 2 (.mk pk pf pn pm pa) f n a))) (by first|exact hg|fail) ?_)|refine rE _ (h51) ?_|refine rE _ (h66) ?_|refine nT_ ?_|refine aE1 ?_|refine aE0 ?_|refine aN1 ?_|refine aD1 ?_|refine rix ?_|refine aS ?_|fail)
     ·have next:=next (by simp only [vh,hF];rw [if_neg (by decide),if_pos trivial,if_neg hc])
      generalize ((2^F.w - 1:Nat):Int)=M at *
      repeat' ((conv=>whnf);first|(refine nv_ (.agg (sA (.mk 2 (.mk pk pf pn pm pa) f n a))) (by first|exact hg|fail) ?_)|refine rE _ (h51) ?_|refine rE _ (h66) ?_|(exact ⟨i+1,next,by omega,by (repeat' (first|exact trivial|exact LeV.same _|exact rfl|exact fun _ _ _=>trivial|exact lI|refine And.intro ?_ ?_));done⟩)|refine nT_ ?_|refine aE1 ?_|refine aE0 ?_|refine aD1 ?_|refine aD0 ?_|refine aS ?_|fail)
   ·have next:=next (by simp only [vh];rw [if_neg hk1,if_neg hk2])
    repeat' ((conv=>whnf);first|(refine nv_ (.agg (sA (.mk k (.mk pk pf pn pm pa) f n a))) (by first|exact hg|fail) ?_)|(exact ⟨i+1,next,by omega,by (repeat' (first|exact trivial|exact LeV.same _|exact rfl|exact fun _ _ _=>trivial|exact lI|refine And.intro ?_ ?_));done⟩)|refine nT_ ?_|refine aE0 ?_|refine aN0 ?_|refine aD1 ?_|refine aS ?_|fail)
 ·rw [wA fun j hj=>by simpa using hp j (by simpa using hj) (by simp at hj;omega)]
  repeat' ((conv=>whnf);first|exact trivial|refine aD0 ?_|refine rix ?_|refine aS ?_|fail)
def RF.fd (f:RF):Fd:=⟨f.name,f.a.toNat,f.w.toNat⟩
structure Checked (l:List RF):Prop where
 len:l.length≤16
 name: ∀f∈l,wa f.name=true
 port: ∀f∈l,sB f.name tg=false
 place: ∀f∈l,u7 f=true
 uniq: ∀i j (hi:i<l.length) (hj:j<l.length),j<i→sB l[j].name l[i].name=false
 apart: ∀i j (hi:i<l.length) (hj:j<l.length),j<i→uU l[j] l[i]=false
theorem yU: ∀{l:List Int},sX l=0→ ∀x∈l,x=0
 |[],_,x,hx=>by cases hx
 |y::ys,h,x,hx=>by
  simp only [sX] at h
  split at h
  ·rename_i hy;exact absurd h hy
  ·rename_i hy
   rcases List.mem_cons.1 hx with rfl|hx
   ·exact Decidable.not_not.1 hy
   ·exact yU h x hx
theorem Cv {l:List RF} (h:wV l=0):Checked l:=by
 unfold wV at h
 split at h
 ·cases h
 rename_i hlen
 have hz: ∀i (hi:i<l.length),tF l i l[i]=0:=fun i hi=>yU h _ (List.mem_iff_getElem.2 ⟨i,by simpa using hi,by simp⟩)
 have key: ∀i (hi:i<l.length),(¬ (wa l[i].name=false∨sB l[i].name tg=true))∧(¬ ((l.take i).any fun g=>sB g.name l[i].name)=true)∧(¬ u7 l[i]=false)∧ ¬((l.take i).any fun g=>uU g l[i])=true:=fun i hi=>by
  have:=hz i hi
  unfold tF at this
  split at this; ·cases this
  split at this; ·cases this
  split at this; ·cases this
  split at this; ·cases this
  rename_i h1 h2 h3 h4
  exact ⟨h1,h2,h3,h4⟩
 refine ⟨by omega,fun f hf=>?_,fun f hf=>?_,fun f hf=>?_,fun i j hi hj hji=>?_,fun i j hi hj hji=>?_⟩
 ·obtain ⟨i,hi,rfl⟩:=List.getElem_of_mem hf
  have:=(key i hi).1;simp at this;exact this.1
 ·obtain ⟨i,hi,rfl⟩:=List.getElem_of_mem hf
  have:=(key i hi).1;simp at this;exact this.2
 ·obtain ⟨i,hi,rfl⟩:=List.getElem_of_mem hf
  have:=(key i hi).2.2.1;simpa using this
 ·have:=(key i hi).2.1
  rw [vL (by omega)] at this
  cases hs:sB l[j].name l[i].name with
  |false=>rfl
  |true=>exact absurd ⟨j,hj,hji,hs⟩ this
 ·have:=(key i hi).2.2.2
  rw [vL (by omega)] at this
  cases hs:uU l[j] l[i] with
  |false=>rfl
  |true=>exact absurd ⟨j,hj,hji,hs⟩ this
theorem Checked.fds {l:List RF} (h:Checked l):vZ l=MM.fds (l.map RF.fd):=by
 unfold vZ MM.fds
 rw [List.map_map]
 congr 1
 refine List.map_congr_left fun f hf=>?_
 have:=h.place f hf
 simp [u7] at this
 obtain ⟨s,a,w⟩:=f
 simp only at this
 simp only [uC,tZ,Function.comp,MM.fd,RF.fd]
 rw [Int.toNat_of_nonneg (by omega),Int.toNat_of_nonneg (by omega)]
theorem Checked.ok {l:List RF} (h:Checked l):LOk (l.map RF.fd):=by
 refine ⟨by have:=h.len;simp;omega,fun f hf=>?_⟩
 obtain ⟨g,hg,rfl⟩:=List.mem_map.1 hf
 have:=h.place g hg
 simp [u7] at this
 exact ⟨by simp only [RF.fd];omega,by simp only [RF.fd];omega,by simp only [RF.fd];omega⟩
end Go.MM
end
section
namespace Go.MM
open Go Go.DL Go.Proofs
theorem yQ:Tryz.prog.underlying 23=some (.slice 25):=by kernel_rfl
theorem yR:Tryz.prog.underlying 26=some (.slice 28):=by kernel_rfl
theorem xB:Tryz.prog.cellsOf 3=1:=by kernel_rfl
theorem uo {us:List T} (h:cE Tryz.prog 3 us): ∃n,us=[I n]∧(Lit.int .i64 n).wf=true:=by
 cases h with
 |int h n hw=>rw [Tryz.underlying3] at h;cases h;exact ⟨n,rfl,hw⟩
 |bool h|str h|nil h|slice h|struct h|array h=>rw [Tryz.underlying3] at h;cases h
end Go.MM
end
section
namespace Go.MM
open Go Go.DL Go.Proofs
theorem wQ:Tryz.prog.cellsOf 9=1:=by kernel_rfl
theorem Gz:Tryz.prog.cellsOf 23=1:=by kernel_rfl
theorem zS:Tryz.prog.cellsOf 25=5:=by kernel_rfl
theorem GA:Tryz.prog.cellsOf 26=1:=by kernel_rfl
theorem zT:Tryz.prog.cellsOf 28=9:=by kernel_rfl
theorem Ca:Tryz.prog.cellsOf 88=3:=by kernel_rfl
theorem N1 (us:List T):mkT Tryz.prog 25 us= .agg us:=by unfold mkT;rw [Tryz.underlying25]
theorem N2 (us:List T):mkT Tryz.prog 28 us= .agg us:=by unfold mkT;rw [Tryz.underlying28]
theorem N3 (us:List T):mkT Tryz.prog 88 us= .agg us:=by unfold mkT;rw [Tryz.underlying88]
theorem I0:Tryz.prog.underlying 9=some .string:=by kernel_rfl
theorem w8 {us:List T} (h:cE Tryz.prog 9 us): ∃s,us=[.str s]:=by
 cases h with
 |str h s hs=>exact ⟨s,rfl⟩
 |bool h|int h|nil h|slice h|struct h|array h=>rw [I0] at h;cases h
def RdP (us:List T):Prop:= ∃r:RP,dp us (sC r)∧r.nodes≤aV us∧(aV us<2^62→vC r)
def La (us:List T):Prop:= ∃rs:List RP,dp us [.slice 5 (rs.map sU)]∧sS rs+1≤aV us∧(aV us<2^62→xH rs)
theorem G0 {xs:List (List T)} (h: ∀x∈xs,RdP x): ∃rs:List RP,rs.length=xs.length∧(∀ (i:Nat) (x:List T) (r:RP),xs[i]? =some x→rs[i]? =some r→dp x (sC r))∧sS rs≤aV (xs.map .agg)∧(aV (xs.map .agg)<2^62→xH rs):=by
 induction xs with
 |nil=>exact ⟨[],rfl,by simp,by simp [sS],fun _=>trivial⟩
 |cons x xs ih=>
  obtain ⟨r,h1,h2,h3⟩:=h x (by simp)
  obtain ⟨rs,k1,k2,k3,k4⟩:=ih fun y hy=>h y (by simp [hy])
  refine ⟨r::rs,by simp [k1],fun i a b ha hb=>?_,?_,fun hb=>?_⟩
  ·cases i with
   |zero=>simp at ha hb;subst ha;subst hb;exact h1
   |succ i=>exact k2 i a b (by simpa using ha) (by simpa using hb)
  ·simp only [sS,List.map_cons,aV,T.bulk];omega
  ·simp only [List.map_cons,aV,T.bulk] at hb
   exact ⟨h3 (by omega),k4 (by omega)⟩
theorem AF {us:List T} (h:us.length=5): ∃a b c d e,us=[a,b,c,d,e]:=by
 match us,h with
 |[a,b,c,d,e],_=>exact ⟨a,b,c,d,e,rfl⟩
theorem G2 {t:TypeId} {us:List T} (h:cE Tryz.prog t us):(t=25→RdP us)∧(t=23→La us):=by
 induction h with
 |bool h b=>exact ⟨fun e=>(by subst e;rw [Tryz.underlying25] at h;cases h),fun e=>(by subst e;rw [yQ] at h;cases h)⟩
 |int h n hw=>exact ⟨fun e=>(by subst e;rw [Tryz.underlying25] at h;cases h),fun e=>(by subst e;rw [yQ] at h;cases h)⟩
 |str h s hs=>exact ⟨fun e=>(by subst e;rw [Tryz.underlying25] at h;cases h),fun e=>(by subst e;rw [yQ] at h;cases h)⟩
 |array h us hl hf ih=>exact ⟨fun e=>(by subst e;rw [Tryz.underlying25] at h;cases h),fun e=>(by subst e;rw [yQ] at h;cases h)⟩
 |nil h=>
  refine ⟨fun e=>(by subst e;rw [Tryz.underlying25] at h;cases h),fun e=>?_⟩
  exact ⟨[],.cons (Les.nil 5) rfl .nil,by simp [sS,aV,T.bulk],fun _=>trivial⟩
 |slice h xs hx hl ih=>
  refine ⟨fun e=>(by subst e;rw [Tryz.underlying25] at h;cases h),fun e=>?_⟩
  subst e
  rw [yQ] at h
  cases h
  obtain ⟨rs,k1,k2,k3,k4⟩:=G0 (xs:=xs) fun x hm=>(ih x hm).1 rfl
  have em:xs.map (mkT Tryz.prog 25)=xs.map .agg:=List.map_congr_left fun x _=>N1 x
  rw [em,zS]
  refine ⟨rs,.cons (Les.slice (by simp [k1]) fun i x y hx hy=>?_) rfl .nil,by simp only [aV,T.bulk];omega,fun hb=>k4 (by simp only [aV,T.bulk] at hb;omega)⟩
  rw [List.getElem?_map] at hx hy
  obtain ⟨x',hx',rfl⟩:=Option.map_eq_some_iff.1 hx
  obtain ⟨r',hr',rfl⟩:=Option.map_eq_some_iff.1 hy
  rw [sI]
  exact ⟨k2 i x' r' hx' hr',sK r'⟩
 |struct h us hl hf ih=>
  refine ⟨fun e=>?_,fun e=>(by subst e;rw [yQ] at h;cases h)⟩
  subst e
  rw [Tryz.underlying25] at h
  cases h
  rw [zS] at hl
  obtain ⟨a,b,c,d,e,rfl⟩:=AF hl
  have f0:=hf ⟨ "Kind",3,0,false, "", "",0⟩ (by simp)
  have f1:=hf ⟨ "Field",9,1,false, "", "",8⟩ (by simp)
  have f2:=hf ⟨ "N",3,2,false, "", "",24⟩ (by simp)
  have f3:=hf ⟨ "M",3,3,false, "", "",32⟩ (by simp)
  have f4:=(ih ⟨ "Args",23,4,false, "", "",40⟩ (by simp)).2 rfl
  simp only [xB,wQ,Gz,List.drop,List.take] at f0 f1 f2 f3 f4
  obtain ⟨k,e0,_⟩:=uo f0
  obtain ⟨s,e1⟩:=w8 f1
  obtain ⟨n,e2,_⟩:=uo f2
  obtain ⟨m,e3,_⟩:=uo f3
  obtain ⟨rs,g1,g2,g3⟩:=f4
  simp only [List.cons.injEq,and_true] at e0 e1 e2 e3
  subst e0;subst e1;subst e2;subst e3
  refine ⟨.mk k s n m rs,.cons (Les.refl _) rfl (.cons (Les.refl _) rfl (.cons (Les.refl _) rfl (.cons (Les.refl _) rfl g1))),?_,fun hb=>?_⟩
  ·simp only [RP.nodes,aV,T.bulk] at g2 ⊢;omega
  ·simp only [aV,T.bulk] at g3 hb
   exact ⟨by omega,g3 (by omega)⟩
def RdO (us:List T):Prop:= ∃r:RO,dp us (sA r)∧r.wt≤aV us∧(aV us<2^62→uP r)
def K9 (us:List T):Prop:= ∃rs:List RO,dp us [.slice 9 (rs.map tc)]∧tA rs+1≤aV us∧(aV us<2^62→xG rs)
theorem GZ {xs:List (List T)} (h: ∀x∈xs,RdO x): ∃rs:List RO,rs.length=xs.length∧(∀ (i:Nat) (x:List T) (r:RO),xs[i]? =some x→rs[i]? =some r→dp x (sA r))∧tA rs≤aV (xs.map .agg)∧(aV (xs.map .agg)<2^62→xG rs):=by
 induction xs with
 |nil=>exact ⟨[],rfl,by simp,by simp [tA],fun _=>trivial⟩
 |cons x xs ih=>
  obtain ⟨r,h1,h2,h3⟩:=h x (by simp)
  obtain ⟨rs,k1,k2,k3,k4⟩:=ih fun y hy=>h y (by simp [hy])
  refine ⟨r::rs,by simp [k1],fun i a b ha hb=>?_,?_,fun hb=>?_⟩
  ·cases i with
   |zero=>simp at ha hb;subst ha;subst hb;exact h1
   |succ i=>exact k2 i a b (by simpa using ha) (by simpa using hb)
  ·simp only [tA,List.map_cons,aV,T.bulk];omega
  ·simp only [List.map_cons,aV,T.bulk] at hb
   exact ⟨h3 (by omega),k4 (by omega)⟩
theorem JN {us:List T} (h:us.length=9): ∃a b c d e f g i j,us=[a,b,c,d,e,f,g,i,j]:=by
 match us,h with
 |[a,b,c,d,e,f,g,i,j],_=>exact ⟨a,b,c,d,e,f,g,i,j,rfl⟩
theorem dp.K8 {a b c d e:T} {r:RP} (h:dp [a,b,c,d,e] (sC r)) {x y:T} {xs ys:List T} (k:dp (x::xs) (y::ys)):dp (a::b::c::d::e::x::xs) (sC r++y::ys):=dp.append h k
theorem EJ {t:TypeId} {us:List T} (h:cE Tryz.prog t us):(t=28→RdO us)∧(t=26→K9 us):=by
 induction h with
 |bool h b=>exact ⟨fun e=>(by subst e;rw [Tryz.underlying28] at h;cases h),fun e=>(by subst e;rw [yR] at h;cases h)⟩
 |int h n hw=>exact ⟨fun e=>(by subst e;rw [Tryz.underlying28] at h;cases h),fun e=>(by subst e;rw [yR] at h;cases h)⟩
 |str h s hs=>exact ⟨fun e=>(by subst e;rw [Tryz.underlying28] at h;cases h),fun e=>(by subst e;rw [yR] at h;cases h)⟩
 |array h us hl hf ih=>exact ⟨fun e=>(by subst e;rw [Tryz.underlying28] at h;cases h),fun e=>(by subst e;rw [yR] at h;cases h)⟩
 |nil h=>
  refine ⟨fun e=>(by subst e;rw [Tryz.underlying28] at h;cases h),fun e=>?_⟩
  exact ⟨[],.cons (Les.nil 9) rfl .nil,by simp [tA,aV,T.bulk],fun _=>trivial⟩
 |slice h xs hx hl ih=>
  refine ⟨fun e=>(by subst e;rw [Tryz.underlying28] at h;cases h),fun e=>?_⟩
  subst e
  rw [yR] at h
  cases h
  obtain ⟨rs,k1,k2,k3,k4⟩:=GZ (xs:=xs) fun x hm=>(ih x hm).1 rfl
  have em:xs.map (mkT Tryz.prog 28)=xs.map .agg:=List.map_congr_left fun x _=>N2 x
  rw [em,zT]
  refine ⟨rs,.cons (Les.slice (by simp [k1]) fun i x y hx hy=>?_) rfl .nil,by simp only [aV,T.bulk];omega,fun hb=>k4 (by simp only [aV,T.bulk] at hb;omega)⟩
  rw [List.getElem?_map] at hx hy
  obtain ⟨x',hx',rfl⟩:=Option.map_eq_some_iff.1 hx
  obtain ⟨r',hr',rfl⟩:=Option.map_eq_some_iff.1 hy
  rw [sM]
  exact ⟨k2 i x' r' hx' hr',sF r'⟩
 |struct h us hl hf ih=>
  refine ⟨fun e=>?_,fun e=>(by subst e;rw [yR] at h;cases h)⟩
  subst e
  rw [Tryz.underlying28] at h
  cases h
  rw [zT] at hl
  obtain ⟨a,b,c,d,e,f,g,i,j,rfl⟩:=JN hl
  have f0:=hf ⟨ "Kind",3,0,false, "", "",0⟩ (by simp)
  have f1:=(G2 (hf ⟨ "Pred",25,1,false, "", "",8⟩ (by simp))).1 rfl
  have f2:=hf ⟨ "Field",9,6,false, "", "",72⟩ (by simp)
  have f3:=hf ⟨ "N",3,7,false, "", "",88⟩ (by simp)
  have f4:=(ih ⟨ "Args",26,8,false, "", "",96⟩ (by simp)).2 rfl
  simp only [xB,wQ,zS,GA,List.drop,List.take] at f0 f1 f2 f3 f4
  obtain ⟨k,e0,_⟩:=uo f0
  obtain ⟨p,p1,p2,p3⟩:=f1
  obtain ⟨s,e1⟩:=w8 f2
  obtain ⟨n,e2,_⟩:=uo f3
  obtain ⟨rs,g1,g2,g3⟩:=f4
  simp only [List.cons.injEq,and_true] at e0 e1 e2
  subst e0;subst e1;subst e2
  refine ⟨.mk k p s n rs,.cons (Les.refl _) rfl (dp.K8 p1 (.cons (Les.refl _) rfl (.cons (Les.refl _) rfl g1))),?_,fun hb=>?_⟩
  ·simp only [RO.wt,aV,T.bulk] at p2 g2 ⊢;omega
  ·simp only [aV,T.bulk] at p3 g3 hb
   exact ⟨p3 (by omega),by omega,g3 (by omega)⟩
theorem Fq {us:List T} (h:cE Tryz.prog 88 us): ∃f:RF,us=tZ f∧f.name.size<aV us:=by
 cases h with
 |struct h us hl hf=>
  rw [Tryz.underlying88] at h
  cases h
  rw [Ca] at hl
  match us,hl with
  |[a,b,c],_=>
   have f0:=hf ⟨ "Name",9,0,false, "", "",0⟩ (by simp)
   have f1:=hf ⟨ "At",3,1,false, "", "",16⟩ (by simp)
   have f2:=hf ⟨ "Width",3,2,false, "", "",24⟩ (by simp)
   simp only [xB,wQ,List.drop,List.take] at f0 f1 f2
   obtain ⟨s,e0⟩:=w8 f0
   obtain ⟨n,e1,_⟩:=uo f1
   obtain ⟨m,e2,_⟩:=uo f2
   simp only [List.cons.injEq,and_true] at e0 e1 e2
   subst e0;subst e1;subst e2
   exact ⟨⟨s,n,m⟩,rfl,by simp [aV,T.bulk];omega⟩
 |int h|bool h|str h|nil h|slice h|array h=>rw [Tryz.underlying88] at h;cases h
theorem EI {us:List T} (h:cE Tryz.prog 22 us): ∃l:List RF,Les (mkT Tryz.prog 22 us) (vZ l)∧l.length≤aV us∧ ∀f∈l,f.name.size<aV us:=by
 have e: ∀t,mkT Tryz.prog 22 [t]=t:=fun t=>by unfold mkT;rw [Tryz.underlying22];rfl
 cases h with
 |nil h=>exact ⟨[],by rw [e];exact Les.nil 3,by simp,by simp⟩
 |slice h xs hx hl=>
  rw [Tryz.underlying22] at h
  cases h
  rw [e,Ca]
  have em:xs.map (mkT Tryz.prog 88)=xs.map .agg:=List.map_congr_left fun x _=>N3 x
  rw [em]
  have key: ∃l:List RF,l.length=xs.length∧xs.map .agg=l.map uC∧l.length≤aV (xs.map .agg)∧ ∀f∈l,f.name.size<aV (xs.map .agg):=by
   clear hl em
   induction xs with
   |nil=>exact ⟨[],rfl,rfl,by simp,by simp⟩
   |cons x xs ih=>
    obtain ⟨f,h1,h2⟩:=Fq (hx x (by simp))
    obtain ⟨l,k1,k2,k3,k4⟩:=ih fun y hy=>hx y (by simp [hy])
    refine ⟨f::l,by simp [k1],by simp only [List.map_cons,k2,h1];rfl,by simp only [List.map_cons,aV,T.bulk,List.length_cons];omega,fun g hg=>?_⟩
    simp only [List.map_cons,aV,T.bulk]
    rcases List.mem_cons.1 hg with rfl|hg
    ·omega
    ·have:=k4 g hg;omega
  obtain ⟨l,k1,k2,k3,k4⟩:=key
  refine ⟨l,by rw [k2];exact Les.refl _,by simp only [aV,T.bulk];omega,fun f hf=>by simp only [aV,T.bulk];have:=k4 f hf;omega⟩
 |int h|bool h|str h|array h|struct h=>rw [Tryz.underlying22] at h;cases h
end Go.MM
end
section
namespace Go.TY
instance memBA (a : ByteArray) (l : List ByteArray) : Decidable (a ∈ l) := @List.instDecidableMemOfLawfulBEq ByteArray instBEqOfDecidableEq inferInstance a l
structure Lin {α:Type} (lt:α→α→Bool):Prop where
 irr: ∀a,lt a a=false
 tr: ∀a b c,lt a b=true→lt b c=true→lt a c=true
 tot: ∀a b,lt a b=false→lt b a=false→a=b
section
variable {α:Type} {lt:α→α→Bool}
theorem Lin.ne (h:Lin lt) {a b:α} (hl:lt a b=true):a≠b:=fun e=>by
 subst e;rw [h.irr] at hl;cases hl
theorem Lin.asym (h:Lin lt) {a b:α} (hl:lt a b=true):lt b a=false:=by
 cases e:lt b a with
 |false=>rfl
 |true=>have:=h.tr _ _ _ hl e;rw [h.irr] at this;cases this
variable [DecidableEq α]
def put (lt:α→α→Bool):List α→α→List α
 |[],s=>[s]
 |x::xs,s=>if lt x s=true then x::put lt xs s else s::(x::xs).filter fun y=> !decide (y=s)
def Inc (lt:α→α→Bool) (l:List α):Prop:=l.Pairwise fun a b=>lt a b=true
theorem Ce {l:List α} {s x:α}:x∈put lt l s↔x=s∨x∈l:=by
 induction l with
 |nil=>simp [put]
 |cons y ys ih=>
  unfold put
  by_cases hl:lt y s=true
  ·rw [if_pos hl,List.mem_cons,ih,List.mem_cons]
   exact ⟨fun h=>by rcases h with h|h|h <;> simp [h],fun h=>by rcases h with h|h|h <;> simp [h]⟩
  ·rw [if_neg hl,List.mem_cons,List.mem_filter]
   by_cases hx:x=s
   ·simp [hx]
   ·simp [hx]
theorem Inc.put (h:Lin lt) {l:List α} (hl:Inc lt l) (s:α):Inc lt (put lt l s):=by
 induction l with
 |nil=>simp [TY.put,Inc]
 |cons y ys ih=>
  have h2:=List.pairwise_cons.1 hl
  unfold TY.put
  by_cases hys:lt y s=true
  ·rw [if_pos hys]
   refine List.pairwise_cons.2 ⟨fun z hz=>?_,ih h2.2⟩
   rcases Ce.1 hz with rfl|hz
   ·exact hys
   ·exact h2.1 z hz
  ·rw [if_neg hys]
   have hys':lt y s=false:=by simpa using hys
   refine List.pairwise_cons.2 ⟨fun z hz=>?_,hl.filter _⟩
   obtain ⟨h3,h4⟩:=List.mem_filter.1 hz
   have hzs:z≠s:=by simpa using h4
   cases e:lt s z with
   |true=>rfl
   |false=>
    exfalso
    cases e2:lt z s with
    |false=>exact hzs (h.tot _ _ e2 e)
    |true=>
     rcases List.mem_cons.1 h3 with rfl|h3
     ·rw [hys'] at e2;cases e2
     ·have:=h.tr _ _ _ (h2.1 z h3) e2
      rw [hys'] at this;cases this
theorem Inc.ext (h:Lin lt): ∀{a b:List α},Inc lt a→Inc lt b→(∀ x,x∈a↔x∈b)→a=b
 |[],[],_,_,_=>rfl
 |[],y::ys,_,_,hm=>by have:=(hm y).2 (by simp);simp at this
 |x::xs,[],_,_,hm=>by have:=(hm x).1 (by simp);simp at this
 |x::xs,y::ys,ha,hb,hm=>by
  have h1:=List.pairwise_cons.1 ha
  have h2:=List.pairwise_cons.1 hb
  have e:x=y:=by
   by_cases e:x=y
   ·exact e
   ·exfalso
    have hx:x∈ys:=by have:=(hm x).1 (by simp);simpa [e] using this
    have hy:y∈xs:=by have:=(hm y).2 (by simp);simpa [show ¬y=x from fun h=>e h.symm] using this
    have l1:=h1.1 y hy
    have l2:=h2.1 x hx
    rw [h.asym l1] at l2;cases l2
  subst e
  rw [Inc.ext h h1.2 h2.2 fun z=>?_]
  have:=hm z
  simp only [List.mem_cons] at this
  by_cases e:z=x
  ·subst e
   exact ⟨fun hz=>absurd rfl (h.ne (h1.1 z hz)),fun hz=>absurd rfl (h.ne (h2.1 z hz))⟩
  ·simpa [e] using this
def tW (lt:α→α→Bool) (l:List α):List α:=l.foldl (put lt) []
theorem B3 {l:List α}: ∀{acc:List α} {x:α},x∈l.foldl (put lt) acc↔x∈acc∨x∈l:=by
 induction l with
 |nil=>simp
 |cons y ys ih=>
  intro acc x
  rw [List.foldl_cons,ih,Ce,List.mem_cons]
  exact ⟨fun h=>by rcases h with (h|h)|h <;> simp [h],fun h=>by rcases h with h|h|h <;> simp [h]⟩
theorem wO {l:List α} {x:α}:x∈tW lt l↔x∈l:=by simp [tW,B3]
theorem BZ (h:Lin lt) {l:List α}: ∀{acc:List α},Inc lt acc→Inc lt (l.foldl (put lt) acc):=by
 induction l with
 |nil=>exact fun h=>h
 |cons y ys ih=>intro acc ha;exact ih (ha.put h y)
theorem xY (h:Lin lt) (l:List α):Inc lt (tW lt l):=BZ h List.Pairwise.nil
theorem wC (h:Lin lt) {a b:List α} (hm: ∀x,x∈a↔x∈b):tW lt a=tW lt b:=
 Inc.ext h (xY h a) (xY h b) fun x=>by rw [wO,wO,hm]
theorem Az {a b:List α}:tW lt (a++b)=b.foldl (put lt) (tW lt a):=by simp [tW,List.foldl_append]
def once:List α→List α→List α
 |acc,[]=>acc
 |acc,x::xs=>once (if x∈acc then acc else acc++[x]) xs
theorem uO: ∀{l acc:List α} {x:α},x∈once acc l↔x∈acc∨x∈l
 |[],acc,x=>by simp [once]
 |y::ys,acc,x=>by
  unfold once
  rw [uO,List.mem_cons]
  by_cases h:y∈acc
  ·rw [if_pos h]
   exact ⟨fun h=>by rcases h with h|h <;> simp [h],fun k=>by rcases k with k|rfl|k <;> simp [*]⟩
  ·rw [if_neg h]
   simp [or_assoc]
theorem uE: ∀{l acc:List α},acc.Nodup→(once acc l).Nodup
 |[],_,h=>h
 |y::ys,acc,h=>by
  unfold once
  refine uE ?_
  by_cases hc:y∈acc
  ·rw [if_pos hc];exact h
  ·rw [if_neg hc]
   refine List.nodup_append.2 ⟨h,by simp,fun a ha b hb e=>hc ?_⟩
   rw [List.mem_singleton.1 hb] at e
   subst e
   exact ha
theorem y6 (h:Lin lt) {a zs:List α} (hn:zs.Nodup) (hs:zs.Pairwise fun x y=>lt y x=false) (hm: ∀x,x∈zs↔x∈a):zs=tW lt a:=by
 refine Inc.ext h ?_ (xY h a) fun x=>by rw [hm,wO]
 refine (hs.and (List.nodup_iff_pairwise_ne.1 hn)).imp fun {x y} hxy=>?_
 cases e:lt x y with
 |true=>rfl
 |false=>exact absurd (h.tot _ _ e hxy.1) hxy.2
end
def ltI (a b:Int):Bool:=decide (a<b)
theorem Fk:Lin ltI where
 irr:=fun a=>by simp [ltI]
 tr:=fun a b c h k=>by simp only [ltI,decide_eq_true_eq] at *;omega
 tot:=fun a b h k=>by simp only [ltI,decide_eq_false_iff_not] at *;omega
def ltS (a b:ByteArray):Bool:=Op.bytesLess a.toList b.toList
theorem Aj {a b:ByteArray} (h:a.toList=b.toList):a=b:=by
 rw [ByteArray.toList_eq,ByteArray.toList_eq] at h
 exact ByteArray.ext (Array.ext' h)
theorem ze:Lin ltS where
 irr:=fun a=>by simp [ltS,Go.Proofs.bytesLess_eq]
 tr:=fun a b c h k=>by
  simp only [ltS,Go.Proofs.bytesLess_eq,decide_eq_true_eq] at *
  exact List.lt_trans h k
 tot:=fun a b h k=>by
  simp only [ltS,Go.Proofs.bytesLess_eq,decide_eq_false_iff_not,List.not_lt] at *
  exact Aj (List.le_antisymm k h)
end Go.TY
end
section
namespace Go.TY
open Go Go.DL Go.MM
abbrev Fd:=Go.MM.Fd
structure RS where
 kind:Int
 var:ByteArray
 key:List ByteArray
 field:ByteArray
 n:Int
 m:Int
def sG (s:RS):List T:=[I s.kind,.str s.var,.slice 1 (s.key.map .str),.str s.field,I s.n,I s.m]
structure RV where
 name:ByteArray
 fam:Int
 ws:List Int
 n:Int
 m:Int
 deriving DecidableEq
def ua (v:RV):List T:=[.str v.name,I v.fam,.slice 1 (v.ws.map I),I v.n,I v.m]
def sP (v:RV):T:=.agg (ua v)
def RS.own (s:RS):Bool:=s.kind==4||s.kind==6
def tz (k:Int):Int:=if k=1 then 1 else if k=2∨k=3 then 2 else if k=4∨k=5 then 3 else 4
def sQ (l:List Fd) (s:RS):List Int:=s.key.map fun k=>((fld l k).w:Int)
def vOf (l:List Fd) (s:RS):RV:=⟨s.var,tz s.kind,sQ l s,if s.own then s.n else 0,if s.own then s.m else 0⟩
def ug (l:List Fd) (s t:RS):Bool:= !(s.own&&t.own&&((s.n !=t.n)||(s.m !=t.m)))&&((sQ l s==sQ l t)&&(tz s.kind==tz t.kind))
theorem uc {l:List Fd} {s t:RS}:ug l s t=true↔(s.own=true→t.own=true→s.n=t.n∧s.m=t.m)∧sQ l s=sQ l t∧tz s.kind=tz t.kind:=by
 unfold ug
 cases h1:s.own <;> cases h2:t.own <;> simp
theorem yS {l:List Fd} (s:RS):ug l s s=true:=by rw [uc];simp
theorem yT {l:List Fd} {s t:RS} (h:ug l s t=true):ug l t s=true:=by
 rw [uc] at *
 exact ⟨fun a b=>⟨(h.1 b a).1.symm,(h.1 b a).2.symm⟩,h.2.1.symm,h.2.2.symm⟩
def PW (l:List Fd) (ss:List RS):Prop:=ss.Pairwise fun s t=>s.var=t.var→ug l s t=true
theorem PW.all {l:List Fd} {ss:List RS} (h:PW l ss): ∀s∈ss, ∀t∈ss,s.var=t.var→ug l s t=true:=by
 induction ss with
 |nil=>intro s hs;simp at hs
 |cons x xs ih=>
  have h2:=List.pairwise_cons.1 h
  intro s hs t ht e
  rcases List.mem_cons.1 hs with e1|hs'
  ·rcases List.mem_cons.1 ht with e2|ht'
   ·rw [e1,e2];exact yS _
   ·subst e1;exact h2.1 t ht' e
  ·rcases List.mem_cons.1 ht with e2|ht'
   ·subst e2;exact yT (h2.1 s hs' e.symm)
   ·exact ih h2.2 s hs' t ht' e
theorem PW.of {l:List Fd} {ss:List RS} (h: ∀s∈ss, ∀t∈ss,s.var=t.var→ug l s t=true):PW l ss:=by
 induction ss with
 |nil=>exact List.Pairwise.nil
 |cons x xs ih=>exact List.pairwise_cons.2 ⟨fun t ht e=>h x (by simp) t (by simp [ht]) e,ih fun s hs t ht=>h s (by simp [hs]) t (by simp [ht])⟩
theorem DD {l:List Fd} {ss:List RS}:PW l ss↔ ∀s∈ss, ∀t∈ss,s.var=t.var→ug l s t=true:=⟨PW.all,PW.of⟩
theorem zP {l:List Fd} {ss:List RS} {t:RS}:PW l (ss++[t])↔PW l ss∧ ∀s∈ss,s.var=t.var→ug l s t=true:=by
 unfold PW
 rw [List.pairwise_append]
 exact ⟨fun h=>⟨h.1,fun s hs=>h.2.2 s hs t (by simp)⟩,fun h=>⟨h.1,by simp,fun a ha b hb=>by rw [List.mem_singleton.1 hb];exact h.2 a ha⟩⟩
def sR (ss:List RS) (name:ByteArray):Option RS:=ss.find? fun s=>decide (s.var=name)&&s.own
def tk (l:List Fd) (ss:List RS) (name:ByteArray):Option RV:=match ss.find? fun s=>decide (s.var=name) with
 |none=>none
 |some s=>some ⟨name,tz s.kind,sQ l s,((sR ss name).map (·.n)).getD 0,((sR ss name).map (·.m)).getD 0⟩
structure VS where
 all:List RV
 num:List (ByteArray×Bool)
def tl (all:List RV) (name:ByteArray):Option RV:=all.find? fun v=>decide (v.name=name)
def uR (v:RV):List RV→List RV
 |[]=>[v]
 |x::xs=>if x.name=v.name then v::xs else x::uR v xs
def ui (num:List (ByteArray×Bool)) (name:ByteArray):Option Bool:=(num.find? fun p=>decide (p.1=name)).map (·.2)
def xz (name:ByteArray) (b:Bool):List (ByteArray×Bool)→List (ByteArray×Bool)
 |[]=>[(name,b)]
 |x::xs=>if x.1=name then (name,b)::xs else x::xz name b xs
theorem xj {v:RV} {all:List RV} {name:ByteArray}:tl (uR v all) name=if v.name=name then some v else tl all name:=by
 induction all with
 |nil=>unfold uR tl;by_cases h:v.name=name <;> simp [h]
 |cons x xs ih=>
  unfold uR
  by_cases hx:x.name=v.name
  ·rw [if_pos hx]
   unfold tl
   by_cases h:v.name=name
   ·simp [h]
   ·have: ¬x.name=name:=fun e=>h (hx.symm.trans e)
    simp [h,this]
  ·rw [if_neg hx]
   unfold tl at ih ⊢
   rw [List.find?_cons,List.find?_cons,ih]
   by_cases h:x.name=name
   ·have: ¬v.name=name:=fun e=>hx (h.trans e.symm)
    simp [h,this]
   ·simp [h]
theorem DM {n:ByteArray} {b:Bool} {num:List (ByteArray×Bool)} {name:ByteArray}:ui (xz n b num) name=if n=name then some b else ui num name:=by
 induction num with
 |nil=>unfold xz ui;by_cases h:n=name <;> simp [h]
 |cons x xs ih=>
  unfold xz
  by_cases hx:x.1=n
  ·rw [if_pos hx]
   unfold ui
   by_cases h:n=name
   ·simp [h]
   ·have: ¬x.1=name:=fun e=>h (hx.symm.trans e)
    simp [h,this]
  ·rw [if_neg hx]
   unfold ui at ih ⊢
   rw [List.find?_cons,List.find?_cons]
   by_cases h:x.1=name
   ·have: ¬n=name:=fun e=>hx (h.trans e.symm)
    simp [h,this]
   ·simp only [h,decide_false];exact ih
theorem zA {v:RV} {all:List RV}:(uR v all).map (·.name)=if v.name∈all.map (·.name) then all.map (·.name) else all.map (·.name)++[v.name]:=by
 induction all with
 |nil=>simp [uR]
 |cons x xs ih=>
  unfold uR
  by_cases hx:x.name=v.name
  ·rw [if_pos hx,if_pos (by rw [List.map_cons,hx];exact List.mem_cons_self)];simp [hx]
  ·rw [if_neg hx,List.map_cons,ih,List.map_cons]
   by_cases hm:v.name∈xs.map (·.name)
   ·rw [if_pos hm,if_pos (List.mem_cons_of_mem _ hm)]
   ·rw [if_neg hm,if_neg (fun h=>by
     rcases List.mem_cons.1 h with h|h
     ·exact hx h.symm
     ·exact hm h)]
    rfl
def vd (l:List Fd) (st:VS) (s:RS):Option VS:=
 let num:=xz s.var (((ui st.num s.var).getD false)||s.own) st.num
 match tl st.all s.var with
 |none=>some ⟨uR (vOf l s) st.all,num⟩
 |some old=>if (old.fam !=tz s.kind)|| !(old.ws==sQ l s)||(s.own&&((ui st.num s.var).getD false)&&((old.n !=s.n)||(old.m !=s.m))) then none
  else some ⟨if s.own then uR (vOf l s) st.all else st.all,num⟩
def uw (l:List Fd):VS→List RS→Option VS
 |st,[]=>some st
 |st,s::ss=>(vd l st s).bind fun st=>uw l st ss
structure xr (l:List Fd) (ss:List RS) (st:VS):Prop where
 pw:PW l ss
 look: ∀name,tl st.all name=tk l ss name
 num: ∀name,(ui st.num name).getD false=(sR ss name).isSome
 names:st.all.map (·.name)=once [] (ss.map (·.var))
theorem vl {α:Type} [DecidableEq α]: ∀{xs acc:List α} {y:α},once acc (xs++[y])=(if y∈once acc xs then once acc xs else once acc xs++[y])
 |[],acc,y=>rfl
 |x::xs,acc,y=>by
  rw [List.cons_append]
  unfold once
  exact vl
theorem ud {α:Type} {p:α→Bool} {ss:List α} {t:α}:(ss++[t]).find? p=match ss.find? p with
  |some s=>some s
  |none=>if p t=true then some t else none:=by
 rw [List.find?_append]
 cases ss.find? p with
 |some s=>rfl
 |none=>simp [List.find?_cons];cases p t <;> rfl
theorem xr.step {l:List Fd} {ss:List RS} {st:VS} (h:xr l ss st) (t:RS):
  (PW l (ss++[t])→ ∃st',vd l st t=some st'∧xr l (ss++[t]) st')∧(¬ PW l (ss++[t])→vd l st t=none):=by
 have hl:=h.look t.var
 have hn:=h.num t.var
 have hsome: ∀s0,ss.find? (fun s=>decide (s.var=t.var))=some s0→s0∈ss∧s0.var=t.var:=fun s0 h0=>⟨List.mem_of_find?_eq_some h0,by simpa using List.find?_some h0⟩
 have hown: ∀s1,sR ss t.var=some s1→s1∈ss∧s1.var=t.var∧s1.own=true:=fun s1 h1=>⟨List.mem_of_find?_eq_some h1,by simpa using List.find?_some h1⟩
 have hpw:=h.pw.all
 have lookO: ∀(x:List RV) name, ¬t.var=name→tl x name=tl st.all name→tl x name=tk l (ss++[t]) name:=fun x name hne hx=>by
  rw [hx,h.look name]
  unfold tk sR
  rw [ud,ud]
  simp only [hne,decide_false,Bool.false_and]
  cases ss.find? fun s=>decide (s.var=name) with
  |none=>rfl
  |some s=>simp only;cases ss.find? fun s=>decide (s.var=name)&&s.own <;> rfl
 have numI: ∀name,(ui (xz t.var (((ui st.num t.var).getD false)||t.own) st.num) name).getD false=(sR (ss++[t]) name).isSome:=fun name=>by
  rw [DM]
  unfold sR
  rw [ud]
  by_cases hne:t.var=name
  ·subst hne
   rw [if_pos rfl,Option.getD_some,hn]
   unfold sR
   cases ss.find? fun s=>decide (s.var=t.var)&&s.own with
   |some s=>simp
   |none=>cases ho:t.own <;> simp []
  ·rw [if_neg hne,h.num name]
   unfold sR
   simp only [hne,decide_false,Bool.false_and]
   cases ss.find? fun s=>decide (s.var=name)&&s.own <;> rfl
 unfold vd
 dsimp only
 cases hf:ss.find? (fun s=>decide (s.var=t.var)) with
 |none=>
  have hno: ∀s∈ss, ¬s.var=t.var:=fun s hs=>by
   have:=List.find?_eq_none.1 hf s hs;simpa using this
  have hlk:tl st.all t.var=none:=by rw [hl];unfold tk;rw [hf]
  rw [hlk]
  have hp2:PW l (ss++[t]):=zP.2 ⟨h.pw,fun s hs e=>absurd e (hno s hs)⟩
  refine ⟨fun _=>⟨_,rfl,hp2,fun name=>?_,numI,?_⟩,fun hc=>absurd hp2 hc⟩
  ·by_cases hne:t.var=name
   ·subst hne
    rw [xj]
    have h0:sR ss t.var=none:=by
     unfold sR
     rw [List.find?_eq_none]
     intro s hs;simp [hno s hs]
    unfold tk
    rw [ud,hf]
    have:(vOf l t).name=t.var:=rfl
    rw [if_pos this]
    simp only [decide_true,if_true]
    unfold sR at h0 ⊢
    rw [ud,h0]
    simp only [decide_true,Bool.true_and,vOf]
    cases t.own <;> rfl
   ·refine lookO _ name hne ?_
    rw [xj]
    exact if_neg hne
  ·show (uR (vOf l t) st.all).map (·.name)=_
   rw [zA,h.names,List.map_append,List.map_cons,List.map_nil,vl]
   rfl
 |some s0=>
  obtain ⟨m0,v0⟩:=hsome s0 hf
  have hlk:tl st.all t.var=some ⟨t.var,tz s0.kind,sQ l s0,((sR ss t.var).map (·.n)).getD 0,((sR ss t.var).map (·.m)).getD 0⟩:=by rw [hl];unfold tk;rw [hf]
  rw [hlk]
  dsimp only
  have key:PW l (ss++[t])↔(tz s0.kind=tz t.kind∧sQ l s0=sQ l t)∧(t.own=true→ ∀s1,sR ss t.var=some s1→s1.n=t.n∧s1.m=t.m):=by
   rw [zP]
   constructor
   ·rintro ⟨_,ha⟩
    have h0:=uc.1 (ha s0 m0 v0)
    exact ⟨⟨h0.2.2,h0.2.1⟩,fun ho s1 h1=>by
     obtain ⟨k1,k2,k3⟩:=hown s1 h1
     exact (uc.1 (ha s1 k1 k2)).1 k3 ho⟩
   ·rintro ⟨⟨f1,f2⟩,f3⟩
    refine ⟨h.pw,fun s hs e=>uc.2 ⟨fun hso hto=>?_,?_,?_⟩⟩
    ·have:(sR ss t.var).isSome=true:=by
      unfold sR
      rw [List.find?_isSome]
      exact ⟨s,hs,by simp [e,hso]⟩
     obtain ⟨s1,h1⟩:=Option.isSome_iff_exists.1 this
     obtain ⟨k1,k2,k3⟩:=hown s1 h1
     have h4:=(uc.1 (hpw s hs s1 k1 (e.trans k2.symm))).1 hso k3
     have h5:=f3 hto s1 h1
     exact ⟨h4.1.trans h5.1,h4.2.trans h5.2⟩
    ·exact (uc.1 (hpw s hs s0 m0 (e.trans v0.symm))).2.1.trans f2
    ·exact (uc.1 (hpw s hs s0 m0 (e.trans v0.symm))).2.2.trans f1
  have cond:((tz s0.kind !=tz t.kind)|| !(sQ l s0==sQ l t)||(t.own&&((ui st.num t.var).getD false)&&((((sR ss t.var).map (·.n)).getD 0 !=t.n)||(((sR ss t.var).map (·.m)).getD 0 !=t.m))))=true↔ ¬PW l (ss++[t]):=by
   rw [key,hn]
   cases ho:sR ss t.var with
   |none=>simp;exact ⟨fun h=>by rcases h with h|h <;> simp [h],fun h=>by
     by_cases e:tz s0.kind=tz t.kind
     ·exact Or.inr (h e)
     ·exact Or.inl e⟩
   |some s1=>
    simp only [Option.map_some,Option.getD_some,Option.isSome_some,Bool.and_true,Bool.or_eq_true,Bool.and_eq_true,bne_iff_ne,ne_eq,Bool.not_eq_true',beq_eq_false_iff_ne,Option.some.injEq]
    constructor
    ·rintro ((h|h)|⟨h1,h2⟩) ⟨⟨k1,k2⟩,k3⟩
     ·exact h k1
     ·exact h k2
     ·have:=k3 h1 s1 rfl
      rcases h2 with h2|h2
      ·exact h2 this.1
      ·exact h2 this.2
    ·intro hn'
     by_cases e1:tz s0.kind=tz t.kind
     ·by_cases e2:sQ l s0=sQ l t
      ·by_cases e3:t.own=true
       ·refine Or.inr ⟨e3,?_⟩
        by_cases e4:s1.n=t.n
        ·refine Or.inr fun e5=>hn' ⟨⟨e1,e2⟩,fun _ s h=>by rw [← h];exact ⟨e4,e5⟩⟩
        ·exact Or.inl e4
       ·exact absurd ⟨⟨e1,e2⟩,fun h=>absurd h e3⟩ hn'
      ·exact Or.inl (Or.inr e2)
     ·exact Or.inl (Or.inl e1)
  constructor
  ·intro hp
   rw [if_neg (fun hc=>cond.1 hc hp)]
   obtain ⟨⟨f1,f2⟩,f3⟩:=key.1 hp
   refine ⟨_,rfl,hp,fun name=>?_,numI,?_⟩
   ·by_cases hne:t.var=name
    ·subst hne
     have hs:tk l (ss++[t]) t.var=some ⟨t.var,tz s0.kind,sQ l s0,((sR (ss++[t]) t.var).map (·.n)).getD 0,((sR (ss++[t]) t.var).map (·.m)).getD 0⟩:=by
      unfold tk
      rw [ud,hf]
     have ho:sR (ss++[t]) t.var=match sR ss t.var with
       |some s=>some s
       |none=>if t.own=true then some t else none:=by
      unfold sR
      rw [ud]
      simp only [decide_true,Bool.true_and]
      cases ss.find? fun s=>decide (s.var=t.var)&&s.own <;> rfl
     rw [hs,ho]
     show tl (if t.own=true then uR (vOf l t) st.all else st.all) t.var=_
     cases hto:t.own with
     |false=>
      simp only [Bool.false_eq_true,if_false]
      rw [hlk]
      cases sR ss t.var <;> rfl
     |true=>
      simp only [if_true]
      rw [xj,if_pos (show (vOf l t).name=t.var from rfl)]
      unfold vOf
      rw [hto,f1,f2]
      cases ho2:sR ss t.var with
      |none=>rfl
      |some s1=>
       obtain ⟨k1,k2⟩:=f3 hto s1 ho2
       simp [k1,k2]
    ·refine lookO _ name hne ?_
     show tl (if t.own=true then uR (vOf l t) st.all else st.all) name=_
     cases t.own with
     |false=>rfl
     |true=>
      simp only [if_true]
      rw [xj]
      exact if_neg hne
   ·show (if t.own=true then uR (vOf l t) st.all else st.all).map (·.name)=_
    have hc:t.var∈once [] (ss.map (·.var)):=by
     rw [uO]
     exact Or.inr (List.mem_map.2 ⟨s0,m0,v0⟩)
    rw [List.map_append,List.map_cons,List.map_nil,vl,if_pos hc]
    cases t.own with
    |false=>exact h.names
    |true=>
     simp only [if_true]
     rw [zA,h.names]
     exact if_pos (show (vOf l t).name∈_ from hc)
  ·intro hp
   rw [if_pos (cond.2 hp)]
theorem yd {l:List Fd}: ∀{ts ss:List RS} {st:VS},xr l ss st→(PW l (ss++ts)→ ∃st',uw l st ts=some st'∧xr l (ss++ts) st')∧(¬ PW l (ss++ts)→uw l st ts=none)
 |[],ss,st,h=>by
  rw [List.append_nil]
  exact ⟨fun _=>⟨st,rfl,h⟩,fun hn=>absurd h.pw hn⟩
 |t::ts,ss,st,h=>by
  have hs:=h.step t
  have e:ss++t::ts=(ss++[t])++ts:=by simp
  rw [e]
  by_cases hp:PW l (ss++[t])
  ·obtain ⟨st',h1,h2⟩:=hs.1 hp
   have:=yd (ts:=ts) h2
   unfold uw
   rw [h1,Option.bind_some]
   exact this
  ·have hnp: ¬PW l ((ss++[t])++ts):=fun hq=>hp (List.Pairwise.sublist (List.sublist_append_left _ _) hq)
   refine ⟨fun hq=>absurd hq hnp,fun _=>?_⟩
   unfold uw
   rw [hs.2 hp];rfl
theorem xr.start {l:List Fd}:xr l [] ⟨[],[]⟩:=⟨List.Pairwise.nil,fun _=>rfl,fun _=>rfl,rfl⟩
def sE (ss:List RS):List RS:=ss.filter fun s=>s.kind !=0
end Go.TY
end
section
namespace Go.TY
open Go Go.DL Go.MM Go.Proofs
structure RG where
 pol:RO
 st:RS
def sD (g:RG):List T:=sA g.pol++sG g.st
def sL (g:RG):T:=.agg (sD g)
theorem sO (g:RG):(sD g).length=15:=by simp [sD,sF,sG]
structure SmS (B:Nat) (s:RS):Prop where
 var:s.var.size<B
 field:s.field.size<B
 keys: ∀k∈s.key,k.size<B
 len:s.key.length<B
theorem SmS.mono {B B':Nat} {s:RS} (h:SmS B s) (hb:B≤B'):SmS B' s:=⟨by have:=h.var;omega,by have:=h.field;omega,fun k hk=>by have:=h.keys k hk;omega,by have:=h.len;omega⟩
structure SmG (B:Nat) (g:RG):Prop where
 st:SmS B g.st
 wt:g.pol.wt≤B
 names:B≤2^61→uP g.pol
theorem Ct:Tryz.prog.underlying 29=some (.slice 9):=by kernel_rfl
theorem Ai:Tryz.prog.underlying 56=some (.slice 61):=by kernel_rfl
theorem Cs:Tryz.prog.underlying 46=some (.slice 3):=by kernel_rfl
theorem DG:Tryz.prog.cellsOf 29=1:=by kernel_rfl
theorem DF:Tryz.prog.cellsOf 46=1:=by kernel_rfl
theorem Ak:Tryz.prog.cellsOf 31=6:=by kernel_rfl
theorem zk:Tryz.prog.cellsOf 61=15:=by kernel_rfl
theorem Fb:Tryz.prog.cellsOf 66=5:=by kernel_rfl
theorem GU (us:List T):mkT Tryz.prog 61 us= .agg us:=by unfold mkT;rw [Tryz.underlying61]
theorem mkVar (us:List T):mkT Tryz.prog 66 us= .agg us:=by unfold mkT;rw [Tryz.underlying66]
theorem mkStr (t:T):mkT Tryz.prog 9 [t]=t:=by unfold mkT;rw [I0];rfl
theorem mkInt (t:T):mkT Tryz.prog 3 [t]=t:=by unfold mkT;rw [Tryz.underlying3];rfl
theorem G5 {us:List T} (h:cE Tryz.prog 29 us): ∃l:List ByteArray,dp us [.slice 1 (l.map .str)]∧l.length+1≤aV us∧ ∀s∈l,s.size<aV us:=by
 cases h with
 |nil h=>exact ⟨[],.cons (Les.nil 1) rfl .nil,by simp [aV,T.bulk],by simp⟩
 |slice h xs hx hl=>
  rw [Ct] at h
  cases h
  rw [wQ]
  have key: ∃l:List ByteArray,xs.map (mkT Tryz.prog 9)=l.map .str∧l.length≤aV (xs.map (mkT Tryz.prog 9))∧ ∀s∈l,s.size<aV (xs.map (mkT Tryz.prog 9)):=by
   clear hl
   induction xs with
   |nil=>exact ⟨[],rfl,by simp,by simp⟩
   |cons x xs ih=>
    obtain ⟨s,rfl⟩:=w8 (hx x (by simp))
    obtain ⟨l,k1,k2,k3⟩:=ih fun y hy=>hx y (by simp [hy])
    refine ⟨s::l,by simp only [List.map_cons,k1,mkStr],?_,fun z hz=>?_⟩
    ·simp only [List.map_cons,aV,mkStr,T.bulk,List.length_cons];omega
    ·simp only [List.map_cons,aV,mkStr,T.bulk]
     rcases List.mem_cons.1 hz with rfl|hz
     ·omega
     ·have:=k3 z hz;omega
  obtain ⟨l,k1,k2,k3⟩:=key
  refine ⟨l,by rw [← k1];exact .cons (Les.refl _) rfl .nil,by simp only [aV,T.bulk];omega,fun s hs=>by simp only [aV,T.bulk];have:=k3 s hs;omega⟩
 |int h|bool h|str h|array h|struct h=>rw [Ct] at h;cases h
theorem G1 {us:List T} (h:cE Tryz.prog 46 us): ∃l:List Int,dp us [.slice 1 (l.map I)]∧l.length+1≤aV us:=by
 cases h with
 |nil h=>exact ⟨[],.cons (Les.nil 1) rfl .nil,by simp [aV,T.bulk]⟩
 |slice h xs hx hl=>
  rw [Cs] at h
  cases h
  rw [xB]
  have key: ∃l:List Int,xs.map (mkT Tryz.prog 3)=l.map I∧l.length≤aV (xs.map (mkT Tryz.prog 3)):=by
   clear hl
   induction xs with
   |nil=>exact ⟨[],rfl,by simp⟩
   |cons x xs ih=>
    obtain ⟨s,rfl,_⟩:=uo (hx x (by simp))
    obtain ⟨l,k1,k2⟩:=ih fun y hy=>hx y (by simp [hy])
    refine ⟨s::l,by simp only [List.map_cons,k1,mkInt],?_⟩
    simp only [List.map_cons,aV,mkInt,T.bulk,List.length_cons];omega
  obtain ⟨l,k1,k2⟩:=key
  refine ⟨l,by rw [← k1];exact .cons (Les.refl _) rfl .nil,by simp only [aV,T.bulk];omega⟩
 |int h|bool h|str h|array h|struct h=>rw [Cs] at h;cases h
theorem JM {us:List T} (h:us.length=6): ∃a b c d e f,us=[a,b,c,d,e,f]:=by
 match us,h with
 |[a,b,c,d,e,f],_=>exact ⟨a,b,c,d,e,f,rfl⟩
theorem G4 {us:List T} (h:cE Tryz.prog 31 us): ∃s:RS,dp us (sG s)∧SmS (aV us) s:=by
 cases h with
 |struct h us hl hf=>
  rw [Tryz.underlying31] at h
  cases h
  rw [Ak] at hl
  obtain ⟨a,b,c,d,e,f,rfl⟩:=JM hl
  have f0:=hf ⟨ "Kind",3,0,false, "", "",0⟩ (by simp)
  have f1:=hf ⟨ "Var",9,1,false, "", "",8⟩ (by simp)
  have f2:=hf ⟨ "Key",29,2,false, "", "",24⟩ (by simp)
  have f3:=hf ⟨ "Field",9,3,false, "", "",48⟩ (by simp)
  have f4:=hf ⟨ "N",3,4,false, "", "",64⟩ (by simp)
  have f5:=hf ⟨ "M",3,5,false, "", "",72⟩ (by simp)
  simp only [xB,wQ,DG,List.drop,List.take] at f0 f1 f2 f3 f4 f5
  obtain ⟨k,e0,_⟩:=uo f0
  obtain ⟨v,e1⟩:=w8 f1
  obtain ⟨l,g1,g2,g3⟩:=G5 f2
  obtain ⟨s,e3⟩:=w8 f3
  obtain ⟨n,e4,_⟩:=uo f4
  obtain ⟨m,e5,_⟩:=uo f5
  simp only [List.cons.injEq,and_true] at e0 e1 e3 e4 e5
  subst e0;subst e1;subst e3;subst e4;subst e5
  refine ⟨⟨k,v,l,s,n,m⟩,.cons (Les.refl _) rfl (.cons (Les.refl _) rfl (dp.append (us:=[T.slice 1 (l.map .str)]) g1 (.cons (Les.refl _) rfl (.cons (Les.refl _) rfl (.cons (Les.refl _) rfl .nil))))),?_⟩
  simp only [aV,T.bulk] at g2 g3 ⊢
  exact ⟨by show v.size<_;omega,by show s.size<_;omega,fun z hz=>by have:=g3 z hz;omega,by show l.length<_;omega⟩
 |int h|bool h|str h|nil h|slice h|array h=>rw [Tryz.underlying31] at h;cases h
theorem Fs {us:List T} (h:cE Tryz.prog 61 us): ∃g:RG,dp us (sD g)∧SmG (aV us) g:=by
 cases h with
 |struct h us hl hf=>
  rw [Tryz.underlying61] at h
  cases h
  rw [zk] at hl
  have f0:=(EJ (hf ⟨ "Policy",28,0,false, "", "",0⟩ (by simp))).1 rfl
  have f1:=G4 (hf ⟨ "Step",31,9,false, "", "",120⟩ (by simp))
  rw [zT] at f0
  rw [Ak] at f1
  obtain ⟨r,r1,r2,r3⟩:=f0
  obtain ⟨s,s1,s2⟩:=f1
  dsimp only at r1 r2 r3 s1 s2
  have hap:us=(us.drop 0).take 9++(us.drop 9).take 6:=by
   rw [List.drop_zero,List.take_of_length_le (l:=us.drop 9) (by simp;omega),List.take_append_drop]
  have hbk: ∀a b:List T,aV (a++b)=aV a+aV b:=fun a b=>by
   induction a with
   |nil=>simp [aV]
   |cons x xs ih=>simp only [List.cons_append,aV,ih];omega
  have hb:=hbk ((us.drop 0).take 9) ((us.drop 9).take 6)
  rw [← hap] at hb
  refine ⟨⟨r,s⟩,?_,⟨s2.mono (by omega),by show r.wt≤_;omega,fun h=>r3 (by omega)⟩⟩
  rw [hap]
  exact dp.append r1 s1
 |int h|bool h|str h|nil h|slice h|array h=>rw [Tryz.underlying61] at h;cases h
theorem G3 {us:List T} (h:cE Tryz.prog 56 us): ∃gs:List RG,Les (mkT Tryz.prog 56 us) (.slice 15 (gs.map sL))∧gs.length≤aV us∧ ∀g∈gs,SmG (aV us) g:=by
 have e: ∀t,mkT Tryz.prog 56 [t]=t:=fun t=>by unfold mkT;rw [Ai];rfl
 cases h with
 |nil h=>exact ⟨[],by rw [e];exact Les.nil 15,by simp,by simp⟩
 |slice h xs hx hl=>
  rw [Ai] at h
  cases h
  rw [e,zk]
  have em:xs.map (mkT Tryz.prog 61)=xs.map .agg:=List.map_congr_left fun x _=>GU x
  rw [em]
  have key: ∃gs:List RG,gs.length=xs.length∧(∀ (i:Nat) (x:List T) (r:RG),xs[i]? =some x→gs[i]? =some r→dp x (sD r))∧gs.length≤aV (xs.map .agg)∧ ∀g∈gs,SmG (aV (xs.map .agg)) g:=by
   clear hl em
   induction xs with
   |nil=>exact ⟨[],rfl,by simp,by simp,by simp⟩
   |cons x xs ih=>
    obtain ⟨g,h1,h2⟩:=Fs (hx x (by simp))
    obtain ⟨gs,k1,k2,k3,k4⟩:=ih fun y hy=>hx y (by simp [hy])
    have hv:=h2.st.var
    refine ⟨g::gs,by simp [k1],fun i a b ha hb=>?_,by simp only [List.map_cons,aV,T.bulk,List.length_cons];omega,fun z hz=>?_⟩
    ·cases i with
     |zero=>simp at ha hb;subst ha;subst hb;exact h1
     |succ i=>exact k2 i a b (by simpa using ha) (by simpa using hb)
    ·have up: ∀{B:Nat} {z:RG},SmG B z→B≤aV ((x::xs).map .agg)→SmG (aV ((x::xs).map .agg)) z:=fun h hb=>⟨h.st.mono hb,by have:=h.wt;omega,fun hh=>h.names (by omega)⟩
     rcases List.mem_cons.1 hz with rfl|hz
     ·exact up h2 (by simp only [List.map_cons,aV,T.bulk];omega)
     ·exact up (k4 z hz) (by simp only [List.map_cons,aV,T.bulk];omega)
  obtain ⟨gs,k1,k2,k3,k4⟩:=key
  refine ⟨gs,Les.slice (by simp [k1]) fun i x y hx hy=>?_,by simp only [aV,T.bulk];omega,fun g hg=>?_⟩
  ·rw [List.getElem?_map] at hx hy
   obtain ⟨x',hx',rfl⟩:=Option.map_eq_some_iff.1 hx
   obtain ⟨r',hr',rfl⟩:=Option.map_eq_some_iff.1 hy
   exact ⟨k2 i x' r' hx' hr',sO r'⟩
  ·have h:=k4 g hg
   have hb:aV (xs.map .agg)≤aV [T.slice 15 (xs.map .agg)]:=by simp only [aV,T.bulk];omega
   exact ⟨h.st.mono hb,by have:=h.wt;omega,fun hh=>h.names (by omega)⟩
 |int h|bool h|str h|array h|struct h=>rw [Ai] at h;cases h
theorem IC {us:List T} (h:cE Tryz.prog 66 us): ∃v:RV,dp us (ua v)∧v.name.size<aV us∧v.ws.length<aV us:=by
 cases h with
 |struct h us hl hf=>
  rw [Tryz.underlying66] at h
  cases h
  rw [Fb] at hl
  obtain ⟨a,b,c,d,e,rfl⟩:=AF hl
  have f0:=hf ⟨ "Name",9,0,false, "", "",0⟩ (by simp)
  have f1:=hf ⟨ "Family",3,1,false, "", "",16⟩ (by simp)
  have f2:=hf ⟨ "Widths",46,2,false, "", "",24⟩ (by simp)
  have f3:=hf ⟨ "N",3,3,false, "", "",48⟩ (by simp)
  have f4:=hf ⟨ "M",3,4,false, "", "",56⟩ (by simp)
  simp only [xB,wQ,DF,List.drop,List.take] at f0 f1 f2 f3 f4
  obtain ⟨s,e0⟩:=w8 f0
  obtain ⟨k,e1,_⟩:=uo f1
  obtain ⟨l,g1,g2⟩:=G1 f2
  obtain ⟨n,e3,_⟩:=uo f3
  obtain ⟨m,e4,_⟩:=uo f4
  simp only [List.cons.injEq,and_true] at e0 e1 e3 e4
  subst e0;subst e1;subst e3;subst e4
  refine ⟨⟨s,k,l,n,m⟩,.cons (Les.refl _) rfl (.cons (Les.refl _) rfl (dp.append (us:=[T.slice 1 (l.map I)]) g1 (.cons (Les.refl _) rfl (.cons (Les.refl _) rfl .nil)))),?_,?_⟩
  ·simp only [aV,T.bulk];omega
  ·simp only [aV,T.bulk] at g2 ⊢;omega
 |int h|bool h|str h|nil h|slice h|array h=>rw [Tryz.underlying66] at h;cases h
end Go.TY
end
section
namespace Go.TY
open Go Go.DL Go.MM Go.Proofs Go.RowKit
def typesT:List TypeId:=[22,88,25,23,28,26,31,29,61,56,66,46,9,3,4,5]
theorem typesT_ok:eP Tryz.prog typesT=true:=by kernel_rfl
theorem aFields {us:List T} (h:cE Tryz.prog 22 us) (hb:aV us≤1048576): ∃l,Les (mkT Tryz.prog 22 us) (vZ l)∧l.length<2^60∧ ∀f∈l,f.name.size<2^62:=by
 obtain ⟨l,h1,h2,h3⟩:=EI h
 exact ⟨l,h1,by omega,fun f hf=>by have:=h3 f hf;omega⟩
theorem aProg {us:List T} (h:cE Tryz.prog 56 us) (hb:aV us≤1048576): ∃gs:List RG,Les (mkT Tryz.prog 56 us) (.slice 15 (gs.map sL))∧gs.length≤1048576∧ ∀g∈gs,SmG (2^30) g:=by
 obtain ⟨gs,h1,h2,h3⟩:=G3 h
 exact ⟨gs,h1,by omega,fun g hg=>by
  have:=h3 g hg
  exact ⟨this.st.mono (by omega),by have:=this.wt;omega,fun _=>this.names (by omega)⟩⟩
theorem aVar {us:List T} (h:cE Tryz.prog 66 us) (hb:aV us≤1048576): ∃v:RV,Les (mkT Tryz.prog 66 us) (sP v)∧v.ws.length<2^30:=by
 obtain ⟨v,h1,_,h3⟩:=IC h
 exact ⟨v,by rw [mkVar];exact Les.agg h1,by omega⟩
def DB {H:Type} (ss:List ByteArray):DataW H:=.agg (ss.map fun s=>.lit (.string s.data.toList))
theorem Ax {H:Type} {enc:TypeId×Value→H} {P:Program} {w:World} {base:Nat} {sp:Nat→Bool} {held:Bool} {fuel:Nat} {t e:TypeId} {n:Nat} {cs:List Value} {ss:List ByteArray} {p:List MemPlace}
  (ht:P.underlying t=some (.array n e)) (he:P.underlying e=some .string) (hce:P.cellsOf e=1) (hct:P.cellsOf t=n)
  (h:DataW.trod enc P w base sp held fuel t cs=some (DB ss,p)):cs=ss.map fun z=>Value.string z:=by
 cases fuel with
 |zero=>simp [DataW.trod] at h
 |succ fuel=>
  simp only [DataW.trod,ht,hce,hct,Nat.mul_one] at h
  split at h
  ·rename_i hl
   obtain ⟨xs,hm,hx⟩:=Option.map_eq_some_iff.1 h
   have hxs:xs.map (·.1)=ss.map fun s=>(DataW.lit (.string s.data.toList):DataW H):=by
    have:=congrArg Prod.fst hx
    simpa [DB] using this
   have hxl:xs.length=n:=by simpa using Lib.mapM_length hm
   have hzl:ss.length=n:=by
    have:=congrArg List.length hxs
    simp at this
    omega
   apply List.ext_getElem?
   intro i
   by_cases hi:i<n
   ·obtain ⟨b,hb,hf⟩:=Lib.mapM_at hm i i (by simp [hi])
    obtain ⟨z,hc,rfl,_⟩:=DataW.trod_string he hf
    have h1:cs[i]? =some (.string z):=by
     have:=congrArg (·[0]?) hc
     simpa [List.getElem?_take,List.getElem?_drop] using this
    have h2:(xs.map (·.1))[i]? =some (DataW.lit (.string z.data.toList):DataW H):=by simp [hb]
    rw [hxs] at h2
    simp only [List.getElem?_map,Option.map_eq_some_iff,DataW.lit.injEq,Lit.string.injEq] at h2
    obtain ⟨z',hz',e⟩:=h2
    have e:z'=z:=ByteArray.ext (Array.ext' e)
    simp [h1,hz',e]
   ·rw [List.getElem?_eq_none (by omega),List.getElem?_eq_none (by simp;omega)]
  ·cases h
theorem BT {P:Program} {W:World} {name:String} {ss:List ByteArray} {rest:List (String×DataW Unit)} {g:Nat} {t e:TypeId} {n:Nat}
  (hg:P.globalNamed name=some g) (hty:(P.globals[g]?).map (·.type)=some t) (ht:P.underlying t=some (.array n e)) (he:P.underlying e=some .string) (hce:P.cellsOf e=1) (hct:P.cellsOf t=n)
  (h:laidMet P ((name,DB ss)::rest) W):W.var? P name=some (ss.map fun z=>Value.string z).toArray:=by
 obtain ⟨ps,⟨g',t',cs,fuel,p,q,hg',ht',hvar,hd,_,_⟩,_⟩:=h
 obtain rfl:=Option.some.inj (hg.symm.trans hg')
 obtain rfl:=Option.some.inj (hty.symm.trans ht')
 rw [hvar, ←Ax ht he hce hct hd]
theorem Cc:Tryz.prog.globalNamed "interlace/token.words" =some 0:=by kernel_rfl
theorem BY:(Tryz.prog.globals[0]?).map (·.type)=some 185:=by kernel_rfl
theorem Fa:Tryz.prog.cellsOf 185=49:=by kernel_rfl
theorem globOk_words {W:World} (h:laidMet Tryz.prog [("interlace/token.words",DB wordsG)] W):bM (fun b _=>b<W.heap.size) W:=fun g cs hg=>by
 match g,hg with
 |0,hg=>
  cases hg
  have hv:=BT Cc BY Tryz.underlying185 Tryz.underlying9 wQ Fa h
  have hc: ∀i,i<wordsG.length→W.cell? ⟨0,i,none⟩=some (.string (wordsG.getD i e0)):=fun i hi=>by
   have:=World.var?_cell Cc hv i
   simpa [List.getD,hi] using this
  have lt:0<W.heap.size:=by
   have:=hc 0 (by decide)
   unfold World.cell? at this
   rcases Nat.lt_or_ge 0 W.heap.size with h|h
   ·exact h
   ·simp [Array.getElem?_eq_none h] at this
  refine ⟨lt,fun i=>.string (wordsG.getD i e0),fun i t ht=>?_⟩
  rw [List.getElem?_map,Option.map_eq_some_iff] at ht
  obtain ⟨z,hz,rfl⟩:=ht
  have hi:=(gsZ hz).1
  have e:wordsG.getD i e0=z:=by simp [List.getD,hz]
  exact ⟨hc i hi,lt,rfl,rfl,by show Rep _ _ (.string (wordsG.getD i e0)) _;rw [e];exact .str z⟩
end Go.TY
end
section
namespace Go.TY
open Go Go.DL Go.MM
mutual
def tu:RP→List RP
 |.mk k f n m a=>.mk k f n m a::ta a
def ta:List RP→List RP
 |[]=>[]
 |r::rs=>tu r++ta rs
end
theorem xK (r:RP):tu r=r::ta r.args:=by cases r;simp [tu,RP.args]
theorem yw: ∀(a b:List RP),ta (a++b)=ta a++ta b
 |[],_=>by simp [ta]
 |r::a,b=>by rw [List.cons_append,ta,ta,yw a b,List.append_assoc]
theorem EF (r:RP):ta [r]=tu r:=by simp [ta]
theorem zy {l:List RP} {j:Nat} (h:j<l.length):ta (l.take (j+1))=ta (l.take j)++tu l[j]:=by
 rw [List.take_succ_eq_append_getElem h,yw,EF]
theorem EE {l:List RP} {r:RP} (h:r∈l):(tu r).length≤(ta l).length:=by
 induction l with
 |nil=>simp at h
 |cons x l ih=>
  rw [ta,List.length_append]
  rcases List.mem_cons.1 h with rfl|h
  ·omega
  ·have:=ih h;omega
theorem EC {l:List RP} {j i:Nat} {x:RP} (h:j<l.length) (hx:(tu l[j])[i]? =some x):(ta l)[(ta (l.take j)).length+i]? =some x:=by
 have e:ta l=ta (l.take j)++(tu l[j]++ta (l.drop (j+1))):=by
  conv=>lhs;rw [← List.take_append_drop (j+1) l]
  rw [yw,zy h,List.append_assoc]
 have hi:=(gsZ hx).1
 rw [e,List.getElem?_append_right (by omega),Nat.add_sub_cancel_left,List.getElem?_append_left hi]
 exact hx
theorem ED {l:List RP} {j:Nat} (h:j<l.length):(tu l[j]).length≤(ta l).length:=EE (List.getElem_mem h)
theorem A6: ∀(l:List RP),l.length≤(ta l).length
 |[]=>Nat.zero_le _
 |r::l=>by
  have:=A6 l
  rw [ta,xK,List.cons_append,List.length_cons,List.length_cons,List.length_append];omega
def s8:RO→List T
 |.mk k p f n a=>[I k,I p.kind,.str p.field,I p.n,I p.m,.slice 5 (p.args.map sU),.str f,I n,.slice 9 (a.map tc)]
theorem uM (r:RO):s8 r=sA r:=by
 obtain ⟨k,⟨pk,pf,pn,pm,pa⟩,f,n,a⟩:=r;rfl
abbrev uK (r:RO):T:=tc r
theorem sV (r:RO):uK r= .agg (s8 r):=by rw [uM,uK,sM]
theorem tC (r:RO):(s8 r).length=9:=by cases r;rfl
mutual
def sJ:RO→List RO
 |.mk k p f n a=>.mk k p f n a::sZ a
def sZ:List RO→List RO
 |[]=>[]
 |r::rs=>sJ r++sZ rs
end
theorem xJ (r:RO):sJ r=r::sZ r.args:=by cases r;simp [sJ,RO.args]
theorem yv: ∀(a b:List RO),sZ (a++b)=sZ a++sZ b
 |[],_=>by simp [sZ]
 |r::a,b=>by rw [List.cons_append,sZ,sZ,yv a b,List.append_assoc]
theorem EB (r:RO):sZ [r]=sJ r:=by simp [sZ]
theorem zx {l:List RO} {j:Nat} (h:j<l.length):sZ (l.take (j+1))=sZ (l.take j)++sJ l[j]:=by
 rw [List.take_succ_eq_append_getElem h,yv,EB]
theorem EA {l:List RO} {r:RO} (h:r∈l):(sJ r).length≤(sZ l).length:=by
 induction l with
 |nil=>simp at h
 |cons x l ih=>
  rw [sZ,List.length_append]
  rcases List.mem_cons.1 h with rfl|h
  ·omega
  ·have:=ih h;omega
theorem Ey {l:List RO} {j i:Nat} {x:RO} (h:j<l.length) (hx:(sJ l[j])[i]? =some x):(sZ l)[(sZ (l.take j)).length+i]? =some x:=by
 have e:sZ l=sZ (l.take j)++(sJ l[j]++sZ (l.drop (j+1))):=by
  conv=>lhs;rw [← List.take_append_drop (j+1) l]
  rw [yv,zx h,List.append_assoc]
 have hi:=(gsZ hx).1
 rw [e,List.getElem?_append_right (by omega),Nat.add_sub_cancel_left,List.getElem?_append_left hi]
 exact hx
theorem Ez {l:List RO} {j:Nat} (h:j<l.length):(sJ l[j]).length≤(sZ l).length:=EA (List.getElem_mem h)
theorem A5: ∀(l:List RO),l.length≤(sZ l).length
 |[]=>Nat.zero_le _
 |r::l=>by
  have:=A5 l
  rw [sZ,xJ,List.cons_append,List.length_cons,List.length_cons,List.length_append];omega
end Go.TY
end
noncomputable section
namespace Go.TY
open Go Go.DL Go.Proofs
theorem mx:Tryz.prog.follows .mixedOrders=true:=by kernel_rfl
def zR:Code:=(Tryz.f145.body).getD .skip
theorem JB:Tryz.f145.body=some zR:=by kernel_rfl
def Bh:Code:=ir [0] zR
def D4:aY:=(.region [oo 2 (.box 1 (tm 0))] [])
theorem H6:bD Tryz.prog 8 [] Bh=some D4:=by kernel_rfl
theorem HG [Glb] {st:St} {Q:aB→St→Prop} (hw:wpC Tryz.prog D4 st Q):aI Tryz.prog 8 Bh st Q:=aI.low mx H6 (by kernel_rfl) (by kernel_rfl) hw
def Bm:Code:=ir [1,0] zR
def D9:aY:=(.region [oo 3 (.alloc [.nilfn])] [])
theorem Ib:bD Tryz.prog 8 [] Bm=some D9:=by kernel_rfl
theorem HL [Glb] {st:St} {Q:aB→St→Prop} (hw:wpC Tryz.prog D9 st Q):aI Tryz.prog 8 Bm st Q:=aI.low mx Ib (by kernel_rfl) (by kernel_rfl) hw
def Bp:Code:=ir [1,1,0] zR
def Ed:aY:=(.region [oo 4 (.mkfn 146 [(tm 2),(tm 3)]),o0 (.store 1 (tm 3) (tm 4))] [])
theorem Ih:bD Tryz.prog 8 [] Bp=some Ed:=by kernel_rfl
theorem HO [Glb] {st:St} {Q:aB→St→Prop} (hw:wpC Tryz.prog Ed st Q):aI Tryz.prog 8 Bp st Q:=aI.low mx Ih (by kernel_rfl) (by kernel_rfl) hw
def zF:Code:=ir [1,1,1] zR
theorem Hp:zF= .region 3 (sy zF) false:=by kernel_rfl
theorem I4 [Glb] {st:St} {Q:aB→St→Prop} (hw:aA Tryz.prog [⟨some 5,.load 1 false (.tmp 3),none,[]⟩,⟨some 6,.load 5 true (.tmp 1),none,[]⟩] st fun s0=>gR Tryz.prog (ev s0.sl (.tmp 5)) (List.map (ev s0.sl) [(.tmp 6)]) (some 7) s0 fun s1=>aA Tryz.prog [] s1 (Q .normal)):aI Tryz.prog 8 zF st Q:=by
 rw [Hp]
 exact aI.rB (k1:=[0,1]) (k:=2) (k2:=[]) (by kernel_rfl) (by kernel_rfl) (by kernel_rfl) (by kernel_rfl) (by kernel_rfl) (X:=.tmp 5) (az:= #[.tmp 6]) (ats:= #[25]) (d:=7) (by kernel_rfl) rfl rfl (by decide) hw
theorem MB:zR=(.seq Bh (.seq Bm (.seq Bp zF))):=by kernel_rfl
def vN:Code:=(Tryz.f146.body).getD .skip
theorem JC:Tryz.f146.body=some vN:=by kernel_rfl
def Bi:Code:=ir [0] vN
def D5:aY:=(.region [oo 3 (.box 5 (tm 0)),oo 4 (.mov kF)] [])
theorem H7:bD Tryz.prog 23 [] Bi=some D5:=by kernel_rfl
theorem HH [Glb] {st:St} {Q:aB→St→Prop} (hw:wpC Tryz.prog D5 st Q):aI Tryz.prog 23 Bi st Q:=aI.low mx H7 (by kernel_rfl) (by kernel_rfl) hw
def zC:Code:=ir [1,0,0] vN
theorem Hn:zC= .region 1 (sy zC) false:=by kernel_rfl
theorem I2 [Glb] {st:St} {Q:aB→St→Prop} (hw:aA Tryz.prog [⟨some 7,.load 1 false (.tmp 1),none,[]⟩,⟨some 8,.load 5 true (.tmp 3),none,[]⟩] st fun s0=>gR Tryz.prog (ev s0.sl (.tmp 7)) (List.map (ev s0.sl) [(.tmp 8)]) (some 9) s0 fun s1=>aA Tryz.prog [⟨some 10,.not (.tmp 9),none,[]⟩] s1 (Q .normal)):aI Tryz.prog 23 zC st Q:=by
 rw [Hn]
 exact aI.rB (k1:=[0,1]) (k:=2) (k2:=[3]) (by kernel_rfl) (by kernel_rfl) (by kernel_rfl) (by kernel_rfl) (by kernel_rfl) (X:=.tmp 7) (az:= #[.tmp 8]) (ats:= #[25]) (d:=9) (by kernel_rfl) rfl rfl (by decide) hw
def Bq:Code:=ir [1,0,1] vN
def Ee:aY:=(.cond (tm 10) (.seq (.region [oo 4 (.mov kF)] []) .ret) .skip)
theorem Ii:bD Tryz.prog 23 [] Bq=some Ee:=by kernel_rfl
theorem DP [Glb] {st:St} {Q:aB→St→Prop} (hw:wpC Tryz.prog Ee st Q):aI Tryz.prog 23 Bq st Q:=aI.low mx Ii (by kernel_rfl) (by kernel_rfl) hw
def Bs:Code:=ir [1,1,0,0] vN
def Eh:aY:=(.region [fa 11 4 3,ld 12 11,ln 13 12,oo 14 (.mov (Kc 0))] [])
theorem Il:bD Tryz.prog 23 [] Bs=some Eh:=by kernel_rfl
theorem HR [Glb] {st:St} {Q:aB→St→Prop} (hw:wpC Tryz.prog Eh st Q):aI Tryz.prog 23 Bs st Q:=aI.low mx Il (by kernel_rfl) (by kernel_rfl) hw
def Bu:Code:=ir [1,1,0,1,0,0,0] vN
def Ek:aY:=(.region [oo 15 (.bin .lss (tm 14) (tm 13))] [])
theorem Ip:bD Tryz.prog 23 [] Bu=some Ek:=by kernel_rfl
theorem HU [Glb] {st:St} {Q:aB→St→Prop} (hw:wpC Tryz.prog Ek st Q):aI Tryz.prog 23 Bu st Q:=aI.low mx Ip (by kernel_rfl) (by kernel_rfl) hw
def Bw:Code:=ir [1,1,0,1,0,0,1,0] vN
def En:aY:=(.cond (tm 15) .skip (.exit 0))
theorem Is:bD Tryz.prog 23 [] Bw=some En:=by kernel_rfl
theorem DR [Glb] {st:St} {Q:aB→St→Prop} (hw:wpC Tryz.prog En st Q):aI Tryz.prog 23 Bw st Q:=aI.low mx Is (by kernel_rfl) (by kernel_rfl) hw
def By:Code:=ir [1,1,0,1,0,0,1,1,0,0,0] vN
def Ep:aY:=(.region [ix 16 5 12 14,lA 17 5 16,⟨some 6,.alloc [Z0,S0,Z0,Z0,.nil],none,[]⟩,o0 (.store 5 (tm 6) (tm 17))] [])
theorem Iv:bD Tryz.prog 23 [] By=some Ep:=by kernel_rfl
theorem HX [Glb] {st:St} {Q:aB→St→Prop} (hw:wpC Tryz.prog Ep st Q):aI Tryz.prog 23 By st Q:=aI.low mx Iv (by kernel_rfl) (by kernel_rfl) hw
def zH:Code:=ir [1,1,0,1,0,0,1,1,0,0,1,0] vN
theorem Hs:zH= .region 6 (sy zH) false:=by kernel_rfl
theorem I7 [Glb] {st:St} {Q:aB→St→Prop} (hw:aA Tryz.prog [⟨some 18,.load 1 false (.tmp 2),none,[]⟩,⟨some 19,.load 5 true (.tmp 6),none,[]⟩] st fun s0=>gR Tryz.prog (ev s0.sl (.tmp 18)) (List.map (ev s0.sl) [(.tmp 19)]) (some 20) s0 fun s1=>aA Tryz.prog [⟨some 21,.not (.tmp 20),none,[]⟩] s1 (Q .normal)):aI Tryz.prog 23 zH st Q:=by
 rw [Hs]
 exact aI.rB (k1:=[0,1]) (k:=2) (k2:=[3]) (by kernel_rfl) (by kernel_rfl) (by kernel_rfl) (by kernel_rfl) (by kernel_rfl) (X:=.tmp 18) (az:= #[.tmp 19]) (ats:= #[25]) (d:=20) (by kernel_rfl) rfl rfl (by decide) hw
def BB:Code:=ir [1,1,0,1,0,0,1,1,0,0,1,1] vN
def Et:aY:=(.cond (tm 21) (.seq (.region [oo 4 (.mov kF)] []) .ret) .skip)
theorem Iy:bD Tryz.prog 23 [] BB=some Et:=by kernel_rfl
theorem DU [Glb] {st:St} {Q:aB→St→Prop} (hw:wpC Tryz.prog Et st Q):aI Tryz.prog 23 BB st Q:=aI.low mx Iy (by kernel_rfl) (by kernel_rfl) hw
def BD:Code:=ir [1,1,0,1,0,0,1,1,1] vN
def Ev:aY:=(.region [oo 22 (.bin .add (tm 14) (Kc 1)),mv 14 22] [])
theorem IA:bD Tryz.prog 23 [] BD=some Ev:=by kernel_rfl
theorem HZ [Glb] {st:St} {Q:aB→St→Prop} (hw:wpC Tryz.prog Ev st Q):aI Tryz.prog 23 BD st Q:=aI.low mx IA (by kernel_rfl) (by kernel_rfl) hw
def Ad:Code:=ir [1,1,1] vN
def Ci:aY:=(.seq (.region [oo 4 (.mov kT)] []) .ret)
theorem GX:bD Tryz.prog 23 [] Ad=some Ci:=by kernel_rfl
theorem GS [Glb] {st:St} {Q:aB→St→Prop} (hw:wpC Tryz.prog Ci st Q):aI Tryz.prog 23 Ad st Q:=aI.low mx GX (by kernel_rfl) (by kernel_rfl) hw
theorem MD:vN=(.seq Bi (.seq (.seq zC Bq) (.seq (.seq Bs (.block 0 (.loop (.seq Bu (.seq Bw (.seq (.block 1 (.seq By (.seq zH BB))) BD)))))) Ad))):=by kernel_rfl
def zQ:Code:=(Tryz.f116.body).getD .skip
theorem Jy:Tryz.f116.body=some zQ:=by kernel_rfl
def Be:Code:=ir [0] zQ
def DZ:aY:=(.region [oo 2 (.box 1 (tm 0))] [])
theorem H3:bD Tryz.prog 8 [] Be=some DZ:=by kernel_rfl
theorem HD [Glb] {st:St} {Q:aB→St→Prop} (hw:wpC Tryz.prog DZ st Q):aI Tryz.prog 8 Be st Q:=aI.low mx H3 (by kernel_rfl) (by kernel_rfl) hw
def Bk:Code:=ir [1,0] zQ
def D7:aY:=(.region [oo 3 (.alloc [.nilfn])] [])
theorem H9:bD Tryz.prog 8 [] Bk=some D7:=by kernel_rfl
theorem HJ [Glb] {st:St} {Q:aB→St→Prop} (hw:wpC Tryz.prog D7 st Q):aI Tryz.prog 8 Bk st Q:=aI.low mx H9 (by kernel_rfl) (by kernel_rfl) hw
def Bn:Code:=ir [1,1,0] zQ
def Ea:aY:=(.region [oo 4 (.mkfn 117 [(tm 2),(tm 3)]),o0 (.store 1 (tm 3) (tm 4))] [])
theorem Ic:bD Tryz.prog 8 [] Bn=some Ea:=by kernel_rfl
theorem HM [Glb] {st:St} {Q:aB→St→Prop} (hw:wpC Tryz.prog Ea st Q):aI Tryz.prog 8 Bn st Q:=aI.low mx Ic (by kernel_rfl) (by kernel_rfl) hw
def zD:Code:=ir [1,1,1] zQ
theorem Ho:zD= .region 3 (sy zD) false:=by kernel_rfl
theorem I3 [Glb] {st:St} {Q:aB→St→Prop} (hw:aA Tryz.prog [⟨some 5,.load 1 false (.tmp 3),none,[]⟩,⟨some 6,.load 9 true (.tmp 1),none,[]⟩] st fun s0=>gR Tryz.prog (ev s0.sl (.tmp 5)) (List.map (ev s0.sl) [(.tmp 6)]) (some 7) s0 fun s1=>aA Tryz.prog [] s1 (Q .normal)):aI Tryz.prog 8 zD st Q:=by
 rw [Ho]
 exact aI.rB (k1:=[0,1]) (k:=2) (k2:=[]) (by kernel_rfl) (by kernel_rfl) (by kernel_rfl) (by kernel_rfl) (by kernel_rfl) (X:=.tmp 5) (az:= #[.tmp 6]) (ats:= #[28]) (d:=7) (by kernel_rfl) rfl rfl (by decide) hw
theorem My:zQ=(.seq Be (.seq Bk (.seq Bn zD))):=by kernel_rfl
def vM:Code:=(Tryz.f117.body).getD .skip
theorem Jz:Tryz.f117.body=some vM:=by kernel_rfl
def Bf:Code:=ir [0] vM
def D0:aY:=(.region [oo 3 (.box 9 (tm 0)),oo 4 (.mov kF)] [])
theorem H4:bD Tryz.prog 23 [] Bf=some D0:=by kernel_rfl
theorem HE [Glb] {st:St} {Q:aB→St→Prop} (hw:wpC Tryz.prog D0 st Q):aI Tryz.prog 23 Bf st Q:=aI.low mx H4 (by kernel_rfl) (by kernel_rfl) hw
def zB:Code:=ir [1,0,0] vM
theorem Hm:zB= .region 1 (sy zB) false:=by kernel_rfl
theorem I1 [Glb] {st:St} {Q:aB→St→Prop} (hw:aA Tryz.prog [⟨some 7,.load 1 false (.tmp 1),none,[]⟩,⟨some 8,.load 9 true (.tmp 3),none,[]⟩] st fun s0=>gR Tryz.prog (ev s0.sl (.tmp 7)) (List.map (ev s0.sl) [(.tmp 8)]) (some 9) s0 fun s1=>aA Tryz.prog [⟨some 10,.not (.tmp 9),none,[]⟩] s1 (Q .normal)):aI Tryz.prog 23 zB st Q:=by
 rw [Hm]
 exact aI.rB (k1:=[0,1]) (k:=2) (k2:=[3]) (by kernel_rfl) (by kernel_rfl) (by kernel_rfl) (by kernel_rfl) (by kernel_rfl) (X:=.tmp 7) (az:= #[.tmp 8]) (ats:= #[28]) (d:=9) (by kernel_rfl) rfl rfl (by decide) hw
def Bo:Code:=ir [1,0,1] vM
def Eb:aY:=(.cond (tm 10) (.seq (.region [oo 4 (.mov kF)] []) .ret) .skip)
theorem Ie:bD Tryz.prog 23 [] Bo=some Eb:=by kernel_rfl
theorem DO [Glb] {st:St} {Q:aB→St→Prop} (hw:wpC Tryz.prog Eb st Q):aI Tryz.prog 23 Bo st Q:=aI.low mx Ie (by kernel_rfl) (by kernel_rfl) hw
def Br:Code:=ir [1,1,0,0] vM
def Ef:aY:=(.region [fa 11 8 3,ld 12 11,ln 13 12,oo 14 (.mov (Kc 0))] [])
theorem Ij:bD Tryz.prog 23 [] Br=some Ef:=by kernel_rfl
theorem HP [Glb] {st:St} {Q:aB→St→Prop} (hw:wpC Tryz.prog Ef st Q):aI Tryz.prog 23 Br st Q:=aI.low mx Ij (by kernel_rfl) (by kernel_rfl) hw
def Bt:Code:=ir [1,1,0,1,0,0,0] vM
def Ei:aY:=(.region [oo 15 (.bin .lss (tm 14) (tm 13))] [])
theorem Im:bD Tryz.prog 23 [] Bt=some Ei:=by kernel_rfl
theorem HS [Glb] {st:St} {Q:aB→St→Prop} (hw:wpC Tryz.prog Ei st Q):aI Tryz.prog 23 Bt st Q:=aI.low mx Im (by kernel_rfl) (by kernel_rfl) hw
def Bv:Code:=ir [1,1,0,1,0,0,1,0] vM
def El:aY:=(.cond (tm 15) .skip (.exit 0))
theorem Iq:bD Tryz.prog 23 [] Bv=some El:=by kernel_rfl
theorem DQ [Glb] {st:St} {Q:aB→St→Prop} (hw:wpC Tryz.prog El st Q):aI Tryz.prog 23 Bv st Q:=aI.low mx Iq (by kernel_rfl) (by kernel_rfl) hw
def Bx:Code:=ir [1,1,0,1,0,0,1,1,0,0,0] vM
def Eo:aY:=(.region [ix 16 9 12 14,lA 17 9 16,⟨some 6,.alloc [Z0,Z0,S0,Z0,Z0,.nil,S0,Z0,.nil],none,[]⟩,o0 (.store 9 (tm 6) (tm 17))] [])
theorem Iu:bD Tryz.prog 23 [] Bx=some Eo:=by kernel_rfl
theorem HW [Glb] {st:St} {Q:aB→St→Prop} (hw:wpC Tryz.prog Eo st Q):aI Tryz.prog 23 Bx st Q:=aI.low mx Iu (by kernel_rfl) (by kernel_rfl) hw
def zG:Code:=ir [1,1,0,1,0,0,1,1,0,0,1,0] vM
theorem Hr:zG= .region 6 (sy zG) false:=by kernel_rfl
theorem I6 [Glb] {st:St} {Q:aB→St→Prop} (hw:aA Tryz.prog [⟨some 18,.load 1 false (.tmp 2),none,[]⟩,⟨some 19,.load 9 true (.tmp 6),none,[]⟩] st fun s0=>gR Tryz.prog (ev s0.sl (.tmp 18)) (List.map (ev s0.sl) [(.tmp 19)]) (some 20) s0 fun s1=>aA Tryz.prog [⟨some 21,.not (.tmp 20),none,[]⟩] s1 (Q .normal)):aI Tryz.prog 23 zG st Q:=by
 rw [Hr]
 exact aI.rB (k1:=[0,1]) (k:=2) (k2:=[3]) (by kernel_rfl) (by kernel_rfl) (by kernel_rfl) (by kernel_rfl) (by kernel_rfl) (X:=.tmp 18) (az:= #[.tmp 19]) (ats:= #[28]) (d:=20) (by kernel_rfl) rfl rfl (by decide) hw
def Bz:Code:=ir [1,1,0,1,0,0,1,1,0,0,1,1] vM
def Es:aY:=(.cond (tm 21) (.seq (.region [oo 4 (.mov kF)] []) .ret) .skip)
theorem Ix:bD Tryz.prog 23 [] Bz=some Es:=by kernel_rfl
theorem DT [Glb] {st:St} {Q:aB→St→Prop} (hw:wpC Tryz.prog Es st Q):aI Tryz.prog 23 Bz st Q:=aI.low mx Ix (by kernel_rfl) (by kernel_rfl) hw
def BC:Code:=ir [1,1,0,1,0,0,1,1,1] vM
def Eu:aY:=(.region [oo 22 (.bin .add (tm 14) (Kc 1)),mv 14 22] [])
theorem Iz:bD Tryz.prog 23 [] BC=some Eu:=by kernel_rfl
theorem HY [Glb] {st:St} {Q:aB→St→Prop} (hw:wpC Tryz.prog Eu st Q):aI Tryz.prog 23 BC st Q:=aI.low mx Iz (by kernel_rfl) (by kernel_rfl) hw
def Ac:Code:=ir [1,1,1] vM
def Ch:aY:=(.seq (.region [oo 4 (.mov kT)] []) .ret)
theorem GW:bD Tryz.prog 23 [] Ac=some Ch:=by kernel_rfl
theorem GR [Glb] {st:St} {Q:aB→St→Prop} (hw:wpC Tryz.prog Ch st Q):aI Tryz.prog 23 Ac st Q:=aI.low mx GW (by kernel_rfl) (by kernel_rfl) hw
theorem Mz:vM=(.seq Bf (.seq (.seq zB Bo) (.seq (.seq Br (.block 0 (.loop (.seq Bt (.seq Bv (.seq (.block 1 (.seq Bx (.seq zG Bz))) BC)))))) Ac))):=by kernel_rfl
def xt:Code:=(Tryz.f130.body).getD .skip
theorem JA:Tryz.f130.body=some xt:=by kernel_rfl
def Bg:Code:=ir [0] xt
def D3:aY:=(.region [oo 2 (.box 1 (tm 0))] [])
theorem H5:bD Tryz.prog 19 [] Bg=some D3:=by kernel_rfl
theorem HF [Glb] {st:St} {Q:aB→St→Prop} (hw:wpC Tryz.prog D3 st Q):aI Tryz.prog 19 Bg st Q:=aI.low mx H5 (by kernel_rfl) (by kernel_rfl) hw
def Bl:Code:=ir [1,0] xt
def D8:aY:=(.region [lA 5 9 1,oo 6 (.call 73 [tm 5])] [])
theorem Ia:bD Tryz.prog 19 [] Bl=some D8:=by kernel_rfl
theorem HK [Glb] {st:St} {Q:aB→St→Prop} (hw:wpC Tryz.prog D8 st Q):aI Tryz.prog 19 Bl st Q:=aI.low mx Ia (by kernel_rfl) (by kernel_rfl) hw
def yy:Code:=ir [1,1,0,0] xt
def Ec:aY:=(.region [⟨some 3,.alloc [Z0,Z0,S0,Z0,Z0,.nil,S0,Z0,.nil],none,[]⟩,o0 (.store 9 (tm 3) (tm 7))] [])
theorem Ig:bD Tryz.prog 19 [] yy=some Ec:=by kernel_rfl
theorem HN [Glb] {st:St} {Q:aB→St→Prop} (hw:wpC Tryz.prog Ec st Q):aI Tryz.prog 19 yy st Q:=aI.low mx Ig (by kernel_rfl) (by kernel_rfl) hw
def yz:Code:=ir [1,1,0,1,0,0] xt
def Eg:aY:=(.seq (.region [fa 8 0 3,ld 9 8,oo 10 (.bin .neq (tm 9) (Kc 1))] []) (.cond (tm 10) (.exit 1) .skip))
theorem Ik:bD Tryz.prog 19 [] yz=some Eg:=by kernel_rfl
theorem HQ [Glb] {st:St} {Q:aB→St→Prop} (hw:wpC Tryz.prog Eg st Q):aI Tryz.prog 19 yz st Q:=aI.low mx Ik (by kernel_rfl) (by kernel_rfl) hw
def yA:Code:=ir [1,1,0,1,0,1,0] xt
def Ej:aY:=(.region [fa 11 1 3,lA 12 5 11,oo 13 (.call 109 [tm 12])] [])
theorem Io:bD Tryz.prog 19 [] yA=some Ej:=by kernel_rfl
theorem HT [Glb] {st:St} {Q:aB→St→Prop} (hw:wpC Tryz.prog Ej st Q):aI Tryz.prog 19 yA st Q:=aI.low mx Io (by kernel_rfl) (by kernel_rfl) hw
def xM:Code:=ir [1,1,0,1,0,1,1,0,0] xt
def Em:aY:=(.region [⟨some 4,.alloc [Z0,S0,Z0,Z0,.nil],none,[]⟩,o0 (.store 5 (tm 4) (tm 14))] [])
theorem Ir:bD Tryz.prog 19 [] xM=some Em:=by kernel_rfl
theorem HV [Glb] {st:St} {Q:aB→St→Prop} (hw:wpC Tryz.prog Em st Q):aI Tryz.prog 19 xM st Q:=aI.low mx Ir (by kernel_rfl) (by kernel_rfl) hw
def xc:Code:=ir [1,1,0,1,0,1,1,0,1,0,0] xt
theorem Hq:xc= .region 6 (sy xc) false:=by kernel_rfl
theorem I5 [Glb] {st:St} {Q:aB→St→Prop} (hw:aA Tryz.prog [⟨some 15,.load 1 false (.tmp 2),none,[]⟩,⟨some 16,.load 5 true (.tmp 4),none,[]⟩] st fun s0=>gR Tryz.prog (ev s0.sl (.tmp 15)) (List.map (ev s0.sl) [(.tmp 16)]) (some 17) s0 fun s1=>aA Tryz.prog [⟨some 18,.not (.tmp 17),none,[]⟩] s1 (Q .normal)):aI Tryz.prog 19 xc st Q:=by
 rw [Hq]
 exact aI.rB (k1:=[0,1]) (k:=2) (k2:=[3]) (by kernel_rfl) (by kernel_rfl) (by kernel_rfl) (by kernel_rfl) (by kernel_rfl) (X:=.tmp 15) (az:= #[.tmp 16]) (ats:= #[25]) (d:=17) (by kernel_rfl) rfl rfl (by decide) hw
def xN:Code:=ir [1,1,0,1,0,1,1,0,1,0,1] xt
def Er:aY:=(.cond (tm 18) .ret .skip)
theorem Iw:bD Tryz.prog 19 [] xN=some Er:=by kernel_rfl
theorem DS [Glb] {st:St} {Q:aB→St→Prop} (hw:wpC Tryz.prog Er st Q):aI Tryz.prog 19 xN st Q:=aI.low mx Iw (by kernel_rfl) (by kernel_rfl) hw
theorem MA:xt=(.seq Bg (.seq Bl (.block 0 (.rangeFunc (.tmp 6) #[7] yy (.block 1 (.seq yz (.seq yA (.block 2 (.rangeFunc (.tmp 13) #[14] xM (.block 3 (.seq xc xN))))))))))):=by kernel_rfl
def b69:Code:=(Tryz.f69.body).getD .skip
theorem Mx:Tryz.f69.body=some b69:=by kernel_rfl
def CT:Code:=ir [0] b69
def FR:aY:=(.region [oo 2 (.box 1 (tm 0)),oo 3 (.box 5 (tm 1)),oo 4 (.alloc [Z0])] [])
theorem Kx:bD Tryz.prog 49 [] CT=some FR:=by kernel_rfl
theorem JU [Glb] {st:St} {Q:aB→St→Prop} (hw:wpC Tryz.prog FR st Q):aI Tryz.prog 49 CT st Q:=aI.low mx Kx (by kernel_rfl) (by kernel_rfl) hw
def CZ:Code:=ir [1,0,0] b69
def FY:aY:=(.region [lA 9 5 3,oo 10 (.call 109 [tm 9])] [])
theorem KD:bD Tryz.prog 49 [] CZ=some FY:=by kernel_rfl
theorem J0 [Glb] {st:St} {Q:aB→St→Prop} (hw:wpC Tryz.prog FY st Q):aI Tryz.prog 49 CZ st Q:=aI.low mx KD (by kernel_rfl) (by kernel_rfl) hw
def C5:Code:=ir [1,0,1,0,0] b69
def F5:aY:=(.region [⟨some 5,.alloc [Z0,S0,Z0,Z0,.nil],none,[]⟩,o0 (.store 5 (tm 5) (tm 11))] [])
theorem KJ:bD Tryz.prog 49 [] C5=some F5:=by kernel_rfl
theorem J6 [Glb] {st:St} {Q:aB→St→Prop} (hw:wpC Tryz.prog F5 st Q):aI Tryz.prog 49 C5 st Q:=aI.low mx KJ (by kernel_rfl) (by kernel_rfl) hw
def Db:Code:=ir [1,0,1,0,1] b69
def Gb:aY:=(.block 1 (.seq (.seq (.region [fa 12 1 5,ld 13 12,⟨some 14,.bin .eql (tm 13) (.const S0),none,[]⟩] []) (.cond (tm 14) (.exit 1) .skip)) (.seq (.region [ld 16 2,fa 17 1 5,ld 18 17,oo 19 (.call 74 [(tm 16),(tm 18)]),mv 15 19,oo 20 (.ext (tm 15) 0),oo 21 (.ext (tm 15) 1),⟨some 6,.alloc [S0,Z0,Z0],none,[]⟩,o0 (.store 3 (tm 6) (tm 20)),mv 7 21] []) (.seq (.region [fa 22 2 5,ld 23 22,mv 8 23] []) (.seq (.seq (.region [fa 24 0 5,ld 25 24,oo 26 (.bin .eql (tm 25) (Kc 5))] []) (.cond (tm 26) (.region [fa 27 3 5,ld 28 27,mv 8 28] []) .skip)) (.block 2 (.seq (.region [mv 30 7,oo 31 (.not (tm 30)),mv 29 31] []) (.cond (tm 29) (.seq (.region [o0 (.store 1 (tm 4) (Kc 4))] []) .ret) (.seq (.region [mv 33 8,lA 34 3 6,oo 35 (.call 75 [tm 34]),oo 36 (.bin .gtr (tm 33) (tm 35)),mv 37 36,oF 38 37 (.offA 0 (tm 5)),oF 39 37 (.load 1 false (tm 38)),oF 40 37 (.bin .eql (tm 39) (Kc 4)),mF 41 40 37,oT 42 41 (.offA 3 (tm 5)),oT 43 41 (.load 1 false (tm 42)),oT 44 41 (.offA 2 (tm 6)),oT 45 41 (.load 1 false (tm 44)),oT 46 41 (.bin .gtr (tm 43) (tm 45)),oF 47 37 (.pick (tm 41) (tm 46) kF),oo 48 (.pick (tm 37) kT (tm 47)),mv 32 48] []) (.cond (tm 32) (.seq (.region [o0 (.store 1 (tm 4) (Kc 1))] []) .ret) .skip))))))))))
theorem KP:bD Tryz.prog 49 [] Db=some Gb:=by kernel_rfl
theorem Kd [Glb] {st:St} {Q:aB→St→Prop} (hw:wpC Tryz.prog Gb st Q):aI Tryz.prog 49 Db st Q:=aI.low mx KP (by kernel_rfl) (by kernel_rfl) hw
def Di:Code:=ir [1,1] b69
def Gh:aY:=(.seq (.region [o0 (.store 1 (tm 4) (Kc 0))] []) .ret)
theorem KV:bD Tryz.prog 49 [] Di=some Gh:=by kernel_rfl
theorem Ki [Glb] {st:St} {Q:aB→St→Prop} (hw:wpC Tryz.prog Gh st Q):aI Tryz.prog 49 Di st Q:=aI.low mx KV (by kernel_rfl) (by kernel_rfl) hw
theorem k69:b69=(.seq CT (.seq (.seq CZ (.block 0 (.rangeFunc (.tmp 10) #[11] C5 Db))) Di)):=by kernel_rfl
def b17:Code:=(Tryz.f17.body).getD .skip
theorem Ms:Tryz.f17.body=some b17:=by kernel_rfl
def CO:Code:=ir [0] b17
def FM:aY:=(.region [oo 2 (.box 1 (tm 0)),oo 3 (.box 9 (tm 1)),oo 4 (.alloc [Z0])] [])
theorem Ks:bD Tryz.prog 47 [] CO=some FM:=by kernel_rfl
theorem JP [Glb] {st:St} {Q:aB→St→Prop} (hw:wpC Tryz.prog FM st Q):aI Tryz.prog 47 CO st Q:=aI.low mx Ks (by kernel_rfl) (by kernel_rfl) hw
def CU:Code:=ir [1,0] b17
def FT:aY:=(.seq (.region [lA 10 9 3,oo 11 (.call 72 [tm 10]),mv 5 11] []) (.seq (.region [mv 12 5,oo 13 (.bin .neq (tm 12) (Kc 0))] []) (.cond (tm 13) (.seq (.region [mv 14 5,o0 (.store 1 (tm 4) (tm 14))] []) .ret) .skip)))
theorem Ky:bD Tryz.prog 47 [] CU=some FT:=by kernel_rfl
theorem JV [Glb] {st:St} {Q:aB→St→Prop} (hw:wpC Tryz.prog FT st Q):aI Tryz.prog 47 CU st Q:=aI.low mx Ky (by kernel_rfl) (by kernel_rfl) hw
def C0:Code:=ir [1,1,0,0] b17
def FZ:aY:=(.region [lA 15 9 3,oo 16 (.call 73 [tm 15])] [])
theorem KE:bD Tryz.prog 47 [] C0=some FZ:=by kernel_rfl
theorem J1 [Glb] {st:St} {Q:aB→St→Prop} (hw:wpC Tryz.prog FZ st Q):aI Tryz.prog 47 C0 st Q:=aI.low mx KE (by kernel_rfl) (by kernel_rfl) hw
def C6:Code:=ir [1,1,0,1,0,0] b17
def F6:aY:=(.region [⟨some 6,.alloc [Z0,Z0,S0,Z0,Z0,.nil,S0,Z0,.nil],none,[]⟩,o0 (.store 9 (tm 6) (tm 17))] [])
theorem KK:bD Tryz.prog 47 [] C6=some F6:=by kernel_rfl
theorem J7 [Glb] {st:St} {Q:aB→St→Prop} (hw:wpC Tryz.prog F6 st Q):aI Tryz.prog 47 C6 st Q:=aI.low mx KK (by kernel_rfl) (by kernel_rfl) hw
def Dc:Code:=ir [1,1,0,1,0,1] b17
def Gc:aY:=(.block 1 (.seq (.region [fa 18 0 6,ld 19 18] []) (.block 2 (.seq (.region [oo 21 (.bin .eql (tm 19) (Kc 1)),mv 20 21] []) (.cond (tm 20) (.seq (.region [ld 22 2,fa 23 1 6,lA 24 5 23,oo 25 (.call 69 [(tm 22),(tm 24)]),mv 7 25] []) (.seq (.region [mv 26 7,oo 27 (.bin .neq (tm 26) (Kc 0))] []) (.cond (tm 27) (.seq (.region [mv 28 7,o0 (.store 1 (tm 4) (tm 28))] []) .ret) .skip))) (.seq (.region [oo 30 (.bin .eql (tm 19) (Kc 2)),mv 29 30] []) (.cond (tm 29) (.seq (.region [ld 32 2,fa 33 6 6,ld 34 33,oo 35 (.call 74 [(tm 32),(tm 34)]),mv 31 35,oo 36 (.ext (tm 31) 0),oo 37 (.ext (tm 31) 1),⟨some 8,.alloc [S0,Z0,Z0],none,[]⟩,o0 (.store 3 (tm 8) (tm 36)),mv 9 37] []) (.block 3 (.seq (.region [mv 39 9,oo 40 (.not (tm 39)),mv 38 40] []) (.cond (tm 38) (.seq (.region [o0 (.store 1 (tm 4) (Kc 4))] []) .ret) (.seq (.region [fa 42 7 6,ld 43 42,lA 44 3 8,oo 45 (.call 75 [tm 44]),oo 46 (.bin .gtr (tm 43) (tm 45)),mv 41 46] []) (.cond (tm 41) (.seq (.region [o0 (.store 1 (tm 4) (Kc 1))] []) .ret) .skip)))))) .skip)))))))
theorem KQ:bD Tryz.prog 47 [] Dc=some Gc:=by kernel_rfl
theorem Ke [Glb] {st:St} {Q:aB→St→Prop} (hw:wpC Tryz.prog Gc st Q):aI Tryz.prog 47 Dc st Q:=aI.low mx KQ (by kernel_rfl) (by kernel_rfl) hw
def Dj:Code:=ir [1,1,1] b17
def Gi:aY:=(.seq (.region [o0 (.store 1 (tm 4) (Kc 0))] []) .ret)
theorem KW:bD Tryz.prog 47 [] Dj=some Gi:=by kernel_rfl
theorem Kj [Glb] {st:St} {Q:aB→St→Prop} (hw:wpC Tryz.prog Gi st Q):aI Tryz.prog 47 Dj st Q:=aI.low mx KW (by kernel_rfl) (by kernel_rfl) hw
theorem k17:b17=(.seq CO (.seq CU (.seq (.seq C0 (.block 0 (.rangeFunc (.tmp 16) #[17] C6 Dc))) Dj))):=by kernel_rfl
def b23:Code:=(Tryz.f23.body).getD .skip
theorem Mt:Tryz.f23.body=some b23:=by kernel_rfl
def CP:Code:=ir [0] b23
def FN:aY:=(.region [oo 1 (.box 9 (tm 0)),oo 2 (.mov (.const .nil))] [])
theorem Kt:bD Tryz.prog 18 [] CP=some FN:=by kernel_rfl
theorem JQ [Glb] {st:St} {Q:aB→St→Prop} (hw:wpC Tryz.prog FN st Q):aI Tryz.prog 18 CP st Q:=aI.low mx Kt (by kernel_rfl) (by kernel_rfl) hw
def CV:Code:=ir [1,0] b23
def FU:aY:=(.region [oo 5 (.mkmap false [.str]),oo 3 (.alloc [.nilmap]),o0 (.store 1 (tm 3) (tm 5))] [])
theorem Kz:bD Tryz.prog 18 [] CV=some FU:=by kernel_rfl
theorem JW [Glb] {st:St} {Q:aB→St→Prop} (hw:wpC Tryz.prog FU st Q):aI Tryz.prog 18 CV st Q:=aI.low mx Kz (by kernel_rfl) (by kernel_rfl) hw
def C1:Code:=ir [1,1,0,0] b23
def F0:aY:=(.region [lA 6 9 1,oo 7 (.call 86 [tm 6])] [])
theorem KF:bD Tryz.prog 18 [] C1=some F0:=by kernel_rfl
theorem J2 [Glb] {st:St} {Q:aB→St→Prop} (hw:wpC Tryz.prog F0 st Q):aI Tryz.prog 18 C1 st Q:=aI.low mx KF (by kernel_rfl) (by kernel_rfl) hw
def C7:Code:=ir [1,1,0,1,0,0] b23
def F7:aY:=(.region [⟨some 4,.alloc [Z0,S0,Z0,Z0,.nil],none,[]⟩,o0 (.store 5 (tm 4) (tm 8))] [])
theorem KL:bD Tryz.prog 18 [] C7=some F7:=by kernel_rfl
theorem J8 [Glb] {st:St} {Q:aB→St→Prop} (hw:wpC Tryz.prog F7 st Q):aI Tryz.prog 18 C7 st Q:=aI.low mx KL (by kernel_rfl) (by kernel_rfl) hw
def De:Code:=ir [1,1,0,1,0,1] b23
def Gd:aY:=(.block 1 (.seq (.region [fa 9 1 4,ld 10 9,⟨some 11,.bin .neq (tm 10) (.const S0),none,[]⟩] []) (.cond (tm 11) (.region [ld 12 3,fa 13 1 4,ld 14 13,o0 (.bK false [.str] (tm 12) (tm 14) kT)] []) .skip)))
theorem KR:bD Tryz.prog 18 [] De=some Gd:=by kernel_rfl
theorem Kf [Glb] {st:St} {Q:aB→St→Prop} (hw:wpC Tryz.prog Gd st Q):aI Tryz.prog 18 De st Q:=aI.low mx KR (by kernel_rfl) (by kernel_rfl) hw
def Dk:Code:=ir [1,1,1] b23
def Gj:aY:=(.seq (.region [ld 15 3,oo 16 (.call 88 [tm 15]),oo 17 (.call 87 [tm 16]),mv 2 17] []) .ret)
theorem KX:bD Tryz.prog 18 [] Dk=some Gj:=by kernel_rfl
theorem Kk [Glb] {st:St} {Q:aB→St→Prop} (hw:wpC Tryz.prog Gj st Q):aI Tryz.prog 18 Dk st Q:=aI.low mx KX (by kernel_rfl) (by kernel_rfl) hw
theorem k23:b23=(.seq CP (.seq CV (.seq (.seq C1 (.block 0 (.rangeFunc (.tmp 7) #[8] C7 De))) Dk))):=by kernel_rfl
def b25:Code:=(Tryz.f25.body).getD .skip
theorem Mu:Tryz.f25.body=some b25:=by kernel_rfl
def CQ:Code:=ir [0] b25
def FO:aY:=(.region [oo 1 (.box 9 (tm 0)),oo 2 (.mov (.const .nil))] [])
theorem Ku:bD Tryz.prog 18 [] CQ=some FO:=by kernel_rfl
theorem JR [Glb] {st:St} {Q:aB→St→Prop} (hw:wpC Tryz.prog FO st Q):aI Tryz.prog 18 CQ st Q:=aI.low mx Ku (by kernel_rfl) (by kernel_rfl) hw
def CW:Code:=ir [1,0] b25
def FV:aY:=(.region [oo 5 (.mkmap false [.str]),oo 3 (.alloc [.nilmap]),o0 (.store 1 (tm 3) (tm 5))] [])
theorem KA:bD Tryz.prog 18 [] CW=some FV:=by kernel_rfl
theorem JX [Glb] {st:St} {Q:aB→St→Prop} (hw:wpC Tryz.prog FV st Q):aI Tryz.prog 18 CW st Q:=aI.low mx KA (by kernel_rfl) (by kernel_rfl) hw
def C2:Code:=ir [1,1,0,0] b25
def F2:aY:=(.region [lA 6 9 1,oo 7 (.call 73 [tm 6])] [])
theorem KG:bD Tryz.prog 18 [] C2=some F2:=by kernel_rfl
theorem J3 [Glb] {st:St} {Q:aB→St→Prop} (hw:wpC Tryz.prog F2 st Q):aI Tryz.prog 18 C2 st Q:=aI.low mx KG (by kernel_rfl) (by kernel_rfl) hw
def C8:Code:=ir [1,1,0,1,0,0] b25
def F8:aY:=(.region [⟨some 4,.alloc [Z0,Z0,S0,Z0,Z0,.nil,S0,Z0,.nil],none,[]⟩,o0 (.store 9 (tm 4) (tm 8))] [])
theorem KM:bD Tryz.prog 18 [] C8=some F8:=by kernel_rfl
theorem J9 [Glb] {st:St} {Q:aB→St→Prop} (hw:wpC Tryz.prog F8 st Q):aI Tryz.prog 18 C8 st Q:=aI.low mx KM (by kernel_rfl) (by kernel_rfl) hw
def Df:Code:=ir [1,1,0,1,0,1] b25
def Ge:aY:=(.block 1 (.seq (.region [fa 9 0 4,ld 10 9,oo 11 (.bin .eql (tm 10) (Kc 2))] []) (.cond (tm 11) (.region [ld 12 3,fa 13 6 4,ld 14 13,o0 (.bK false [.str] (tm 12) (tm 14) kT)] []) .skip)))
theorem KS:bD Tryz.prog 18 [] Df=some Ge:=by kernel_rfl
theorem Kg [Glb] {st:St} {Q:aB→St→Prop} (hw:wpC Tryz.prog Ge st Q):aI Tryz.prog 18 Df st Q:=aI.low mx KS (by kernel_rfl) (by kernel_rfl) hw
def Dl:Code:=ir [1,1,1] b25
def Gk:aY:=(.seq (.region [ld 15 3,oo 16 (.call 88 [tm 15]),oo 17 (.call 87 [tm 16]),mv 2 17] []) .ret)
theorem KY:bD Tryz.prog 18 [] Dl=some Gk:=by kernel_rfl
theorem Kl [Glb] {st:St} {Q:aB→St→Prop} (hw:wpC Tryz.prog Gk st Q):aI Tryz.prog 18 Dl st Q:=aI.low mx KY (by kernel_rfl) (by kernel_rfl) hw
theorem k25:b25=(.seq CQ (.seq CW (.seq (.seq C2 (.block 0 (.rangeFunc (.tmp 7) #[8] C8 Df))) Dl))):=by kernel_rfl
def b28:Code:=(Tryz.f28.body).getD .skip
theorem Mv:Tryz.f28.body=some b28:=by kernel_rfl
def CR:Code:=ir [0] b28
def FP:aY:=(.region [oo 1 (.box 9 (tm 0)),oo 2 (.mov (.const .nil))] [])
theorem Kv:bD Tryz.prog 23 [] CR=some FP:=by kernel_rfl
theorem JS [Glb] {st:St} {Q:aB→St→Prop} (hw:wpC Tryz.prog FP st Q):aI Tryz.prog 23 CR st Q:=aI.low mx Kv (by kernel_rfl) (by kernel_rfl) hw
def CX:Code:=ir [1,0] b28
def FW:aY:=(.region [oo 5 (.mkmap false [.int .i64]),oo 3 (.alloc [.nilmap]),o0 (.store 1 (tm 3) (tm 5))] [])
theorem KB:bD Tryz.prog 23 [] CX=some FW:=by kernel_rfl
theorem JY [Glb] {st:St} {Q:aB→St→Prop} (hw:wpC Tryz.prog FW st Q):aI Tryz.prog 23 CX st Q:=aI.low mx KB (by kernel_rfl) (by kernel_rfl) hw
def C3:Code:=ir [1,1,0,0] b28
def F3:aY:=(.region [lA 6 9 1,oo 7 (.call 73 [tm 6])] [])
theorem KH:bD Tryz.prog 23 [] C3=some F3:=by kernel_rfl
theorem J4 [Glb] {st:St} {Q:aB→St→Prop} (hw:wpC Tryz.prog F3 st Q):aI Tryz.prog 23 C3 st Q:=aI.low mx KH (by kernel_rfl) (by kernel_rfl) hw
def C9:Code:=ir [1,1,0,1,0,0] b28
def F9:aY:=(.region [⟨some 4,.alloc [Z0,Z0,S0,Z0,Z0,.nil,S0,Z0,.nil],none,[]⟩,o0 (.store 9 (tm 4) (tm 8))] [])
theorem KN:bD Tryz.prog 23 [] C9=some F9:=by kernel_rfl
theorem Ka [Glb] {st:St} {Q:aB→St→Prop} (hw:wpC Tryz.prog F9 st Q):aI Tryz.prog 23 C9 st Q:=aI.low mx KN (by kernel_rfl) (by kernel_rfl) hw
def Dg:Code:=ir [1,1,0,1,0,1] b28
def Gf:aY:=(.block 1 (.seq (.region [fa 9 0 4,ld 10 9,oo 11 (.bin .eql (tm 10) (Kc 2)),mv 12 11,oT 13 12 (.offA 6 (tm 4)),oT 14 12 (.load 1 false (tm 13)),⟨some 15,.bin .eql (tm 14) (.const (.str ⟨#[112,111,114,116]⟩)),some (12,true),[]⟩,oo 16 (.pick (tm 12) (tm 15) kF)] []) (.cond (tm 16) (.region [ld 17 3,fa 18 7 4,ld 19 18,o0 (.bK false [.int .i64] (tm 17) (tm 19) kT)] []) .skip)))
theorem KT:bD Tryz.prog 23 [] Dg=some Gf:=by kernel_rfl
theorem Kh [Glb] {st:St} {Q:aB→St→Prop} (hw:wpC Tryz.prog Gf st Q):aI Tryz.prog 23 Dg st Q:=aI.low mx KT (by kernel_rfl) (by kernel_rfl) hw
def Dm:Code:=ir [1,1,1] b28
def Gl:aY:=(.seq (.region [ld 20 3,oo 21 (.call 92 [tm 20]),oo 22 (.call 91 [tm 21]),mv 2 22] []) .ret)
theorem KZ:bD Tryz.prog 23 [] Dm=some Gl:=by kernel_rfl
theorem Km [Glb] {st:St} {Q:aB→St→Prop} (hw:wpC Tryz.prog Gl st Q):aI Tryz.prog 23 Dm st Q:=aI.low mx KZ (by kernel_rfl) (by kernel_rfl) hw
theorem k28:b28=(.seq CR (.seq CX (.seq (.seq C3 (.block 0 (.rangeFunc (.tmp 7) #[8] C9 Dg))) Dm))):=by kernel_rfl
def b57:Code:=(Tryz.f57.body).getD .skip
theorem Mw:Tryz.f57.body=some b57:=by kernel_rfl
def CS:Code:=ir [0] b57
def FQ:aY:=(.region [oo 2 (.mov (.const .nil))] [])
theorem Kw:bD Tryz.prog 31 [] CS=some FQ:=by kernel_rfl
theorem JT [Glb] {st:St} {Q:aB→St→Prop} (hw:wpC Tryz.prog FQ st Q):aI Tryz.prog 31 CS st Q:=aI.low mx Kw (by kernel_rfl) (by kernel_rfl) hw
def CY:Code:=ir [1,0] b57
def FX:aY:=(.region [oo 7 (.mkmap false [.int .i64]),oo 3 (.alloc [.nilmap]),o0 (.store 1 (tm 3) (tm 7))] [])
theorem KC:bD Tryz.prog 31 [] CY=some FX:=by kernel_rfl
theorem JZ [Glb] {st:St} {Q:aB→St→Prop} (hw:wpC Tryz.prog FX st Q):aI Tryz.prog 31 CY st Q:=aI.low mx KC (by kernel_rfl) (by kernel_rfl) hw
def C4:Code:=ir [1,1,0,0] b57
def F4:aY:=(.region [mv 8 0,ln 9 8,oo 10 (.mov (Kc 0))] [])
theorem KI:bD Tryz.prog 31 [] C4=some F4:=by kernel_rfl
theorem J5 [Glb] {st:St} {Q:aB→St→Prop} (hw:wpC Tryz.prog F4 st Q):aI Tryz.prog 31 C4 st Q:=aI.low mx KI (by kernel_rfl) (by kernel_rfl) hw
def Da:Code:=ir [1,1,0,1,0,0,0] b57
def Ga:aY:=(.region [oo 11 (.bin .lss (tm 10) (tm 9))] [])
theorem KO:bD Tryz.prog 31 [] Da=some Ga:=by kernel_rfl
theorem Kb [Glb] {st:St} {Q:aB→St→Prop} (hw:wpC Tryz.prog Ga st Q):aI Tryz.prog 31 Da st Q:=aI.low mx KO (by kernel_rfl) (by kernel_rfl) hw
def Dh:Code:=ir [1,1,0,1,0,0,1,0] b57
def Gg:aY:=(.cond (tm 11) .skip (.exit 0))
theorem KU:bD Tryz.prog 31 [] Dh=some Gg:=by kernel_rfl
theorem FK [Glb] {st:St} {Q:aB→St→Prop} (hw:wpC Tryz.prog Gg st Q):aI Tryz.prog 31 Dh st Q:=aI.low mx KU (by kernel_rfl) (by kernel_rfl) hw
def Dp:Code:=ir [1,1,0,1,0,0,1,1,0,0,0] b57
def Gm:aY:=(.region [ix 12 15 8 10,lA 13 15 12,⟨some 5,.alloc [Z0,Z0,S0,Z0,Z0,.nil,S0,Z0,.nil,Z0,S0,.nil,S0,Z0,Z0],none,[]⟩,o0 (.store 15 (tm 5) (tm 13))] [])
theorem K1:bD Tryz.prog 31 [] Dp=some Gm:=by kernel_rfl
theorem Kn [Glb] {st:St} {Q:aB→St→Prop} (hw:wpC Tryz.prog Gm st Q):aI Tryz.prog 31 Dp st Q:=aI.low mx K1 (by kernel_rfl) (by kernel_rfl) hw
def Dq:Code:=ir [1,1,0,1,0,0,1,1,0,0,1,0] b57
def Gn:aY:=(.region [fa 14 0 5,lA 15 9 14,oo 16 (.call 86 [tm 15])] [])
theorem K2:bD Tryz.prog 31 [] Dq=some Gn:=by kernel_rfl
theorem Ko [Glb] {st:St} {Q:aB→St→Prop} (hw:wpC Tryz.prog Gn st Q):aI Tryz.prog 31 Dq st Q:=aI.low mx K2 (by kernel_rfl) (by kernel_rfl) hw
def Dr:Code:=ir [1,1,0,1,0,0,1,1,0,0,1,1,0,0] b57
def Gp:aY:=(.region [⟨some 6,.alloc [Z0,S0,Z0,Z0,.nil],none,[]⟩,o0 (.store 5 (tm 6) (tm 17))] [])
theorem K3:bD Tryz.prog 31 [] Dr=some Gp:=by kernel_rfl
theorem Kp [Glb] {st:St} {Q:aB→St→Prop} (hw:wpC Tryz.prog Gp st Q):aI Tryz.prog 31 Dr st Q:=aI.low mx K3 (by kernel_rfl) (by kernel_rfl) hw
def Dt:Code:=ir [1,1,0,1,0,0,1,1,0,0,1,1,0,1] b57
def Gq:aY:=(.block 3 (.seq (.region [fa 18 0 6,ld 19 18,oo 20 (.bin .eql (tm 19) (Kc 9))] []) (.cond (tm 20) (.region [ld 21 3,fa 22 2 6,ld 23 22,ld 24 3,fa 25 3 6,ld 26 25,o0 (.bK false [.int .i64] (tm 21) (tm 23) kT),o0 (.bK false [.int .i64] (tm 24) (tm 26) kT)] [[],[],[],[],[],[],[3,5],[]]) .skip)))
theorem K4:bD Tryz.prog 31 [] Dt=some Gq:=by kernel_rfl
theorem Kq [Glb] {st:St} {Q:aB→St→Prop} (hw:wpC Tryz.prog Gq st Q):aI Tryz.prog 31 Dt st Q:=aI.low mx K4 (by kernel_rfl) (by kernel_rfl) hw
def Du:Code:=ir [1,1,0,1,0,0,1,1,1] b57
def Gr:aY:=(.region [oo 27 (.bin .add (tm 10) (Kc 1)),mv 10 27] [])
theorem K5:bD Tryz.prog 31 [] Du=some Gr:=by kernel_rfl
theorem Kr [Glb] {st:St} {Q:aB→St→Prop} (hw:wpC Tryz.prog Gr st Q):aI Tryz.prog 31 Du st Q:=aI.low mx K5 (by kernel_rfl) (by kernel_rfl) hw
def Bj:Code:=ir [1,1,1] b57
def D6:aY:=(.seq (.region [ld 28 3,oo 29 (.call 92 [tm 28]),oo 30 (.call 91 [tm 29]),mv 2 30] []) .ret)
theorem H8:bD Tryz.prog 31 [] Bj=some D6:=by kernel_rfl
theorem HI [Glb] {st:St} {Q:aB→St→Prop} (hw:wpC Tryz.prog D6 st Q):aI Tryz.prog 31 Bj st Q:=aI.low mx H8 (by kernel_rfl) (by kernel_rfl) hw
theorem k57:b57=(.seq CS (.seq CY (.seq (.seq C4 (.block 0 (.loop (.seq Da (.seq Dh (.seq (.block 1 (.seq Dp (.seq Dq (.block 2 (.rangeFunc (.tmp 16) #[17] Dr Dt))))) Du)))))) Bj))):=by kernel_rfl
end Go.TY
end
section
namespace Go.TY
open Go Go.DL Go.MM Go.Proofs
attribute [local irreducible] aI gR WCM YC
section
variable [Glb]
theorem zO {l:Nat} {rc:Option Code→Loop} {cxo:aa→World→Prop} {own:St} {F:Nat→Prop} {hi:Nat} {xs:List T} {outs:Nat→List (Nat×BX)} {stop:Code→(aa→World→Prop)→List (Nat×BX)→Prop} (G:dR Tryz.prog l rc cxo own F hi xs outs stop) (yb wb:Nat) (hyb:hi≤yb) (hwb:hi≤wb):
  ∀(b:Nat) (r:RP),(tu r).length≤b→b<2^60→ ∀(k m off:Nat) (st:St) (d:Option Nat) (K:St→Prop),(∀ j x,(tu r)[j]? =some x→xs[k+j]? =some (sU x))→AtI qF l (rc none) cxo own F (outs k) m st→
   (∀ n,off≤n→st.bx n=none)→yb<off→wb<off→hi≤off→st.bx yb=some (.v [lV l])→st.bx wb=some (.v [.fn 146 [.ptr yb 0,.ptr wb 0]])→
   K (({st with bx:=aK st.bx (outs (k+(tu r).length))}:St).set d (.t (.bool true)))→
   (∀ c cx' o',stop c cx' o'→K (({st with bx:=aK st.bx o',cx:=dC l (rc (some c)) cx' m }:St).set d (.t (.bool false))))→
   WCM Tryz.prog 146 [.t (sU r),.ptr yb 0,.ptr wb 0] d st K
 |0,r,hb=>by rw [xK] at hb;simp at hb
 |b+1,r,hb=>by
  intro hB k m off st d K hxs hA hfree hyo hwo hio hy hw hK hS
  have ih:=zO G yb wb hyb hwb b
  refine WCM.clean (fun hnb=>?_) (bQ Tryz.func146 rfl rfl)
  refine WCM.run Tryz.func146 JC rfl off (nlZ rfl) ?_
  rw [MD]
  obtain ⟨kd,f,n,mm,args⟩:=r
  have hA1:=hA.enter [.t (sU (.mk kd f n mm args)),.ptr yb 0,.ptr wb 0] off
  have hf3:=hfree (3+off) (by omega)
  have hnm: ∀{k:Nat} {q:Nat},hi≤q→ ∀p∈outs k,p.1≠q:=fun h p hp e=>by have:=(G.nm _ p hp).1;omega
  have hnms: ∀{c cx o} {q:Nat},stop c cx o→hi≤q→ ∀p∈o,p.1≠q:=fun hs h p hp e=>by have:=(G.nms _ _ _ hs p hp).1;omega
  have hpl:(tu (.mk kd f n mm args)).length=1+(ta args).length:=by rw [xK,List.length_cons];exact Nat.add_comm _ _
  rw [sI] at hA1 ⊢
  have endT: ∀(s2:St),s2.gh=dO st.sl st.gh→s2.cx=dC l (rc none) cxo (m+1)→(∀ q, ¬q∈[3+off]→s2.bx q=aK st.bx (outs (k+(tu (.mk kd f n mm args)).length)) q)→s2.sl 4= .t (.bool true)→
    qJ Tryz.f146.results.toList st.off d (fun s=> ∃fr s',K s'∧DL.Clean st fr s s') .ret s2:=fun s2 h1 h2 h3 h4=>by
   refine ⟨[.t (.bool true)],st.cx,?_,by rw [h2,hA.cx];rfl,by rw [hA.cx];exact qj G.cxo_,[3+off],_,hK,?_⟩
   ·show (match s2.sl 4 with|u=>some [u])=_
    rw [h4]
   ·exact mL (by rw [h1];rfl) (fun j=>by rw [h1];rfl) h3 (fun q hq=>by rw [List.mem_singleton.1 hq];exact ⟨hf3,hnm (by omega)⟩) (G.sf (G.lvA hA.at_) _)
  have endF: ∀(c:Code) (cx':aa→World→Prop) (o':List (Nat×BX)) (s2:St),stop c cx' o'→s2.gh=dO st.sl st.gh→s2.cx=dC l (rc (some c)) cx' (m+1)→(∀ q, ¬q∈[3+off]→s2.bx q=aK st.bx o' q)→s2.sl 4= .t (.bool false)→
    qJ Tryz.f146.results.toList st.off d (fun s=> ∃fr s',K s'∧DL.Clean st fr s s') .ret s2:=fun c cx' o' s2 hs h1 h2 h3 h4=>by
   refine ⟨[.t (.bool false)],dC l (rc (some c)) cx' m,?_,h2,qj (G.cxd _ _ _ hs),[3+off],_,hS c cx' o' hs,?_⟩
   ·show (match s2.sl 4 with|u=>some [u])=_
    rw [h4]
   ·exact mL (by rw [h1];rfl) (fun j=>by rw [h1];rfl) h3 (fun q hq=>by rw [List.mem_singleton.1 hq];exact ⟨hf3,hnms hs (by omega)⟩) (G.sfs (G.lvA hA.at_) _ _ _ hs)
  generalize qJ Tryz.f146.results.toList st.off d (fun s=> ∃fr s',K s'∧DL.Clean st fr s s')=nW at endT endF ⊢
  refine aI.seq (HH (pX (r7 (cs:=sC (.mk kd f n mm args)) rfl rfl hf3 (sg rfl (qW ?_)))))
  refine aI.seq (aI.seq (I2 (r8 (b:=yb) rfl ((ae _ _ _ _ (show yb≠3+off by omega)).trans hy) rfl (r9 (b:=3+off) rfl (ah _ _ _) (qW (rS rfl rfl ?_))))))
  have hx0:xs[k]? =some (T.agg (sC (.mk kd f n mm args))):=by rw [← sI];exact hxs 0 _ (by rw [xK];rfl)
  refine G.yld qF k _ (m+1) _ _ _ hx0 (hA1.of rfl rfl (fun q h1=>ae _ _ _ _ (show q≠3+off by have:=G.fh q h1;omega)) (fun p hp=>(ae _ _ _ _ (hnm (show hi≤3+off by omega) p hp)).trans (hA1.at_ p hp)) ⟨off+4,fun q hq=>(ae _ _ _ _ (show q≠3+off by omega)).trans (hfree q (by omega))⟩) ?t (fun c cx' o' hs=> ?f)
  case f=>
   refine sj rfl (qW ?_)
   refine DP (rN rfl (rr (sg rfl (qW (rP ?_)))))
   refine endF c cx' o' _ hs rfl rfl (fun q hq=>?_) rfl
   exact oZ (ae _ _ _ _ (show q≠3+off from fun e=>hq (by rw [e];simp))) o'
  case t=>
  refine sj rfl (qW ?_)
  refine DP (rM rfl (rQ ?_))
  let b1:Nat→Option BX:=upd st.bx (3+off) (some (.d 5 (sC (.mk kd f n mm args))))
  have hb13: ∀{k:Nat},aK b1 (outs k) (3+off)=some (.d 5 (sC (.mk kd f n mm args))):=(e7 (hnm (by omega))).trans (ah _ _ _)
  refine aI.seq (aI.seq (HR (pX (rL (b:=3+off) (off:=0) rfl (sb (b:=3+off) (off:=0+4) rfl hb13 (by decide) rfl (sd (xs:=args.map sU) (n:=5) rfl (sg rfl (qW ?_))))))))
  refine aI.block (aI.rY (fun μ s=> ∃j sl,μ=args.length - j∧j≤args.length∧s={sl:=sl,bx:=aK b1 (outs (k+1+(ta (args.take j)).length)),gh:=dO st.sl st.gh,off:=off,cx:=dC l (rc none) cxo (m+1)}∧sl 1= .ptr yb 0∧sl 2= .ptr wb 0∧sl 12= .t (.slice 5 (args.map sU))∧sl 13= .t (I args.length)∧sl 14= .t (I j)) args.length ?_ ?_)
  ·exact ⟨0,_,by omega,by omega,St.ext' rfl rfl rfl rfl hA1.cx,rfl,rfl,rfl,by show V.t (.int .i64 ((args.map sU).length:Int))=_;rw [List.length_map],rfl⟩
  rintro μ s ⟨j,sl,rfl,hj,rfl,e1,e2,e12,e13,e14⟩
  refine aI.clean (fun _=>?_)
  refine aI.seq (HU (pX (se (a:=j) (b:=args.length) e14 e13 (qW ?_))))
  by_cases hlt:j<args.length
  case neg=>
   refine aI.seq (DR (rM (by show V.t (.bool (decide ((j:Int)<(args.length:Int))))=_;rw [decide_eq_false (by omega)]) (rO ?_)))
   refine ⟨[],{sl:=upd sl 15 .top,bx:=aK b1 (outs (k+1+(ta (args.take j)).length)),gh:=dO st.sl st.gh,off:=off,cx:=dC l (rc none) cxo (m+1)},?_,⟨fun q=>?_,⟨rfl,rfl⟩,rfl,rfl,fun q=>rfl,fun q _=>Or.inl rfl,fun q h=>h,by simp⟩⟩
   ·refine GS (rr (sg rfl (qW (rP ?_))))
    refine endT _ rfl rfl (fun q hq=>?_) rfl
    have hjl:j=args.length:=by omega
    show aK b1 (outs (k+1+(ta (args.take j)).length)) q=_
    rw [hjl,List.take_length,hpl,Nat.add_assoc]
    exact oZ (ae _ _ _ _ (fun e=>hq (by rw [e];simp))) _
   ·by_cases h:q=15
    ·subst h;exact Or.inl (show upd sl 15 V.top 15=V.top from ah _ _ _)
    ·have h1:upd sl 15 V.top q=sl q:=ae _ _ _ _ h
     exact Or.inr ⟨h1.trans (show sl q=upd sl 15 _ q from (ae _ _ _ _ h).symm),Or.inl h1⟩
  refine aI.seq (DR (rN (by show V.t (.bool (decide ((j:Int)<(args.length:Int))))=_;rw [decide_eq_true (by omega)]) (rQ ?_)))
  have hv:(args.map sU)[((j:Int)).toNat]?.getD .nil=T.agg (sC args[j]):=by
   rw [Int.toNat_natCast,List.getElem?_map,ggZ hlt]
   show sU args[j]=_
   exact sI _
  have hf6: ∀{k:Nat},aK b1 (outs k) (6+off)=none:=(e7 (hnm (by omega))).trans ((ae _ _ _ _ (by omega)).trans (hfree _ (by omega)))
  have hpt:=zy hlt
  have hpg:=fun i x=>@EC args j i x hlt
  have hpm:=ED hlt
  have hcl:=sK args[j]
  have hec:=sI args[j]
  generalize args[j]=aj at hv hpt hpg hpm hcl hec
  refine aI.seq (aI.block (aI.seq (HX (pX (rJ (xs:=args.map sU) (k:=(j:Int)) e12 e14 ⟨by omega,by rw [List.length_map];omega⟩ hv (sa (cs:=sC aj) rfl hcl (pW hf6 (rp (b:=6+off) (off:=0) rfl (ah _ _ _) rfl ⟨hcl,Nat.le_refl _⟩ (qW ?_)))))))))
  have hbo: ∀{x y:Option BX} {q k:Nat},q≠6+off→upd (upd (aK b1 (outs k)) (6+off) x) (6+off) y q=aK b1 (outs k) q:=fun h=>(ae _ _ _ _ h).trans (ae _ _ _ _ h)
  have hbo2: ∀{k q:Nat},hi≤q→q≠3+off→aK b1 (outs k) q=st.bx q:=fun h h'=>(e7 (hnm h)).trans (ae _ _ _ _ h')
  refine aI.seq (I7 (r8 (b:=wb) e2 ((hbo (by omega)).trans ((hbo2 hwb (by omega)).trans hw)) rfl (r9 (b:=6+off) rfl (ah _ _ _) (qW (rR (us':=[.t (sU aj),.ptr yb 0,.ptr wb 0]) rfl (by
   show [V.t (.agg (aN [.int .i64 0,.str ⟨#[]⟩,.int .i64 0,.int .i64 0,.nil] 0 5 (sC aj))),V.ptr yb 0,V.ptr wb 0]=_
   rw [mU (n:=5) rfl,hec]) ?_)))))
  refine ih aj (by omega) (by omega) (k+1+(ta (args.take j)).length) (m+1) (off+7) _ _ _ (fun i x hx=>?_) (hA1.of hA1.cx.symm rfl (fun q h1=>?_) (fun p hp=>?_) ⟨off+7,fun q hq=>?_⟩) (fun q hq=>?_) (by omega) (by omega) (by omega) ?_ ?_ ?t (fun c cx' o' hs=> ?f)
  ·rw [Nat.add_assoc,Nat.add_assoc]
   refine hxs _ x ?_
   rw [xK,Nat.add_comm,List.getElem?_cons_succ]
   exact hpg i x hx
  ·have hq1:=G.fh q h1
   exact (hbo (by omega)).trans ((e7 (fun p hp e=>(G.nm _ p hp).2 (by rw [e];exact h1))).trans (ae _ _ _ _ (by omega)))
  ·exact (hbo (hnm (show hi≤6+off by omega) p hp)).trans (mC (G.nd _) hp)
  ·exact (hbo (by omega)).trans ((hbo2 (by omega) (by omega)).trans (hfree q (by omega)))
  ·exact (hbo (by omega)).trans ((hbo2 (by omega) (by omega)).trans (hfree q (by omega)))
  ·exact (hbo (by omega)).trans ((hbo2 hyb (by omega)).trans hy)
  ·exact (hbo (by omega)).trans ((hbo2 hwb (by omega)).trans hw)
  case f=>
   refine sj rfl (qW ?_)
   refine DU (rN rfl (rr (sg rfl (qW (rP ?_)))))
   refine ⟨[6+off],{sl:=fun n=>cond (Nat.beq n 4) (.t (.bool false)) .top,bx:=aK (aK b1 (outs (k+1+(ta (args.take j)).length))) o',gh:=dO st.sl st.gh,off:=off,cx:=dC l (rc (some c)) cx' (m+1)},endF c cx' o' _ hs rfl rfl (fun q hq=>?_) rfl,?_⟩
   ·show aK (aK b1 (outs _)) o' q=_
    rw [qY (G.covs _ _ _ hs _)]
    exact oZ (ae _ _ _ _ (fun e=>hq (by rw [e];simp))) _
   ·refine nj (fun q=>?_) rfl (fun q hq=>oZ (hbo (fun e=>hq (by rw [e];simp))) o') (fun q hq=>?_) (G.sfs (G.lvU _ _) _ _ _ hs)
    ·by_cases h:q=4
     ·subst h;exact Or.inr ⟨rfl,Or.inr (.t _)⟩
     ·refine Or.inl ?_
      show cond (Nat.beq q 4) _ _=_
      rw [eS h];rfl
    ·rw [List.mem_singleton.1 hq]
     exact ⟨hf6,hnms hs (by omega)⟩
  case t=>
   refine sj rfl (qW ?_)
   refine DU (rM rfl (rQ ?_))
   have hge:=A6 args
   have hw1:IntKind.i64.wrap ((j:Int)+1)=((j+1:Nat):Int):=by rw [mG (by omega) (by omega)];rfl
   refine HZ (pX (rZ (a:=(j:Int)) (b:=1) e14 rfl hw1 (sg rfl (qW ?_))))
   have hix:k+1+(ta (args.take j)).length+(tu aj).length=k+1+(ta (args.take (j+1))).length:=by rw [hpt,List.length_append];omega
   refine ⟨[6+off],{sl:=upd (fun n=>cond (Nat.beq n 1||Nat.beq n 2||Nat.beq n 12||Nat.beq n 13) (sl n) .top) 14 (.t (I (j+1:Nat))),bx:=aK (aK b1 (outs (k+1+(ta (args.take j)).length))) (outs (k+1+(ta (args.take j)).length+(tu aj).length)),gh:=dO st.sl st.gh,off:=off,cx:=dC l (rc none) cxo (m+1)},⟨args.length - (j+1),by omega,j+1,_,rfl,by omega,St.ext' rfl ((qY (G.cov _ _)).trans (congrArg (fun i=>aK b1 (outs i)) hix)) rfl rfl rfl,e1,e2,e12,e13,rfl⟩,?_⟩
   refine nj (fun q=>?_) rfl (fun q hq=>oZ (hbo (fun e=>hq (by rw [e];simp))) _) (fun q hq=>?_) (G.sf (G.lvU _ _) _)
   ·by_cases h14:q=14
    ·subst h14;exact Or.inr ⟨rfl,Or.inr (.t _)⟩
    by_cases h1:q=1
    ·subst h1;exact Or.inr ⟨by (conv=>lhs;whnf);(conv=>rhs;whnf),Or.inl rfl⟩
    by_cases h2:q=2
    ·subst h2;exact Or.inr ⟨by (conv=>lhs;whnf);(conv=>rhs;whnf),Or.inl rfl⟩
    by_cases h12:q=12
    ·subst h12;exact Or.inr ⟨by (conv=>lhs;whnf);(conv=>rhs;whnf),Or.inl rfl⟩
    by_cases h13:q=13
    ·subst h13;exact Or.inr ⟨by (conv=>lhs;whnf);(conv=>rhs;whnf),Or.inl rfl⟩
    refine Or.inl ?_
    show upd _ 14 _ q=_
    rw [ae _ _ _ _ h14]
    show cond (Nat.beq q 1||Nat.beq q 2||Nat.beq q 12||Nat.beq q 13) _ _=_
    rw [eS h1,eS h2,eS h12,eS h13];rfl
   ·rw [List.mem_singleton.1 hq]
    exact ⟨hf6,hnm (by omega)⟩
end
end Go.TY
end
section
namespace Go.TY
open Go Go.DL Go.MM Go.Proofs
attribute [local irreducible] aI gR WCM YC
section
variable [Glb]
theorem zN {l:Nat} {rc:Option Code→Loop} {cxo:aa→World→Prop} {own:St} {F:Nat→Prop} {hi:Nat} {xs:List T} {outs:Nat→List (Nat×BX)} {stop:Code→(aa→World→Prop)→List (Nat×BX)→Prop} (G:dR Tryz.prog l rc cxo own F hi xs outs stop) (yb wb:Nat) (hyb:hi≤yb) (hwb:hi≤wb):
  ∀(b:Nat) (r:RO),(sJ r).length≤b→b<2^60→ ∀(k m off:Nat) (st:St) (d:Option Nat) (K:St→Prop),(∀ j x,(sJ r)[j]? =some x→xs[k+j]? =some (uK x))→AtI qF l (rc none) cxo own F (outs k) m st→
   (∀ n,off≤n→st.bx n=none)→yb<off→wb<off→hi≤off→st.bx yb=some (.v [lV l])→st.bx wb=some (.v [.fn 117 [.ptr yb 0,.ptr wb 0]])→
   K (({st with bx:=aK st.bx (outs (k+(sJ r).length))}:St).set d (.t (.bool true)))→
   (∀ c cx' o',stop c cx' o'→K (({st with bx:=aK st.bx o',cx:=dC l (rc (some c)) cx' m }:St).set d (.t (.bool false))))→
   WCM Tryz.prog 117 [.t (uK r),.ptr yb 0,.ptr wb 0] d st K
 |0,r,hb=>by rw [xJ] at hb;simp at hb
 |b+1,r,hb=>by
  intro hB k m off st d K hxs hA hfree hyo hwo hio hy hw hK hS
  have ih:=zN G yb wb hyb hwb b
  refine WCM.clean (fun hnb=>?_) (bQ Tryz.func117 rfl rfl)
  refine WCM.run Tryz.func117 Jz rfl off (nlZ rfl) ?_
  rw [Mz]
  obtain ⟨kd,f,n,mm,args⟩:=r
  have hA1:=hA.enter [.t (uK (.mk kd f n mm args)),.ptr yb 0,.ptr wb 0] off
  have hf3:=hfree (3+off) (by omega)
  have hnm: ∀{k:Nat} {q:Nat},hi≤q→ ∀p∈outs k,p.1≠q:=fun h p hp e=>by have:=(G.nm _ p hp).1;omega
  have hnms: ∀{c cx o} {q:Nat},stop c cx o→hi≤q→ ∀p∈o,p.1≠q:=fun hs h p hp e=>by have:=(G.nms _ _ _ hs p hp).1;omega
  have hpl:(sJ (.mk kd f n mm args)).length=1+(sZ args).length:=by rw [xJ,List.length_cons];exact Nat.add_comm _ _
  rw [sV] at hA1 ⊢
  have endT: ∀(s2:St),s2.gh=dO st.sl st.gh→s2.cx=dC l (rc none) cxo (m+1)→(∀ q, ¬q∈[3+off]→s2.bx q=aK st.bx (outs (k+(sJ (.mk kd f n mm args)).length)) q)→s2.sl 4= .t (.bool true)→
    qJ Tryz.f117.results.toList st.off d (fun s=> ∃fr s',K s'∧DL.Clean st fr s s') .ret s2:=fun s2 h1 h2 h3 h4=>by
   refine ⟨[.t (.bool true)],st.cx,?_,by rw [h2,hA.cx];rfl,by rw [hA.cx];exact qj G.cxo_,[3+off],_,hK,?_⟩
   ·show (match s2.sl 4 with|u=>some [u])=_
    rw [h4]
   ·exact mL (by rw [h1];rfl) (fun j=>by rw [h1];rfl) h3 (fun q hq=>by rw [List.mem_singleton.1 hq];exact ⟨hf3,hnm (by omega)⟩) (G.sf (G.lvA hA.at_) _)
  have endF: ∀(c:Code) (cx':aa→World→Prop) (o':List (Nat×BX)) (s2:St),stop c cx' o'→s2.gh=dO st.sl st.gh→s2.cx=dC l (rc (some c)) cx' (m+1)→(∀ q, ¬q∈[3+off]→s2.bx q=aK st.bx o' q)→s2.sl 4= .t (.bool false)→
    qJ Tryz.f117.results.toList st.off d (fun s=> ∃fr s',K s'∧DL.Clean st fr s s') .ret s2:=fun c cx' o' s2 hs h1 h2 h3 h4=>by
   refine ⟨[.t (.bool false)],dC l (rc (some c)) cx' m,?_,h2,qj (G.cxd _ _ _ hs),[3+off],_,hS c cx' o' hs,?_⟩
   ·show (match s2.sl 4 with|u=>some [u])=_
    rw [h4]
   ·exact mL (by rw [h1];rfl) (fun j=>by rw [h1];rfl) h3 (fun q hq=>by rw [List.mem_singleton.1 hq];exact ⟨hf3,hnms hs (by omega)⟩) (G.sfs (G.lvA hA.at_) _ _ _ hs)
  generalize qJ Tryz.f117.results.toList st.off d (fun s=> ∃fr s',K s'∧DL.Clean st fr s s')=nW at endT endF ⊢
  refine aI.seq (HE (pX (r7 (cs:=s8 (.mk kd f n mm args)) rfl rfl hf3 (sg rfl (qW ?_)))))
  refine aI.seq (aI.seq (I1 (r8 (b:=yb) rfl ((ae _ _ _ _ (show yb≠3+off by omega)).trans hy) rfl (r9 (b:=3+off) rfl (ah _ _ _) (qW (rS rfl rfl ?_))))))
  have hx0:xs[k]? =some (T.agg (s8 (.mk kd f n mm args))):=by rw [← sV];exact hxs 0 _ (by rw [xJ];rfl)
  refine G.yld qF k _ (m+1) _ _ _ hx0 (hA1.of rfl rfl (fun q h1=>ae _ _ _ _ (show q≠3+off by have:=G.fh q h1;omega)) (fun p hp=>(ae _ _ _ _ (hnm (show hi≤3+off by omega) p hp)).trans (hA1.at_ p hp)) ⟨off+4,fun q hq=>(ae _ _ _ _ (show q≠3+off by omega)).trans (hfree q (by omega))⟩) ?t (fun c cx' o' hs=> ?f)
  case f=>
   refine sj rfl (qW ?_)
   refine DO (rN rfl (rr (sg rfl (qW (rP ?_)))))
   refine endF c cx' o' _ hs rfl rfl (fun q hq=>?_) rfl
   exact oZ (ae _ _ _ _ (show q≠3+off from fun e=>hq (by rw [e];simp))) o'
  case t=>
  refine sj rfl (qW ?_)
  refine DO (rM rfl (rQ ?_))
  let b1:Nat→Option BX:=upd st.bx (3+off) (some (.d 9 (s8 (.mk kd f n mm args))))
  have hb13: ∀{k:Nat},aK b1 (outs k) (3+off)=some (.d 9 (s8 (.mk kd f n mm args))):=(e7 (hnm (by omega))).trans (ah _ _ _)
  refine aI.seq (aI.seq (HP (pX (rL (b:=3+off) (off:=0) rfl (sb (b:=3+off) (off:=0+8) rfl hb13 (by decide) rfl (sd (xs:=args.map uK) (n:=9) rfl (sg rfl (qW ?_))))))))
  refine aI.block (aI.rY (fun μ s=> ∃j sl,μ=args.length - j∧j≤args.length∧s={sl:=sl,bx:=aK b1 (outs (k+1+(sZ (args.take j)).length)),gh:=dO st.sl st.gh,off:=off,cx:=dC l (rc none) cxo (m+1)}∧sl 1= .ptr yb 0∧sl 2= .ptr wb 0∧sl 12= .t (.slice 9 (args.map uK))∧sl 13= .t (I args.length)∧sl 14= .t (I j)) args.length ?_ ?_)
  ·exact ⟨0,_,by omega,by omega,St.ext' rfl rfl rfl rfl hA1.cx,rfl,rfl,rfl,by show V.t (.int .i64 ((args.map uK).length:Int))=_;rw [List.length_map],rfl⟩
  rintro μ s ⟨j,sl,rfl,hj,rfl,e1,e2,e12,e13,e14⟩
  refine aI.clean (fun _=>?_)
  refine aI.seq (HS (pX (se (a:=j) (b:=args.length) e14 e13 (qW ?_))))
  by_cases hlt:j<args.length
  case neg=>
   refine aI.seq (DQ (rM (by show V.t (.bool (decide ((j:Int)<(args.length:Int))))=_;rw [decide_eq_false (by omega)]) (rO ?_)))
   refine ⟨[],{sl:=upd sl 15 .top,bx:=aK b1 (outs (k+1+(sZ (args.take j)).length)),gh:=dO st.sl st.gh,off:=off,cx:=dC l (rc none) cxo (m+1)},?_,⟨fun q=>?_,⟨rfl,rfl⟩,rfl,rfl,fun q=>rfl,fun q _=>Or.inl rfl,fun q h=>h,by simp⟩⟩
   ·refine GR (rr (sg rfl (qW (rP ?_))))
    refine endT _ rfl rfl (fun q hq=>?_) rfl
    have hjl:j=args.length:=by omega
    show aK b1 (outs (k+1+(sZ (args.take j)).length)) q=_
    rw [hjl,List.take_length,hpl,Nat.add_assoc]
    exact oZ (ae _ _ _ _ (fun e=>hq (by rw [e];simp))) _
   ·by_cases h:q=15
    ·subst h;exact Or.inl (show upd sl 15 V.top 15=V.top from ah _ _ _)
    ·have h1:upd sl 15 V.top q=sl q:=ae _ _ _ _ h
     exact Or.inr ⟨h1.trans (show sl q=upd sl 15 _ q from (ae _ _ _ _ h).symm),Or.inl h1⟩
  refine aI.seq (DQ (rN (by show V.t (.bool (decide ((j:Int)<(args.length:Int))))=_;rw [decide_eq_true (by omega)]) (rQ ?_)))
  have hv:(args.map uK)[((j:Int)).toNat]?.getD .nil=T.agg (s8 args[j]):=by
   rw [Int.toNat_natCast,List.getElem?_map,ggZ hlt]
   show uK args[j]=_
   exact sV _
  have hf6: ∀{k:Nat},aK b1 (outs k) (6+off)=none:=(e7 (hnm (by omega))).trans ((ae _ _ _ _ (by omega)).trans (hfree _ (by omega)))
  have hpt:=zx hlt
  have hpg:=fun i x=>@Ey args j i x hlt
  have hpm:=Ez hlt
  have hcl:=tC args[j]
  have hec:=sV args[j]
  generalize args[j]=aj at hv hpt hpg hpm hcl hec
  refine aI.seq (aI.block (aI.seq (HW (pX (rJ (xs:=args.map uK) (k:=(j:Int)) e12 e14 ⟨by omega,by rw [List.length_map];omega⟩ hv (sa (cs:=s8 aj) rfl hcl (pW hf6 (rp (b:=6+off) (off:=0) rfl (ah _ _ _) rfl ⟨hcl,Nat.le_refl _⟩ (qW ?_)))))))))
  have hbo: ∀{x y:Option BX} {q k:Nat},q≠6+off→upd (upd (aK b1 (outs k)) (6+off) x) (6+off) y q=aK b1 (outs k) q:=fun h=>(ae _ _ _ _ h).trans (ae _ _ _ _ h)
  have hbo2: ∀{k q:Nat},hi≤q→q≠3+off→aK b1 (outs k) q=st.bx q:=fun h h'=>(e7 (hnm h)).trans (ae _ _ _ _ h')
  refine aI.seq (I6 (r8 (b:=wb) e2 ((hbo (by omega)).trans ((hbo2 hwb (by omega)).trans hw)) rfl (r9 (b:=6+off) rfl (ah _ _ _) (qW (rR (us':=[.t (uK aj),.ptr yb 0,.ptr wb 0]) rfl (by
   show [V.t (.agg (aN [.int .i64 0,.int .i64 0,.str ⟨#[]⟩,.int .i64 0,.int .i64 0,.nil,.str ⟨#[]⟩,.int .i64 0,.nil] 0 9 (s8 aj))),V.ptr yb 0,V.ptr wb 0]=_
   rw [mU (n:=9) rfl,hec]) ?_)))))
  refine ih aj (by omega) (by omega) (k+1+(sZ (args.take j)).length) (m+1) (off+7) _ _ _ (fun i x hx=>?_) (hA1.of hA1.cx.symm rfl (fun q h1=>?_) (fun p hp=>?_) ⟨off+7,fun q hq=>?_⟩) (fun q hq=>?_) (by omega) (by omega) (by omega) ?_ ?_ ?t (fun c cx' o' hs=> ?f)
  ·rw [Nat.add_assoc,Nat.add_assoc]
   refine hxs _ x ?_
   rw [xJ,Nat.add_comm,List.getElem?_cons_succ]
   exact hpg i x hx
  ·have hq1:=G.fh q h1
   exact (hbo (by omega)).trans ((e7 (fun p hp e=>(G.nm _ p hp).2 (by rw [e];exact h1))).trans (ae _ _ _ _ (by omega)))
  ·exact (hbo (hnm (show hi≤6+off by omega) p hp)).trans (mC (G.nd _) hp)
  ·exact (hbo (by omega)).trans ((hbo2 (by omega) (by omega)).trans (hfree q (by omega)))
  ·exact (hbo (by omega)).trans ((hbo2 (by omega) (by omega)).trans (hfree q (by omega)))
  ·exact (hbo (by omega)).trans ((hbo2 hyb (by omega)).trans hy)
  ·exact (hbo (by omega)).trans ((hbo2 hwb (by omega)).trans hw)
  case f=>
   refine sj rfl (qW ?_)
   refine DT (rN rfl (rr (sg rfl (qW (rP ?_)))))
   refine ⟨[6+off],{sl:=fun n=>cond (Nat.beq n 4) (.t (.bool false)) .top,bx:=aK (aK b1 (outs (k+1+(sZ (args.take j)).length))) o',gh:=dO st.sl st.gh,off:=off,cx:=dC l (rc (some c)) cx' (m+1)},endF c cx' o' _ hs rfl rfl (fun q hq=>?_) rfl,?_⟩
   ·show aK (aK b1 (outs _)) o' q=_
    rw [qY (G.covs _ _ _ hs _)]
    exact oZ (ae _ _ _ _ (fun e=>hq (by rw [e];simp))) _
   ·refine nj (fun q=>?_) rfl (fun q hq=>oZ (hbo (fun e=>hq (by rw [e];simp))) o') (fun q hq=>?_) (G.sfs (G.lvU _ _) _ _ _ hs)
    ·by_cases h:q=4
     ·subst h;exact Or.inr ⟨rfl,Or.inr (.t _)⟩
     ·refine Or.inl ?_
      show cond (Nat.beq q 4) _ _=_
      rw [eS h];rfl
    ·rw [List.mem_singleton.1 hq]
     exact ⟨hf6,hnms hs (by omega)⟩
  case t=>
   refine sj rfl (qW ?_)
   refine DT (rM rfl (rQ ?_))
   have hge:=A5 args
   have hw1:IntKind.i64.wrap ((j:Int)+1)=((j+1:Nat):Int):=by rw [mG (by omega) (by omega)];rfl
   refine HY (pX (rZ (a:=(j:Int)) (b:=1) e14 rfl hw1 (sg rfl (qW ?_))))
   have hix:k+1+(sZ (args.take j)).length+(sJ aj).length=k+1+(sZ (args.take (j+1))).length:=by rw [hpt,List.length_append];omega
   refine ⟨[6+off],{sl:=upd (fun n=>cond (Nat.beq n 1||Nat.beq n 2||Nat.beq n 12||Nat.beq n 13) (sl n) .top) 14 (.t (I (j+1:Nat))),bx:=aK (aK b1 (outs (k+1+(sZ (args.take j)).length))) (outs (k+1+(sZ (args.take j)).length+(sJ aj).length)),gh:=dO st.sl st.gh,off:=off,cx:=dC l (rc none) cxo (m+1)},⟨args.length - (j+1),by omega,j+1,_,rfl,by omega,St.ext' rfl ((qY (G.cov _ _)).trans (congrArg (fun i=>aK b1 (outs i)) hix)) rfl rfl rfl,e1,e2,e12,e13,rfl⟩,?_⟩
   refine nj (fun q=>?_) rfl (fun q hq=>oZ (hbo (fun e=>hq (by rw [e];simp))) _) (fun q hq=>?_) (G.sf (G.lvU _ _) _)
   ·by_cases h14:q=14
    ·subst h14;exact Or.inr ⟨rfl,Or.inr (.t _)⟩
    by_cases h1:q=1
    ·subst h1;exact Or.inr ⟨by (conv=>lhs;whnf);(conv=>rhs;whnf),Or.inl rfl⟩
    by_cases h2:q=2
    ·subst h2;exact Or.inr ⟨by (conv=>lhs;whnf);(conv=>rhs;whnf),Or.inl rfl⟩
    by_cases h12:q=12
    ·subst h12;exact Or.inr ⟨by (conv=>lhs;whnf);(conv=>rhs;whnf),Or.inl rfl⟩
    by_cases h13:q=13
    ·subst h13;exact Or.inr ⟨by (conv=>lhs;whnf);(conv=>rhs;whnf),Or.inl rfl⟩
    refine Or.inl ?_
    show upd _ 14 _ q=_
    rw [ae _ _ _ _ h14]
    show cond (Nat.beq q 1||Nat.beq q 2||Nat.beq q 12||Nat.beq q 13) _ _=_
    rw [eS h1,eS h2,eS h12,eS h13];rfl
   ·rw [List.mem_singleton.1 hq]
    exact ⟨hf6,hnm (by omega)⟩
end
end Go.TY
end
section
namespace Go.TY
open Go Go.DL Go.MM Go.Proofs
attribute [local irreducible] aI gR WCM YC
section
variable [Glb]
theorem y0 {N:Nat} {st:St} {g:Operand} {y:O} {p:Nat} {asg body:Code} (hg:aq g=some y) (r:RP) (hv:ev st.sl y= .t (.clos 145 [.cptr (sC r) 0])) (off:Nat) (F:Nat→Prop) (hi:Nat) (hio:hi≤off) (hB:(tu r).length<2^59) (hfl: ∀n,F n→st.bx n=none) (hfo: ∀n,off≤n→st.bx n=none) (hcn:CxN st.cx)
  {outs:Nat→List (Nat×BX)} {stop:Code→(aa→World→Prop)→List (Nat×BX)→Prop} {Q:aB→St→Prop} (h0: ∀q∈outs 0,st.bx q.1=some q.2)
  (hG: ∀(l D:Nat) (fn:FuncId) (tmps:Array Value),tmps.size=N→dR Tryz.prog l (rcE fn tmps p asg body D) st.cx st F hi ((tu r).map sU) outs stop)
  (hend:Q .normal {st with bx:=aK st.bx (outs (tu r).length)})
  (hstop: ∀c cx' o',stop c cx' o'→(c= .ret∧Q .ret {st with bx:=aK st.bx o',cx:=cx' })∨ ∃id,c= .exit id∧Q (.exit id) {st with bx:=aK st.bx o',cx:=cx' }):
  aI Tryz.prog N (.rangeFunc g #[p] asg body) st Q:=by
 refine aI.clean (fun _=>?_)
 refine aI.range (N:=N) hg (gf:=145) (caps:=[.t (.cptr (sC r) 0)]) (by rw [hv];rfl) Tryz.func145 JB rfl rfl (nlZ rfl) off hcn (fun l D fn tmps hN=>?_)
 have G:=hG l D fn tmps hN
 rw [MB]
 have hA:AtI qF l (rcE fn tmps p asg body D none) st.cx st F (outs 0) 0 (st.itr l [.t (.cptr (sC r) 0)] off (rdy fn tmps p asg body D)):=
  ⟨rfl,rfl,fun j=>by
   show dO st.sl st.gh (0+0+1+j)=_
   rw [show 0+0+1+j=j+1 by omega];rfl,h0,hfl,off,hfo⟩
 have hnm: ∀{k:Nat} {q:Nat},hi≤q→ ∀p∈outs k,p.1≠q:=fun h p hp e=>by have:=(G.nm _ p hp).1;omega
 have hnms: ∀{c cx o} {q:Nat},stop c cx o→hi≤q→ ∀p∈o,p.1≠q:=fun hs h p hp e=>by have:=(G.nms _ _ _ hs p hp).1;omega
 have hf2:st.bx (2+off)=none:=hfo _ (by omega)
 have hf3:st.bx (3+off)=none:=hfo _ (by omega)
 have fin: ∀{s2:St} {o:List (Nat×BX)} {cx:aa→World→Prop},s2.gh=dO st.sl st.gh→(∀ q, ¬q∈[2+off,3+off]→s2.bx q=aK st.bx o q)→(∀ q∈[2+off,3+off], ∀p∈o,p.1≠q)→(∀ p∈o,bz (fun n=>(st.bx n).isSome=true) p.2)→
   DL.Clean st [2+off,3+off] (s2.bE st.off cx) {st with bx:=aK st.bx o,cx:=cx }:=fun h1 h2 h3 h4=>
  mL (d:=none) (v:=.nil) (by rw [h1];rfl) (fun j=>by rw [h1];rfl) h2 (fun q hq=>⟨by
   rcases List.mem_cons.1 hq with rfl|hq
   ·exact hf2
   ·rw [List.mem_singleton.1 hq];exact hf3,h3 q hq⟩) h4
 refine aI.seq (HG (pX (rH (v:=.func (.yield l) #[] #[]) rfl hf2 (qW ?_))))
 refine aI.seq (HL (pX (pW ((ae _ _ _ _ (show 3+off≠2+off by omega)).trans hf3) (qW ?_))))
 refine aI.seq (HO (pX (rK rfl (sq (b:=3+off) rfl (ah _ _ _) rfl (qW ?_)))))
 have hbo: ∀{x y z:Option BX} {q:Nat},q≠2+off→q≠3+off→upd (upd (upd st.bx (2+off) x) (3+off) y) (3+off) z q=st.bx q:=fun h1 h2=>(ae _ _ _ _ h2).trans ((ae _ _ _ _ h2).trans (ae _ _ _ _ h1))
 have h23:2+off≠3+off:=by omega
 have hq2: ∀q, ¬q∈[2+off,3+off]→q≠2+off∧q≠3+off:=fun q h=>⟨fun e=>h (by rw [e];simp),fun e=>h (by rw [e];simp)⟩
 refine I4 (r8 (b:=3+off) rfl (ah _ _ _) rfl (sa (cs:=sC r) rfl (sK r) (qW (rR (us':=[.t (sU r),.ptr (2+off) 0,.ptr (3+off) 0]) rfl (by rw [sI];rfl) ?_))))
 refine zO G (2+off) (3+off) (by omega) (by omega) (tu r).length r (Nat.le_refl _) (by omega) 0 0 (off+4) _ _ _ (fun j x hx=>by rw [Nat.zero_add,List.getElem?_map,hx];rfl) (hA.of rfl rfl (fun q h1=>hbo (by have:=G.fh q h1;omega) (by have:=G.fh q h1;omega)) (fun q hq=>(hbo (hnm (by omega) q hq) (hnm (by omega) q hq)).trans (h0 q hq)) ⟨off+4,fun q hq=>(hbo (by omega) (by omega)).trans (hfo q (by omega))⟩)
  (fun q hq=>(hbo (by omega) (by omega)).trans (hfo q (by omega))) (by omega) (by omega) (by omega) ((ae _ _ _ _ h23).trans ((ae _ _ _ _ h23).trans (ah _ _ _))) (ah _ _ _) ?t (fun c cx' o' hs=> ?f)
 case t=>
  refine qW ⟨none,st.cx,rfl,G.cxo_,[2+off,3+off],_,?_,fin (o:=outs (tu r).length) rfl (fun q hq=>?_) (fun q hq=>hnm (by
   rcases List.mem_cons.1 hq with rfl|hq
   ·omega
   ·rw [List.mem_singleton.1 hq];omega)) (G.sf (G.lvA h0) _)⟩
  ·exact hend
  ·show aK _ (outs (0+(tu r).length)) q=_
   rw [Nat.zero_add]
   exact oZ (hbo (hq2 q hq).1 (hq2 q hq).2) _
 case f=>
  rcases hstop c cx' o' hs with ⟨rfl,hq⟩|⟨id,rfl,hq⟩
  all_goals
   refine qW ⟨some _,cx',rfl,G.cxd _ _ _ hs,[2+off,3+off],_,hq,fin (o:=o') rfl (fun q hq=>?_) (fun q hq=>hnms hs (by
    rcases List.mem_cons.1 hq with rfl|hq
    ·omega
    ·rw [List.mem_singleton.1 hq];omega)) (G.sfs (G.lvA h0) _ _ _ hs)⟩
   exact oZ (hbo (hq2 q hq).1 (hq2 q hq).2) _
theorem wo {N:Nat} {st:St} {g:Operand} {y:O} {p:Nat} {asg body:Code} (hg:aq g=some y) (r:RO) (hv:ev st.sl y= .t (.clos 116 [.cptr (s8 r) 0])) (off:Nat) (F:Nat→Prop) (hi:Nat) (hio:hi≤off) (hB:(sJ r).length<2^59) (hfl: ∀n,F n→st.bx n=none) (hfo: ∀n,off≤n→st.bx n=none) (hcn:CxN st.cx)
  {outs:Nat→List (Nat×BX)} {stop:Code→(aa→World→Prop)→List (Nat×BX)→Prop} {Q:aB→St→Prop} (h0: ∀q∈outs 0,st.bx q.1=some q.2)
  (hG: ∀(l D:Nat) (fn:FuncId) (tmps:Array Value),tmps.size=N→dR Tryz.prog l (rcE fn tmps p asg body D) st.cx st F hi ((sJ r).map uK) outs stop)
  (hend:Q .normal {st with bx:=aK st.bx (outs (sJ r).length)})
  (hstop: ∀c cx' o',stop c cx' o'→(c= .ret∧Q .ret {st with bx:=aK st.bx o',cx:=cx' })∨ ∃id,c= .exit id∧Q (.exit id) {st with bx:=aK st.bx o',cx:=cx' }):
  aI Tryz.prog N (.rangeFunc g #[p] asg body) st Q:=by
 refine aI.clean (fun _=>?_)
 refine aI.range (N:=N) hg (gf:=116) (caps:=[.t (.cptr (s8 r) 0)]) (by rw [hv];rfl) Tryz.func116 Jy rfl rfl (nlZ rfl) off hcn (fun l D fn tmps hN=>?_)
 have G:=hG l D fn tmps hN
 rw [My]
 have hA:AtI qF l (rcE fn tmps p asg body D none) st.cx st F (outs 0) 0 (st.itr l [.t (.cptr (s8 r) 0)] off (rdy fn tmps p asg body D)):=
  ⟨rfl,rfl,fun j=>by
   show dO st.sl st.gh (0+0+1+j)=_
   rw [show 0+0+1+j=j+1 by omega];rfl,h0,hfl,off,hfo⟩
 have hnm: ∀{k:Nat} {q:Nat},hi≤q→ ∀p∈outs k,p.1≠q:=fun h p hp e=>by have:=(G.nm _ p hp).1;omega
 have hnms: ∀{c cx o} {q:Nat},stop c cx o→hi≤q→ ∀p∈o,p.1≠q:=fun hs h p hp e=>by have:=(G.nms _ _ _ hs p hp).1;omega
 have hf2:st.bx (2+off)=none:=hfo _ (by omega)
 have hf3:st.bx (3+off)=none:=hfo _ (by omega)
 have fin: ∀{s2:St} {o:List (Nat×BX)} {cx:aa→World→Prop},s2.gh=dO st.sl st.gh→(∀ q, ¬q∈[2+off,3+off]→s2.bx q=aK st.bx o q)→(∀ q∈[2+off,3+off], ∀p∈o,p.1≠q)→(∀ p∈o,bz (fun n=>(st.bx n).isSome=true) p.2)→
   DL.Clean st [2+off,3+off] (s2.bE st.off cx) {st with bx:=aK st.bx o,cx:=cx }:=fun h1 h2 h3 h4=>
  mL (d:=none) (v:=.nil) (by rw [h1];rfl) (fun j=>by rw [h1];rfl) h2 (fun q hq=>⟨by
   rcases List.mem_cons.1 hq with rfl|hq
   ·exact hf2
   ·rw [List.mem_singleton.1 hq];exact hf3,h3 q hq⟩) h4
 refine aI.seq (HD (pX (rH (v:=.func (.yield l) #[] #[]) rfl hf2 (qW ?_))))
 refine aI.seq (HJ (pX (pW ((ae _ _ _ _ (show 3+off≠2+off by omega)).trans hf3) (qW ?_))))
 refine aI.seq (HM (pX (rK rfl (sq (b:=3+off) rfl (ah _ _ _) rfl (qW ?_)))))
 have hbo: ∀{x y z:Option BX} {q:Nat},q≠2+off→q≠3+off→upd (upd (upd st.bx (2+off) x) (3+off) y) (3+off) z q=st.bx q:=fun h1 h2=>(ae _ _ _ _ h2).trans ((ae _ _ _ _ h2).trans (ae _ _ _ _ h1))
 have h23:2+off≠3+off:=by omega
 have hq2: ∀q, ¬q∈[2+off,3+off]→q≠2+off∧q≠3+off:=fun q h=>⟨fun e=>h (by rw [e];simp),fun e=>h (by rw [e];simp)⟩
 refine I3 (r8 (b:=3+off) rfl (ah _ _ _) rfl (sa (cs:=s8 r) rfl (tC r) (qW (rR (us':=[.t (uK r),.ptr (2+off) 0,.ptr (3+off) 0]) rfl (by rw [sV];rfl) ?_))))
 refine zN G (2+off) (3+off) (by omega) (by omega) (sJ r).length r (Nat.le_refl _) (by omega) 0 0 (off+4) _ _ _ (fun j x hx=>by rw [Nat.zero_add,List.getElem?_map,hx];rfl) (hA.of rfl rfl (fun q h1=>hbo (by have:=G.fh q h1;omega) (by have:=G.fh q h1;omega)) (fun q hq=>(hbo (hnm (by omega) q hq) (hnm (by omega) q hq)).trans (h0 q hq)) ⟨off+4,fun q hq=>(hbo (by omega) (by omega)).trans (hfo q (by omega))⟩)
  (fun q hq=>(hbo (by omega) (by omega)).trans (hfo q (by omega))) (by omega) (by omega) (by omega) ((ae _ _ _ _ h23).trans ((ae _ _ _ _ h23).trans (ah _ _ _))) (ah _ _ _) ?t (fun c cx' o' hs=> ?f)
 case t=>
  refine qW ⟨none,st.cx,rfl,G.cxo_,[2+off,3+off],_,?_,fin (o:=outs (sJ r).length) rfl (fun q hq=>?_) (fun q hq=>hnm (by
   rcases List.mem_cons.1 hq with rfl|hq
   ·omega
   ·rw [List.mem_singleton.1 hq];omega)) (G.sf (G.lvA h0) _)⟩
  ·exact hend
  ·show aK _ (outs (0+(sJ r).length)) q=_
   rw [Nat.zero_add]
   exact oZ (hbo (hq2 q hq).1 (hq2 q hq).2) _
 case f=>
  rcases hstop c cx' o' hs with ⟨rfl,hq⟩|⟨id,rfl,hq⟩
  all_goals
   refine qW ⟨some _,cx',rfl,G.cxd _ _ _ hs,[2+off,3+off],_,hq,fin (o:=o') rfl (fun q hq=>?_) (fun q hq=>hnms hs (by
    rcases List.mem_cons.1 hq with rfl|hq
    ·omega
    ·rw [List.mem_singleton.1 hq];omega)) (G.sfs (G.lvA h0) _ _ _ hs)⟩
   exact oZ (hbo (hq2 q hq).1 (hq2 q hq).2) _
end
end Go.TY
end
noncomputable section
namespace Go.TY
open Go Go.DL Go.Proofs
def Lk:aY:=(.seq (.region [oo 1 (.box 5 (tm 0)),oo 2 (.mov (.const .nilfn))] []) (.seq (.region [oo 3 (.mkfn 145 [tm 1]),mv 2 3] []) .ret))
theorem MP:(Tryz.f109.body.bind (bD Tryz.prog 4 []))=some Lk:=by kernel_rfl
def c73:aY:=(.seq (.region [oo 1 (.box 9 (tm 0)),oo 2 (.mov (.const .nilfn))] []) (.seq (.region [oo 3 (.mkfn 116 [tm 1]),mv 2 3] []) .ret))
theorem l73:(Tryz.f73.body.bind (bD Tryz.prog 4 []))=some c73:=by kernel_rfl
def c86:aY:=(.seq (.region [oo 1 (.box 9 (tm 0)),oo 2 (.mov (.const .nilfn))] []) (.seq (.region [oo 3 (.mkfn 130 [tm 1]),mv 2 3] []) .ret))
theorem l86:(Tryz.f86.body.bind (bD Tryz.prog 4 []))=some c86:=by kernel_rfl
end Go.TY
end
section
namespace Go.TY
open Go Go.DL Go.MM Go.Proofs
section
variable [Glb]
theorem Cr (r:RP):DCalls Tryz.prog 109 [sU r] (.clos 145 [.cptr (sC r) 0]):=by
 rw [sI]
 refine qO (rs:=[.tmp 2]) mx Tryz.func109 MP rfl rfl rfl (r:=[.clos 145 [.cptr (sC r) 0]]) (nlZ rfl) ?_
 repeat' ((conv=>whnf);first|exact trivial|(refine And.intro (by first|exact sK r|fail) ?_)|refine aS ?_|fail)
theorem yP (r:RO):DCalls Tryz.prog 73 [uK r] (.clos 116 [.cptr (s8 r) 0]):=by
 rw [sV]
 refine qO (rs:=[.tmp 2]) mx Tryz.func73 l73 rfl rfl rfl (r:=[.clos 116 [.cptr (s8 r) 0]]) (nlZ rfl) ?_
 repeat' ((conv=>whnf);first|exact trivial|(refine And.intro (by first|exact tC r|fail) ?_)|refine aS ?_|fail)
theorem Cp (r:RO):DCalls Tryz.prog 86 [uK r] (.clos 130 [.cptr (s8 r) 0]):=by
 rw [sV]
 refine qO (rs:=[.tmp 2]) mx Tryz.func86 l86 rfl rfl rfl (r:=[.clos 130 [.cptr (s8 r) 0]]) (nlZ rfl) ?_
 repeat' ((conv=>whnf);first|exact trivial|(refine And.intro (by first|exact tC r|fail) ?_)|refine aS ?_|fail)
def uG (o:RO):List RP:=if o.kind=1 then tu o.pred else []
def tq (r:RO):List RP:=(sJ r).flatMap uG
def cnt (r:RO) (k:Nat):Nat:=(((sJ r).take k).flatMap uG).length
end
section
theorem Fe {r:RO} {k:Nat} {o:RO} (h:(sJ r)[k]? =some o):cnt r (k+1)=cnt r k+(uG o).length:=by
 obtain ⟨hl,rfl⟩:=gsZ h
 unfold cnt
 rw [List.take_succ_eq_append_getElem hl,List.flatMap_append,List.length_append]
 simp
theorem GD (r:RO):cnt r (sJ r).length=(tq r).length:=by
 unfold cnt tq;rw [List.take_length]
theorem Ex {r:RO} {k i:Nat} {o:RO} {t:RP} (h:(sJ r)[k]? =some o) (ht:(uG o)[i]? =some t):(tq r)[cnt r k+i]? =some t:=by
 obtain ⟨hl,rfl⟩:=gsZ h
 obtain ⟨hi,_⟩:=gsZ ht
 unfold tq cnt
 have e:(sJ r).flatMap uG=((sJ r).take k).flatMap uG++(uG (sJ r)[k]++((sJ r).drop (k+1)).flatMap uG):=by
  conv=>lhs;rw [← List.take_append_drop k (sJ r),List.flatMap_append,List.drop_eq_getElem_cons hl,List.flatMap_cons]
 rw [e,List.getElem?_append_right (by omega),Nat.add_sub_cancel_left,List.getElem?_append_left hi]
 exact ht
end
section
variable [Glb]
end
end Go.TY
end
section
namespace Go.TY
open Go Go.DL Go.MM Go.Proofs
attribute [local irreducible] aI gR WCM YC
section
variable [Glb]
end
section
theorem vJ {b:Nat→Option BX} {n:Nat} {v:BX} {o:List (Nat×BX)} (hb:b n=some v) (ho: ∀p∈o,p.1≠n):aK b ((n,v)::o)=aK b o:=by
 show upd (aK b o) n (some v)=aK b o
 exact qB ((e7 ho).trans hb)
theorem gh2 {sl sl1 sl2:Nat→V} {gh gh1 gh2:Nat→Nat→V} {a b:Nat} (h1: ∀i,gh1 (a+1+i)=dO sl gh i) (h2: ∀i,gh2 (b+1+i)=dO sl1 gh1 i) (i:Nat):dO sl2 gh2 (b+a+4+i)=dO sl gh i:=by
 rw [show b+a+4+i=(b+1+((a+1+i)+1))+1 by omega]
 exact (h2 _).trans (h1 i)
end
section
variable [Glb]
theorem yZ {N:Nat} {st:St} {g:Operand} {y:O} {p:Nat} {asg body:Code} (hg:aq g=some y) (r:RO) (hv:ev st.sl y= .t (.clos 130 [.cptr (s8 r) 0])) (off:Nat) (F:Nat→Prop) (hi:Nat) (hio:hi≤off) (hB:(sJ r).length<2^59) (hBp: ∀o∈sJ r,(tu o.pred).length<2^59) (hfl: ∀n,F n→st.bx n=none) (hfo: ∀n,off≤n→st.bx n=none) (hcn:CxN st.cx)
  {outs:Nat→List (Nat×BX)} {stop:Code→(aa→World→Prop)→List (Nat×BX)→Prop} {Q:aB→St→Prop} (h0: ∀q∈outs 0,st.bx q.1=some q.2)
  (hG: ∀(l D:Nat) (fn:FuncId) (tmps:Array Value),tmps.size=N→dR Tryz.prog l (rcE fn tmps p asg body D) st.cx st F hi ((tq r).map sU) outs stop)
  (hend:Q .normal {st with bx:=aK st.bx (outs (tq r).length)})
  (hstop: ∀c cx' o',stop c cx' o'→(c= .ret∧Q .ret {st with bx:=aK st.bx o',cx:=cx' })∨ ∃id,c= .exit id∧Q (.exit id) {st with bx:=aK st.bx o',cx:=cx' }):
  aI Tryz.prog N (.rangeFunc g #[p] asg body) st Q:=by
 refine aI.clean (fun _=>?_)
 refine aI.range (N:=N) hg (gf:=130) (caps:=[.t (.cptr (s8 r) 0)]) (by rw [hv];rfl) Tryz.func130 JA rfl rfl (nlZ rfl) off hcn (fun l D fn tmps hN=>?_)
 have G:=hG l D fn tmps hN
 rw [MA]
 have hf2:st.bx (2+off)=none:=hfo _ (by omega)
 have hnm: ∀{k:Nat} {q:Nat},hi≤q→ ∀p∈outs k,p.1≠q:=fun h p hp e=>by have:=(G.nm _ p hp).1;omega
 have hnms: ∀{c cx o} {q:Nat},stop c cx o→hi≤q→ ∀p∈o,p.1≠q:=fun hs h p hp e=>by have:=(G.nms _ _ _ hs p hp).1;omega
 refine aI.seq (HF (pX (rH (v:=.func (.yield l) #[] #[]) rfl hf2 (qW ?_))))
 refine aI.seq (HK (pX (sa (cs:=s8 r) rfl (tC r) (rI (ts:=[uK r]) (by rw [sV];rfl) (yP r) (qW ?_)))))
 let b1:Nat→Option BX:=upd st.bx (2+off) (some (.v [lV l]))
 have hb1o: ∀{q:Nat},q≠2+off→b1 q=st.bx q:=fun h=>ae _ _ _ _ h
 let yb:Nat×BX:=(2+off,.v [lV l])
 let rc:=rcE fn tmps p asg body D
 let outs1:Nat→List (Nat×BX):=fun k=>yb::outs (cnt r k)
 let stop1:Code→(aa→World→Prop)→List (Nat×BX)→Prop:=fun c cx' o'=>c= .ret∧ ∃c0 cx0 o0,stop c0 cx0 o0∧cx'=dC l (rc (some c0)) cx0 0∧o'=yb::o0
 have safeY: ∀q:Nat→Prop,bz q yb.2:=fun q c hc=>by
  rw [List.mem_singleton.1 hc];exact .raw _
 have nmY: ∀{k:Nat}, ∀p∈outs k,p.1≠2+off:=hnm (by omega)
 have nmsY: ∀{c cx o},stop c cx o→ ∀p∈o,p.1≠2+off:=fun hs=>hnms hs (by omega)
 have nFY: ¬F (2+off):=fun h=>by have:=G.fh _ h;omega
 let F1:Nat→Prop:=fun n=>F n∨(off+3≤n∧n<off+30)
 have sub1: ∀{hi' lo':Nat} {c:aa→World→Prop} {f:Nat→Nat} {stp:Code→(aa→World→Prop)→List (Nat×BX)→Prop},off+30≤hi'→off+3≤lo'→CxD c→(∀ c cx o',stp c cx o'→CxD cx∧ ∃c0 cx0 o0,stop c0 cx0 o0∧o'=yb::o0)→ph (fun n=>F n∨(lo'≤n∧n<off+30)) hi' c (fun k=>yb::outs (f k)) stp:=fun {hi' lo' c f stp} hh hl hc hst=>
  {fh:=fun n h=>by
    rcases h with h|h
    ·have:=G.fh _ h;omega
    ·omega
   nm:=fun k p hp=>by
    rcases List.mem_cons.1 hp with rfl|hp
    ·exact ⟨by show 2+off<_;omega,fun h=>by
      rcases h with h|h
      ·exact nFY h
      ·have:2+off≥_:=h.1;omega⟩
    ·have h1:=G.nm _ p hp
     exact ⟨by omega,fun h=>by
      rcases h with h|h
      ·exact h1.2 h
      ·omega⟩
   nms:=fun c cx o ho p hp=>by
    obtain ⟨_,c0,cx0,o0,hs0,rfl⟩:=hst _ _ _ ho
    rcases List.mem_cons.1 hp with rfl|hp
    ·exact ⟨by show 2+off<_;omega,fun h=>by
      rcases h with h|h
      ·exact nFY h
      ·have:2+off≥_:=h.1;omega⟩
    ·have h1:=G.nms _ _ _ hs0 p hp
     exact ⟨by omega,fun h=>by
      rcases h with h|h
      ·exact h1.2 h
      ·omega⟩
   cov:=fun k k' p hp=>by
    rcases List.mem_cons.1 hp with rfl|hp
    ·exact ⟨yb,by simp,rfl⟩
    ·obtain ⟨q,hq,e⟩:=G.cov (f k) (f k') p hp
     exact ⟨q,by simp [hq],e⟩
   covs:=fun c cx o ho k p hp=>by
    obtain ⟨_,c0,cx0,o0,hs0,rfl⟩:=hst _ _ _ ho
    rcases List.mem_cons.1 hp with rfl|hp
    ·exact ⟨yb,by simp,rfl⟩
    ·obtain ⟨q,hq,e⟩:=G.covs _ _ _ hs0 (f k) p hp
     exact ⟨q,by simp [hq],e⟩
   safe:=fun k p hp=>by
    rcases List.mem_cons.1 hp with rfl|hp
    ·exact safeY _
    ·exact (G.safe _ p hp).imp fun n ⟨q,hq,e⟩=>by
      obtain ⟨q',hq',e'⟩:=G.cov 0 (f 0) q hq
      exact ⟨q',List.mem_cons_of_mem _ hq',e'.trans e⟩
   safes:=fun c cx o ho p hp=>by
    obtain ⟨_,c0,cx0,o0,hs0,rfl⟩:=hst _ _ _ ho
    rcases List.mem_cons.1 hp with rfl|hp
    ·exact safeY _
    ·exact (G.safes _ _ _ hs0 p hp).imp fun n ⟨q,hq,e⟩=>by
      obtain ⟨q',hq',e'⟩:=G.cov 0 (f 0) q hq
      exact ⟨q',List.mem_cons_of_mem _ hq',e'.trans e⟩
   cxd:=fun c cx o ho=>(hst _ _ _ ho).1
   cxo_:=hc
   nd:=fun k=>List.nodup_cons.2 ⟨fun h=>by
    obtain ⟨p,hp,e⟩:=List.mem_map.1 h
    exact nmY p hp e,G.nd _⟩}
 have cl: ∀{s2:St} {o:List (Nat×BX)} {cx:aa→World→Prop},s2.gh=dO st.sl st.gh→(∀ q,q≠2+off→s2.bx q=aK st.bx o q)→(∀ p∈o,p.1≠2+off)→(∀ p∈o,bz (fun n=>(st.bx n).isSome=true) p.2)→
   DL.Clean st [2+off] (s2.bE st.off cx) {st with bx:=aK st.bx o,cx:=cx }:=fun h1 h2 h3 h4=>
  mL (d:=none) (v:=.nil) (by rw [h1];rfl) (fun j=>by rw [h1];rfl) (fun q hq=>h2 q (fun e=>hq (by rw [e];simp))) (fun q hq=>by rw [List.mem_singleton.1 hq];exact ⟨hf2,h3⟩) h4
 refine aI.block (wo (N:=19) rfl r rfl (off+30) F1 (off+30) (Nat.le_refl _) hB (fun n h=>?_) (fun n h=>(hb1o (by omega)).trans (hfo n (by omega))) (rC hcn) (outs:=outs1) (stop:=stop1) (fun q hq=>?_) (fun l1 D1 fn1 tmps1 hN1=>?_) ?_ (fun c cx' o' h=>?_))
 ·rcases h with h|h
  ·exact (hb1o (fun e=>nFY (by rw [← e];exact h))).trans (hfl n h)
  ·exact (hb1o (by omega)).trans (hfo n (by omega))
 ·rcases List.mem_cons.1 hq with rfl|hq
  ·exact ah _ _ _
  ·exact (hb1o (nmY q hq)).trans (h0 q hq)
 rotate_left
 ·refine ⟨none,st.cx,rfl,G.cxo_,[2+off],_,hend,cl rfl (fun q hq=>?_) nmY (G.sf (G.lvA h0) _)⟩
  show aK b1 (yb::outs (cnt r (sJ r).length)) q=_
  rw [vJ (b:=b1) (ah _ _ _) nmY,GD]
  exact oZ (hb1o hq) _
 ·obtain ⟨rfl,c0,cx0,o0,hs0,rfl,rfl⟩:=h
  refine Or.inl ⟨rfl,?_⟩
  have hbx: ∀q,q≠2+off→aK b1 (yb::o0) q=aK st.bx o0 q:=fun q hq=>by
   rw [vJ (b:=b1) (ah _ _ _) (nmsY hs0)]
   exact oZ (hb1o hq) _
  rcases hstop _ _ _ hs0 with ⟨rfl,hq⟩|⟨id,rfl,hq⟩
  ·exact ⟨some _,cx0,rfl,G.cxd _ _ _ hs0,[2+off],_,hq,cl rfl hbx (nmsY hs0) (G.sfs (G.lvA h0) _ _ _ hs0)⟩
  ·exact ⟨some _,cx0,rfl,G.cxd _ _ _ hs0,[2+off],_,hq,cl rfl hbx (nmsY hs0) (G.sfs (G.lvA h0) _ _ _ hs0)⟩
 refine dR.of (lo:=off+3) (hi:=off+30) (sub1 (Nat.le_refl _) (Nat.le_refl _) (qj G.cxo_) ?_) (fun n h1 h2=>Or.inr ⟨h1,h2⟩) hN1 (by decide) (fun {W1} R1 k x m1 st' hx hA1=>?_)
 ·rintro c cx o' ⟨rfl,c0,cx0,o0,hs0,rfl,rfl⟩
  exact ⟨qj (G.cxd _ _ _ hs0),c0,cx0,o0,hs0,rfl⟩
 obtain ⟨pk,hk,rfl⟩: ∃pk,(sJ r)[k]? =some pk∧uK pk=x:=by
  rw [List.getElem?_map,Option.map_eq_some_iff] at hx;exact hx
 have hcs:=Fe hk
 have hget:=fun i t=>Ex (r:=r) (k:=k) (i:=i) (o:=pk) (t:=t) hk
 have hBk:=hBp pk (List.mem_of_getElem? hk)
 have hpd:uG pk=if pk.kind=1 then tu pk.pred else []:=rfl
 generalize uG pk=pd at hcs hget hpd
 have hfr1: ∀n,off+3≤n→n<off+30→st'.bx n=none:=fun n h1 h2=>hA1.fr n (Or.inr ⟨h1,h2⟩)
 have hfr1F: ∀n,F n→st'.bx n=none:=fun n h=>hA1.fr n (Or.inl h)
 obtain ⟨B,htop1⟩:=hA1.top
 have hat1:=hA1.at_
 have hsl2:st'.gh (m1+R1.j) 2= .ptr (2+off) 0:=congrFun hA1.g0 2
 have hgs1:=hA1.gs
 have hcx1:=hA1.cx
 clear hA1
 rw [sV]
 obtain ⟨kd,pr,f,n,args⟩:=pk
 refine HN (pX (pW (hfr1 (3+(off+3)) (by omega) (by omega)) (rp (b:=3+(off+3)) (off:=0) rfl (ah _ _ _) rfl ⟨rfl,Nat.le_refl _⟩ (qW ⟨rfl,_,rfl,?_⟩))))
 have hb0: ∀{u v:Option BX} {q:Nat},q≠3+(off+3)→upd (upd st'.bx (3+(off+3)) u) (3+(off+3)) v q=st'.bx q:=fun h=>(ae _ _ _ _ h).trans (ae _ _ _ _ h)
 refine aI.block (aI.seq (HQ (rr (rL (b:=3+(off+3)) (off:=0) rfl (sb (b:=3+(off+3)) (off:=0+0) (t:=I kd) rfl (ah _ _ _) (by decide) rfl (si (a:=kd) (b:=1) rfl rfl (qW ?_)))))))
 by_cases hkd:kd=1
 case neg=>
  refine rN (by show V.t (.bool (kd !=1))=_;rw [bne_iff_ne.2 hkd]) (rO ⟨rfl,_,yb::outs (cnt r (k+1)),rfl,fun q hq=>?_,rfl,rfl⟩)
  have e:cnt r (k+1)=cnt r k:=by rw [hcs,hpd,if_neg (show ¬(RO.mk kd pr f n args).kind=1 from hkd)];rfl
  exact (hb0 (show q≠3+(off+3) from fun h=>hq (by omega))).trans (congrFun ((kx hat1).symm.trans (congrArg (fun j=>aK st'.bx (yb::outs j)) e.symm)) q)
 have hpd:pd=tu pr:=hpd.trans (if_pos hkd)
 subst hpd
 refine rM (by show V.t (.bool (kd !=1))=_;rw [hkd];rfl) (rQ ?_)
 have hprc:T.agg (sC pr)=sU pr:=(sI pr).symm
 refine aI.seq (HT (pX (rL (b:=3+(off+3)) (off:=0) rfl (sc (b:=3+(off+3)) (off:=0) (m:=9) (t:=sU pr) rfl (ah _ _ _) (by decide) (by rw [← hprc];cases pr;rfl) (rI (ts:=[sU pr]) rfl (Cr pr) (qW ?_))))))
 let off2:=max B (off+30)
 have ho2:B≤off2∧off+30≤off2:=⟨Nat.le_max_left _ _,Nat.le_max_right _ _⟩
 refine aI.block (y0 (N:=19) rfl pr rfl off2 (fun n=>F n∨(off+8≤n∧n<off+30)) off2 (Nat.le_refl _) hBk (fun n h=>?_) (fun n h=>(hb0 (by omega)).trans (htop1 n (by omega))) ?_ (outs:=fun i=>yb::outs (cnt r k+i)) (stop:=fun c cx' o'=>c= .ret∧ ∃c0 cx0 o0,stop c0 cx0 o0∧cx'=cq (W1 (dq l1 (bsy fn1 tmps1 7 yy (.block 1 (.seq yz (.seq yA (.block 2 (.rangeFunc (.tmp 13) #[14] xM (.block 3 (.seq xc xN))))))) D1) (dC l (rc (some c0)) cx0 0) m1))∧o'=yb::o0) (fun q hq=>?_) (fun l2 D2 fn2 tmps2 hN2=>?_) ?_ (fun c cx' o' h=>?_))
 ·rcases h with h|h
  ·exact (hb0 (by have:=G.fh _ h;omega)).trans (hfr1F n h)
  ·exact (hb0 (by omega)).trans (hfr1 n (by omega) (by omega))
 ·exact Wr.cxN (Wr.pop (R1.comp (Wr.r0 l1 _ m1))) (rC hcn)
 ·refine (hb0 ?_).trans (hat1 q hq)
  rcases List.mem_cons.1 hq with rfl|hq
  ·show 2+off≠_;omega
  ·exact hnm (by omega) q hq
 rotate_left
 ·refine ⟨rfl,_,yb::outs (cnt r (k+1)),rfl,fun q hq=>?_,rfl,rfl⟩
  exact (oZ (hb0 (show q≠3+(off+3) from fun h=>hq (by omega))) (yb::outs (cnt r k+(tu pr).length))).trans (congrArg (fun j=>aK st'.bx (yb::outs j) q) hcs.symm)
 ·obtain ⟨rfl,c0,cx0,o0,hs0,rfl,rfl⟩:=h
  exact Or.inl ⟨rfl,rfl,_,yb::o0,rfl,fun q hq=>oZ (hb0 (show q≠3+(off+3) from fun h=>hq (by omega))) (yb::o0),rfl,c0,cx0,o0,hs0,rfl,rfl⟩
 refine dR.of (lo:=off+8) (hi:=off+30) (sub1 (lo':=off+8) (f:=fun i=>cnt r k+i) (by omega) (by omega) (Wr.cxD (Wr.pop (R1.comp (Wr.r0 l1 _ m1))) (qj G.cxo_)) ?_) (fun n h1 h2=>Or.inr ⟨h1,h2⟩) hN2 (by decide) (fun {W2} R2 i x m2 st'' hx2 hA2=>?_)
 ·rintro c cx o' ⟨rfl,c0,cx0,o0,hs0,rfl,rfl⟩
  exact ⟨Wr.cxD (Wr.pop (R1.comp (Wr.r0 l1 _ m1))) (qj (G.cxd _ _ _ hs0)),c0,cx0,o0,hs0,rfl⟩
 have hex: ∃t,(tu pr)[i]? =some t∧T.agg (sC t)=x:=by
  rw [List.getElem?_map,Option.map_eq_some_iff] at hx2
  obtain ⟨t,h1,h2⟩:=hx2
  exact ⟨t,h1,(sI t).symm.trans h2⟩
 obtain ⟨t,ht,hxe⟩:=hex
 subst hxe
 have hxt:((tq r).map sU)[cnt r k+i]? =some (sU t):=by rw [List.getElem?_map,hget i t ht];rfl
 have hfr2: ∀n,off+8≤n→n<off+30→st''.bx n=none:=fun n h1 h2=>hA2.fr n (Or.inr ⟨h1,h2⟩)
 have hfr2F: ∀n,F n→st''.bx n=none:=fun n h=>hA2.fr n (Or.inl h)
 have htop2':=hA2.top
 obtain ⟨B2,htop2⟩:=htop2'
 have hat2:=hA2.at_
 have hsl22:st''.gh (m2+R2.j) 2= .ptr (2+off) 0:=(congrFun hA2.g0 2).trans hsl2
 have hgs2:=hA2.gs
 have hcx2:=hA2.cx
 clear hA2
 have hb2: ∀{u v:Option BX} {q:Nat},q≠4+(off+8)→upd (upd st''.bx (4+(off+8)) u) (4+(off+8)) v q=st''.bx q:=fun h=>(ae _ _ _ _ h).trans (ae _ _ _ _ h)
 have hY2:st''.bx (2+off)=some (.v [lV l]):=hat2 yb (by simp)
 refine HV (pX (pW (hfr2 (4+(off+8)) (by omega) (by omega)) (rp (b:=4+(off+8)) (off:=0) rfl (ah _ _ _) rfl ⟨sK t,Nat.le_refl _⟩ (qW ⟨rfl,_,rfl,?_⟩))))
 refine aI.block (aI.seq (I5 (r8 (b:=2+off) hsl22 ((hb2 (by omega)).trans hY2) rfl (r9 (b:=4+(off+8)) rfl (ah _ _ _) (qW (rS (us':=[.t (sU t)]) rfl (by
   show [V.t (.agg (aN [.int .i64 0,.str ⟨#[]⟩,.int .i64 0,.int .i64 0,.nil] 0 5 (sC t)))]=_
   rw [mU (n:=5) rfl,sI]) ?_))))))
 let R:=Wr.pop (R2.comp ((Wr.r0 l2 (bsy fn2 tmps2 14 xM (.block 3 (.seq xc xN)) D2) m2).comp (Wr.pop (R1.comp (Wr.r0 l1 (bsy fn1 tmps1 7 yy (.block 1 (.seq yz (.seq yA (.block 2 (.rangeFunc (.tmp 13) #[14] xM (.block 3 (.seq xc xN))))))) D1) m1)))))
 have hRj:R.j=(m2+R2.j)+(m1+R1.j)+4:=by
  show ((((m1+1)+R1.j)+1+(m2+1))+R2.j)+1=_
  omega
 refine G.yld R (cnt r k+i) (sU t) 0 _ _ _ hxt ⟨rfl,?_,fun j=>?_,fun q hq=>?_,fun q hq=>?_,?_⟩ ?t (fun c cx' o' hs=> ?f)
 ·exact (congrArg (fun k=>dO st''.sl st''.gh k) (show 0+R.j=(m2+R2.j)+(m1+R1.j)+4+0 by omega)).trans (gh2 hgs1 hgs2 0)
 ·exact (congrArg (fun k=>dO st''.sl st''.gh k) (show 0+R.j+1+j=(m2+R2.j)+(m1+R1.j)+4+(j+1) by omega)).trans (gh2 hgs1 hgs2 (j+1))
 ·exact (hb2 (hnm (by omega) q hq)).trans (hat2 q (List.mem_cons_of_mem _ hq))
 ·exact (hb2 (by have:=G.fh _ hq;omega)).trans (hfr2F q hq)
 ·exact ⟨max B2 (off+30),fun q hq=>(hb2 (by omega)).trans (htop2 q (by omega))⟩
 case t=>
  refine sj rfl (qW ?_)
  refine DS (rM rfl (rQ ?_))
  refine ⟨rfl,_,yb::outs (cnt r k+(i+1)),rfl,fun q hq=>?_,rfl,rfl⟩
  exact (oZ (hb2 (show q≠4+(off+8) from fun h=>hq (by omega))) (outs (cnt r k+i+1))).trans (congrFun (vJ hY2 nmY).symm q)
 case f=>
  refine sj rfl (qW ?_)
  refine DS (rN rfl (rP ?_))
  refine ⟨rfl,_,yb::o',rfl,fun q hq=>?_,rfl,c,cx',o',hs,rfl,rfl⟩
  exact (oZ (hb2 (show q≠4+(off+8) from fun h=>hq (by omega))) o').trans (congrFun (vJ hY2 (nmsY hs)).symm q)
end
end Go.TY
end
section
namespace Go.TY
open Go Go.DL Go.MM
def vi (l:List Fd):RP→Int
 |.mk k f n m _=>if sB f e0 then 0 else match findF l f with
   |none=>4
   |some F=>if (if k=5 then m else n)>((2^F.w - 1:Nat):Int)∨(k=4∧m>F.w) then 1 else 0
def xg (l:List Fd) (r:RP):Int:=sX ((ur r).map (vi l))
def AR (l:List Fd) (f:ByteArray) (n:Int):Int:=match findF l f with
 |none=>4
 |some F=>if n>((2^F.w - 1:Nat):Int) then 1 else 0
def vt (l:List Fd):RO→Int
 |.mk k p f n _=>if k=1 then xg l p else if k=2 then AR l f n else 0
def xC (r:RP):Int:=xi (w9 r.nodes r.depth) (sW r)
def AG (l:List Fd) (r:RP):Int:=if xC r≠0 then xC r else xg l r
def tJ (l:List Fd) (r:RO):Int:=if td r≠0 then td r else sX ((tT r).map (vt l))
theorem Fu {f:ByteArray} (h:sB f e0=true):f=e0:=by
 unfold sB at h
 have h:f.data.toList=[]:=by simpa using h
 exact ByteArray.ext (Array.ext' h)
theorem x4 {f:ByteArray} (h:s4 f=true):sB f e0=false:=by
 cases e:sB f e0 with
 |false=>rfl
 |true=>
  rw [Fu e] at h
  have:s4 e0=false:=by decide+kernel
  rw [this] at h;cases h
theorem GH {l:List Fd} {k:Int} {f:ByteArray} {n m:Int} {a:List RP} (h:okP k f n m=true):vi l (.mk k f n m a)=wX l (.mk k f n m a):=by
 simp only [vi,wX]
 unfold okP at h
 by_cases h1:k=1∨k=2
 ·rw [if_pos h1] at h
  unfold vD at h
  simp only [Bool.and_eq_true] at h
  rw [if_pos h.1.1,if_neg (by omega)]
 rw [if_neg h1] at h
 by_cases h3:k=3
 ·subst h3
  simp only [if_true,Bool.and_eq_true] at h
  rw [x4 h.1.1];cases findF l f <;> simp
 rw [if_neg h3] at h
 by_cases h4:k=4
 ·subst h4
  simp only [if_true,Bool.and_eq_true] at h
  rw [x4 h.1.1.1];cases findF l f <;> simp
 rw [if_neg h4] at h
 by_cases h5:k=5
 ·subst h5
  simp only [if_true,Bool.and_eq_true] at h
  rw [x4 h.1.1.1];cases findF l f <;> simp
 rw [if_neg h5] at h
 by_cases h6:k=6∨k=7∨k=8
 ·rw [if_pos h6] at h
  unfold vD at h
  simp only [Bool.and_eq_true] at h
  rw [if_pos h.1.1,if_neg (by omega)]
 rw [if_neg h6] at h
 by_cases h9:k=9
 ·subst h9
  simp only [if_true,Bool.and_eq_true] at h
  rw [if_pos h.1.1.1,if_neg (by omega)]
 ·rw [if_neg h9] at h;cases h
mutual
theorem yg: ∀r:RP,sW r=true→ ∀x∈ur r,sW x=true
 |.mk k f n m a,h,x,hx=>by
  rw [ur] at hx
  rcases List.mem_cons.1 hx with rfl|hx
  ·exact h
  ·simp only [sW,Bool.and_eq_true] at h
   exact xE a h.2 x hx
theorem xE: ∀l:List RP,tE l=true→ ∀x∈tU l,sW x=true
 |[],_,x,hx=>by simp [tU] at hx
 |r::rs,h,x,hx=>by
  simp only [tE,Bool.and_eq_true] at h
  rw [tU] at hx
  rcases List.mem_append.1 hx with hx|hx
  ·exact yg r h.1 x hx
  ·exact xE rs h.2 x hx
end
mutual
theorem ye: ∀r:RO,sY r=true→ ∀x∈tT r,sY x=true
 |.mk k p f n a,h,x,hx=>by
  rw [tT] at hx
  rcases List.mem_cons.1 hx with rfl|hx
  ·exact h
  ·simp only [sY,Bool.and_eq_true] at h
   exact xD a h.2 x hx
theorem xD: ∀l:List RO,tw l=true→ ∀x∈tB l,sY x=true
 |[],_,x,hx=>by simp [tB] at hx
 |r::rs,h,x,hx=>by
  simp only [tw,Bool.and_eq_true] at h
  rw [tB] at hx
  rcases List.mem_append.1 hx with hx|hx
  ·exact ye r h.1 x hx
  ·exact xD rs h.2 x hx
end
theorem Fh {l:List Fd} {r:RP} (h:sW r=true):xg l r=fitAll l r:=by
 unfold xg fitAll
 congr 1
 refine List.map_congr_left fun x hx=>?_
 have:=yg r h x hx
 obtain ⟨k,f,n,m,a⟩:=x
 simp only [sW,Bool.and_eq_true] at this
 exact GH this.1.1
theorem GI {e:Int} {b:Bool} (h:xi e b=0):e=0∧b=true:=by
 unfold xi at h
 by_cases he:e=0
 ·rw [if_pos he] at h
  cases b with
  |true=>exact ⟨he,rfl⟩
  |false=>simp at h
 ·rw [if_neg he] at h;exact absurd h he
theorem Fg {l:List Fd} {r:RO} (h:sY r=true):vt l r=vh l r:=by
 obtain ⟨k,p,f,n,a⟩:=r
 simp only [vt,vh]
 by_cases h1:k=1
 ·subst h1
  simp only [sY,okO,if_true,Bool.and_eq_true] at h
  simp only [if_true]
  exact Fh h.1.1.1
 ·rw [if_neg h1,if_neg h1];rfl
theorem GV (l:List Fd) (r:RO):tJ l r=CJ l r:=by
 unfold tJ CJ
 by_cases h:td r≠0
 ·rw [if_pos h,if_pos h]
 ·rw [if_neg h,if_neg h]
  have hf:=(GI (Decidable.not_not.1 h)).2
  congr 1
  exact List.map_congr_left fun x hx=>Fg (ye r hf x hx)
def H2 (o:RO):List RP:=if o.kind=1 then ur o.pred else []
def CK (r:RO):List RP:=(tT r).flatMap H2
def EK (r:RO):List ByteArray:=(CK r).flatMap fun x=>if sB x.field e0 then [] else [x.field]
def reads (r:RO):List ByteArray:=tW ltS (EK r)
def Cu (r:RO):List ByteArray:=(tT r).flatMap fun o=>if o.kind=2 then [o.field] else []
def writes (r:RO):List ByteArray:=tW ltS (Cu r)
def Ew (r:RO):List Int:=(tT r).flatMap fun o=>if o.kind=2∧sB o.field tg=true then [o.n] else []
def zw (r:RO):List Int:=tW ltI (Ew r)
def xQ (x:RP):List Int:=if x.kind=9 then [x.n,x.m] else []
def BU (r:RO):List Int:=(CK r).flatMap xQ
mutual
def um:RO→Nat
 |.mk k p _ _ a=>if k=3 then min ((wz a).getD 0 0+(wz a).getD 1 0) 65536
  else if k=4 then min ((wz a).getD 0 0 * (wz a).getD 1 0) 65536
  else if k=5 then (if (wz a).getD 0 0=0 then 1 else 65536)
  else if k=1∧p.kind=2 then 0 else 1
def wz:List RO→List Nat
 |[]=>[]
 |r::rs=>um r::wz rs
end
theorem AK (r:RO):um r≤65536:=by
 obtain ⟨k,p,f,n,a⟩:=r
 rw [um]
 split
 ·exact Nat.min_le_right _ _
 ·split
  ·exact Nat.min_le_right _ _
  ·split
   ·split <;> omega
   ·split <;> omega
end Go.TY
end
section
namespace Go.TY
open Go Go.DL Go.MM Go.Proofs
mutual
theorem uH: ∀r:RP,tu r=ur r
 |.mk k f n m a=>by rw [tu,ur,yW a]
theorem yW: ∀l:List RP,ta l=tU l
 |[]=>rfl
 |r::rs=>by rw [ta,tU,uH r,yW rs]
end
mutual
theorem ti: ∀r:RO,sJ r=tT r
 |.mk k p f n a=>by rw [sJ,tT,yV a]
theorem yV: ∀l:List RO,sZ l=tB l
 |[]=>rfl
 |r::rs=>by rw [sZ,tB,ti r,yV rs]
end
def okB (v:List Int) (k:Nat):Bool:=(v.take k).all fun x=>x==0
theorem A2 {v:List Int} {k:Nat} {x:Int} (h:v[k]? =some x):okB v (k+1)=(okB v k&&(x==0)):=by
 obtain ⟨hl,rfl⟩:=gsZ h
 unfold okB
 rw [List.take_succ_eq_append_getElem hl,List.all_append]
 simp
theorem Ap {v:List Int} {k:Nat} {x:Int} (h:v[k]? =some x) (hok:okB v k=true) (hx:x≠0):sX v=x:=by
 obtain ⟨hl,rfl⟩:=gsZ h
 refine vr hl (fun j hj hlt=>?_) hx
 unfold okB at hok
 have:=List.all_eq_true.1 hok v[j] (List.mem_take_iff_getElem.2 ⟨j,by omega,rfl⟩)
 simpa using this
theorem Cg {v:List Int} (hok:okB v v.length=true):sX v=0:=by
 refine wA fun j hj=>?_
 unfold okB at hok
 rw [List.take_length] at hok
 simpa using List.all_eq_true.1 hok v[j] (List.getElem_mem hj)
attribute [local irreducible] aI gR WCM YC
def tI (l:List Fd) (v:List Int) (k:Nat):List (Nat×BX):=[(2,.d 1 [fds l]),(4,.d 1 (if okB v k then [I 0] else []))]
def xp (l:List Fd) (v:List Int) (c:Code) (o:List (Nat×BX)):Prop:=c= .ret∧sX v≠0∧o=[(2,.d 1 [fds l]),(4,.d 1 [I (sX v)])]
theorem EO (l:List Fd) (v:List Int):ph (fun n=>10≤n∧n<100) 100 (fun _ _=>True) (tI l v) (fun c cx o=>cx=(fun _ _=>True)∧xp l v c o) where
 fh:=fun n h=>h.2
 nm:=fun k p hp=>by
  simp only [tI,List.mem_cons,List.not_mem_nil,or_false] at hp
  rcases hp with rfl|rfl <;> exact ⟨by dsimp only;omega,by dsimp only;omega⟩
 nms:=fun c cx o ho p hp=>by
  obtain ⟨_,_,_,rfl⟩:=ho
  simp only [List.mem_cons,List.not_mem_nil,or_false] at hp
  rcases hp with rfl|rfl <;> exact ⟨by dsimp only;omega,by dsimp only;omega⟩
 cov:=fun k k' p hp=>by
  simp only [tI,List.mem_cons,List.not_mem_nil,or_false] at hp ⊢
  rcases hp with rfl|rfl
  ·exact ⟨_,Or.inl rfl,rfl⟩
  ·exact ⟨_,Or.inr rfl,rfl⟩
 covs:=fun c cx o ho k p hp=>by
  obtain ⟨_,_,_,rfl⟩:=ho
  simp only [tI,List.mem_cons,List.not_mem_nil,or_false] at hp ⊢
  rcases hp with rfl|rfl
  ·exact ⟨_,Or.inl rfl,rfl⟩
  ·exact ⟨_,Or.inr rfl,rfl⟩
 safe:=fun k p hp=>by
  simp only [tI,List.mem_cons,List.not_mem_nil,or_false] at hp
  rcases hp with rfl|rfl <;> exact trivial
 safes:=fun c cx o ho p hp=>by
  obtain ⟨_,_,_,rfl⟩:=ho
  simp only [List.mem_cons,List.not_mem_nil,or_false] at hp
  rcases hp with rfl|rfl <;> exact trivial
 cxd:=fun c cx o ho=>by rw [ho.1];exact rT
 cxo_:=rT
 nd:=fun k=>by show ([2,4]:List Nat).Nodup;decide
theorem EX (l:List Fd) (hl:LOk l) (r:RP) (hr:r.nodes<2^40):DCalls Tryz.prog 69 [fds l,.agg (sC r)] (I (xg l r)):=by
 refine qP Tryz.func69 Mx rfl (r:=[I (xg l r)]) (nlZ rfl) ?_
 have hlen:(tu r).length=r.nodes:=by rw [uH,uF]
 unfold xg
 rw [← uH]
 rw [show Tryz.f69.ntmps=49 from rfl,show Tryz.f69.results.toList=[.cell 4 33] from rfl,k69]
 have ht:=Cr r
 rw [sI] at ht
 have hfl: ∀k x,((tu r).map (vi l))[k]? =some x→ ∃t,(tu r)[k]? =some t∧vi l t=x:=fun k x h=>by
  rw [List.getElem?_map,Option.map_eq_some_iff] at h;exact h
 generalize hv:(tu r).map (vi l)=v at *
 refine aI.seq (JU ?_)
 repeat' ((conv=>whnf);first|(refine And.intro (by first|exact sK _|fail) ?_)|refine aS ?_|fail)
 refine aI.seq (aI.seq (J0 ?_))
 repeat' ((conv=>whnf);first|refine rE _ (ht) ?_|fail)
 refine aI.bP (s:={sl:=[(2,.ptr 2 0),(4,.ptr 4 0),(10,.t (.clos 145 [.cptr (sC r) 0]))],bx:=[(2,.d 1 [fds l]),(4,.d 1 [I 0])]}) (by repeat' (first|exact trivial|exact LeV.same _|exact LeB.same _|exact rfl|exact fun _ _ _=>trivial|refine And.intro ?_ ?_)) ?_
 refine aI.block (y0 (N:=49) rfl r rfl 100 (fun n=>10≤n∧n<100) 100 (Nat.le_refl _) (by omega) (fun n h=>rz fun p hp=>?_) (fun n h=>rz fun p hp=>?_) (by exact rU) (outs:=tI l v) (stop:=fun c cx o=>cx=(fun _ _=>True)∧xp l v c o) ?_ (fun l0 D fn tmps hN=>?_) ?_ ?_)
 ·simp only [List.mem_cons,List.not_mem_nil,or_false] at hp
  rcases hp with rfl|rfl <;> (dsimp only;omega)
 ·simp only [List.mem_cons,List.not_mem_nil,or_false] at hp
  rcases hp with rfl|rfl <;> (dsimp only;omega)
 ·intro q hq
  simp only [tI,List.mem_cons,List.not_mem_nil,or_false] at hq
  rcases hq with rfl|rfl <;> rfl
 ·refine dR.top (d:=5) (n:=5) (lo:=10) (hi:=100) (EO l v) (fun n h1 h2=>⟨h1,h2⟩) hN (by decide) (fun hw=>J6 hw) rfl (by decide) (by decide) (fun x hx=>?_) (fun k cs b G C hk hcs=>?_)
  ·obtain ⟨t,_,rfl⟩:=List.mem_map.1 hx
   exact ⟨_,sI t,sK t⟩
  rw [List.getElem?_map,Option.map_eq_some_iff] at hk
  obtain ⟨t,htk,hte⟩:=hk
  rw [sI] at hte
  obtain rfl:sC t=cs:=T.agg.inj hte
  have hvk:v[k]? =some (vi l t):=by rw [← hv,List.getElem?_map,htk];rfl
  have hs:=A2 hvk
  have hfst:=Ap hvk
  cases hok:okB v k with
  |false=>exact aI.absurd (n:=4) (m:=1) (ts:=[]) (by show some (BX.d 1 (if okB v k=true then [I 0] else []))=_;rw [hok];rfl) (by decide)
  |true=>
  have ho:tI l v k=[(2,.d 1 [fds l]),(4,.d 1 [I 0])]:=by unfold tI;rw [hok];rfl
  rw [ho]
  rw [hok,Bool.true_and] at hs
  have hfst:=hfst hok
  clear hok ho
  refine Kd ?_
  clear hte
  obtain ⟨kd,f,n,m,args⟩:=t
  have hE:=sH f e0
  have endN: ∀s:St,s.gh=G→s.cx=C→(∀ q, ¬(10≤q∧q<100)→s.bx q=aK b [(2,.d 1 [fds l]),(4,.d 1 [I 0])] q)→vi l (.mk kd f n m args)=0→RB b G C 10 100 (tI l v (k+1)) (xp l v) .normal s:=fun s h1 h2 h3 h4=>by
   refine ⟨h1,h2,_,h3,?_⟩
   unfold tI
   rw [hs,h4];rfl
  have endR: ∀s:St,s.gh=G→s.cx=C→(∀ q, ¬(10≤q∧q<100)→s.bx q=aK b [(2,.d 1 [fds l]),(4,.d 1 [I (vi l (.mk kd f n m args))])] q)→vi l (.mk kd f n m args)≠0→RB b G C 10 100 (tI l v (k+1)) (xp l v) .ret s:=fun s h1 h2 h3 h4=>by
   have e:=hfst h4
   exact ⟨h1,h2,_,h3,rfl,by rw [e];exact h4,by rw [e]⟩
  cases hb:sB f e0 with
  |true=>
   rw [hb] at hE
   have hq:vi l (.mk kd f n m args)=0:=by simp only [vi];rw [if_pos hb]
   repeat' ((conv=>whnf);first|refine nb_ true hE ?_|refine nT_ ?_|refine aS ?_|fail)
   refine endN _ rfl rfl (fun q hq=>?_) hq
   have hm:=qX (b:=b) hq
   show cond (Nat.beq q 15) _ (cond (Nat.beq q 2) _ (cond (Nat.beq q 4) _ (gE 10 100 b q)))=cond (Nat.beq q 2) _ (cond (Nat.beq q 4) _ (b q))
   rw [eS (show q≠15 by omega),hm];rfl
  |false=>
  rw [hb] at hE
  have h74:=t74 l f hl.len
  unfold va at h74
  have hq:vi l (.mk kd f n m args)=(match findF l f with
   |none=>4
   |some F=>if (if kd=5 then m else n)>((2^F.w - 1:Nat):Int)∨(kd=4∧m>F.w) then 1 else 0):=by simp only [vi];rw [hb];rfl
  generalize vi l (.mk kd f n m args)=x at *
  cases hF:findF l f with
  |none=>
   rw [hF] at h74 hq
   dsimp only at h74 hq
   subst hq
   by_cases h5:kd=5
   all_goals
    repeat' ((conv=>whnf);first|refine nb_ false hE ?_|refine rE _ (h74) ?_|refine qx h5 ?_|refine qw h5 ?_|refine nT_ ?_|refine aS ?_|fail)
    (conv=>whnf)
    refine endR _ rfl rfl (fun q hq=>?_) (by decide)
    have hm:=qX (b:=b) hq
    by_cases h4:q=4
    ·subst h4;rfl
    show cond (Nat.beq q 4) _ (cond (Nat.beq q 16) _ (cond (Nat.beq q 16) _ (cond (Nat.beq q 15) _ (cond (Nat.beq q 2) _ (cond (Nat.beq q 4) _ (gE 10 100 b q))))))=cond (Nat.beq q 2) _ (cond (Nat.beq q 4) _ (b q))
    rw [eS (show q≠15 by omega),eS (show q≠16 by omega),eS h4,hm];rfl
  |some F=>
   rw [hF] at h74 hq
   dsimp only at h74 hq
   have h97:=t97 F (hl.find hF)
   generalize (2^F.w - 1:Nat)=M at *
   have fin: ∀(y:Int),x=y→(y=0∨y=1)→True:=fun _ _ _=>trivial
   by_cases hbad:(if kd=5 then m else n)>(M:Int)∨(kd=4∧m>F.w)
   ·rw [if_pos hbad] at hq
    subst hq
    by_cases h5:kd=5
    ·rw [if_pos h5] at hbad
     have hbad:m>(M:Int):=by omega
     repeat' ((conv=>whnf);first|refine nb_ false hE ?_|refine rE _ (h74) ?_|refine qx h5 ?_|refine rE _ (h97) ?_|refine qv hbad ?_|refine nT_ ?_|refine aS ?_|fail)
     (conv=>whnf)
     refine endR _ rfl rfl (fun q hq=>?_) (by decide)
     have hm:=qX (b:=b) hq
     by_cases h4:q=4
     ·subst h4;rfl
     show cond (Nat.beq q 4) _ (cond (Nat.beq q 16) _ (cond (Nat.beq q 16) _ (cond (Nat.beq q 15) _ (cond (Nat.beq q 2) _ (cond (Nat.beq q 4) _ (gE 10 100 b q))))))=cond (Nat.beq q 2) _ (cond (Nat.beq q 4) _ (b q))
     rw [eS (show q≠15 by omega),eS (show q≠16 by omega),eS h4,hm];rfl
    ·rw [if_neg h5] at hbad
     by_cases hn:n>(M:Int)
     ·repeat' ((conv=>whnf);first|refine nb_ false hE ?_|refine rE _ (h74) ?_|refine qw h5 ?_|refine rE _ (h97) ?_|refine qv hn ?_|refine nT_ ?_|refine aS ?_|fail)
      (conv=>whnf)
      refine endR _ rfl rfl (fun q hq=>?_) (by decide)
      have hm:=qX (b:=b) hq
      by_cases h4:q=4
      ·subst h4;rfl
      show cond (Nat.beq q 4) _ (cond (Nat.beq q 16) _ (cond (Nat.beq q 16) _ (cond (Nat.beq q 15) _ (cond (Nat.beq q 2) _ (cond (Nat.beq q 4) _ (gE 10 100 b q))))))=cond (Nat.beq q 2) _ (cond (Nat.beq q 4) _ (b q))
      rw [eS (show q≠15 by omega),eS (show q≠16 by omega),eS h4,hm];rfl
     ·have h4k:kd=4:=by omega
      have hmw:m>(F.w:Int):=by omega
      repeat' ((conv=>whnf);first|refine nb_ false hE ?_|refine rE _ (h74) ?_|refine qw h5 ?_|refine rE _ (h97) ?_|refine qu hn ?_|refine qx h4k ?_|refine qv hmw ?_|refine nT_ ?_|refine aS ?_|fail)
      (conv=>whnf)
      refine endR _ rfl rfl (fun q hq=>?_) (by decide)
      have hm:=qX (b:=b) hq
      by_cases h4:q=4
      ·subst h4;rfl
      show cond (Nat.beq q 4) _ (cond (Nat.beq q 16) _ (cond (Nat.beq q 16) _ (cond (Nat.beq q 15) _ (cond (Nat.beq q 2) _ (cond (Nat.beq q 4) _ (gE 10 100 b q))))))=cond (Nat.beq q 2) _ (cond (Nat.beq q 4) _ (b q))
      rw [eS (show q≠15 by omega),eS (show q≠16 by omega),eS h4,hm];rfl
   ·rw [if_neg hbad] at hq
    have good: ∀s:St,s.gh=G→s.cx=C→(∀ q,s.bx q=cond (Nat.beq q 16) (s.bx 16) (cond (Nat.beq q 15) (s.bx 15) (cond (Nat.beq q 2) (some (.d 1 [fds l])) (cond (Nat.beq q 4) (some (.d 1 [I 0])) (gE 10 100 b q)))))→RB b G C 10 100 (tI l v (k+1)) (xp l v) .normal s:=fun s h1 h2 h3=>endN s h1 h2 (fun q hq=>by
     have hm:=qX (b:=b) hq
     rw [h3 q,eS (show q≠15 by omega),eS (show q≠16 by omega),hm];rfl) hq
    have r16: ∀(q:Nat) (f:Nat→Option BX) (x y:Option BX),upd (upd f 16 x) 16 y q=cond (Nat.beq q 16) y (f q):=fun q f x y=>by rw [gj];rfl
    by_cases h5:kd=5
    ·rw [if_pos h5] at hbad
     have hbad: ¬m>(M:Int):=by omega
     have h4k:kd≠4:=by omega
     repeat' ((conv=>whnf);first|refine nb_ false hE ?_|refine rE _ (h74) ?_|refine qx h5 ?_|refine rE _ (h97) ?_|refine qu hbad ?_|refine qw h4k ?_|refine nT_ ?_|refine aS ?_|fail)
     (conv=>whnf)
     refine good _ rfl rfl fun q=>?_
     exact (r16 q _ _ _).trans rfl
    ·rw [if_neg h5] at hbad
     have hn: ¬n>(M:Int):=by omega
     by_cases h4k:kd=4
     ·have hmw: ¬m>(F.w:Int):=by omega
      repeat' ((conv=>whnf);first|refine nb_ false hE ?_|refine rE _ (h74) ?_|refine qw h5 ?_|refine rE _ (h97) ?_|refine qu hn ?_|refine qx h4k ?_|refine qu hmw ?_|refine nT_ ?_|refine aS ?_|fail)
      (conv=>whnf)
      refine good _ rfl rfl fun q=>?_
      exact (r16 q _ _ _).trans rfl
     ·repeat' ((conv=>whnf);first|refine nb_ false hE ?_|refine rE _ (h74) ?_|refine qw h5 ?_|refine rE _ (h97) ?_|refine qu hn ?_|refine qw h4k ?_|refine nT_ ?_|refine aS ?_|fail)
      (conv=>whnf)
      refine good _ rfl rfl fun q=>?_
      exact (r16 q _ _ _).trans rfl
 ·have hlv:(tu r).length=v.length:=by rw [← hv,List.length_map]
  rw [hlv]
  cases hok:okB v v.length with
  |false=>exact aI.absurd (n:=4) (m:=1) (ts:=[]) (by show some (BX.d 1 (if okB v v.length=true then [I 0] else []))=_;rw [hok];rfl) (by decide)
  |true=>
   rw [Cg hok]
   have ho:tI l v v.length=[(2,.d 1 [fds l]),(4,.d 1 [I 0])]:=by unfold tI;rw [hok];rfl
   rw [ho]
   refine Ki ?_
   repeat' ((conv=>whnf);first|refine aS ?_|fail)
   exact ⟨⟨⟨Nat.lt_succ_self 0,rfl⟩,trivial⟩,fun _ _=>trivial⟩
 ·rintro c cx o ⟨rfl,rfl,hne,rfl⟩
  refine Or.inl ⟨rfl,?_,fun _ _=>trivial⟩
  (conv=>whnf)
  exact ⟨⟨Nat.lt_succ_self 0,rfl⟩,trivial⟩
end Go.TY
end
