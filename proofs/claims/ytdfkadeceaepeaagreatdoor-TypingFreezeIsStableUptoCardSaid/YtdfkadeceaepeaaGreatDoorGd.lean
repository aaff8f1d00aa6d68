/- Joined by program: parts of a data level over the model, of the program's functions over it, and of the statement's proof. -/
import Derived.Test.YtdfkadeceaepeaaGreatDoorProg
import Derived.Test.YtdfkadeceaepeaaGreatDoorGc
import Derived.KernelRfl
import Derived.Sort.Walk0
import Derived.Stop.LaidErr
import Derived.Lib.LaidTab
set_option maxRecDepth 100000
set_option maxHeartbeats 8000000
noncomputable section
namespace Go.DL
abbrev Kc (n:Int):O:=.const (.int .i64 n)
abbrev Zi (n:Int):T:=.int .i64 n
abbrev Ui (n:Int):T:=.int .u8 n
abbrev tm (n:Nat):O:=.tmp n
abbrev mv (d s:Nat):DI:=⟨some d,.mov (.tmp s),none,[]⟩
abbrev mF (d s g:Nat):DI:=⟨some d,.mov (.tmp s),some (g,false),[]⟩
abbrev mT (d s g:Nat):DI:=⟨some d,.mov (.tmp s),some (g,true),[]⟩
abbrev oo (d:Nat) (p:DOp):DI:=⟨some d,p,none,[]⟩
abbrev oF (d g:Nat) (p:DOp):DI:=⟨some d,p,some (g,false),[]⟩
abbrev oT (d g:Nat) (p:DOp):DI:=⟨some d,p,some (g,true),[]⟩
abbrev o0 (p:DOp):DI:=⟨none,p,none,[]⟩
abbrev ld (d a:Nat):DI:=⟨some d,.load 1 false (.tmp a),none,[]⟩
abbrev lA (d n a:Nat):DI:=⟨some d,.load n true (.tmp a),none,[]⟩
abbrev fa (d k a:Nat):DI:=⟨some d,.offA k (.tmp a),none,[]⟩
abbrev ix (d z a b:Nat):DI:=⟨some d,.idxL z (.tmp a) (.tmp b),none,[]⟩
abbrev ln (d a:Nat):DI:=⟨some d,.len (.tmp a),none,[]⟩
abbrev kT:O:=.const (.bool true)
abbrev kF:O:=.const (.bool false)
abbrev S0:T:=.str ⟨#[]⟩
abbrev Z0:T:=.int .i64 0
end Go.DL
namespace Go.MM
open Go Go.DL Go.Proofs
def c18:aV:=(.seq (.region [oo 3 (.box 9 (tm 1)),oo 4 (.mov (Kc 0))] []) (.seq (.region [lA 10 9 3,oo 11 (.call 21 [tm 10]),mv 5 11] []) (.seq (.seq (.region [mv 12 5,oo 13 (.bin .neq (tm 12) (Kc 0))] []) (.cond (tm 13) (.seq (.region [mv 14 5,mv 4 14] []) .ret) .skip)) (.seq (.region [lA 15 9 3,oo 16 (.call 76 [tm 15]),mv 6 16] []) (.seq (.seq (.region [oo 7 (.mov (Kc 0))] []) (.block 0 (.loop (.seq (.seq (.region [mv 17 7,mv 18 6,ln 19 18,oo 20 (.bin .lss (tm 17) (tm 19))] []) (.cond (tm 20) .skip (.exit 0))) (.seq (.block 1 (.seq (.seq (.region [mv 23 6,mv 24 7,ix 25 9 23 24,fa 26 0 25,ld 27 26,oo 28 (.bin .eql (tm 27) (Kc 1))] []) (.cond (tm 28) (.region [mv 29 0,mv 30 6,mv 31 7,ix 32 9 30 31,fa 33 1 32,lA 34 5 33,oo 35 (.call 71 [(tm 29),(tm 34)]),mv 5 35] []) .skip)) (.seq (.seq (.region [mv 36 6,mv 37 7,ix 38 9 36 37,fa 39 0 38,ld 40 39,oo 41 (.bin .eql (tm 40) (Kc 2))] []) (.cond (tm 41) (.seq (.region [mv 43 0,mv 44 6,mv 45 7,ix 46 9 44 45,fa 47 6 46,ld 48 47,oo 49 (.call 77 [(tm 43),(tm 48)]),mv 42 49,oo 50 (.ext (tm 42) 0),oo 51 (.ext (tm 42) 1),⟨some 8,.alloc [S0,Z0,Z0],none,[]⟩,o0 (.store 3 (tm 8) (tm 50)),mv 9 51] []) (.seq (.region [mv 52 9,oo 53 (.not (tm 52))] []) (.cond (tm 53) (.region [oo 5 (.mov (Kc 4))] []) (.seq (.region [mv 54 6,mv 55 7,ix 56 9 54 55,fa 57 7 56,ld 58 57,lA 59 3 8,oo 60 (.call 78 [tm 59]),oo 61 (.bin .gtr (tm 58) (tm 60))] []) (.cond (tm 61) (.region [oo 5 (.mov (Kc 1))] []) .skip))))) .skip)) (.seq (.region [mv 62 5,oo 63 (.bin .neq (tm 62) (Kc 0))] []) (.cond (tm 63) (.seq (.region [mv 64 5,mv 4 64] []) .ret) .skip))))) (.region [mv 21 7,oo 22 (.bin .add (tm 21) (Kc 1)),mv 7 22] [])))))) (.seq (.region [oo 4 (.mov (Kc 0))] []) .ret))))))
theorem l18:(Tryz.f18.body.bind (bz Tryz.prog 65 []))=some c18:=by kernel_rfl
def c11:aV:=(.seq (.region [oo 2 (.mov (Kc 0))] []) (.seq (.seq (.region [mv 9 0,ln 10 9,oo 11 (.bin .gtr (tm 10) (Kc 16))] []) (.cond (tm 11) (.seq (.region [oo 2 (.mov (Kc 2))] []) .ret) .skip)) (.seq (.seq (.region [oo 3 (.mov (Kc 0))] []) (.block 0 (.loop (.seq (.seq (.region [mv 12 3,mv 13 0,ln 14 13,oo 15 (.bin .lss (tm 12) (tm 14))] []) (.cond (tm 15) .skip (.exit 0))) (.seq (.block 1 (.seq (.region [mv 18 0,mv 19 3,ix 20 3 18 19,fa 21 0 20,ld 22 21,oo 23 (.call 64 [tm 22]),mv 4 23] []) (.seq (.seq (.region [mv 24 4,oo 25 (.not (tm 24)),mv 26 25,mF 27 0 26,mF 28 3 26,oF 29 26 (.idxL 3 (tm 27) (tm 28)),oF 30 26 (.offA 0 (tm 29)),oF 31 26 (.load 1 false (tm 30)),⟨some 32,.bin .eql (tm 31) (.const (.str ⟨#[112,111,114,116]⟩)),some (26,false),[]⟩,oo 33 (.pick (tm 26) kT (tm 32))] []) (.cond (tm 33) (.seq (.region [oo 2 (.mov (Kc 4))] []) .ret) .skip)) (.seq (.seq (.region [oo 5 (.mov (Kc 0))] []) (.block 2 (.loop (.seq (.seq (.region [mv 34 5,mv 35 3,oo 36 (.bin .lss (tm 34) (tm 35))] []) (.cond (tm 36) .skip (.exit 2))) (.seq (.block 3 (.seq (.region [mv 39 0,mv 40 5,ix 41 3 39 40,fa 42 0 41,ld 43 42,mv 44 0,mv 45 3,ix 46 3 44 45,fa 47 0 46,ld 48 47,oo 49 (.bin .eql (tm 43) (tm 48))] []) (.cond (tm 49) (.seq (.region [oo 2 (.mov (Kc 4))] []) .ret) .skip))) (.region [mv 37 5,oo 38 (.bin .add (tm 37) (Kc 1)),mv 5 38] [])))))) (.seq (.region [mv 50 0,mv 51 3,ix 52 3 50 51,lA 53 3 52,oo 54 (.call 65 [tm 53]),mv 6 54] []) (.seq (.seq (.region [mv 55 6,oo 56 (.not (tm 55))] []) (.cond (tm 56) (.seq (.region [oo 2 (.mov (Kc 1))] []) .ret) .skip)) (.seq (.region [oo 7 (.mov (Kc 0))] []) (.block 4 (.loop (.seq (.seq (.region [mv 57 7,mv 58 3,oo 59 (.bin .lss (tm 57) (tm 58))] []) (.cond (tm 59) .skip (.exit 4))) (.seq (.block 5 (.seq (.region [mv 62 0,mv 63 7,ix 64 3 62 63,lA 65 3 64,mv 66 0,mv 67 3,ix 68 3 66 67,lA 69 3 68,oo 70 (.call 66 [(tm 65),(tm 69)]),mv 8 70] []) (.seq (.region [mv 71 8] []) (.cond (tm 71) (.seq (.region [oo 2 (.mov (Kc 1))] []) .ret) .skip)))) (.region [mv 60 7,oo 61 (.bin .add (tm 60) (Kc 1)),mv 7 61] [])))))))))))) (.region [mv 16 3,oo 17 (.bin .add (tm 16) (Kc 1)),mv 3 17] [])))))) (.seq (.region [oo 2 (.mov (Kc 0))] []) .ret))))
theorem l11:(Tryz.f11.body.bind (bz Tryz.prog 72 []))=some c11:=by kernel_rfl
def c77:aV:=(.seq (.region [⟨some 4,.alloc [S0,Z0,Z0],none,[]⟩,oo 5 (.mov kF)] []) (.seq (.seq (.region [mv 7 1,⟨some 8,.bin .eql (tm 7) (.const (.str ⟨#[112,111,114,116]⟩)),none,[]⟩] []) (.cond (tm 8) (.seq (.region [oo 9 (.call 121 []),o0 (.store 3 (tm 4) (tm 9)),oo 5 (.mov kT)] []) .ret) .skip)) (.seq (.seq (.region [oo 6 (.mov (Kc 0))] []) (.block 0 (.loop (.seq (.seq (.region [mv 10 6,mv 11 0,ln 12 11,oo 13 (.bin .lss (tm 10) (tm 12))] []) (.cond (tm 13) .skip (.exit 0))) (.seq (.block 1 (.seq (.region [mv 16 0,mv 17 6,ix 18 3 16 17,fa 19 0 18,ld 20 19,mv 21 1,oo 22 (.bin .eql (tm 20) (tm 21))] []) (.cond (tm 22) (.seq (.region [mv 23 0,mv 24 6,ix 25 3 23 24,lA 26 3 25,o0 (.store 3 (tm 4) (tm 26)),oo 5 (.mov kT)] []) .ret) .skip))) (.region [mv 14 6,oo 15 (.bin .add (tm 14) (Kc 1)),mv 6 15] [])))))) (.seq (.region [⟨some 27,.build [S0,Z0,Z0] [],none,[]⟩,o0 (.store 3 (tm 4) (tm 27)),oo 5 (.mov kF)] []) .ret))))
theorem l77:(Tryz.f77.body.bind (bz Tryz.prog 28 []))=some c77:=by kernel_rfl
def c21:aV:=(.seq (.region [oo 1 (.box 9 (tm 0)),oo 2 (.mov (Kc 0))] []) (.seq (.region [lA 3 9 1,oo 4 (.call 34 [tm 3]),lA 5 9 1,oo 6 (.call 85 [tm 5]),oo 7 (.call 84 [(tm 4),(tm 6)]),mv 2 7] []) .ret))
theorem l21:(Tryz.f21.body.bind (bz Tryz.prog 8 []))=some c21:=by kernel_rfl
def c76:aV:=(.seq (.region [oo 1 (.box 9 (tm 0)),oo 2 (.mov (.const .nil))] []) (.seq (.region [lA 5 9 1,⟨some 6,.buildS 28 9 1 [Z0,Z0,S0,Z0,Z0,.nil,S0,Z0,.nil] [(0,(tm 5))],none,[]⟩,mv 3 6] []) (.seq (.seq (.region [oo 4 (.mov (Kc 0))] []) (.block 0 (.loop (.seq (.seq (.region [mv 7 4,fa 8 8 1,ld 9 8,ln 10 9,oo 11 (.bin .lss (tm 7) (tm 10))] []) (.cond (tm 11) .skip (.exit 0))) (.seq (.block 1 (.region [mv 14 3,fa 15 8 1,ld 16 15,mv 17 4,ix 18 9 16 17,lA 19 9 18,oo 20 (.call 76 [tm 19]),oo 21 (.append 26 28 9 120 (tm 14) (tm 20)),mv 3 21] [])) (.region [mv 12 4,oo 13 (.bin .add (tm 12) (Kc 1)),mv 4 13] [])))))) (.seq (.region [mv 22 3,mv 2 22] []) .ret))))
theorem l76:(Tryz.f76.body.bind (bz Tryz.prog 23 []))=some c76:=by kernel_rfl
def c71:aV:=(.seq (.region [oo 3 (.box 5 (tm 1)),oo 4 (.mov (Kc 0))] []) (.seq (.region [lA 8 5 3,oo 9 (.call 111 [tm 8]),mv 5 9] []) (.seq (.seq (.region [oo 6 (.mov (Kc 0))] []) (.block 0 (.loop (.seq (.seq (.region [mv 10 6,mv 11 5,ln 12 11,oo 13 (.bin .lss (tm 10) (tm 12))] []) (.cond (tm 13) .skip (.exit 0))) (.seq (.block 1 (.seq (.region [mv 16 0,mv 17 5,mv 18 6,ix 19 5 17 18,lA 20 5 19,oo 21 (.call 112 [(tm 16),(tm 20)]),mv 7 21] []) (.seq (.region [mv 22 7,oo 23 (.bin .neq (tm 22) (Kc 0))] []) (.cond (tm 23) (.seq (.region [mv 24 7,mv 4 24] []) .ret) .skip)))) (.region [mv 14 6,oo 15 (.bin .add (tm 14) (Kc 1)),mv 6 15] [])))))) (.seq (.region [oo 4 (.mov (Kc 0))] []) .ret))))
theorem l71:(Tryz.f71.body.bind (bz Tryz.prog 25 []))=some c71:=by kernel_rfl
def c78:aV:=(.seq (.region [oo 1 (.box 3 (tm 0)),oo 2 (.mov (Kc 0))] []) (.seq (.region [fa 3 2 1,ld 4 3,oo 5 (.call 122 [tm 4]),oo 6 (.bin .sub (tm 5) (Kc 1)),mv 2 6] []) .ret))
theorem l78:(Tryz.f78.body.bind (bz Tryz.prog 7 []))=some c78:=by kernel_rfl
def c64:aV:=(.seq (.region [oo 2 (.mov kF)] []) (.seq (.seq (.region [oo 3 (.mov (Kc 0))] []) (.block 0 (.loop (.seq (.seq (.region [mv 6 3,mv 7 0,oo 8 (.lenS (tm 7)),oo 9 (.bin .lss (tm 6) (tm 8))] []) (.cond (tm 9) .skip (.exit 0))) (.seq (.block 1 (.seq (.region [mv 12 0,mv 13 3,oo 14 (.idxS (tm 12) (tm 13)),oo 15 (.bin .geq (tm 14) (.const (Ui 97))),mv 16 15,mT 17 0 16,mT 18 3 16,oT 19 16 (.idxS (tm 17) (tm 18)),oT 20 16 (.bin .leq (tm 19) (.const (Ui 122))),oo 21 (.pick (tm 16) (tm 20) kF),mv 4 21] []) (.seq (.region [mv 22 0,mv 23 3,oo 24 (.idxS (tm 22) (tm 23)),oo 25 (.bin .geq (tm 24) (.const (Ui 48))),mv 26 25,mT 27 0 26,mT 28 3 26,oT 29 26 (.idxS (tm 27) (tm 28)),oT 30 26 (.bin .leq (tm 29) (.const (Ui 57))),oo 31 (.pick (tm 26) (tm 30) kF),mv 32 31,mF 33 0 32,mF 34 3 32,oF 35 32 (.idxS (tm 33) (tm 34)),oF 36 32 (.bin .eql (tm 35) (.const (Ui 95))),oo 37 (.pick (tm 32) kT (tm 36)),mv 5 37] []) (.seq (.region [mv 38 4,oo 39 (.not (tm 38)),mv 40 39,mT 41 5 40,oT 42 40 (.not (tm 41)),mT 43 42 40,mF 44 3 43,oF 45 43 (.bin .eql (tm 44) (Kc 0)),oT 46 40 (.pick (tm 43) kT (tm 45)),oo 47 (.pick (tm 40) (tm 46) kF)] []) (.cond (tm 47) (.seq (.region [oo 2 (.mov kF)] []) .ret) .skip))))) (.region [mv 10 3,oo 11 (.bin .add (tm 10) (Kc 1)),mv 3 11] [])))))) (.seq (.region [mv 48 0,oo 49 (.lenS (tm 48)),oo 50 (.bin .geq (tm 49) (Kc 1)),mv 51 50,mT 52 0 51,oT 53 51 (.lenS (tm 52)),oT 54 51 (.bin .leq (tm 53) (Kc 24)),oo 55 (.pick (tm 51) (tm 54) kF),mv 2 55] []) .ret)))
theorem l64:(Tryz.f64.body.bind (bz Tryz.prog 56 []))=some c64:=by kernel_rfl
def c65:aV:=(.seq (.region [oo 1 (.box 3 (tm 0)),oo 2 (.mov kF)] []) (.seq (.region [fa 3 2 1,ld 4 3,oo 5 (.bin .geq (tm 4) (Kc 1)),mv 6 5,oT 7 6 (.offA 2 (tm 1)),oT 8 6 (.load 1 false (tm 7)),oT 9 6 (.bin .leq (tm 8) (Kc 16)),oo 10 (.pick (tm 6) (tm 9) kF),mv 11 10,oT 12 11 (.offA 1 (tm 1)),oT 13 11 (.load 1 false (tm 12)),oT 14 11 (.bin .geq (tm 13) (Kc 16)),oo 15 (.pick (tm 11) (tm 14) kF),mv 16 15,oT 17 16 (.offA 1 (tm 1)),oT 18 16 (.load 1 false (tm 17)),oT 19 16 (.bin .leq (tm 18) (Kc 143)),oo 20 (.pick (tm 16) (tm 19) kF),mv 21 20,oT 22 21 (.offA 1 (tm 1)),oT 23 21 (.load 1 false (tm 22)),oT 24 21 (.bin .rem (tm 23) (Kc 16)),oT 25 21 (.offA 2 (tm 1)),oT 26 21 (.load 1 false (tm 25)),oT 27 21 (.bin .add (tm 24) (tm 26)),oT 28 21 (.bin .leq (tm 27) (Kc 16)),oo 29 (.pick (tm 21) (tm 28) kF),mv 2 29] []) .ret))
theorem l65:(Tryz.f65.body.bind (bz Tryz.prog 30 []))=some c65:=by kernel_rfl
def c66:aV:=(.seq (.region [oo 2 (.box 3 (tm 0)),oo 3 (.box 3 (tm 1)),oo 4 (.mov kF)] []) (.seq (.region [fa 5 1 2,ld 6 5,fa 7 1 3,ld 8 7,fa 9 2 3,ld 10 9,oo 11 (.bin .add (tm 8) (tm 10)),oo 12 (.bin .lss (tm 6) (tm 11)),mv 13 12,oT 14 13 (.offA 1 (tm 3)),oT 15 13 (.load 1 false (tm 14)),oT 16 13 (.offA 1 (tm 2)),oT 17 13 (.load 1 false (tm 16)),oT 18 13 (.offA 2 (tm 2)),oT 19 13 (.load 1 false (tm 18)),oT 20 13 (.bin .add (tm 17) (tm 19)),oT 21 13 (.bin .lss (tm 15) (tm 20)),oo 22 (.pick (tm 13) (tm 21) kF),mv 4 22] []) .ret))
theorem l66:(Tryz.f66.body.bind (bz Tryz.prog 23 []))=some c66:=by kernel_rfl
def c74:aV:=(.seq (.region [oo 3 (.box 1 (tm 1)),⟨some 4,.alloc [S0,Z0,Z0],none,[]⟩,oo 5 (.mov kF)] []) (.seq (.seq (.region [ld 7 3,oo 8 (.call 118 []),oo 9 (.fld 0 1 false (tm 8)),oo 10 (.bin .eql (tm 7) (tm 9))] []) (.cond (tm 10) (.seq (.region [oo 11 (.call 118 []),o0 (.store 3 (tm 4) (tm 11)),oo 5 (.mov kT)] []) .ret) .skip)) (.seq (.region [mv 12 0,oo 13 (.mkfn 120 [tm 3]),oo 14 (.call 119 [(tm 12),(tm 13)]),mv 6 14] []) (.seq (.seq (.region [mv 15 6,oo 16 (.bin .lss (tm 15) (Kc 0))] []) (.cond (tm 16) (.seq (.region [⟨some 17,.build [S0,Z0,Z0] [],none,[]⟩,o0 (.store 3 (tm 4) (tm 17)),oo 5 (.mov kF)] []) .ret) .skip)) (.seq (.region [mv 18 0,mv 19 6,ix 20 3 18 19,lA 21 3 20,o0 (.store 3 (tm 4) (tm 21)),oo 5 (.mov kT)] []) .ret)))))
theorem l74:(Tryz.f74.body.bind (bz Tryz.prog 22 []))=some c74:=by kernel_rfl
def LJ:aV:=(.seq (.region [⟨some 0,.alloc [S0,Z0,Z0],none,[]⟩] []) (.seq (.region [⟨some 1,.build [S0,Z0,Z0] [(0,1,(.const (.str ⟨#[112,111,114,116]⟩))),(1,1,(Kc 0)),(2,1,(Kc 16))],none,[]⟩,o0 (.store 3 (tm 0) (tm 1))] []) .ret))
theorem Ni:(Tryz.f121.body.bind (bz Tryz.prog 2 []))=some LJ:=by kernel_rfl
def LK:aV:=(.seq (.region [oo 2 (.mov (Kc 0))] []) (.seq (.region [oo 3 (.mov (Kc 1))] []) (.seq (.seq (.region [oo 4 (.mov (Kc 0))] []) (.block 0 (.loop (.seq (.seq (.region [mv 5 4,mv 6 0,oo 7 (.bin .lss (tm 5) (tm 6))] []) (.cond (tm 7) .skip (.exit 0))) (.seq (.block 1 (.region [mv 10 3,oo 11 (.bin .mul (tm 10) (Kc 2)),mv 3 11] [])) (.region [mv 8 4,oo 9 (.bin .add (tm 8) (Kc 1)),mv 4 9] [])))))) (.seq (.region [mv 12 3,mv 2 12] []) .ret))))
theorem Nj:(Tryz.f122.body.bind (bz Tryz.prog 13 []))=some LK:=by kernel_rfl
def c84:aV:=(.seq (.region [oo 2 (.box 2 (tm 0)),oo 4 (.mov (Kc 0))] []) (.seq (.region [lA 6 2 2,oo 7 (.call 128 [tm 6]),mv 5 7] []) (.seq (.seq (.region [mv 8 5,oo 9 (.bin .eql (tm 8) (Kc 0)),mv 10 9,mT 11 1 10,oT 12 10 (.not (tm 11)),oo 13 (.pick (tm 10) (tm 12) kF)] []) (.cond (tm 13) (.seq (.region [oo 4 (.mov (Kc 1))] []) .ret) .skip)) (.seq (.region [mv 14 5,mv 4 14] []) .ret))))
theorem l84:(Tryz.f84.body.bind (bz Tryz.prog 15 []))=some c84:=by kernel_rfl
def c34:aV:=(.seq (.region [oo 1 (.box 9 (tm 0)),oo 2 (.alloc [Z0,Z0])] []) (.seq (.region [oo 5 (.build [Z0,Z0] [(0,1,(Kc 1)),(1,1,(Kc 1))]),oo 3 (.alloc [Z0,Z0]),o0 (.store 2 (tm 3) (tm 5))] []) (.seq (.seq (.region [fa 6 0 1,ld 7 6,oo 8 (.bin .eql (tm 7) (Kc 1))] []) (.cond (tm 8) (.region [lA 9 2 3,fa 10 1 1,lA 11 5 10,oo 12 (.call 67 [tm 11]),oo 13 (.call 94 [(tm 9),(tm 12)]),o0 (.store 2 (tm 3) (tm 13))] []) .skip)) (.seq (.seq (.region [oo 4 (.mov (Kc 0))] []) (.block 0 (.loop (.seq (.seq (.region [mv 14 4,fa 15 8 1,ld 16 15,ln 17 16,oo 18 (.bin .lss (tm 14) (tm 17))] []) (.cond (tm 18) .skip (.exit 0))) (.seq (.block 1 (.region [lA 21 2 3,fa 22 8 1,ld 23 22,mv 24 4,ix 25 9 23 24,lA 26 9 25,oo 27 (.call 34 [tm 26]),oo 28 (.call 94 [(tm 21),(tm 27)]),o0 (.store 2 (tm 3) (tm 28))] [])) (.region [mv 19 4,oo 20 (.bin .add (tm 19) (Kc 1)),mv 4 20] [])))))) (.seq (.region [lA 29 2 3,o0 (.store 2 (tm 2) (tm 29))] []) .ret)))))
theorem l34:(Tryz.f34.body.bind (bz Tryz.prog 30 []))=some c34:=by kernel_rfl
def c85:aV:=(.seq (.region [oo 1 (.box 9 (tm 0)),oo 2 (.mov kF)] []) (.seq (.region [fa 10 6 1,ld 11 10,oo 12 (.call 129 [tm 11]),mv 3 12] []) (.seq (.region [fa 13 1 1,lA 14 5 13,⟨some 15,.build [Z0,S0,Z0,Z0,.nil] [],none,[]⟩,oo 16 (.call 51 [(tm 14),(tm 15)]),mv 4 16] []) (.seq (.cut (.region [fa 17 6 1,ld 18 17,⟨some 19,.bin .eql (tm 18) (.const S0),none,[]⟩,mv 20 19,oT 21 20 (.offA 7 (tm 1)),oT 22 20 (.load 1 false (tm 21)),oT 23 20 (.bin .eql (tm 22) (Kc 0)),oo 24 (.pick (tm 20) (tm 23) kF),mv 5 24] [])) (.seq (.region [oo 6 (.mov (Kc 0))] []) (.seq (.region [oo 7 (.mov kF)] []) (.seq (.seq (.region [fa 25 0 1,ld 26 25] []) (.cut (.block 0 (.seq (.region [oo 28 (.bin .eql (tm 26) (Kc 1)),mv 27 28] []) (.cond (tm 27) (.region [fa 29 1 1,lA 30 5 29,oo 31 (.call 110 [tm 30]),mv 32 31,mT 33 5 32,oo 34 (.pick (tm 32) (tm 33) kF),mv 7 34] []) (.seq (.region [oo 36 (.bin .eql (tm 26) (Kc 2)),mv 35 36] []) (.cond (tm 35) (.region [mv 37 3,mv 38 37,mT 39 4 38,oo 40 (.pick (tm 38) (tm 39) kF),mv 41 40,oT 42 41 (.offA 7 (tm 1)),oT 43 41 (.load 1 false (tm 42)),oT 44 41 (.bin .geq (tm 43) (Kc 0)),oo 45 (.pick (tm 41) (tm 44) kF),mv 46 45,oT 47 46 (.offA 7 (tm 1)),oT 48 46 (.load 1 false (tm 47)),oT 49 46 (.bin .leq (tm 48) (Kc 65535)),oo 50 (.pick (tm 46) (tm 49) kF),mv 7 50] []) (.seq (.seq (.region [oo 52 (.bin .eql (tm 26) (Kc 3)),mv 51 52] []) (.cond (tm 51) .skip (.region [oo 53 (.bin .eql (tm 26) (Kc 4)),mv 51 53] []))) (.cond (tm 51) (.seq (.region [mv 54 4,mv 55 54,mT 56 5 55,oo 57 (.pick (tm 55) (tm 56) kF),mv 7 57] []) (.region [oo 6 (.mov (Kc 2))] [])) (.seq (.region [oo 59 (.bin .eql (tm 26) (Kc 5)),mv 58 59] []) (.cond (tm 58) (.seq (.region [mv 60 4,mv 61 60,mT 62 5 61,oo 63 (.pick (tm 61) (tm 62) kF),mv 7 63] []) (.region [oo 6 (.mov (Kc 1))] [])) .skip))))))))))) (.seq (.seq (.region [mv 64 7,oo 65 (.not (tm 64)),mv 66 65,oF 67 66 (.offA 8 (tm 1)),oF 68 66 (.load 1 false (tm 67)),oF 69 66 (.len (tm 68)),mF 70 6 66,oF 71 66 (.bin .neq (tm 69) (tm 70)),oo 72 (.pick (tm 66) kT (tm 71))] []) (.cond (tm 72) (.seq (.region [oo 2 (.mov kF)] []) .ret) .skip)) (.seq (.seq (.region [oo 8 (.mov (Kc 0))] []) (.block 1 (.loop (.seq (.seq (.region [mv 73 8,mv 74 6,oo 75 (.bin .lss (tm 73) (tm 74))] []) (.cond (tm 75) .skip (.exit 1))) (.seq (.block 2 (.seq (.region [fa 78 8 1,ld 79 78,mv 80 8,ix 81 9 79 80,lA 82 9 81,oo 83 (.call 85 [tm 82]),mv 9 83] []) (.seq (.region [mv 84 9,oo 85 (.not (tm 84))] []) (.cond (tm 85) (.seq (.region [oo 2 (.mov kF)] []) .ret) .skip)))) (.region [mv 76 8,oo 77 (.bin .add (tm 76) (Kc 1)),mv 8 77] [])))))) (.seq (.region [oo 2 (.mov kT)] []) .ret))))))))))
theorem l85:(Tryz.f85.body.bind (bz Tryz.prog 86 [6000003,4000000]))=some c85:=by kernel_rfl
def LA:aV:=(.seq (.region [oo 1 (.box 5 (tm 0)),oo 2 (.mov (.const .nil))] []) (.seq (.region [lA 5 5 1,⟨some 6,.buildS 25 5 1 [Z0,S0,Z0,Z0,.nil] [(0,(tm 5))],none,[]⟩,mv 3 6] []) (.seq (.seq (.region [oo 4 (.mov (Kc 0))] []) (.block 0 (.loop (.seq (.seq (.region [mv 7 4,fa 8 4 1,ld 9 8,ln 10 9,oo 11 (.bin .lss (tm 7) (tm 10))] []) (.cond (tm 11) .skip (.exit 0))) (.seq (.block 1 (.region [mv 14 3,fa 15 4 1,ld 16 15,mv 17 4,ix 18 5 16 17,lA 19 5 18,oo 20 (.call 111 [tm 19]),oo 21 (.append 23 25 5 64 (tm 14) (tm 20)),mv 3 21] [])) (.region [mv 12 4,oo 13 (.bin .add (tm 12) (Kc 1)),mv 4 13] [])))))) (.seq (.region [mv 22 3,mv 2 22] []) .ret))))
theorem M9:(Tryz.f111.body.bind (bz Tryz.prog 23 []))=some LA:=by kernel_rfl
def LB:aV:=(.seq (.region [oo 3 (.box 5 (tm 1)),oo 4 (.mov (Kc 0))] []) (.seq (.seq (.region [fa 8 0 3,ld 9 8,oo 10 (.bin .neq (tm 9) (Kc 3)),mv 11 10,oT 12 11 (.offA 0 (tm 3)),oT 13 11 (.load 1 false (tm 12)),oT 14 11 (.bin .neq (tm 13) (Kc 4)),oo 15 (.pick (tm 11) (tm 14) kF),mv 16 15,oT 17 16 (.offA 0 (tm 3)),oT 18 16 (.load 1 false (tm 17)),oT 19 16 (.bin .neq (tm 18) (Kc 5)),oo 20 (.pick (tm 16) (tm 19) kF)] []) (.cond (tm 20) (.seq (.region [oo 4 (.mov (Kc 0))] []) .ret) .skip)) (.seq (.region [mv 22 0,fa 23 1 3,ld 24 23,oo 25 (.call 77 [(tm 22),(tm 24)]),mv 21 25,oo 26 (.ext (tm 21) 0),oo 27 (.ext (tm 21) 1),⟨some 5,.alloc [S0,Z0,Z0],none,[]⟩,o0 (.store 3 (tm 5) (tm 26)),mv 6 27] []) (.seq (.seq (.region [mv 28 6,oo 29 (.not (tm 28))] []) (.cond (tm 29) (.seq (.region [oo 4 (.mov (Kc 4))] []) .ret) .skip)) (.seq (.region [fa 30 2 3,ld 31 30,mv 7 31] []) (.seq (.seq (.region [fa 32 0 3,ld 33 32,oo 34 (.bin .eql (tm 33) (Kc 5))] []) (.cond (tm 34) (.region [fa 35 3 3,ld 36 35,mv 7 36] []) .skip)) (.seq (.seq (.region [mv 37 7,lA 38 3 5,oo 39 (.call 78 [tm 38]),oo 40 (.bin .gtr (tm 37) (tm 39)),mv 41 40,oF 42 41 (.offA 0 (tm 3)),oF 43 41 (.load 1 false (tm 42)),oF 44 41 (.bin .eql (tm 43) (Kc 4)),mF 45 44 41,oT 46 45 (.offA 3 (tm 3)),oT 47 45 (.load 1 false (tm 46)),oT 48 45 (.offA 2 (tm 5)),oT 49 45 (.load 1 false (tm 48)),oT 50 45 (.bin .gtr (tm 47) (tm 49)),oF 51 41 (.pick (tm 45) (tm 50) kF),oo 52 (.pick (tm 41) kT (tm 51))] []) (.cond (tm 52) (.seq (.region [oo 4 (.mov (Kc 1))] []) .ret) .skip)) (.seq (.region [oo 4 (.mov (Kc 0))] []) .ret))))))))
theorem Na:(Tryz.f112.body.bind (bz Tryz.prog 53 []))=some LB:=by kernel_rfl
def LG:aV:=(.seq (.region [⟨some 0,.alloc [S0,Z0,Z0],none,[]⟩] []) (.seq (.region [⟨some 1,.build [S0,Z0,Z0] [(0,1,(.const (.str ⟨#[112,111,114,116]⟩))),(2,1,(Kc 16))],none,[]⟩,o0 (.store 3 (tm 0) (tm 1))] []) .ret))
theorem Nf:(Tryz.f118.body.bind (bz Tryz.prog 2 []))=some LG:=by kernel_rfl
def LH:aV:=(.seq (.region [oo 4 (.mov (Kc 0))] []) (.seq (.seq (.region [mv 6 0,ln 7 6,oo 8 (.mov (Kc 0))] []) (.block 0 (.loop (.seq (.region [oo 9 (.bin .lss (tm 8) (tm 7))] []) (.seq (.cond (tm 9) .skip (.exit 0)) (.seq (.block 1 (.seq (.region [mv 10 8,mv 5 10] []) (.seq (.region [mv 11 1,mv 12 0,mv 13 5,ix 14 3 12 13,lA 15 3 14,oo 16 (.bX (tm 11) [tm 15])] []) (.cond (tm 16) (.seq (.region [mv 17 5,mv 4 17] []) .ret) .skip)))) (.region [oo 18 (.bin .add (tm 8) (Kc 1)),mv 8 18] []))))))) (.seq (.region [oo 4 (.mov (.const (.int .i64 (-1))))] []) .ret)))
theorem Ng:(Tryz.f119.body.bind (bz Tryz.prog 19 []))=some LH:=by kernel_rfl
def LI:aV:=(.seq (.region [oo 2 (.box 3 (tm 0)),oo 3 (.mov kF)] []) (.seq (.region [fa 4 0 2,ld 5 4,ld 6 1,oo 7 (.bin .eql (tm 5) (tm 6)),mv 3 7] []) .ret))
theorem Nh:(Tryz.f120.body.bind (bz Tryz.prog 8 []))=some LI:=by kernel_rfl
def c75:aV:=(.seq (.region [oo 1 (.box 3 (tm 0)),oo 2 (.mov (Kc 0))] []) (.seq (.region [fa 3 2 1,ld 4 3,oo 5 (.bin .shl (Kc 1) (tm 4)),oo 6 (.bin .sub (tm 5) (Kc 1)),mv 2 6] []) .ret))
theorem l75:(Tryz.f75.body.bind (bz Tryz.prog 7 []))=some c75:=by kernel_rfl
def LQ:aV:=(.seq (.region [oo 1 (.box 2 (tm 0)),oo 2 (.mov (Kc 0))] []) (.seq (.seq (.region [fa 3 0 1,ld 4 3,oo 5 (.bin .gtr (tm 4) (Kc 200)),mv 6 5,oF 7 6 (.offA 1 (tm 1)),oF 8 6 (.load 1 false (tm 7)),oF 9 6 (.bin .gtr (tm 8) (Kc 20)),oo 10 (.pick (tm 6) kT (tm 9))] []) (.cond (tm 10) (.seq (.region [oo 2 (.mov (Kc 2))] []) .ret) .skip)) (.seq (.region [oo 2 (.mov (Kc 0))] []) .ret)))
theorem Nr:(Tryz.f128.body.bind (bz Tryz.prog 11 []))=some LQ:=by kernel_rfl
def c94:aV:=(.seq (.region [oo 2 (.box 2 (tm 0)),oo 3 (.box 2 (tm 1)),oo 4 (.alloc [Z0,Z0])] []) (.seq (.region [fa 5 0 2,ld 6 5,fa 7 0 3,ld 8 7,oo 9 (.bin .add (tm 6) (tm 8)),fa 10 1 2,ld 11 10,fa 12 1 3,ld 13 12,oo 14 (.bin .add (tm 13) (Kc 1)),oo 15 (.maxI (tm 11) (tm 14)),oo 16 (.build [Z0,Z0] [(0,1,(tm 9)),(1,1,(tm 15))]),o0 (.store 2 (tm 4) (tm 16))] []) .ret))
theorem l94:(Tryz.f94.body.bind (bz Tryz.prog 17 []))=some c94:=by kernel_rfl
def c67:aV:=(.seq (.region [oo 1 (.box 5 (tm 0)),oo 2 (.alloc [Z0,Z0])] []) (.seq (.region [oo 5 (.build [Z0,Z0] [(0,1,(Kc 1)),(1,1,(Kc 1))]),oo 3 (.alloc [Z0,Z0]),o0 (.store 2 (tm 3) (tm 5))] []) (.seq (.seq (.region [oo 4 (.mov (Kc 0))] []) (.block 0 (.loop (.seq (.seq (.region [mv 6 4,fa 7 4 1,ld 8 7,ln 9 8,oo 10 (.bin .lss (tm 6) (tm 9))] []) (.cond (tm 10) .skip (.exit 0))) (.seq (.block 1 (.region [lA 13 2 3,fa 14 4 1,ld 15 14,mv 16 4,ix 17 5 15 16,lA 18 5 17,oo 19 (.call 67 [tm 18]),oo 20 (.call 94 [(tm 13),(tm 19)]),o0 (.store 2 (tm 3) (tm 20))] [])) (.region [mv 11 4,oo 12 (.bin .add (tm 11) (Kc 1)),mv 4 12] [])))))) (.seq (.region [lA 21 2 3,o0 (.store 2 (tm 2) (tm 21))] []) .ret))))
theorem l67:(Tryz.f67.body.bind (bz Tryz.prog 22 []))=some c67:=by kernel_rfl
def LR:aV:=(.seq (.region [oo 2 (.mov kF)] []) (.seq (.region [mv 4 0,oo 5 (.call 155 [tm 4]),mv 3 5] []) (.seq (.region [mv 6 3,mv 7 6,mF 8 0 7,⟨some 9,.bin .eql (tm 8) (.const (.str ⟨#[112,111,114,116]⟩)),some (7,false),[]⟩,oo 10 (.pick (tm 7) kT (tm 9)),mv 2 10] []) .ret)))
theorem Ns:(Tryz.f129.body.bind (bz Tryz.prog 11 []))=some LR:=by kernel_rfl
def c51:aV:=(.seq (.region [oo 2 (.box 5 (tm 0)),oo 3 (.box 5 (tm 1)),oo 4 (.mov kF)] []) (.seq (.seq (.region [fa 7 0 2,ld 8 7,fa 9 0 3,ld 10 9,oo 11 (.bin .neq (tm 8) (tm 10)),mv 12 11,oF 13 12 (.offA 1 (tm 2)),oF 14 12 (.load 1 false (tm 13)),oF 15 12 (.offA 1 (tm 3)),oF 16 12 (.load 1 false (tm 15)),oF 17 12 (.bin .neq (tm 14) (tm 16)),oo 18 (.pick (tm 12) kT (tm 17)),mv 19 18,oF 20 19 (.offA 2 (tm 2)),oF 21 19 (.load 1 false (tm 20)),oF 22 19 (.offA 2 (tm 3)),oF 23 19 (.load 1 false (tm 22)),oF 24 19 (.bin .neq (tm 21) (tm 23)),oo 25 (.pick (tm 19) kT (tm 24)),mv 26 25,oF 27 26 (.offA 3 (tm 2)),oF 28 26 (.load 1 false (tm 27)),oF 29 26 (.offA 3 (tm 3)),oF 30 26 (.load 1 false (tm 29)),oF 31 26 (.bin .neq (tm 28) (tm 30)),oo 32 (.pick (tm 26) kT (tm 31)),mv 33 32,oF 34 33 (.offA 4 (tm 2)),oF 35 33 (.load 1 false (tm 34)),oF 36 33 (.len (tm 35)),oF 37 33 (.offA 4 (tm 3)),oF 38 33 (.load 1 false (tm 37)),oF 39 33 (.len (tm 38)),oF 40 33 (.bin .neq (tm 36) (tm 39)),oo 41 (.pick (tm 33) kT (tm 40))] []) (.cond (tm 41) (.seq (.region [oo 4 (.mov kF)] []) .ret) .skip)) (.seq (.seq (.region [oo 5 (.mov (Kc 0))] []) (.block 0 (.loop (.seq (.seq (.region [mv 42 5,fa 43 4 2,ld 44 43,ln 45 44,oo 46 (.bin .lss (tm 42) (tm 45))] []) (.cond (tm 46) .skip (.exit 0))) (.seq (.block 1 (.seq (.region [fa 49 4 2,ld 50 49,mv 51 5,ix 52 5 50 51,lA 53 5 52,fa 54 4 3,ld 55 54,mv 56 5,ix 57 5 55 56,lA 58 5 57,oo 59 (.call 51 [(tm 53),(tm 58)]),mv 6 59] []) (.seq (.region [mv 60 6,oo 61 (.not (tm 60))] []) (.cond (tm 61) (.seq (.region [oo 4 (.mov kF)] []) .ret) .skip)))) (.region [mv 47 5,oo 48 (.bin .add (tm 47) (Kc 1)),mv 5 48] [])))))) (.seq (.region [oo 4 (.mov kT)] []) .ret))))
theorem l51:(Tryz.f51.body.bind (bz Tryz.prog 62 []))=some c51:=by kernel_rfl
def Lz:aV:=(.seq (.region [oo 1 (.box 5 (tm 0)),oo 2 (.mov kF)] []) (.seq (.region [fa 10 1 1,ld 11 10,oo 12 (.call 129 [tm 11]),mv 3 12] []) (.seq (.cut (.region [fa 13 2 1,ld 14 13,oo 15 (.bin .geq (tm 14) (Kc 0)),mv 16 15,oT 17 16 (.offA 2 (tm 1)),oT 18 16 (.load 1 false (tm 17)),oT 19 16 (.bin .leq (tm 18) (Kc 65535)),oo 20 (.pick (tm 16) (tm 19) kF),mv 4 20] [])) (.seq (.cut (.region [fa 21 1 1,ld 22 21,⟨some 23,.bin .eql (tm 22) (.const S0),none,[]⟩,mv 24 23,oT 25 24 (.offA 2 (tm 1)),oT 26 24 (.load 1 false (tm 25)),oT 27 24 (.bin .eql (tm 26) (Kc 0)),oo 28 (.pick (tm 24) (tm 27) kF),mv 29 28,oT 30 29 (.offA 3 (tm 1)),oT 31 29 (.load 1 false (tm 30)),oT 32 29 (.bin .eql (tm 31) (Kc 0)),oo 33 (.pick (tm 29) (tm 32) kF),mv 5 33] [])) (.seq (.region [oo 6 (.mov (Kc 0))] []) (.seq (.region [oo 7 (.mov kF)] []) (.seq (.seq (.region [fa 34 0 1,ld 35 34] []) (.cut (.block 0 (.seq (.seq (.region [oo 37 (.bin .eql (tm 35) (Kc 1)),mv 36 37] []) (.cond (tm 36) .skip (.region [oo 38 (.bin .eql (tm 35) (Kc 2)),mv 36 38] []))) (.cond (tm 36) (.region [mv 39 5,mv 7 39] []) (.seq (.region [oo 41 (.bin .eql (tm 35) (Kc 3)),mv 40 41] []) (.cond (tm 40) (.region [mv 42 3,mv 43 42,mT 44 4 43,oo 45 (.pick (tm 43) (tm 44) kF),mv 46 45,oT 47 46 (.offA 3 (tm 1)),oT 48 46 (.load 1 false (tm 47)),oT 49 46 (.bin .eql (tm 48) (Kc 0)),oo 50 (.pick (tm 46) (tm 49) kF),mv 7 50] []) (.seq (.region [oo 52 (.bin .eql (tm 35) (Kc 4)),mv 51 52] []) (.cond (tm 51) (.region [mv 53 3,mv 54 53,mT 55 4 54,oo 56 (.pick (tm 54) (tm 55) kF),mv 57 56,oT 58 57 (.offA 3 (tm 1)),oT 59 57 (.load 1 false (tm 58)),oT 60 57 (.bin .geq (tm 59) (Kc 0)),oo 61 (.pick (tm 57) (tm 60) kF),mv 62 61,oT 63 62 (.offA 3 (tm 1)),oT 64 62 (.load 1 false (tm 63)),oT 65 62 (.bin .leq (tm 64) (Kc 16)),oo 66 (.pick (tm 62) (tm 65) kF),mv 7 66] []) (.seq (.region [oo 68 (.bin .eql (tm 35) (Kc 5)),mv 67 68] []) (.cond (tm 67) (.region [mv 69 3,mv 70 69,oT 71 70 (.offA 2 (tm 1)),oT 72 70 (.load 1 false (tm 71)),oT 73 70 (.bin .geq (tm 72) (Kc 0)),oo 74 (.pick (tm 70) (tm 73) kF),mv 75 74,oT 76 75 (.offA 2 (tm 1)),oT 77 75 (.load 1 false (tm 76)),oT 78 75 (.offA 3 (tm 1)),oT 79 75 (.load 1 false (tm 78)),oT 80 75 (.bin .leq (tm 77) (tm 79)),oo 81 (.pick (tm 75) (tm 80) kF),mv 82 81,oT 83 82 (.offA 3 (tm 1)),oT 84 82 (.load 1 false (tm 83)),oT 85 82 (.bin .leq (tm 84) (Kc 65535)),oo 86 (.pick (tm 82) (tm 85) kF),mv 7 86] []) (.seq (.region [oo 88 (.bin .eql (tm 35) (Kc 6)),mv 87 88] []) (.cond (tm 87) (.seq (.region [mv 89 5,mv 7 89] []) (.region [oo 6 (.mov (Kc 1))] [])) (.seq (.seq (.region [oo 91 (.bin .eql (tm 35) (Kc 7)),mv 90 91] []) (.cond (tm 90) .skip (.region [oo 92 (.bin .eql (tm 35) (Kc 8)),mv 90 92] []))) (.cond (tm 90) (.seq (.region [mv 93 5,mv 7 93] []) (.region [oo 6 (.mov (Kc 2))] [])) (.seq (.region [oo 95 (.bin .eql (tm 35) (Kc 9)),mv 94 95] []) (.cond (tm 94) (.region [fa 96 1 1,ld 97 96,⟨some 98,.bin .eql (tm 97) (.const S0),none,[]⟩,mv 99 98,oT 100 99 (.offA 2 (tm 1)),oT 101 99 (.load 1 false (tm 100)),oT 102 99 (.bin .geq (tm 101) (Kc 0)),oo 103 (.pick (tm 99) (tm 102) kF),mv 104 103,oT 105 104 (.offA 2 (tm 1)),oT 106 104 (.load 1 false (tm 105)),oT 107 104 (.offA 3 (tm 1)),oT 108 104 (.load 1 false (tm 107)),oT 109 104 (.bin .lss (tm 106) (tm 108)),oo 110 (.pick (tm 104) (tm 109) kF),mv 111 110,oT 112 111 (.offA 3 (tm 1)),oT 113 111 (.load 1 false (tm 112)),oT 114 111 (.bin .leq (tm 113) (Kc 1073741824)),oo 115 (.pick (tm 111) (tm 114) kF),mv 7 115] []) .skip))))))))))))))))) (.seq (.seq (.region [mv 116 7,oo 117 (.not (tm 116)),mv 118 117,oF 119 118 (.offA 4 (tm 1)),oF 120 118 (.load 1 false (tm 119)),oF 121 118 (.len (tm 120)),mF 122 6 118,oF 123 118 (.bin .neq (tm 121) (tm 122)),oo 124 (.pick (tm 118) kT (tm 123))] []) (.cond (tm 124) (.seq (.region [oo 2 (.mov kF)] []) .ret) .skip)) (.seq (.seq (.region [oo 8 (.mov (Kc 0))] []) (.block 1 (.loop (.seq (.seq (.region [mv 125 8,mv 126 6,oo 127 (.bin .lss (tm 125) (tm 126))] []) (.cond (tm 127) .skip (.exit 1))) (.seq (.block 2 (.seq (.region [fa 130 4 1,ld 131 130,mv 132 8,ix 133 5 131 132,lA 134 5 133,oo 135 (.call 110 [tm 134]),mv 9 135] []) (.seq (.region [mv 136 9,oo 137 (.not (tm 136))] []) (.cond (tm 137) (.seq (.region [oo 2 (.mov kF)] []) .ret) .skip)))) (.region [mv 128 8,oo 129 (.bin .add (tm 128) (Kc 1)),mv 8 129] [])))))) (.seq (.region [oo 2 (.mov kT)] []) .ret))))))))))
theorem M8:(Tryz.f110.body.bind (bz Tryz.prog 138 [6000002,6000003,4000000]))=some Lz:=by kernel_rfl
def Me:aV:=(.seq (.region [oo 2 (.mov kF)] []) (.seq (.region [mv 3 0,oo 4 (.call 169 [tm 3]),mv 2 4] []) .ret))
theorem NN:(Tryz.f155.body.bind (bz Tryz.prog 5 []))=some Me:=by kernel_rfl
def Mn:aV:=(.seq (.region [oo 2 (.mov kF)] []) (.seq (.seq (.region [mv 5 0,oo 6 (.lenS (tm 5)),oo 7 (.bin .eql (tm 6) (Kc 0)),mv 8 7,mF 9 0 8,oF 10 8 (.lenS (tm 9)),oF 11 8 (.bin .gtr (tm 10) (Kc 24)),oo 12 (.pick (tm 8) kT (tm 11))] []) (.cond (tm 12) (.seq (.region [oo 2 (.mov kF)] []) .ret) .skip)) (.seq (.region [mv 13 0,oo 14 (.idxS (tm 13) (Kc 0)),oo 15 (.call 197 [tm 14]),mv 3 15] []) (.seq (.region [mv 16 0,oo 17 (.call 198 [tm 16]),mv 4 17] []) (.seq (.region [mv 18 3,mv 19 18,mT 20 0 19,oT 21 19 (.call 199 [tm 20]),mT 22 0 19,oT 23 19 (.lenS (tm 22)),oT 24 19 (.bin .eql (tm 21) (tm 23)),oo 25 (.pick (tm 19) (tm 24) kF),mv 26 25,mT 27 4 26,oT 28 26 (.not (tm 27)),oo 29 (.pick (tm 26) (tm 28) kF),mv 2 29] []) .ret)))))
theorem NW:(Tryz.f169.body.bind (bz Tryz.prog 30 []))=some Mn:=by kernel_rfl
def Mw:aV:=(.seq (.region [oo 2 (.mov kF)] []) (.seq (.region [mv 3 0,oo 4 (.bin .geq (tm 3) (.const (Ui 97))),mv 5 4,mT 6 0 5,oT 7 5 (.bin .leq (tm 6) (.const (Ui 122))),oo 8 (.pick (tm 5) (tm 7) kF),mv 2 8] []) .ret))
theorem N5:(Tryz.f197.body.bind (bz Tryz.prog 9 []))=some Mw:=by kernel_rfl
def Mx:aV:=(.seq (.region [oo 2 (.mov kF)] []) (.seq (.region [oo 5 (.call 213 []),mv 3 5] []) (.seq (.seq (.region [oo 4 (.mov (Kc 0))] []) (.block 0 (.loop (.seq (.seq (.region [mv 6 4,mv 7 3,ln 8 7,oo 9 (.bin .lss (tm 6) (tm 8))] []) (.cond (tm 9) .skip (.exit 0))) (.seq (.block 1 (.seq (.region [mv 12 3,mv 13 4,ix 14 1 12 13,ld 15 14,mv 16 0,oo 17 (.bin .eql (tm 15) (tm 16))] []) (.cond (tm 17) (.seq (.region [oo 2 (.mov kT)] []) .ret) .skip))) (.region [mv 10 4,oo 11 (.bin .add (tm 10) (Kc 1)),mv 4 11] [])))))) (.seq (.region [oo 2 (.mov kF)] []) .ret))))
theorem N6:(Tryz.f198.body.bind (bz Tryz.prog 18 []))=some Mx:=by kernel_rfl
def My:aV:=(.seq (.region [oo 2 (.mov (Kc 0))] []) (.seq (.region [oo 3 (.mov (Kc 0))] []) (.seq (.block 0 (.loop (.seq (.seq (.region [mv 5 3,mv 6 0,oo 7 (.lenS (tm 6)),oo 8 (.bin .lss (tm 5) (tm 7))] []) (.cond (tm 8) .skip (.exit 0))) (.block 1 (.seq (.region [mv 9 0,mv 10 3,oo 11 (.idxS (tm 9) (tm 10)),oo 12 (.call 214 [tm 11]),mv 4 12] []) (.seq (.seq (.region [mv 13 4,oo 14 (.not (tm 13))] []) (.cond (tm 14) (.exit 0) .skip)) (.region [mv 15 3,oo 16 (.bin .add (tm 15) (Kc 1)),mv 3 16] []))))))) (.seq (.region [mv 17 3,mv 2 17] []) .ret))))
theorem N7:(Tryz.f199.body.bind (bz Tryz.prog 18 []))=some My:=by kernel_rfl
def ME:aV:=(.seq (.region [oo 0 (.mov (.const .nil))] []) (.seq (.region [⟨some 1,.buildS 9 1 49 [S0] [(0,(.const (.str ⟨#[97,110,100]⟩))),(1,(.const (.str ⟨#[97,110,121]⟩))),(2,(.const (.str ⟨#[97,116]⟩))),(3,(.const (.str ⟨#[98,97,99,107]⟩))),(4,(.const (.str ⟨#[98,111,120]⟩))),(5,(.const (.str ⟨#[98,117,114,115,116]⟩))),(6,(.const (.str ⟨#[98,121]⟩))),(7,(.const (.str ⟨#[99,97,112,97,99,105,116,121]⟩))),(8,(.const (.str ⟨#[99,101,105,108,105,110,103]⟩))),(9,(.const (.str ⟨#[99,104,101,99,107]⟩))),(10,(.const (.str ⟨#[99,111,110,116,114,97,99,116]⟩))),(11,(.const (.str ⟨#[99,111,117,110,116]⟩))),(12,(.const (.str ⟨#[100,101,109,97,110,100]⟩))),(13,(.const (.str ⟨#[100,114,111,112]⟩))),(14,(.const (.str ⟨#[101,97,99,104]⟩))),(15,(.const (.str ⟨#[101,100,103,101]⟩))),(16,(.const (.str ⟨#[101,110,116,114,105,101,115]⟩))),(17,(.const (.str ⟨#[102,97,108,115,101]⟩))),(18,(.const (.str ⟨#[102,105,101,108,100]⟩))),(19,(.const (.str ⟨#[102,108,111,111,114]⟩))),(20,(.const (.str ⟨#[102,114,111,109]⟩))),(21,(.const (.str ⟨#[105,100]⟩))),(22,(.const (.str ⟨#[105,110]⟩))),(23,(.const (.str ⟨#[105,110,110,101,114]⟩))),(24,(.const (.str ⟨#[105,110,116,111]⟩))),(25,(.const (.str ⟨#[108,105,110,107]⟩))),(26,(.const (.str ⟨#[110,101,116,119,111,114,107]⟩))),(27,(.const (.str ⟨#[110,111,100,101]⟩))),(28,(.const (.str ⟨#[110,111,116]⟩))),(29,(.const (.str ⟨#[111,112,101,110]⟩))),(30,(.const (.str ⟨#[111,114]⟩))),(31,(.const (.str ⟨#[112,97,116,104]⟩))),(32,(.const (.str ⟨#[112,111,114,116]⟩))),(33,(.const (.str ⟨#[112,114,105,99,101]⟩))),(34,(.const (.str ⟨#[114,111,117,116,101]⟩))),(35,(.const (.str ⟨#[114,117,108,101,115]⟩))),(36,(.const (.str ⟨#[115,116,97,103,101]⟩))),(37,(.const (.str ⟨#[116,97,107,101]⟩))),(38,(.const (.str ⟨#[116,101,110,97,110,116]⟩))),(39,(.const (.str ⟨#[116,104,101,110]⟩))),(40,(.const (.str ⟨#[116,105,109,101]⟩))),(41,(.const (.str ⟨#[116,111]⟩))),(42,(.const (.str ⟨#[116,111,107,101,110]⟩))),(43,(.const (.str ⟨#[116,114,97,110,115,108,97,116,101]⟩))),(44,(.const (.str ⟨#[116,114,117,101]⟩))),(45,(.const (.str ⟨#[118,105,97]⟩))),(46,(.const (.str ⟨#[119,105,100,116,104]⟩))),(47,(.const (.str ⟨#[119,105,114,101]⟩))),(48,(.const (.str ⟨#[119,105,116,104,105,110]⟩)))],none,[]⟩,mv 0 1] []) .ret))
theorem Oc:(Tryz.f213.body.bind (bz Tryz.prog 2 []))=some ME:=by kernel_rfl
def MF:aV:=(.seq (.region [oo 2 (.mov kF)] []) (.seq (.region [mv 5 0,oo 6 (.call 197 [tm 5]),mv 3 6] []) (.seq (.region [mv 7 0,oo 8 (.call 217 [tm 7]),mv 4 8] []) (.seq (.region [mv 9 3,mv 10 9,mF 11 4 10,oo 12 (.pick (tm 10) kT (tm 11)),mv 13 12,mF 14 0 13,oF 15 13 (.bin .eql (tm 14) (.const (Ui 95))),oo 16 (.pick (tm 13) kT (tm 15)),mv 2 16] []) .ret))))
theorem Od:(Tryz.f214.body.bind (bz Tryz.prog 17 []))=some MF:=by kernel_rfl
def MG:aV:=(.seq (.region [oo 2 (.mov kF)] []) (.seq (.region [mv 3 0,oo 4 (.bin .geq (tm 3) (.const (Ui 48))),mv 5 4,mT 6 0 5,oT 7 5 (.bin .leq (tm 6) (.const (Ui 57))),oo 8 (.pick (tm 5) (tm 7) kF),mv 2 8] []) .ret))
theorem Oe:(Tryz.f217.body.bind (bz Tryz.prog 9 []))=some MG:=by kernel_rfl
end Go.MM
end
section
namespace Go.MM
open Go Go.DL
def wordsG:List ByteArray:=[⟨#[97,110,100]⟩,⟨#[97,110,121]⟩,⟨#[97,116]⟩,⟨#[98,97,99,107]⟩,⟨#[98,111,120]⟩,⟨#[98,117,114,115,116]⟩,⟨#[98,121]⟩,⟨#[99,97,112,97,99,105,116,121]⟩,⟨#[99,101,105,108,105,110,103]⟩,⟨#[99,104,101,99,107]⟩,⟨#[99,111,110,116,114,97,99,116]⟩,⟨#[99,111,117,110,116]⟩,⟨#[100,101,109,97,110,100]⟩,⟨#[100,114,111,112]⟩,⟨#[101,97,99,104]⟩,⟨#[101,100,103,101]⟩,⟨#[101,110,116,114,105,101,115]⟩,⟨#[102,97,108,115,101]⟩,⟨#[102,105,101,108,100]⟩,⟨#[102,108,111,111,114]⟩,⟨#[102,114,111,109]⟩,⟨#[105,100]⟩,⟨#[105,110]⟩,⟨#[105,110,110,101,114]⟩,⟨#[105,110,116,111]⟩,⟨#[108,105,110,107]⟩,⟨#[110,101,116,119,111,114,107]⟩,⟨#[110,111,100,101]⟩,⟨#[110,111,116]⟩,⟨#[111,112,101,110]⟩,⟨#[111,114]⟩,⟨#[112,97,116,104]⟩,⟨#[112,111,114,116]⟩,⟨#[112,114,105,99,101]⟩,⟨#[114,111,117,116,101]⟩,⟨#[114,117,108,101,115]⟩,⟨#[115,116,97,103,101]⟩,⟨#[116,97,107,101]⟩,⟨#[116,101,110,97,110,116]⟩,⟨#[116,104,101,110]⟩,⟨#[116,105,109,101]⟩,⟨#[116,111]⟩,⟨#[116,111,107,101,110]⟩,⟨#[116,114,97,110,115,108,97,116,101]⟩,⟨#[116,114,117,101]⟩,⟨#[118,105,97]⟩,⟨#[119,105,100,116,104]⟩,⟨#[119,105,114,101]⟩,⟨#[119,105,116,104,105,110]⟩]
instance : Glb := ⟨fun g => match g with | 0 => some (wordsG.map .str) | _ => none⟩
end Go.MM
end
section
namespace Go.MM
open Go Go.DL Go.Proofs
theorem mixed:Tryz.prog.follows .mixedOrders=true:=by kernel_rfl
abbrev I (n:Int):T:=.int .i64 n
end Go.MM
end
section
namespace Go.MM
open Go Go.DL Go.Proofs
end Go.MM
end
section
namespace Go.MM
open Go Go.DL Go.Proofs
end Go.MM
end
section
namespace Go.MM
open Go Go.DL Go.Proofs
theorem GP {n:Nat} (h:n<2^63):IntKind.wrap .i64 (n:Int)=n:=mu (by omega) (by omega)
end Go.MM
end
section
namespace Go.MM
open Go Go.DL Go.Proofs
structure Fd where
 name:ByteArray
 a:Nat
 w:Nat
deriving Inhabited
def fd (f:Fd):T:=.agg [.str f.name,I f.a,I f.w]
structure FOk (f:Fd):Prop where
 a:f.a<160
 w1:1≤f.w
 w2:f.a % 16+f.w≤16
theorem t87 (n:Nat) (hn:n≤60):DCalls Tryz.prog 122 [I n] (I (2^n:Nat)):=by
 refine qF (rs:=[.tmp 2]) mixed Tryz.func122 Nj rfl rfl rfl (r:=[I (2^n:Nat)]) (nlZ rfl) ?_
 refine q7 (α:=Nat) (fun i=>{sl:=[(0,.t (I n)),(3,.t (I (2^i:Nat))),(4,.t (I i))],bx:=[]}) (fun i=>i≤n) (fun i=>n - i) 0 (by simp) ?_ ?_
 ·exact ⟨⟨.same _,.same _,.same _,trivial⟩,trivial,trivial,rfl,fun _ _ _=>trivial,rfl⟩
 rintro i hi
 refine rK trivial (fun hq=>?_) (fun hq=>?_)
 ·have h1:i<n:=by simpa using hq
  refine ⟨i+1,h1,by omega,?_⟩
  have h2:(2:Nat)^(i+1)≤2^60:=Nat.pow_le_pow_right (by decide) (by omega)
  refine ⟨⟨.same _,leI ?_,leI (by rw [mu] <;> omega),trivial⟩,trivial,trivial,rfl,fun _ _ _=>trivial,rfl⟩
  have e:((2^i:Nat):Int) * 2=((2^(i+1):Nat):Int):=by rw [Nat.pow_succ];push_cast;rfl
  rw [e,GP (by omega)]
 ·have h1:i=n:=by simp at hq;omega
  subst h1
  exact ⟨rfl,trivial⟩
theorem GK {w:Nat} (h:w≤16):2^w≤65536:=Nat.pow_le_pow_right (by decide) h
theorem t66 (f:Fd) (h:FOk f):DCalls Tryz.prog 78 [fd f] (I (2^f.w - 1:Nat)):=by
 refine qF (rs:=[.tmp 2]) mixed Tryz.func78 l78 rfl rfl rfl (r:=[I (2^f.w - 1:Nat)]) (nlZ rfl) ?_
 have hw:f.w≤16:=by have:=h.w2;omega
 have hp:=Nat.two_pow_pos f.w
 refine And.intro rfl ?_
 refine r6 (I f.w) (by decide) rfl ?_
 refine rp _ (t87 f.w (by omega)) ?_
 exact ⟨congrArg (fun n=>some (I n)) (by have:=GK hw;rw [mu] <;> omega),trivial⟩
theorem t97 (f:Fd) (h:FOk f):DCalls Tryz.prog 75 [fd f] (I (2^f.w - 1:Nat)):=by
 refine qF (rs:=[.tmp 2]) mixed Tryz.func75 l75 rfl rfl rfl (r:=[I (2^f.w - 1:Nat)]) (nlZ rfl) ?_
 have hw:f.w≤16:=by have:=h.w2;omega
 have hp:=Nat.two_pow_pos f.w
 have:=GK hw
 refine And.intro rfl ?_
 refine r6 (I f.w) (by decide) rfl ?_
 refine And.intro (by omega) ?_
 refine ⟨congrArg (fun n=>some (I n)) ?_,trivial⟩
 have e:(1:Int) * 2^(min (f.w:Int).toNat (IntKind.bits .i64))=((2^f.w:Nat):Int):=by
  have:min (f.w:Int).toNat (IntKind.bits .i64)=f.w:=by show min _ 64=_;simp;omega
  rw [this];push_cast;rw [Int.one_mul]
 rw [e,GP (by omega),mu] <;> omega
end Go.MM
end
section
namespace Go.MM
open Go Go.DL Go.Proofs
end Go.MM
end
section
namespace Go.MM
open Go Go.DL Go.Proofs
def sZ:ByteArray:=⟨#[112,111,114,116]⟩
def yE:Fd:=⟨sZ,0,16⟩
def AW:Fd:=⟨⟨#[]⟩,0,0⟩
def sa (a b:ByteArray):Bool:=a.data.toList==b.data.toList
theorem su (a b:ByteArray):(a.toList==b.toList)=sa a b:=by unfold sa;rw [ByteArray.toList_eq,ByteArray.toList_eq]
def fds (l:List Fd):T:=.slice 3 (l.map fd)
def findF (l:List Fd) (s:ByteArray):Option Fd:=if sa s sZ then some yE else l.find? fun f=>sa f.name s
def uU (l:List Fd) (s:ByteArray):T:=match findF l s with
 |some f=>.tup [fd f,.bool true]
 |none=>.tup [fd AW,.bool false]
theorem t94:DCalls Tryz.prog 118 [] (fd yE):=by
 refine qF (rs:=[.cell 0 88]) mixed Tryz.func118 Nf rfl rfl rfl (r:=[fd yE]) (nlZ rfl) ?_
 refine And.intro trivial ?_
 refine And.intro ⟨rfl,by decide⟩ ?_
 exact ⟨rfl,trivial⟩
theorem t83:DCalls Tryz.prog 121 [] (fd yE):=by
 refine qF (rs:=[.cell 0 88]) mixed Tryz.func121 Ni rfl rfl rfl (r:=[fd yE]) (nlZ rfl) ?_
 refine And.intro trivial ?_
 refine And.intro ⟨rfl,by decide⟩ ?_
 exact ⟨rfl,trivial⟩
theorem t96 (f:Fd) (s:ByteArray):DCalls Tryz.prog 120 [fd f,.cptr [.str s] 0] (.bool (sa f.name s)):=by
 refine qF (rs:=[.tmp 3]) mixed Tryz.func120 Nh rfl rfl rfl (r:=[.bool (sa f.name s)]) (nlZ rfl) ?_
 refine And.intro rfl ?_
 refine r6 (.str f.name) (by decide) rfl ?_
 refine r6 (.str s) (Nat.lt_succ_self 0) rfl ?_
 refine rL (sa f.name s) trivial (su _ _) ?_
 exact ⟨rfl,trivial⟩
def u6 (l:List Fd) (s:ByteArray):Int:=match l.findIdx? fun f=>sa f.name s with
 |some i=>i
 |none=> -1
theorem t95 (l:List Fd) (s:ByteArray) (hl:l.length<2^60):DCalls Tryz.prog 119 [fds l,.clos 120 [.cptr [.str s] 0]] (I (u6 l s)):=by
 refine qF (rs:=[.tmp 4]) mixed Tryz.func119 Ng rfl rfl rfl (r:=[I (u6 l s)]) (nlZ rfl) ?_
 refine q7 (α:=Nat) (fun i=>{sl:=[(0,.t (fds l)),(1,.t (.clos 120 [.cptr [.str s] 0])),(7,.t (I l.length)),(8,.t (I i))],bx:=[]}) (fun i=>i≤l.length∧ ∀j (h:j<l.length),j<i→sa l[j].name s=false) (fun i=>l.length - i) 0 (by simp) ?_ ?_
 ·exact ⟨⟨.same _,.same _,leI (by simp),.same _,trivial⟩,trivial,trivial,rfl,fun _ _ _=>trivial,rfl⟩
 rintro i ⟨hi,hp⟩
 refine rK trivial (fun hq=>?_) (fun hq=>?_)
 ·have h1:i<l.length:=by simpa using hq
  refine r6 (fd l[i]) (by simpa using h1) (by simp [h1]) ?_
  refine r6 (fd l[i]) rfl rfl ?_
  refine rp _ (t96 l[i] s) ?_
  cases hm:sa l[i].name s with
  |true=>
   have:u6 l s=i:=by
    unfold u6
    rw [List.findIdx?_eq_some_iff_getElem.2 ⟨h1,hm,fun j hj=>by simp [hp j (by omega) hj]⟩]
   exact ⟨congrArg (fun n=>some (I n)) this.symm,trivial⟩
  |false=>
   refine ⟨i+1,⟨h1,fun j hj hlt=>?_⟩,by omega,?_⟩
   ·rcases Nat.lt_or_ge j i with h4|h4
    ·exact hp j hj h4
    ·obtain rfl:j=i:=by omega
     exact hm
   ·exact ⟨⟨.same _,.same _,.same _,leI (by rw [mu] <;> omega),trivial⟩,trivial,trivial,rfl,fun _ _ _=>trivial,rfl⟩
 ·have hge:l.length≤i:=by simpa using hq
  have:u6 l s= -1:=by
   unfold u6
   rw [List.findIdx?_eq_none_iff.2 fun f hf=>by
    obtain ⟨j,hj,rfl⟩:=List.mem_iff_getElem.1 hf
    exact hp j hj (by omega)]
  exact ⟨congrArg (fun n=>some (I n)) this.symm,trivial⟩
theorem A5 (l:List Fd) (s:ByteArray):(u6 l s= -1∧l.find? (fun f=>sa f.name s)=none)∨ ∃(i:Nat) (h:i<l.length),u6 l s=i∧l.find? (fun f=>sa f.name s)=some l[i]:=by
 unfold u6
 cases hf:l.findIdx? fun f=>sa f.name s with
 |none=>exact .inl ⟨rfl,by rw [List.find?_eq_none];intro f hm;simpa using List.findIdx?_eq_none_iff.1 hf f hm⟩
 |some i=>
  obtain ⟨h1,h2,h3⟩:=List.findIdx?_eq_some_iff_getElem.1 hf
  refine .inr ⟨i,h1,rfl,?_⟩
  rw [List.find?_eq_some_iff_getElem]
  exact ⟨h2,i,h1,rfl,fun j hj=>by simpa using h3 j hj⟩
theorem t74 (l:List Fd) (s:ByteArray) (hl:l.length<2^60):DCalls Tryz.prog 74 [fds l,.str s] (uU l s):=by
 unfold uU findF
 have go: ∀(f:Fd) (b:Bool),wpC Tryz.prog c74 (eO [fds l,.str s]) (nO (dz Tryz.prog) [.cell 4 88,.tmp 5] [fd f,.bool b])→DCalls Tryz.prog 74 [fds l,.str s] (.tup [fd f,.bool b]):=fun f b h=>
  qF (rs:=[.cell 4 88,.tmp 5]) mixed Tryz.func74 l74 rfl rfl rfl (r:=[fd f,.bool b]) (nlZ rfl) h
 by_cases hp:sa s sZ=true
 ·rw [if_pos hp]
  refine go _ _ ?_
  refine And.intro trivial ?_
  refine r6 (.str s) (by decide) rfl ?_
  refine rp _ t94 ?_
  refine r6 (.str sZ) (by decide) rfl ?_
  refine rL true trivial ((su _ _).trans hp) ?_
  refine rp _ t94 ?_
  refine And.intro ⟨rfl,by decide⟩ ?_
  exact ⟨rfl,rfl,trivial⟩
 ·rw [if_neg hp]
  have hp:sa s sZ=false:=by simpa using hp
  have pre: ∀(f:Fd) (b:Bool),(∃ i,u6 l s=i∧(i= -1∧f=AW∧b=false∨ ∃(k:Nat) (h:k<l.length),i=k∧f=l[k]∧b=true))→wpC Tryz.prog c74 (eO [fds l,.str s]) (nO (dz Tryz.prog) [.cell 4 88,.tmp 5] [fd f,.bool b]):=fun f b ⟨i,hi,h⟩=>by
   refine And.intro trivial ?_
   refine r6 (.str s) (by decide) rfl ?_
   refine rp _ t94 ?_
   refine r6 (.str sZ) (by decide) rfl ?_
   refine rL false trivial ((su _ _).trans hp) ?_
   refine ⟨I i,hi▸t95 l s hl,rfl,?_⟩
   rcases h with ⟨rfl,rfl,rfl⟩|⟨k,hk,rfl,rfl,rfl⟩
   ·refine rL true trivial (by decide) ?_
    refine And.intro trivial ?_
    refine And.intro ⟨rfl,by decide⟩ ?_
    exact ⟨rfl,rfl,trivial⟩
   ·refine rL false trivial (by simp) ?_
    refine r6 (fd l[k]) (by simpa using hk) (by simp [hk]) ?_
    refine r6 (fd l[k]) rfl rfl ?_
    refine And.intro ⟨rfl,by decide⟩ ?_
    exact ⟨rfl,rfl,trivial⟩
  rcases A5 l s with ⟨h1,h2⟩|⟨k,hk,h1,h2⟩
  ·rw [h2]
   exact go _ _ (pre _ _ ⟨-1,h1,.inl ⟨rfl,rfl,rfl⟩⟩)
  ·rw [h2]
   exact go _ _ (pre _ _ ⟨k,h1,.inr ⟨k,hk,rfl,rfl,rfl⟩⟩)
theorem t51 (l:List Fd) (s:ByteArray) (hl:l.length<2^60):DCalls Tryz.prog 77 [fds l,.str s] (uU l s):=by
 unfold uU findF
 have go: ∀(f:Fd) (b:Bool),wpC Tryz.prog c77 (eO [fds l,.str s]) (nO (dz Tryz.prog) [.cell 4 88,.tmp 5] [fd f,.bool b])→DCalls Tryz.prog 77 [fds l,.str s] (.tup [fd f,.bool b]):=fun f b h=>
  qF (rs:=[.cell 4 88,.tmp 5]) mixed Tryz.func77 l77 rfl rfl rfl (r:=[fd f,.bool b]) (nlZ rfl) h
 by_cases hp:sa s sZ=true
 ·rw [if_pos hp]
  refine go _ _ ?_
  refine rL true trivial ((su _ _).trans hp) ?_
  refine rp _ t83 ?_
  refine And.intro ⟨rfl,by decide⟩ ?_
  exact ⟨rfl,rfl,trivial⟩
 ·rw [if_neg hp]
  have hp:sa s sZ=false:=by simpa using hp
  have pre: ∀(f:Fd) (b:Bool),(∃ i,u6 l s=i∧(i= -1∧f=AW∧b=false∨ ∃(k:Nat) (h:k<l.length),i=k∧f=l[k]∧b=true))→wpC Tryz.prog c77 (eO [fds l,.str s]) (nO (dz Tryz.prog) [.cell 4 88,.tmp 5] [fd f,.bool b]):=fun f b ⟨i,hi,h⟩=>by
   refine rL false trivial ((su _ _).trans hp) ?_
   refine q7 (α:=Nat) (fun i=>{sl:=[(0,.t (fds l)),(1,.t (.str s)),(4,.ptr 4 0),(6,.t (I i))],bx:=[(4,.d 3 [.str ⟨#[]⟩,I 0,I 0])]}) (fun i=>i≤l.length∧ ∀j (h:j<l.length),j<i→sa l[j].name s=false) (fun i=>l.length - i) 0 (by simp) ?_ ?_
   ·exact ⟨⟨.same _,.same _,.same _,.same _,trivial⟩,⟨.same _,trivial⟩,trivial,rfl,fun _ _ _=>trivial,rfl⟩
   rintro j ⟨hj,hpj⟩
   refine rK trivial (fun hq=>?_) (fun hq=>?_)
   ·have h1:j<l.length:=by simpa using hq
    refine r6 (fd l[j]) (by simpa using h1) (by simp [h1]) ?_
    refine r6 (.str l[j].name) (show 0+0<3 by decide) rfl ?_
    cases hm:sa l[j].name s with
    |true=>
     refine rL true trivial ((su _ _).trans hm) ?_
     refine r6 (fd l[j]) (by simpa using h1) (by simp [h1]) ?_
     refine r6 (fd l[j]) rfl rfl ?_
     refine And.intro ⟨rfl,by decide⟩ ?_
     have e:u6 l s=j:=by
      unfold u6
      rw [List.findIdx?_eq_some_iff_getElem.2 ⟨h1,hm,fun j' hj'=>by simp [hpj j' (by omega) hj']⟩]
     rcases h with ⟨rfl,rfl,rfl⟩|⟨k,hk,rfl,rfl,rfl⟩
     ·omega
     ·obtain rfl:k=j:=by omega
      exact ⟨rfl,rfl,trivial⟩
    |false=>
     refine rL false trivial ((su _ _).trans hm) ?_
     refine ⟨j+1,⟨h1,fun j' hj' hlt=>?_⟩,by omega,?_⟩
     ·rcases Nat.lt_or_ge j' j with h4|h4
      ·exact hpj j' hj' h4
      ·obtain rfl:j'=j:=by omega
       exact hm
     ·exact ⟨⟨.same _,.same _,.same _,leI (by rw [mu] <;> omega),trivial⟩,⟨.same _,trivial⟩,trivial,rfl,fun _ _ _=>trivial,rfl⟩
   ·have hge:l.length≤j:=by simpa using hq
    have e:u6 l s= -1:=by
     unfold u6
     rw [List.findIdx?_eq_none_iff.2 fun f hf=>by
      obtain ⟨j',hj',rfl⟩:=List.mem_iff_getElem.1 hf
      exact hpj j' hj' (by omega)]
    rcases h with ⟨rfl,rfl,rfl⟩|⟨k,hk,rfl,rfl,rfl⟩
    ·refine And.intro trivial ?_
     refine And.intro ⟨rfl,by decide⟩ ?_
     exact ⟨rfl,rfl,trivial⟩
    ·omega
  rcases A5 l s with ⟨h1,h2⟩|⟨k,hk,h1,h2⟩
  ·rw [h2]
   exact go _ _ (pre _ _ ⟨-1,h1,.inl ⟨rfl,rfl,rfl⟩⟩)
  ·rw [h2]
   exact go _ _ (pre _ _ ⟨k,h1,.inr ⟨k,hk,rfl,rfl,rfl⟩⟩)
end Go.MM
end
section
namespace Go.MM
open Go Go.DL Go.Proofs
abbrev nm0:T:=.str ⟨#[]⟩
def fld (l:List Fd) (f:ByteArray):Fd:=(findF l f).getD AW
structure LOk (l:List Fd):Prop where
 len:l.length<2^60
 ok: ∀f∈l,FOk f
theorem HK {l:List Fd} {f:ByteArray} {F:Fd} (h:findF l f=some F):fld l f=F:=by unfold fld;rw [h];rfl
theorem Ik:FOk yE:=⟨by decide,by decide,by decide⟩
theorem LOk.find {l:List Fd} (h:LOk l) {s:ByteArray} {f:Fd} (hf:findF l s=some f):FOk f:=by
 unfold findF at hf
 split at hf
 ·cases hf;exact Ik
 ·exact h.ok f (List.mem_of_find?_eq_some hf)
end Go.MM
end
section
namespace Go.MM
open Go Go.DL Go.Proofs
end Go.MM
end
section
namespace Go.MM
open Go Go.DL Go.Proofs
inductive RP where
 |mk (kind:Int) (field:ByteArray) (n m:Int) (args:List RP)
namespace RP
def kind:RP→Int|.mk k _ _ _ _=>k
def field:RP→ByteArray|.mk _ f _ _ _=>f
def n:RP→Int|.mk _ _ n _ _=>n
def m:RP→Int|.mk _ _ _ m _=>m
def args:RP→List RP|.mk _ _ _ _ a=>a
end RP
mutual
def sA:RP→T
 |.mk k f n m a=>.agg [I k,.str f,I n,I m,.slice 5 (CP a)]
def CP:List RP→List T
 |[]=>[]
 |r::rs=>sA r::CP rs
end
theorem A0: ∀l:List RP,CP l=l.map sA
 |[]=>rfl
 |r::rs=>congrArg (sA r:: ·) (A0 rs)
def sb:RP→List T
 |.mk k f n m a=>[I k,.str f,I n,I m,.slice 5 (a.map sA)]
theorem si (r:RP):sA r= .agg (sb r):=by
 cases r;simp only [sA,sb,A0]
theorem sr (r:RP):(sb r).length=5:=by cases r;rfl
inductive RO where
 |mk (kind:Int) (pred:RP) (field:ByteArray) (n:Int) (args:List RO)
namespace RO
def kind:RO→Int|.mk k _ _ _ _=>k
def pred:RO→RP|.mk _ p _ _ _=>p
def field:RO→ByteArray|.mk _ _ f _ _=>f
def n:RO→Int|.mk _ _ _ n _=>n
def args:RO→List RO|.mk _ _ _ _ a=>a
end RO
mutual
def sL:RO→T
 |.mk k p f n a=>.agg (I k::(sb p++[.str f,I n,.slice 9 (CQ a)]))
def CQ:List RO→List T
 |[]=>[]
 |r::rs=>sL r::CQ rs
end
theorem A1: ∀l:List RO,CQ l=l.map sL
 |[]=>rfl
 |r::rs=>congrArg (sL r:: ·) (A1 rs)
def r9:RO→List T
 |.mk k p f n a=>I k::(sb p++[.str f,I n,.slice 9 (a.map sL)])
theorem sy (r:RO):sL r= .agg (r9 r):=by
 cases r;simp only [sL,r9,A1]
theorem sd (r:RO):(r9 r).length=9:=by cases r;simp [r9,sr]
mutual
def RP.nodes:RP→Nat
 |.mk _ _ _ _ a=>1+sB a
def sB:List RP→Nat
 |[]=>0
 |r::rs=>r.nodes+sB rs
end
mutual
def RP.depth:RP→Nat
 |.mk _ _ _ _ a=>1+ti a
def ti:List RP→Nat
 |[]=>0
 |r::rs=>max r.depth (ti rs)
end
mutual
theorem RP.vG: ∀r:RP,r.depth≤r.nodes
 |.mk _ _ _ _ a=>by have:=wH a;simp only [RP.depth,RP.nodes];omega
theorem wH: ∀l:List RP,ti l≤sB l
 |[]=>Nat.le_refl _
 |r::rs=>by have:=RP.vG r;have:=wH rs;simp only [ti,sB];omega
end
theorem tF: ∀{l:List RP} {j:Nat} (h:j<l.length),sB (l.take (j+1))=sB (l.take j)+l[j].nodes
 |r::rs,0,h=>by simp [sB]
 |r::rs,j+1,h=>by
  have:=tF (l:=rs) (j:=j) (by simpa using h)
  simp only [List.take_succ_cons,sB,List.getElem_cons_succ]
  omega
theorem wP: ∀{l:List RP} {j:Nat} (h:j<l.length),ti (l.take (j+1))=max (ti (l.take j)) l[j].depth
 |r::rs,0,h=>by simp [ti]
 |r::rs,j+1,h=>by
  have:=wP (l:=rs) (j:=j) (by simpa using h)
  simp only [List.take_succ_cons,ti,List.getElem_cons_succ]
  omega
theorem tE: ∀{l:List RP} {j:Nat},sB (l.take j)≤sB l
 |[],j=>by simp
 |r::rs,0=>by simp [sB]
 |r::rs,j+1=>by
  have:=tE (l:=rs) (j:=j)
  simp only [List.take_succ_cons,sB]
  omega
theorem RP.uc (r:RP):1≤r.nodes:=by cases r;simp only [RP.nodes];omega
theorem tS: ∀l:List RP,l.length≤sB l
 |[]=>Nat.le_refl _
 |r::rs=>by have:=tS rs;have:=r.uc;simp only [sB,List.length_cons];omega
def sz (n d:Nat):T:=.agg [I n,I d]
theorem t102 (a b c d:Nat) (h1:a+c<2^62) (_:b<2^62) (h3:d<2^62):DCalls Tryz.prog 94 [sz a b,sz c d] (sz (a+c) (max b (d+1))):=by
 refine qF (rs:=[.cell 4 51]) mixed Tryz.func94 l94 rfl rfl rfl (r:=[sz (a+c) (max b (d+1))]) (nlZ rfl) ?_
 repeat' ((conv=>whnf);first|refine nT_ ?_|refine aS ?_|fail)
 refine And.intro (congrArg some ?_) trivial
 simp (disch:=omega) only [mu,aK,List.take,List.drop,List.nil_append,List.cons_append]
 unfold sz I
 have e:(if (d:Int)+1>(b:Int) then (d:Int)+1 else (b:Int))=((max b (d+1):Nat):Int):=by split <;> omega
 rw [e,Int.natCast_add]
theorem t103 (N:Nat): ∀r:RP,r.nodes≤N→N<2^60→DCalls Tryz.prog 67 [.agg (sb r)] (sz r.nodes r.depth):=by
 induction N with
 |zero=>intro r h;have:=r.uc;omega
 |succ N ih=>
  rintro ⟨k,f,n,m,l⟩ hr hN
  refine qF (rs:=[.cell 2 51]) mixed Tryz.func67 l67 rfl rfl rfl (r:=[sz _ _]) (nlZ rfl) ?_
  simp only [RP.nodes,RP.depth] at hr ⊢
  repeat' ((conv=>whnf);first|refine aS ?_|fail)
  refine q7 (α:=Nat) (fun i=>{sl:=[(1,.ptr 1 0),(2,.ptr 2 0),(3,.ptr 3 0),(4,.t (I i))],bx:=[(1,.d 5 (sb (.mk k f n m l))),(2,.d 2 [I 0,I 0]),(3,.d 2 [I (1+sB (l.take i):Nat),I (1+ti (l.take i):Nat)])]})
   (fun i=>i≤l.length) (fun i=>l.length - i) 0 (by omega) ?_ ?_
  ·repeat' (first|exact trivial|exact LeV.same _|exact LeB.same _|exact rfl|exact fun _ _ _=>trivial|refine And.intro ?_ ?_)
  rintro i hi
  rcases Nat.lt_or_ge i l.length with h|h
  ·have hn:=tF h
   have hd:=wP h
   have hm:=tE (l:=l) (j:=i+1)
   have hp:=l[i].uc
   have hl:=tS l
   have hdn:=l[i].vG
   have hd1:=wH (l.take i)
   repeat' ((conv=>whnf);first|(refine nv_ (.agg (sb l[i])) (by first|(simp [h,si];done)|fail) ?_)|refine rp _ (ih l[i] (by omega) (by omega)) ?_|refine rp _ (t102 _ _ _ _ (by omega) (by omega) (by omega)) ?_|refine nT_ ?_|refine aD1 ?_|(refine And.intro (by first|exact sr _|fail) ?_)|refine aS ?_|fail)
   refine ⟨i+1,by omega,by omega,?_⟩
   repeat' (first|exact trivial|exact LeV.same _|exact LeB.same _|exact rfl|exact fun _ _ _=>trivial|exact lI|refine r7 ?_|refine And.intro ?_ ?_)
   rw [hn,hd,show 1+(sB (l.take i)+l[i].nodes)=1+sB (l.take i)+l[i].nodes by omega,show 1+max (ti (l.take i)) l[i].depth=max (1+ti (l.take i)) (l[i].depth+1) by omega]
   rfl
  ·have:i=l.length:=by omega
   subst this
   rw [List.take_length]
   repeat' ((conv=>whnf);first|exact trivial|refine nT_ ?_|refine aD0 ?_|refine aS ?_|fail)
end Go.MM
end
section
namespace Go.MM
open Go Go.DL Go.Proofs
def wZ:List ByteArray:=[⟨#[97,110,100]⟩,
 ⟨#[97,110,121]⟩,
 ⟨#[97,116]⟩,
 ⟨#[98,97,99,107]⟩,
 ⟨#[98,111,120]⟩,
 ⟨#[98,117,114,115,116]⟩,
 ⟨#[98,121]⟩,
 ⟨#[99,97,112,97,99,105,116,121]⟩,
 ⟨#[99,101,105,108,105,110,103]⟩,
 ⟨#[99,104,101,99,107]⟩,
 ⟨#[99,111,110,116,114,97,99,116]⟩,
 ⟨#[99,111,117,110,116]⟩,
 ⟨#[100,101,109,97,110,100]⟩,
 ⟨#[100,114,111,112]⟩,
 ⟨#[101,97,99,104]⟩,
 ⟨#[101,100,103,101]⟩,
 ⟨#[101,110,116,114,105,101,115]⟩,
 ⟨#[102,97,108,115,101]⟩,
 ⟨#[102,105,101,108,100]⟩,
 ⟨#[102,108,111,111,114]⟩,
 ⟨#[102,114,111,109]⟩,
 ⟨#[105,100]⟩,
 ⟨#[105,110]⟩,
 ⟨#[105,110,110,101,114]⟩,
 ⟨#[105,110,116,111]⟩,
 ⟨#[108,105,110,107]⟩,
 ⟨#[110,101,116,119,111,114,107]⟩,
 ⟨#[110,111,100,101]⟩,
 ⟨#[110,111,116]⟩,
 ⟨#[111,112,101,110]⟩,
 ⟨#[111,114]⟩,
 ⟨#[112,97,116,104]⟩,
 ⟨#[112,111,114,116]⟩,
 ⟨#[112,114,105,99,101]⟩,
 ⟨#[114,111,117,116,101]⟩,
 ⟨#[114,117,108,101,115]⟩,
 ⟨#[115,116,97,103,101]⟩,
 ⟨#[116,97,107,101]⟩,
 ⟨#[116,101,110,97,110,116]⟩,
 ⟨#[116,104,101,110]⟩,
 ⟨#[116,105,109,101]⟩,
 ⟨#[116,111]⟩,
 ⟨#[116,111,107,101,110]⟩,
 ⟨#[116,114,97,110,115,108,97,116,101]⟩,
 ⟨#[116,114,117,101]⟩,
 ⟨#[118,105,97]⟩,
 ⟨#[119,105,100,116,104]⟩,
 ⟨#[119,105,114,101]⟩,
 ⟨#[119,105,116,104,105,110]⟩]
def tM (c:Int):Bool:=decide (97≤c)&&decide (c≤122)
def uF (c:Int):Bool:=decide (48≤c)&&decide (c≤57)
def uY (c:Int):Bool:=tM c||uF c||c==95
def tD (s:ByteArray) (i:Nat):Int:=((s.toList[i]?.getD 0).toNat:Int)
abbrev U (n:Int):T:=.int .u8 n
theorem t110 (c:Int):DCalls Tryz.prog 197 [U c] (.bool (tM c)):=by
 refine qF (rs:=[.tmp 2]) mixed Tryz.func197 N5 rfl rfl rfl (r:=[.bool _]) (nlZ rfl) ?_
 unfold tM
 repeat' ((conv=>whnf);first|exact trivial|refine nD_ (fun hq=>?_) (fun hq=>?_)|refine rb1 ?_|refine rb0 ?_|refine aS ?_|fail)
theorem t115 (c:Int):DCalls Tryz.prog 217 [U c] (.bool (uF c)):=by
 refine qF (rs:=[.tmp 2]) mixed Tryz.func217 Oe rfl rfl rfl (r:=[.bool _]) (nlZ rfl) ?_
 unfold uF
 repeat' ((conv=>whnf);first|exact trivial|refine nD_ (fun hq=>?_) (fun hq=>?_)|refine rb1 ?_|refine rb0 ?_|refine aS ?_|fail)
theorem t114 (c:Int):DCalls Tryz.prog 214 [U c] (.bool (uY c)):=by
 refine qF (rs:=[.tmp 2]) mixed Tryz.func214 Od rfl rfl rfl (r:=[.bool _]) (nlZ rfl) ?_
 unfold uY
 have h1:=t110 c
 have h2:=t115 c
 generalize tM c=a at *
 generalize uF c=b at *
 cases a <;> cases b
 all_goals repeat' ((conv=>whnf);first|exact trivial|refine rp _ (h1) ?_|refine rp _ (h2) ?_|refine nE_ (fun hq=>?_) (fun hq=>?_)|refine rb1 ?_|refine rb0 ?_|refine aS ?_|fail)
theorem t113:DCalls Tryz.prog 213 [] (.slice 1 (wZ.map .str)):=by
 refine qF (rs:=[.tmp 0]) mixed Tryz.func213 Oc rfl rfl rfl (r:=[.slice 1 (wZ.map .str)]) (nlZ rfl) ?_
 repeat' ((conv=>whnf);first|exact trivial|refine aS ?_|fail)
def vH (s:ByteArray):Bool:=wZ.any fun w=>sa w s
theorem t111 (s:ByteArray):DCalls Tryz.prog 198 [.str s] (.bool (vH s)):=by
 refine qF (rs:=[.tmp 2]) mixed Tryz.func198 N6 rfl rfl rfl (r:=[.bool _]) (nlZ rfl) ?_
 unfold vH
 have hw:wZ.length=49:=rfl
 have h0:=t113
 generalize wZ=ws at *
 repeat' ((conv=>whnf);first|refine rp _ (h0) ?_|fail)
 refine q7 (α:=Nat) (fun i=>{sl:=[(0,.t (.str s)),(3,.t (.slice 1 (ws.map .str))),(4,.t (I i))],bx:=[]})
  (fun i=>i≤ws.length∧ ∀j (h:j<ws.length),j<i→sa ws[j] s=false) (fun i=>ws.length - i) 0 (by simp) ?_ ?_
 ·repeat' (first|exact trivial|exact LeV.same _|exact rfl|exact fun _ _ _=>trivial|refine And.intro ?_ ?_)
 rintro i ⟨hi,hp⟩
 rcases Nat.lt_or_ge i ws.length with h|h
 ·cases hb:sa ws[i] s with
  |true=>
   have e:(ws.any fun w=>sa w s)=true:=List.any_eq_true.2 ⟨_,List.getElem_mem h,hb⟩
   rw [e]
   repeat' ((conv=>whnf);first|exact trivial|(refine nv_ (.str ws[i]) (by first|(simp [h];done)|fail) ?_)|refine nb_ true ((su _ _).trans hb) ?_|refine nT_ ?_|refine aD1 ?_|refine rb1 ?_|refine aS ?_|fail)
  |false=>
   repeat' ((conv=>whnf);first|(refine nv_ (.str ws[i]) (by first|(simp [h];done)|fail) ?_)|refine nb_ false ((su _ _).trans hb) ?_|refine nT_ ?_|refine aD1 ?_|refine aS ?_|fail)
   refine ⟨i+1,⟨h,fun j hj hlt=>?_⟩,by omega,?_⟩
   ·rcases Nat.lt_or_ge j i with h4|h4
    ·exact hp j hj h4
    ·obtain rfl:j=i:=by omega
     exact hb
   ·repeat' (first|exact trivial|exact LeV.same _|exact rfl|exact fun _ _ _=>trivial|exact lI|refine And.intro ?_ ?_)
 ·have e:(ws.any fun w=>sa w s)=false:=by
   rw [List.any_eq_false]
   intro w hw
   obtain ⟨j,hj,rfl⟩:=List.getElem_of_mem hw
   simp [hp j hj (by omega)]
  rw [e]
  repeat' ((conv=>whnf);first|exact trivial|refine aD0 ?_|refine rb0 ?_|refine aS ?_|fail)
def tX:List UInt8→Nat
 |[]=>0
 |b::bs=>if uY (b.toNat:Int) then 1+tX bs else 0
theorem wz: ∀{l:List UInt8} {n:Nat},n≤l.length→(∀ j,j<n→uY ((l[j]?.getD 0).toNat:Int)=true)→(n=l.length∨uY ((l[n]?.getD 0).toNat:Int)=false)→tX l=n
 |[],n,hn,_,_=>by simp at hn;simp [tX,hn]
 |b::bs,0,hn,_,h=>by
  rcases h with h|h
  ·simp at h
  ·simp at h;simp [tX,h]
 |b::bs,n+1,hn,hp,h=>by
  have h0:=hp 0 (by omega)
  simp at h0
  have:=wz (l:=bs) (n:=n) (by simpa using hn) (fun j hj=>by simpa using hp (j+1) (by omega)) (by simpa using h)
  simp [tX,h0,this];omega
theorem uT (s:ByteArray):s.toList.length=s.size:=by rw [ByteArray.toList_eq];rfl
theorem t112 (s:ByteArray) (hs:s.size<2^62):DCalls Tryz.prog 199 [.str s] (I (tX s.toList)):=by
 refine qF (rs:=[.tmp 2]) mixed Tryz.func199 N7 rfl rfl rfl (r:=[.int _ _]) (nlZ rfl) ?_
 have hl:=uT s
 skip
 refine q7 (α:=Nat) (fun i=>{sl:=[(0,.t (.str s)),(3,.t (I i))],bx:=[]})
  (fun i=>i≤s.size∧ ∀j,j<i→uY (tD s j)=true) (fun i=>s.size - i) 0 (by simp) ?_ ?_
 ·repeat' (first|exact trivial|exact LeV.same _|exact rfl|exact fun _ _ _=>trivial|refine And.intro ?_ ?_)
 rintro i ⟨hi,hp⟩
 rcases Nat.lt_or_ge i s.size with h|h
 ·have h0:=t114 (tD s i)
  cases hb:uY (tD s i) with
  |true=>
   rw [hb] at h0
   repeat' ((conv=>whnf);first|refine rp _ (h0) ?_|refine nT_ ?_|refine aD1 ?_|refine aS ?_|fail)
   refine ⟨i+1,⟨h,fun j hj=>?_⟩,by omega,?_⟩
   ·rcases Nat.lt_or_ge j i with h4|h4
    ·exact hp j h4
    ·obtain rfl:j=i:=by omega
     exact hb
   ·repeat' (first|exact trivial|exact LeV.same _|exact rfl|exact fun _ _ _=>trivial|exact lI|refine And.intro ?_ ?_)
  |false=>
   rw [hb] at h0
   have e:tX s.toList=i:=wz (by omega) hp (.inr hb)
   rw [e]
   repeat' ((conv=>whnf);first|exact trivial|refine rp _ (h0) ?_|refine nT_ ?_|refine aD1 ?_|refine rix ?_|refine aS ?_|fail)
 ·have e:tX s.toList=i:=wz (by omega) hp (.inl (by omega))
  rw [e]
  repeat' ((conv=>whnf);first|exact trivial|refine aD0 ?_|refine rix ?_|refine aS ?_|fail)
def uz (s:ByteArray):Bool:=decide (0<s.size)&&decide (s.size≤24)&&tM (tD s 0)&&(tX s.toList==s.size)&& !vH s
theorem t109 (s:ByteArray) (hs:s.size<2^62):DCalls Tryz.prog 169 [.str s] (.bool (uz s)):=by
 refine qF (rs:=[.tmp 2]) mixed Tryz.func169 NW rfl rfl rfl (r:=[.bool _]) (nlZ rfl) ?_
 unfold uz
 have h1:=t110 (tD s 0)
 have h2:=t111 s
 have h3:=t112 s hs
 generalize tM (tD s 0)=a at *
 generalize vH s=w at *
 generalize tX s.toList=n at *
 by_cases hz:s.size=0
 ·simp [hz]
  repeat' ((conv=>whnf);first|exact trivial|refine aE1 ?_|refine rb0 ?_|refine aS ?_|fail)
 ·by_cases h24:s.size≤24
  ·simp [h24,show 0<s.size by omega]
   cases a <;> cases w <;> repeat' ((conv=>whnf);first|exact trivial|refine rp _ (h1) ?_|refine rp _ (h2) ?_|refine rp _ (h3) ?_|refine nT_ ?_|refine aE0 ?_|refine aD0 ?_|refine nE_ (fun hq=>?_) (fun hq=>?_)|refine rb1 ?_|refine rb0 ?_|refine aS ?_|fail)
  ·simp [h24]
   repeat' ((conv=>whnf);first|exact trivial|refine aE0 ?_|refine aD1 ?_|refine rb0 ?_|refine aS ?_|fail)
theorem t108 (s:ByteArray) (hs:s.size<2^62):DCalls Tryz.prog 155 [.str s] (.bool (uz s)):=by
 refine qF (rs:=[.tmp 2]) mixed Tryz.func155 NN rfl rfl rfl (r:=[.bool _]) (nlZ rfl) ?_
 have h1:=t109 s hs
 repeat' ((conv=>whnf);first|exact trivial|refine rp _ (h1) ?_|refine rbx ?_|fail)
def sN (s:ByteArray):Bool:=uz s||sa s sZ
theorem t104 (s:ByteArray) (hs:s.size<2^62):DCalls Tryz.prog 129 [.str s] (.bool (sN s)):=by
 refine qF (rs:=[.tmp 2]) mixed Tryz.func129 Ns rfl rfl rfl (r:=[.bool _]) (nlZ rfl) ?_
 have h1:=t108 s hs
 unfold sN
 have h2:=su s sZ
 generalize uz s=a at *
 generalize sa s sZ=b at *
 cases a <;> cases b <;> repeat' ((conv=>whnf);first|exact trivial|refine rp _ (h1) ?_|refine nb_ _ h2 ?_|refine rb1 ?_|refine rb0 ?_|refine aS ?_|fail)
end Go.MM
end
section
namespace Go.MM
open Go Go.DL Go.Proofs
abbrev e0:ByteArray:=⟨#[]⟩
def tQ:RP→Bool
 |.mk k f n m a=>(k==0)&&sa f e0&&(n==0)&&(m==0)&&(a.length==0)
theorem t105 (r:RP):DCalls Tryz.prog 51 [.agg (sb r),.agg [I 0,.str e0,I 0,I 0,.nil]] (.bool (tQ r)):=by
 obtain ⟨k,f,n,m,l⟩:=r
 refine qF (rs:=[.tmp 4]) mixed Tryz.func51 l51 rfl rfl rfl (r:=[.bool _]) (nlZ rfl) ?_
 simp only [tQ]
 have h2:=su f e0
 generalize sa f e0=b at *
 cases l <;> repeat' ((conv=>whnf);first|exact trivial|refine nb_ (!b) (congrArg _ h2) ?_|refine nT_ ?_|refine aN1 ?_|refine aN0 ?_|refine nN_ (fun hq=>?_) (fun hq=>?_)|refine rb0 ?_|refine aS ?_|(cases b)|fail)
 refine q7 (α:=Unit) (fun _=>{sl:=[(2,.ptr 2 0),(3,.ptr 3 0),(5,.t (I 0))],bx:=[(2,.d 5 (sb (.mk k f n m []))),(3,.d 5 [I 0,.str e0,I 0,I 0,.nil])]}) (fun _=>True) (fun _=>0) () trivial ?_ ?_
 ·repeat' (first|exact trivial|exact LeV.same _|exact LeB.same _|exact rfl|exact fun _ _ _=>trivial|refine And.intro ?_ ?_)
 rintro _ _
 repeat' ((conv=>whnf);first|exact trivial|refine nT_ ?_|refine aD0 ?_|refine rb1 ?_|refine aS ?_|fail)
def tO (n:Int):Bool:=decide (0≤n)&&decide (n≤65535)
def vp (f:ByteArray) (n m:Int):Bool:=sa f e0&&(n==0)&&(m==0)
def xI (k:Int):Nat:=if k=6 then 1 else if k=7∨k=8 then 2 else 0
def okP (k:Int) (f:ByteArray) (n m:Int):Bool:=
 if k=1∨k=2 then vp f n m
 else if k=3 then sN f&&tO n&&(m==0)
 else if k=4 then sN f&&tO n&&decide (0≤m)&&decide (m≤16)
 else if k=5 then sN f&&decide (0≤n)&&decide (n≤m)&&decide (m≤65535)
 else if k=6∨k=7∨k=8 then vp f n m
 else if k=9 then sa f e0&&decide (0≤n)&&decide (n<m)&&decide (m≤1073741824)
 else false
mutual
def sD:RP→Bool
 |.mk k f n m a=>okP k f n m&&(a.length==xI k)&&tf a
def tf:List RP→Bool
 |[]=>true
 |r::rs=>sD r&&tf rs
end
theorem wV: ∀{l:List RP},tf l=true↔ ∀(i:Nat) (h:i<l.length),sD l[i]=true
 |[]=>by simp [tf]
 |r::rs=>by
  simp only [tf,Bool.and_eq_true,wV (l:=rs)]
  constructor
  ·rintro ⟨h0,h⟩ i hi
   cases i with
   |zero=>exact h0
   |succ i=>simpa using h i (by simpa using hi)
  ·intro h
   exact ⟨h 0 (by simp),fun i hi=>h (i+1) (by simpa using hi)⟩
mutual
def uI:RP→Prop
 |.mk _ f _ _ a=>f.size<2^62∧vK a
def vK:List RP→Prop
 |[]=>True
 |r::rs=>uI r∧vK rs
end
theorem xo: ∀{l:List RP},vK l→ ∀(i:Nat) (h:i<l.length),uI l[i]
 |[],_,i,h=>by simp at h
 |r::rs,h,i,hi=>by
  cases i with
  |zero=>exact h.1
  |succ i=>simpa using xo h.2 i (by simpa using hi)
theorem t106 (N:Nat): ∀r:RP,r.nodes≤N→N<2^60→uI r→DCalls Tryz.prog 110 [.agg (sb r)] (.bool (sD r)):=by
 induction N with
 |zero=>intro r h;have:=r.uc;omega
 |succ N ih=>
  rintro ⟨k,f,n,m,l⟩ hr hN hnm
  refine qF (rs:=[.tmp 2]) mixed Tryz.func110 M8 rfl rfl rfl (r:=[.bool _]) (nlZ rfl) ?_
  simp only [RP.nodes,sD] at hr ⊢
  have h104:=t104 f hnm.1
  repeat' ((conv=>whnf);first|refine rp _ (h104) ?_|refine nT_ ?_|refine aS ?_|fail)
  refine rh (β:=Unit) (fun _=>{sl:=[(1,.ptr 1 0),(3,.t (.bool (sN f))),(4,.t (.bool (tO n)))],bx:=[(1,.d 5 (sb (.mk k f n m l)))]}) (fun _=>True) ?_ ?_
  ·repeat' ((conv=>whnf);first|refine nT_ ?_|refine nD_ (fun hq=>?_) (fun hq=>?_)|refine aS ?_|fail)
   all_goals refine ⟨(),trivial,?_⟩
   all_goals unfold tO
   all_goals repeat' (first|exact trivial|exact LeV.same _|exact LeB.same _|exact rfl|exact fun _ _ _=>trivial|exact lB|refine And.intro ?_ ?_)
  rintro _ _
  skip
  refine rh (β:=Unit) (fun _=>{sl:=[(1,.ptr 1 0),(3,.t (.bool (sN f))),(4,.t (.bool (tO n))),(5,.t (.bool (vp f n m)))],bx:=[(1,.d 5 (sb (.mk k f n m l)))]}) (fun _=>True) ?_ ?_
  ·unfold vp
   have h2:=su f e0
   generalize sa f e0=b at *
   repeat' ((conv=>whnf);first|refine nb_ b h2 ?_|(exact ⟨(),trivial,by (repeat' (first|exact trivial|exact LeV.same _|exact LeB.same _|exact rfl|exact fun _ _ _=>trivial|exact lB|refine And.intro ?_ ?_));done⟩)|refine nT_ ?_|refine nE_ (fun hq=>?_) (fun hq=>?_)|refine aS ?_|(cases b)|fail)
  rintro _ _
  repeat' ((conv=>whnf);first|refine nT_ ?_|refine aS ?_|fail)
  refine rh (β:=Unit) (fun _=>{sl:=[(1,.ptr 1 0),(6,.t (I (xI k))),(7,.t (.bool (okP k f n m)))],bx:=[(1,.d 5 (sb (.mk k f n m l)))]}) (fun _=>True) ?_ ?_
  ·have h2:=su f e0
   unfold okP xI
   generalize sN f=a at *
   generalize tO n=b at *
   generalize vp f n m=c at *
   generalize sa f e0=d at *
   repeat' ((conv=>whnf);first|refine nb_ d h2 ?_|(exact ⟨(),trivial,by (repeat' (first|exact trivial|exact LeV.same _|exact LeB.same _|exact rfl|exact fun _ _ _=>trivial|exact lI|exact lB|refine And.intro ?_ ?_));done⟩)|refine nT_ ?_|refine nE_ (fun hq=>?_) (fun hq=>?_)|refine nD_ (fun hq=>?_) (fun hq=>?_)|refine aS ?_|(cases a)|(cases b)|(cases d)|fail)
  rintro _ _
  generalize okP k f n m=ok at *
  cases ok with
  |false=>repeat' ((conv=>whnf);first|exact trivial|refine rb0 ?_|fail)
  |true=>
  by_cases hlen:l.length=xI k
  ·have e:(true&&(l.length==xI k)&&tf l)=tf l:=by simp [hlen]
   rw [e, ←hlen]
   have hnp:=tS l
   repeat' ((conv=>whnf);first|refine nT_ ?_|refine aN0 ?_|refine aS ?_|fail)
   refine q7 (α:=Nat) (fun i=>{sl:=[(1,.ptr 1 0),(6,.t (I l.length)),(8,.t (I i))],bx:=[(1,.d 5 (sb (.mk k f n m l)))]})
    (fun i=>i≤l.length∧ ∀j (h:j<l.length),j<i→sD l[j]=true) (fun i=>l.length - i) 0 (by simp) ?_ ?_
   ·repeat' (first|exact trivial|exact LeV.same _|exact LeB.same _|exact rfl|exact fun _ _ _=>trivial|refine And.intro ?_ ?_)
   rintro i ⟨hi,hp⟩
   rcases Nat.lt_or_ge i l.length with h|h
   ·have hn:=tF h
    have hm:=tE (l:=l) (j:=i+1)
    have hc:=ih l[i] (by omega) (by omega) (xo hnm.2 i h)
    cases hb:sD l[i] with
    |true=>
     rw [hb] at hc
     repeat' ((conv=>whnf);first|(refine nv_ (.agg (sb l[i])) (by first|(simp [h,si];done)|fail) ?_)|refine rp _ (hc) ?_|refine nT_ ?_|refine aD1 ?_|(refine And.intro (by first|exact sr _|fail) ?_)|refine aS ?_|fail)
     refine ⟨i+1,⟨h,fun j hj hlt=>?_⟩,by omega,?_⟩
     ·rcases Nat.lt_or_ge j i with h4|h4
      ·exact hp j hj h4
      ·obtain rfl:j=i:=by omega
       exact hb
     ·repeat' (first|exact trivial|exact LeV.same _|exact LeB.same _|exact rfl|exact fun _ _ _=>trivial|exact lI|refine And.intro ?_ ?_)
    |false=>
     rw [hb] at hc
     have e2:tf l=false:=by
      cases hx:tf l with
      |false=>rfl
      |true=>rw [wV.1 hx i h] at hb;cases hb
     rw [e2]
     repeat' ((conv=>whnf);first|exact trivial|(refine nv_ (.agg (sb l[i])) (by first|(simp [h,si];done)|fail) ?_)|refine rp _ (hc) ?_|refine nT_ ?_|refine aD1 ?_|refine rb0 ?_|(refine And.intro (by first|exact sr _|fail) ?_)|refine aS ?_|fail)
   ·have e2:tf l=true:=wV.2 fun j hj=>hp j hj (by omega)
    rw [e2]
    repeat' ((conv=>whnf);first|exact trivial|refine aD0 ?_|refine rb1 ?_|refine aS ?_|fail)
  ·have e:(true&&(l.length==xI k)&&tf l)=false:=by simp [hlen]
   rw [e]
   repeat' ((conv=>whnf);first|exact trivial|refine nT_ ?_|refine aN1 ?_|refine rb0 ?_|refine aS ?_|fail)
end Go.MM
end
section
namespace Go.MM
open Go Go.DL Go.Proofs
mutual
def RO.wt:RO→Nat
 |.mk _ p _ _ a=>1+p.nodes+th a
def th:List RO→Nat
 |[]=>0
 |r::rs=>r.wt+th rs
end
mutual
def RO.size:RO→Nat
 |.mk k p _ _ a=>1+(if k=1 then p.nodes else 0)+tk a
def tk:List RO→Nat
 |[]=>0
 |r::rs=>r.size+tk rs
end
mutual
def RO.deep:RO→Nat
 |.mk k p _ _ a=>1+max (if k=1 then p.depth else 0) (tj a)
def tj:List RO→Nat
 |[]=>0
 |r::rs=>max r.deep (tj rs)
end
mutual
theorem RO.size_le: ∀r:RO,r.size≤r.wt
 |.mk k p _ _ a=>by have:=uq a;simp only [RO.size,RO.wt];split <;> omega
theorem uq: ∀l:List RO,tk l≤th l
 |[]=>Nat.le_refl _
 |r::rs=>by have:=RO.size_le r;have:=uq rs;simp only [tk,th];omega
end
mutual
theorem RO.yz: ∀r:RO,r.deep≤r.wt
 |.mk k p _ _ a=>by have:=u7 a;have:=p.vG;simp only [RO.deep,RO.wt];split <;> omega
theorem u7: ∀l:List RO,tj l≤th l
 |[]=>Nat.le_refl _
 |r::rs=>by have:=RO.yz r;have:=u7 rs;simp only [tj,th];omega
end
theorem uh: ∀{l:List RO} {j:Nat} (h:j<l.length),th (l.take (j+1))=th (l.take j)+l[j].wt
 |r::rs,0,h=>by simp [th]
 |r::rs,j+1,h=>by
  have:=uh (l:=rs) (j:=j) (by simpa using h)
  simp only [List.take_succ_cons,th,List.getElem_cons_succ]
  omega
theorem wm: ∀{l:List RO} {j:Nat} (h:j<l.length),tk (l.take (j+1))=tk (l.take j)+l[j].size
 |r::rs,0,h=>by simp [tk]
 |r::rs,j+1,h=>by
  have:=wm (l:=rs) (j:=j) (by simpa using h)
  simp only [List.take_succ_cons,tk,List.getElem_cons_succ]
  omega
theorem vU: ∀{l:List RO} {j:Nat} (h:j<l.length),tj (l.take (j+1))=max (tj (l.take j)) l[j].deep
 |r::rs,0,h=>by simp [tj]
 |r::rs,j+1,h=>by
  have:=vU (l:=rs) (j:=j) (by simpa using h)
  simp only [List.take_succ_cons,tj,List.getElem_cons_succ]
  omega
theorem tT: ∀{l:List RO} {j:Nat},th (l.take j)≤th l
 |[],j=>by simp
 |r::rs,0=>by simp [th]
 |r::rs,j+1=>by
  have:=tT (l:=rs) (j:=j)
  simp only [List.take_succ_cons,th]
  omega
theorem RO.wC (r:RO):1≤r.wt:=by cases r;simp only [RO.wt];omega
theorem uL: ∀l:List RO,l.length≤th l
 |[]=>Nat.le_refl _
 |r::rs=>by have:=uL rs;have:=r.wC;simp only [th,List.length_cons];omega
theorem two {a b c d:Nat} (h1:a=c) (h2:b=d):[I (a:Int),I (b:Int)]=[I (c:Int),I (d:Int)]:=by rw [h1,h2]
theorem t89 (N:Nat): ∀r:RO,r.wt≤N→N<2^60→DCalls Tryz.prog 34 [.agg (r9 r)] (sz r.size r.deep):=by
 induction N with
 |zero=>intro r h;have:=r.wC;omega
 |succ N ih=>
  rintro ⟨k,⟨pk,pf,pn,pm,pa⟩,f,n,l⟩ hr hN
  refine qF (rs:=[.cell 2 51]) mixed Tryz.func34 l34 rfl rfl rfl (r:=[sz _ _]) (nlZ rfl) ?_
  simp only [RO.size,RO.deep,RO.wt] at hr ⊢
  have h103:=t103 _ (.mk pk pf pn pm pa) (Nat.le_refl _) (by omega)
  have hpd:=(RP.mk pk pf pn pm pa).vG
  have hlen:=uL l
  by_cases hk:k=1
  ·simp only [hk,if_true]
   repeat' ((conv=>whnf);first|refine rp _ (h103) ?_|refine rp _ (t102 1 1 _ _ (by omega) (by omega) (by omega)) ?_|refine nT_ ?_|refine aE1 ?_|refine aS ?_|fail)
   refine q7 (α:=Nat) (fun i=>{sl:=[(1,.ptr 1 0),(2,.ptr 2 0),(3,.ptr 3 0),(4,.t (I i))],bx:=[(1,.d 9 (r9 (.mk 1 (.mk pk pf pn pm pa) f n l))),(2,.d 2 [I 0,I 0]),(3,.d 2 [I (1+(RP.mk pk pf pn pm pa).nodes+tk (l.take i):Nat),I (1+max (RP.mk pk pf pn pm pa).depth (tj (l.take i)):Nat)])]})
    (fun i=>i≤l.length) (fun i=>l.length - i) 0 (by omega) ?_ ?_
   ·repeat' (first|exact trivial|exact LeV.same _|exact LeB.same _|exact rfl|exact fun _ _ _=>trivial|refine r7 ?_|refine And.intro ?_ ?_)
    all_goals exact two (by simp [tk]) (by simp [tj];try omega)
   rintro i hi
   rcases Nat.lt_or_ge i l.length with h|h
   ·have hn:=wm h
    have hd:=vU h
    have hw:=uh h
    have hm:=tT (l:=l) (j:=i+1)
    have hp:=l[i].wC
    have h1:=l[i].size_le
    have h2:=l[i].yz
    have h3:=u7 (l.take i)
    have h4:=uq (l.take i)
    repeat' ((conv=>whnf);first|(refine nv_ (.agg (r9 l[i])) (by first|(simp [h,sy];done)|fail) ?_)|refine rp _ (ih l[i] (by omega) (by omega)) ?_|refine rp _ (t102 _ _ _ _ (by omega) (by omega) (by omega)) ?_|refine nT_ ?_|refine aD1 ?_|(refine And.intro (by first|exact sd _|fail) ?_)|refine aS ?_|fail)
    refine ⟨i+1,by omega,by omega,?_⟩
    repeat' (first|exact trivial|exact LeV.same _|exact LeB.same _|exact rfl|exact fun _ _ _=>trivial|exact lI|refine r7 ?_|refine And.intro ?_ ?_)
    exact two (by omega) (by omega)
   ·have:i=l.length:=by omega
    subst this
    rw [List.take_length]
    repeat' ((conv=>whnf);first|exact trivial|refine nT_ ?_|refine aD0 ?_|refine aS ?_|fail)
  ·simp only [hk,if_false]
   repeat' ((conv=>whnf);first|refine nT_ ?_|refine aE0 ?_|refine aS ?_|fail)
   refine q7 (α:=Nat) (fun i=>{sl:=[(1,.ptr 1 0),(2,.ptr 2 0),(3,.ptr 3 0),(4,.t (I i))],bx:=[(1,.d 9 (r9 (.mk k (.mk pk pf pn pm pa) f n l))),(2,.d 2 [I 0,I 0]),(3,.d 2 [I (1+0+tk (l.take i):Nat),I (1+max 0 (tj (l.take i)):Nat)])]})
    (fun i=>i≤l.length) (fun i=>l.length - i) 0 (by omega) ?_ ?_
   ·repeat' (first|exact trivial|exact LeV.same _|exact LeB.same _|exact rfl|exact fun _ _ _=>trivial|refine And.intro ?_ ?_)
    all_goals exact two (by simp [tk]) (by simp [tj];try omega)
   rintro i hi
   rcases Nat.lt_or_ge i l.length with h|h
   ·have hn:=wm h
    have hd:=vU h
    have hw:=uh h
    have hm:=tT (l:=l) (j:=i+1)
    have hp:=l[i].wC
    have h1:=l[i].size_le
    have h2:=l[i].yz
    have h3:=u7 (l.take i)
    have h4:=uq (l.take i)
    repeat' ((conv=>whnf);first|(refine nv_ (.agg (r9 l[i])) (by first|(simp [h,sy];done)|fail) ?_)|refine rp _ (ih l[i] (by omega) (by omega)) ?_|refine rp _ (t102 _ _ _ _ (by omega) (by omega) (by omega)) ?_|refine nT_ ?_|refine aD1 ?_|(refine And.intro (by first|exact sd _|fail) ?_)|refine aS ?_|fail)
    refine ⟨i+1,by omega,by omega,?_⟩
    repeat' (first|exact trivial|exact LeV.same _|exact LeB.same _|exact rfl|exact fun _ _ _=>trivial|exact lI|refine r7 ?_|refine And.intro ?_ ?_)
    exact two (by omega) (by omega)
   ·have:i=l.length:=by omega
    subst this
    rw [List.take_length]
    repeat' ((conv=>whnf);first|exact trivial|refine nT_ ?_|refine aD0 ?_|refine aS ?_|fail)
def vl (n d:Nat):Int:=if n≤200∧d≤20 then 0 else 2
theorem t101 (n d:Nat):DCalls Tryz.prog 128 [sz n d] (I (vl n d)):=by
 refine qF (rs:=[.tmp 2]) mixed Tryz.func128 Nr rfl rfl rfl (r:=[.int _ _]) (nlZ rfl) ?_
 unfold vl
 by_cases h1:n≤200
 ·by_cases h2:d≤20
  ·rw [if_pos ⟨h1,h2⟩];repeat' ((conv=>whnf);first|exact trivial|refine nT_ ?_|refine aD0 ?_|refine rix ?_|refine aS ?_|fail)
  ·rw [if_neg (by omega)];repeat' ((conv=>whnf);first|exact trivial|refine nT_ ?_|refine aD1 ?_|refine aD0 ?_|refine rix ?_|refine aS ?_|fail)
 ·rw [if_neg (by omega)];repeat' ((conv=>whnf);first|exact trivial|refine nT_ ?_|refine aD1 ?_|refine rix ?_|refine aS ?_|fail)
def wK (e:Int) (b:Bool):Int:=if e=0 then (if b then 0 else 1) else e
theorem t88 (n d:Nat) (b:Bool):DCalls Tryz.prog 84 [sz n d,.bool b] (I (wK (vl n d) b)):=by
 refine qF (rs:=[.tmp 4]) mixed Tryz.func84 l84 rfl rfl rfl (r:=[.int _ _]) (nlZ rfl) ?_
 have h:=t101 n d
 generalize vl n d=e at *
 unfold wK
 by_cases h0:e=0
 ·subst h0
  cases b <;> repeat' ((conv=>whnf);first|exact trivial|refine rp _ (h) ?_|refine aE1 ?_|refine rix ?_|refine aS ?_|fail)
 ·rw [if_neg h0]
  repeat' ((conv=>whnf);first|exact trivial|refine rp _ (h) ?_|refine aE0 ?_|refine rix ?_|refine aS ?_|fail)
def wG (k:Int):Nat:=if k=3∨k=4 then 2 else if k=5 then 1 else 0
def wa (f:ByteArray) (n:Int):Bool:=sa f e0&&(n==0)
def okO (k:Int) (p:RP) (f:ByteArray) (n:Int):Bool:=
 if k=1 then sD p&&wa f n
 else if k=2 then sN f&&tQ p&&decide (0≤n)&&decide (n≤65535)
 else if k=3∨k=4∨k=5 then tQ p&&wa f n
 else false
mutual
def sC:RO→Bool
 |.mk k p f n a=>okO k p f n&&(a.length==wG k)&&s7 a
def s7:List RO→Bool
 |[]=>true
 |r::rs=>sC r&&s7 rs
end
theorem wU: ∀{l:List RO},s7 l=true↔ ∀(i:Nat) (h:i<l.length),sC l[i]=true
 |[]=>by simp [s7]
 |r::rs=>by
  simp only [s7,Bool.and_eq_true,wU (l:=rs)]
  constructor
  ·rintro ⟨h0,h⟩ i hi
   cases i with
   |zero=>exact h0
   |succ i=>simpa using h i (by simpa using hi)
  ·intro h
   exact ⟨h 0 (by simp),fun i hi=>h (i+1) (by simpa using hi)⟩
mutual
def uj:RO→Prop
 |.mk _ p f _ a=>uI p∧f.size<2^62∧vJ a
def vJ:List RO→Prop
 |[]=>True
 |r::rs=>uj r∧vJ rs
end
theorem xj: ∀{l:List RO},vJ l→ ∀(i:Nat) (h:i<l.length),uj l[i]
 |[],_,i,h=>by simp at h
 |r::rs,h,i,hi=>by
  cases i with
  |zero=>exact h.1
  |succ i=>simpa using xj h.2 i (by simpa using hi)
theorem t90 (N:Nat): ∀r:RO,r.wt≤N→N<2^60→uj r→DCalls Tryz.prog 85 [.agg (r9 r)] (.bool (sC r)):=by
 induction N with
 |zero=>intro r h;have:=r.wC;omega
 |succ N ih=>
  rintro ⟨k,⟨pk,pf,pn,pm,pa⟩,f,n,l⟩ hr hN ⟨hn1,hn2,hn3⟩
  refine qF (rs:=[.tmp 2]) mixed Tryz.func85 l85 rfl rfl rfl (r:=[.bool _]) (nlZ rfl) ?_
  simp only [RO.wt,sC] at hr ⊢
  have h104:=t104 f hn2
  have h105:=t105 (.mk pk pf pn pm pa)
  have h106:=t106 _ (.mk pk pf pn pm pa) (Nat.le_refl _) (by omega) hn1
  repeat' ((conv=>whnf);first|refine rp _ (h104) ?_|refine rp _ (h105) ?_|refine nT_ ?_|refine aS ?_|fail)
  refine rh (β:=Unit) (fun _=>{sl:=[(1,.ptr 1 0),(3,.t (.bool (sN f))),(4,.t (.bool (tQ (.mk pk pf pn pm pa)))),(5,.t (.bool (wa f n)))],bx:=[(1,.d 9 (r9 (.mk k (.mk pk pf pn pm pa) f n l)))]}) (fun _=>True) ?_ ?_
  ·unfold wa
   have h2:=su f e0
   generalize sa f e0=b at *
   repeat' ((conv=>whnf);first|refine nb_ b h2 ?_|(exact ⟨(),trivial,by (repeat' (first|exact trivial|exact LeV.same _|exact LeB.same _|exact rfl|exact fun _ _ _=>trivial|exact lB|refine And.intro ?_ ?_));done⟩)|refine nT_ ?_|refine nE_ (fun hq=>?_) (fun hq=>?_)|refine aS ?_|(cases b)|fail)
  rintro _ _
  repeat' ((conv=>whnf);first|refine nT_ ?_|refine aS ?_|fail)
  refine rh (β:=Unit) (fun _=>{sl:=[(1,.ptr 1 0),(6,.t (I (wG k))),(7,.t (.bool (okO k (.mk pk pf pn pm pa) f n)))],bx:=[(1,.d 9 (r9 (.mk k (.mk pk pf pn pm pa) f n l)))]}) (fun _=>True) ?_ ?_
  ·unfold okO wG
   generalize sN f=a at *
   generalize sD (.mk pk pf pn pm pa)=b at *
   generalize wa f n=c at *
   generalize tQ (.mk pk pf pn pm pa)=d at *
   repeat' ((conv=>whnf);first|refine rp _ (h106) ?_|(exact ⟨(),trivial,by (repeat' (first|exact trivial|exact LeV.same _|exact LeB.same _|exact rfl|exact fun _ _ _=>trivial|exact lI|exact lB|refine And.intro ?_ ?_));done⟩)|refine nT_ ?_|refine nE_ (fun hq=>?_) (fun hq=>?_)|refine nD_ (fun hq=>?_) (fun hq=>?_)|refine aS ?_|(cases a)|(cases b)|(cases d)|fail)
  rintro _ _
  generalize okO k (.mk pk pf pn pm pa) f n=ok at *
  cases ok with
  |false=>repeat' ((conv=>whnf);first|exact trivial|refine rb0 ?_|fail)
  |true=>
  by_cases hlen:l.length=wG k
  ·have e:(true&&(l.length==wG k)&&s7 l)=s7 l:=by simp [hlen]
   rw [e, ←hlen]
   have hnp:=uL l
   repeat' ((conv=>whnf);first|refine nT_ ?_|refine aN0 ?_|refine aS ?_|fail)
   refine q7 (α:=Nat) (fun i=>{sl:=[(1,.ptr 1 0),(6,.t (I l.length)),(8,.t (I i))],bx:=[(1,.d 9 (r9 (.mk k (.mk pk pf pn pm pa) f n l)))]})
    (fun i=>i≤l.length∧ ∀j (h:j<l.length),j<i→sC l[j]=true) (fun i=>l.length - i) 0 (by simp) ?_ ?_
   ·repeat' (first|exact trivial|exact LeV.same _|exact LeB.same _|exact rfl|exact fun _ _ _=>trivial|refine And.intro ?_ ?_)
   rintro i ⟨hi,hp⟩
   rcases Nat.lt_or_ge i l.length with h|h
   ·have hn:=uh h
    have hm:=tT (l:=l) (j:=i+1)
    have hc:=ih l[i] (by omega) (by omega) (xj hn3 i h)
    cases hb:sC l[i] with
    |true=>
     rw [hb] at hc
     repeat' ((conv=>whnf);first|(refine nv_ (.agg (r9 l[i])) (by first|(simp [h,sy];done)|fail) ?_)|refine rp _ (hc) ?_|refine nT_ ?_|refine aD1 ?_|(refine And.intro (by first|exact sd _|fail) ?_)|refine aS ?_|fail)
     refine ⟨i+1,⟨h,fun j hj hlt=>?_⟩,by omega,?_⟩
     ·rcases Nat.lt_or_ge j i with h4|h4
      ·exact hp j hj h4
      ·obtain rfl:j=i:=by omega
       exact hb
     ·repeat' (first|exact trivial|exact LeV.same _|exact LeB.same _|exact rfl|exact fun _ _ _=>trivial|exact lI|refine And.intro ?_ ?_)
    |false=>
     rw [hb] at hc
     have e2:s7 l=false:=by
      cases hx:s7 l with
      |false=>rfl
      |true=>rw [wU.1 hx i h] at hb;cases hb
     rw [e2]
     repeat' ((conv=>whnf);first|exact trivial|(refine nv_ (.agg (r9 l[i])) (by first|(simp [h,sy];done)|fail) ?_)|refine rp _ (hc) ?_|refine nT_ ?_|refine aD1 ?_|refine rb0 ?_|(refine And.intro (by first|exact sd _|fail) ?_)|refine aS ?_|fail)
   ·have e2:s7 l=true:=wU.2 fun j hj=>hp j hj (by omega)
    rw [e2]
    repeat' ((conv=>whnf);first|exact trivial|refine aD0 ?_|refine rb1 ?_|refine aS ?_|fail)
  ·have e:(true&&(l.length==wG k)&&s7 l)=false:=by simp [hlen]
   rw [e]
   repeat' ((conv=>whnf);first|exact trivial|refine nT_ ?_|refine aN1 ?_|refine rb0 ?_|refine aS ?_|fail)
def sO (r:RO):Int:=wK (vl r.size r.deep) (sC r)
theorem t63 (r:RO) (hr:r.wt<2^60) (hn:uj r):DCalls Tryz.prog 21 [.agg (r9 r)] (I (sO r)):=by
 refine qF (rs:=[.tmp 2]) mixed Tryz.func21 l21 rfl rfl rfl (r:=[.int _ _]) (nlZ rfl) ?_
 have h1:=t89 _ r (Nat.le_refl _) hr
 have h2:=t90 _ r (Nat.le_refl _) hr hn
 have h3:=t88 r.size r.deep (sC r)
 have hl:=sd r
 unfold sO
 repeat' ((conv=>whnf);first|exact trivial|refine rp _ (h1) ?_|refine rp _ (h2) ?_|refine rp _ (h3) ?_|refine rix ?_|refine aS ?_|fail)
end Go.MM
end
section
namespace Go.MM
open Go Go.DL Go.Proofs
structure RF where
 name:ByteArray
 a:Int
 w:Int
deriving Inhabited
def tP (f:RF):List T:=[.str f.name,I f.a,I f.w]
def ur (f:RF):T:=.agg (tP f)
def vW (l:List RF):T:=.slice 3 (l.map ur)
def at8 (s:ByteArray) (i:Nat):Bool:=tM (tD s i)||((uF (tD s i)||tD s i==95)&& !(i==0))
def AX (s:ByteArray):Bool:=(List.range s.size).all fun i=>at8 s i
def v8 (s:ByteArray):Bool:=AX s&&(decide (1≤s.size)&&decide (s.size≤24))
theorem t69 (s:ByteArray) (hs:s.size<2^62):DCalls Tryz.prog 64 [.str s] (.bool (v8 s)):=by
 refine qF (rs:=[.tmp 2]) mixed Tryz.func64 l64 rfl rfl rfl (r:=[.bool _]) (nlZ rfl) ?_
 skip
 refine q7 (α:=Nat) (fun i=>{sl:=[(0,.t (.str s)),(3,.t (I i))],bx:=[]})
  (fun i=>i≤s.size∧ ∀j,j<i→at8 s j=true) (fun i=>s.size - i) 0 (by simp) ?_ ?_
 ·repeat' (first|exact trivial|exact LeV.same _|exact rfl|exact fun _ _ _=>trivial|refine And.intro ?_ ?_)
 rintro i ⟨hi,hp⟩
 rcases Nat.lt_or_ge i s.size with h|h
 ·have good:at8 s i=true→i+1≤s.size∧ ∀j,j<i+1→at8 s j=true:=fun hb=>by
   refine ⟨h,fun j hj=>?_⟩
   rcases Nat.lt_or_ge j i with h4|h4
   ·exact hp j h4
   ·obtain rfl:j=i:=by omega
    exact hb
  have bad:at8 s i=false→v8 s=false:=fun hb=>by
   unfold v8
   have:AX s=false:=by
    unfold AX
    rw [List.all_eq_false]
    exact ⟨i,by simpa using h,by simp [hb]⟩
   rw [this];rfl
  have bad':at8 s i=false→false=v8 s:=fun hb=>(bad hb).symm
  clear bad
  rw [show at8 s i=(tM (tD s i)||((uF (tD s i)||tD s i==95)&& !(i==0))) from rfl] at good bad'
  have hc:((s.toList[i]?.getD 0).toNat:Int)=tD s i:=rfl
  generalize v8 s=N at *
  generalize tD s i=c at *
  repeat' ((conv=>whnf);first|(refine nv_ (U c) (by first|exact congrArg U hc|fail) ?_)|(exact rb (x:=false) (bad' (by simp [tM,uF];omega)) trivial)|(exact ⟨i+1,good (by simp [tM,uF];omega),by omega,by (repeat' (first|exact trivial|exact LeV.same _|exact rfl|exact fun _ _ _=>trivial|exact lI|refine And.intro ?_ ?_));done⟩)|refine aE0 ?_|refine aD1 ?_|refine aD0 ?_|refine nE_ (fun hq=>?_) (fun hq=>?_)|refine nD_ (fun hq=>?_) (fun hq=>?_)|refine aS ?_|fail)
 ·have e:AX s=true:=by
   unfold AX
   rw [List.all_eq_true]
   intro j hj
   exact hp j (by simp at hj;omega)
  unfold v8
  rw [e]
  repeat' ((conv=>whnf);first|exact trivial|refine aD0 ?_|refine nD_ (fun hq=>?_) (fun hq=>?_)|refine rb1 ?_|refine rb0 ?_|refine aS ?_|fail)
def uS (f:RF):Bool:=decide (1≤f.w)&&decide (f.w≤16)&&decide (16≤f.a)&&decide (f.a≤143)&&decide (f.a % 16+f.w≤16)
theorem Je {a:Int} (h:0≤a):a.tmod 16=a % 16:=Int.tmod_eq_emod_of_nonneg h
theorem t70 (f:RF):DCalls Tryz.prog 65 [ur f] (.bool (uS f)):=by
 obtain ⟨s,a,w⟩:=f
 refine qF (rs:=[.tmp 2]) mixed Tryz.func65 l65 rfl rfl rfl (r:=[.bool _]) (nlZ rfl) ?_
 simp only [uS]
 by_cases h16:16≤a
 ·have e:=Je (a:=a) (by omega)
  by_cases h1:1≤w
  ·by_cases h2:w≤16
   ·by_cases h3:a≤143
    ·have e2:IntKind.wrap .i64 (a.tmod 16+w)=a % 16+w:=by rw [e,mu] <;> omega
     have e3:(decide (1≤w)&&decide (w≤16)&&decide (16≤a)&&decide (a≤143)&&decide (a % 16+w≤16))=decide (a % 16+w≤16):=by simp [h16,h1,h2,h3]
     rw [e3]
     by_cases h4:a % 16+w≤16
     ·repeat' ((conv=>whnf);first|exact trivial|(refine qg (by rw [e2];exact h4) ?_)|refine nT_ ?_|refine aD1 ?_|refine rb1 ?_|refine aS ?_|fail)
     ·repeat' ((conv=>whnf);first|exact trivial|(refine qe (by rw [e2];exact h4) ?_)|refine nT_ ?_|refine aD1 ?_|refine rb0 ?_|refine aS ?_|fail)
    ·repeat' ((conv=>whnf);first|exact trivial|refine nT_ ?_|refine aD1 ?_|refine aD0 ?_|refine rb0 ?_|refine aS ?_|fail)
   ·repeat' ((conv=>whnf);first|exact trivial|refine nT_ ?_|refine aD1 ?_|refine aD0 ?_|refine rb0 ?_|refine aS ?_|fail)
  ·repeat' ((conv=>whnf);first|exact trivial|refine nT_ ?_|refine aD0 ?_|refine rb0 ?_|refine aS ?_|fail)
 ·repeat' ((conv=>whnf);first|exact trivial|refine nT_ ?_|refine aD0 ?_|refine nD_ (fun hq=>?_) (fun hq=>?_)|refine rb0 ?_|refine aS ?_|fail)
def xE (f:RF):Prop:= -1000≤f.a∧f.a≤1000∧ -1000≤f.w∧f.w≤1000
def uM (f g:RF):Bool:=decide (f.a<g.a+g.w)&&decide (g.a<f.a+f.w)
theorem t71 (f g:RF) (hf:xE f) (hg:xE g):DCalls Tryz.prog 66 [ur f,ur g] (.bool (uM f g)):=by
 obtain ⟨s,a,w⟩:=f
 obtain ⟨s',b,v⟩:=g
 simp only [xE] at hf hg
 refine qF (rs:=[.tmp 4]) mixed Tryz.func66 l66 rfl rfl rfl (r:=[.bool _]) (nlZ rfl) ?_
 simp only [uM]
 have e1:IntKind.wrap .i64 (b+v)=b+v:=mu (by omega) (by omega)
 have e2:IntKind.wrap .i64 (a+w)=a+w:=mu (by omega) (by omega)
 by_cases h1:a<b+v
 ·by_cases h2:b<a+w
  ·repeat' ((conv=>whnf);first|exact trivial|(refine qg (by rw [e1];exact h1) ?_)|(refine qg (by rw [e2];exact h2) ?_)|refine nT_ ?_|refine rb1 ?_|refine aS ?_|fail)
  ·repeat' ((conv=>whnf);first|exact trivial|(refine qg (by rw [e1];exact h1) ?_)|(refine qe (by rw [e2];exact h2) ?_)|refine nT_ ?_|refine rb0 ?_|refine aS ?_|fail)
 ·repeat' ((conv=>whnf);first|exact trivial|(refine qe (by rw [e1];exact h1) ?_)|refine nT_ ?_|refine rb0 ?_|refine aS ?_|fail)
def tB (l:List RF) (i:Nat) (f:RF):Int:=
 if v8 f.name=false∨sa f.name sZ=true then 4
 else if ((l.take i).any fun g=>sa g.name f.name)=true then 4
 else if uS f=false then 1
 else if ((l.take i).any fun g=>uM g f)=true then 1 else 0
def sG:List Int→Int
 |[]=>0
 |x::xs=>if x≠0 then x else sG xs
theorem vf: ∀{l:List Int} {i:Nat} (h:i<l.length),(∀ j (hj:j<l.length),j<i→l[j]=0)→l[i]≠0→sG l=l[i]
 |x::xs,0,h,_,h0=>by simp at h0;simp [sG,h0]
 |x::xs,i+1,h,hz,h0=>by
  have hx:x=0:=hz 0 (by simp) (by omega)
  simp only [sG,hx,ne_eq,not_true_eq_false,if_false]
  exact vf (by simpa using h) (fun j hj hlt=>hz (j+1) (by simpa using hj) (by omega)) (by simpa using h0)
theorem wx: ∀{l:List Int},(∀ j (hj:j<l.length),l[j]=0)→sG l=0
 |[],_=>rfl
 |x::xs,hz=>by
  have hx:x=0:=hz 0 (by simp)
  simp only [sG,hx,ne_eq,not_true_eq_false,if_false]
  exact wx fun j hj=>hz (j+1) (by simpa using hj)
def wO (l:List RF):Int:=if l.length>16 then 2 else sG (l.mapIdx fun i f=>tB l i f)
theorem yg {f:RF} (h:uS f=true):xE f:=by
 simp [uS] at h
 unfold xE;omega
theorem vC {p:RF→Bool} {l:List RF} {i:Nat} (hi:i≤l.length):((l.take i).any p=true)↔ ∃j, ∃h:j<l.length,j<i∧p l[j]=true:=by
 rw [List.any_eq_true]
 constructor
 ·rintro ⟨x,hx,hp⟩
  obtain ⟨j,hj,rfl⟩:=List.getElem_of_mem hx
  simp at hj
  exact ⟨j,by omega,by omega,by simpa using hp⟩
 ·rintro ⟨j,h,hji,hp⟩
  exact ⟨l[j],List.mem_take_iff_getElem.2 ⟨j,by omega,rfl⟩,hp⟩
theorem t47 (l:List RF) (hl:l.length<2^60) (hn: ∀f∈l,f.name.size<2^62):DCalls Tryz.prog 11 [vW l] (I (wO l)):=by
 refine qF (rs:=[.tmp 2]) mixed Tryz.func11 l11 rfl rfl rfl (r:=[.int _ _]) (nlZ rfl) ?_
 unfold wO
 by_cases h16:l.length>16
 ·rw [if_pos h16];repeat' ((conv=>whnf);first|exact trivial|refine aD1 ?_|refine rix ?_|refine aS ?_|fail)
 rw [if_neg h16]
 repeat' ((conv=>whnf);first|refine aD0 ?_|refine aS ?_|fail)
 refine q7 (α:=Nat) (fun i=>{sl:=[(0,.t (vW l)),(3,.t (I i))],bx:=[]})
  (fun i=>i≤l.length∧ ∀j (h:j<l.length),j<i→tB l j l[j]=0) (fun i=>l.length - i) 0 (by simp) ?_ ?_
 ·repeat' (first|exact trivial|exact LeV.same _|exact rfl|exact fun _ _ _=>trivial|refine And.intro ?_ ?_)
 rintro i ⟨hi,hp⟩
 rcases Nat.lt_or_ge i l.length with h|h
 ·have res: ∀e,tB l i l[i]=e→e≠0→sG (l.mapIdx fun i f=>tB l i f)=e:=fun e he h0=>by
   have:=vf (l:=l.mapIdx fun i f=>tB l i f) (i:=i) (by simpa using h) (fun j hj hlt=>by simpa using hp j (by simpa using hj) hlt) (by simpa [he] using h0)
   rw [this];simpa using he
  have next:tB l i l[i]=0→i+1≤l.length∧ ∀j (h:j<l.length),j<i+1→tB l j l[j]=0:=fun h0=>by
   refine ⟨h,fun j hj hlt=>?_⟩
   rcases Nat.lt_or_ge j i with h4|h4
   ·exact hp j hj h4
   ·obtain rfl:j=i:=by omega
    exact h0
  have small: ∀k (hk:k<l.length),k<i→xE l[k]:=fun k hk hlt=>by
   have:=hp k hk hlt
   unfold tB at this
   split at this; ·omega
   split at this; ·omega
   split at this; ·omega
   rename_i h3
   exact yg (by simpa using h3)
  have c69:=t69 l[i].name (hn _ (List.getElem_mem h))
  have c70:=t70 l[i]
  have s1:=su l[i].name sZ
  cases hA:v8 l[i].name with
  |false=>
   rw [hA] at c69
   rw [res 4 (by unfold tB;simp [hA]) (by decide)]
   repeat' ((conv=>whnf);first|exact trivial|(refine nv_ (.agg (tP l[i])) (by first|(simp [h,ur];done)|fail) ?_)|refine rp _ (c69) ?_|refine nT_ ?_|refine aD1 ?_|refine rix ?_|refine aS ?_|fail)
  |true=>
  rw [hA] at c69
  cases hB:sa l[i].name sZ with
  |true=>
   rw [hB] at s1
   rw [res 4 (by unfold tB;simp [hB]) (by decide)]
   repeat' ((conv=>whnf);first|exact trivial|(refine nv_ (.agg (tP l[i])) (by first|(simp [h,ur];done)|fail) ?_)|refine rp _ (c69) ?_|refine nb_ true s1 ?_|refine nT_ ?_|refine aD1 ?_|refine rix ?_|refine aS ?_|fail)
  |false=>
  rw [hB] at s1
  repeat' ((conv=>whnf);first|(refine nv_ (.agg (tP l[i])) (by first|(simp [h,ur];done)|fail) ?_)|refine rp _ (c69) ?_|refine nb_ false s1 ?_|refine nT_ ?_|refine aD1 ?_|refine aS ?_|fail)
  refine q7 (α:=Nat) (fun k=>{sl:=[(0,.t (vW l)),(3,.t (I i)),(5,.t (I k))],bx:=[]})
   (fun k=>k≤i∧ ∀j (hj:j<l.length),j<k→sa l[j].name l[i].name=false) (fun k=>i - k) 0 (by simp) ?_ ?_
  ·repeat' (first|exact trivial|exact LeV.same _|exact rfl|exact fun _ _ _=>trivial|refine And.intro ?_ ?_)
  rintro k ⟨hk,hpk⟩
  rcases Nat.lt_or_ge k i with hki|hki
  ·have hkl:k<l.length:=by omega
   have s2:=su l[k].name l[i].name
   cases hC:sa l[k].name l[i].name with
   |true=>
    rw [hC] at s2
    rw [res 4 (by unfold tB;rw [if_neg (by simp [hA,hB]),if_pos ((vC (by omega)).2 ⟨k,hkl,hki,hC⟩)]) (by decide)]
    repeat' ((conv=>whnf);first|exact trivial|(refine nv_ (.agg (tP l[k])) (by first|(simp [hkl,ur];done)|fail) ?_)|(refine nv_ (.agg (tP l[i])) (by first|(simp [h,ur];done)|fail) ?_)|refine nb_ true s2 ?_|refine nT_ ?_|refine aD1 ?_|refine rix ?_|refine aS ?_|fail)
   |false=>
    rw [hC] at s2
    repeat' ((conv=>whnf);first|(refine nv_ (.agg (tP l[k])) (by first|(simp [hkl,ur];done)|fail) ?_)|(refine nv_ (.agg (tP l[i])) (by first|(simp [h,ur];done)|fail) ?_)|refine nb_ false s2 ?_|refine nT_ ?_|refine aD1 ?_|refine aS ?_|fail)
    refine ⟨k+1,⟨by omega,fun j hj hlt=>?_⟩,by omega,?_⟩
    ·rcases Nat.lt_or_ge j k with h4|h4
     ·exact hpk j hj h4
     ·obtain rfl:j=k:=by omega
      exact hC
    ·repeat' (first|exact trivial|exact LeV.same _|exact rfl|exact fun _ _ _=>trivial|exact lI|refine And.intro ?_ ?_)
  obtain rfl:k=i:=by omega
  have any1: ¬((l.take k).any fun g=>sa g.name l[k].name)=true:=fun hx=>by
   obtain ⟨j,hj,hji,hjp⟩:=(vC hi).1 hx
   rw [hpk j hj hji] at hjp;cases hjp
  cases hD:uS l[k] with
  |false=>
   rw [hD] at c70
   rw [res 1 (by unfold tB;rw [if_neg (by simp [hA,hB]),if_neg any1,if_pos hD]) (by decide)]
   repeat' ((conv=>whnf);first|exact trivial|(refine nv_ (.agg (tP l[k])) (by first|(simp [h,ur];done)|fail) ?_)|refine rp _ (c70) ?_|refine nT_ ?_|refine aD0 ?_|refine rix ?_|refine aS ?_|fail)
  |true=>
  rw [hD] at c70
  have smk:=yg hD
  repeat' ((conv=>whnf);first|(refine nv_ (.agg (tP l[k])) (by first|(simp [h,ur];done)|fail) ?_)|refine rp _ (c70) ?_|refine nT_ ?_|refine aD0 ?_|refine aS ?_|fail)
  refine q7 (α:=Nat) (fun m=>{sl:=[(0,.t (vW l)),(3,.t (I k)),(7,.t (I m))],bx:=[]})
   (fun m=>m≤k∧ ∀j (hj:j<l.length),j<m→uM l[j] l[k]=false) (fun m=>k - m) 0 (by simp) ?_ ?_
  ·repeat' (first|exact trivial|exact LeV.same _|exact rfl|exact fun _ _ _=>trivial|refine And.intro ?_ ?_)
  rintro m ⟨hm,hpm⟩
  rcases Nat.lt_or_ge m k with hmi|hmi
  ·have hml:m<l.length:=by omega
   have c71:=t71 l[m] l[k] (small m hml hmi) smk
   cases hC:uM l[m] l[k] with
   |true=>
    rw [hC] at c71
    rw [res 1 (by unfold tB;rw [if_neg (by simp [hA,hB]),if_neg any1,if_neg (by simp [hD]),if_pos ((vC (by omega)).2 ⟨m,hml,hmi,hC⟩)]) (by decide)]
    repeat' ((conv=>whnf);first|exact trivial|(refine nv_ (.agg (tP l[m])) (by first|(simp [hml,ur];done)|fail) ?_)|(refine nv_ (.agg (tP l[k])) (by first|(simp [h,ur];done)|fail) ?_)|refine rp _ (c71) ?_|refine nT_ ?_|refine aD1 ?_|refine rix ?_|refine aS ?_|fail)
   |false=>
    rw [hC] at c71
    repeat' ((conv=>whnf);first|(refine nv_ (.agg (tP l[m])) (by first|(simp [hml,ur];done)|fail) ?_)|(refine nv_ (.agg (tP l[k])) (by first|(simp [h,ur];done)|fail) ?_)|refine rp _ (c71) ?_|refine nT_ ?_|refine aD1 ?_|refine aS ?_|fail)
    refine ⟨m+1,⟨by omega,fun j hj hlt=>?_⟩,by omega,?_⟩
    ·rcases Nat.lt_or_ge j m with h4|h4
     ·exact hpm j hj h4
     ·obtain rfl:j=m:=by omega
      exact hC
    ·repeat' (first|exact trivial|exact LeV.same _|exact rfl|exact fun _ _ _=>trivial|exact lI|refine And.intro ?_ ?_)
  obtain rfl:m=k:=by omega
  have any2: ¬((l.take m).any fun g=>uM g l[m])=true:=fun hx=>by
   obtain ⟨j,hj,hji,hjp⟩:=(vC hi).1 hx
   rw [hpm j hj hji] at hjp;cases hjp
  have e0:tB l m l[m]=0:=by unfold tB;rw [if_neg (by simp [hA,hB]),if_neg any1,if_neg (by simp [hD]),if_neg any2]
  repeat' ((conv=>whnf);first|(exact ⟨m+1,next e0,by omega,by (repeat' (first|exact trivial|exact LeV.same _|exact rfl|exact fun _ _ _=>trivial|exact lI|refine And.intro ?_ ?_));done⟩)|refine aD0 ?_|refine aS ?_|fail)
 ·rw [wx fun j hj=>by simpa using hp j (by simpa using hj) (by simp at hj;omega)]
  repeat' ((conv=>whnf);first|exact trivial|refine aD0 ?_|refine rix ?_|refine aS ?_|fail)
end Go.MM
end
section
namespace Go.MM
open Go Go.DL Go.Proofs
mutual
def sP:RP→List RP
 |.mk k f n m a=>.mk k f n m a::sH a
def sH:List RP→List RP
 |[]=>[]
 |r::rs=>sP r++sH rs
end
mutual
theorem uw: ∀r:RP,(sP r).length=r.nodes
 |.mk k f n m a=>by simp only [sP,List.length_cons,xp a,RP.nodes];omega
theorem xp: ∀l:List RP,(sH l).length=sB l
 |[]=>rfl
 |r::rs=>by simp only [sH,List.length_append,uw r,xp rs,sB]
end
theorem yd: ∀{l:List RP} {j:Nat} (h:j<l.length),sH (l.take (j+1))=sH (l.take j)++sP l[j]
 |r::rs,0,h=>by simp [sH]
 |r::rs,j+1,h=>by
  have:=yd (l:=rs) (j:=j) (by simpa using h)
  simp only [List.take_succ_cons,sH,List.getElem_cons_succ,this,List.append_assoc]
theorem t91 (N:Nat): ∀r:RP,r.nodes≤N→N<2^40→DCalls Tryz.prog 111 [.agg (sb r)] (.slice 5 ((sP r).map sA)):=by
 induction N with
 |zero=>intro r h;have:=r.uc;omega
 |succ N ih=>
  rintro ⟨k,f,n,m,l⟩ hr hN
  refine qF (rs:=[.tmp 2]) mixed Tryz.func111 M9 rfl rfl rfl (r:=[.slice 5 _]) (nlZ rfl) ?_
  simp only [RP.nodes,sP] at hr ⊢
  have hl:=tS l
  repeat' ((conv=>whnf);first|refine aS ?_|fail)
  refine q7 (α:=Nat×Nat) (fun q=>{sl:=[(1,.ptr 1 0),(3,.own q.1 25 5 ((RP.mk k f n m l::sH (l.take q.2)).map sA)),(4,.t (I q.2))],bx:=[(1,.d 5 (sb (.mk k f n m l)))]})
   (fun q=>q.2≤l.length) (fun q=>l.length - q.2) (6,0) (by simp) ?_ ?_
  ·repeat' (first|exact trivial|exact LeV.same _|exact LeB.same _|exact rfl|exact fun _ _ _=>trivial|refine rM ?_|refine And.intro ?_ ?_)
   simp [sH,si]
  rintro ⟨o,i⟩ hi
  dsimp only at hi
  rcases Nat.lt_or_ge i l.length with h|h
  ·have hn:=tF h
   have hm:=tE (l:=l) (j:=i+1)
   have hc:=ih l[i] (by omega) (by omega)
   have e1:=uw l[i]
   have e2:=xp (l.take i)
   have e3:=yd h
   repeat' ((conv=>whnf);first|(refine nv_ (.agg (sb l[i])) (by first|(simp [h,si];done)|fail) ?_)|refine rp _ (hc) ?_|refine nT_ ?_|refine aD1 ?_|(refine And.intro (by first|exact sr _|((simp only [List.length_map,List.length_cons];omega);done)|fail) ?_)|refine aS ?_|fail)
   refine ⟨(21,i+1),by dsimp only;omega,by dsimp only;omega,?_⟩
   repeat' (first|exact trivial|exact LeV.same _|exact LeB.same _|exact rfl|exact fun _ _ _=>trivial|exact lI|refine rM ?_|refine And.intro ?_ ?_)
   simp [e3]
  ·have:i=l.length:=by omega
   subst this
   rw [List.take_length]
   repeat' ((conv=>whnf);first|exact trivial|refine nT_ ?_|refine aD0 ?_|refine aS ?_|fail)
mutual
def sY:RO→List RO
 |.mk k p f n a=>.mk k p f n a::sR a
def sR:List RO→List RO
 |[]=>[]
 |r::rs=>sY r++sR rs
end
mutual
def RO.cnt:RO→Nat
 |.mk _ _ _ _ a=>1+yy a
def yy:List RO→Nat
 |[]=>0
 |r::rs=>r.cnt+yy rs
end
mutual
theorem RO.ve: ∀r:RO,r.cnt≤r.wt
 |.mk k p _ _ a=>by have:=y9 a;simp only [RO.cnt,RO.wt];omega
theorem y9: ∀l:List RO,yy l≤th l
 |[]=>Nat.le_refl _
 |r::rs=>by have:=RO.ve r;have:=y9 rs;simp only [yy,th];omega
end
mutual
theorem tR: ∀r:RO,(sY r).length=r.cnt
 |.mk k p f n a=>by simp only [sY,List.length_cons,xq a,RO.cnt];omega
theorem xq: ∀l:List RO,(sR l).length=yy l
 |[]=>rfl
 |r::rs=>by simp only [sR,List.length_append,tR r,xq rs,yy]
end
theorem ye: ∀{l:List RO} {j:Nat} (h:j<l.length),sR (l.take (j+1))=sR (l.take j)++sY l[j]
 |r::rs,0,h=>by simp [sR]
 |r::rs,j+1,h=>by
  have:=ye (l:=rs) (j:=j) (by simpa using h)
  simp only [List.take_succ_cons,sR,List.getElem_cons_succ,this,List.append_assoc]
theorem t64 (N:Nat): ∀r:RO,r.wt≤N→N<2^40→DCalls Tryz.prog 76 [.agg (r9 r)] (.slice 9 ((sY r).map sL)):=by
 induction N with
 |zero=>intro r h;have:=r.wC;omega
 |succ N ih=>
  rintro ⟨k,⟨pk,pf,pn,pm,pa⟩,f,n,l⟩ hr hN
  refine qF (rs:=[.tmp 2]) mixed Tryz.func76 l76 rfl rfl rfl (r:=[.slice 9 _]) (nlZ rfl) ?_
  simp only [RO.wt,sY] at hr ⊢
  have hl:=uL l
  repeat' ((conv=>whnf);first|refine aS ?_|fail)
  refine q7 (α:=Nat×Nat) (fun q=>{sl:=[(1,.ptr 1 0),(3,.own q.1 28 9 ((RO.mk k (.mk pk pf pn pm pa) f n l::sR (l.take q.2)).map sL)),(4,.t (I q.2))],bx:=[(1,.d 9 (r9 (.mk k (.mk pk pf pn pm pa) f n l)))]})
   (fun q=>q.2≤l.length) (fun q=>l.length - q.2) (6,0) (by simp) ?_ ?_
  ·repeat' (first|exact trivial|exact LeV.same _|exact LeB.same _|exact rfl|exact fun _ _ _=>trivial|refine rM ?_|refine And.intro ?_ ?_)
   simp [sR,sy]
  rintro ⟨o,i⟩ hi
  dsimp only at hi
  rcases Nat.lt_or_ge i l.length with h|h
  ·have hn:=uh h
   have hm:=tT (l:=l) (j:=i+1)
   have hc:=ih l[i] (by omega) (by omega)
   have e1:=tR l[i]
   have e2:=xq (l.take i)
   have e3:=ye h
   have e4:=y9 (l.take i)
   have e5:=l[i].ve
   repeat' ((conv=>whnf);first|(refine nv_ (.agg (r9 l[i])) (by first|(simp [h,sy];done)|fail) ?_)|refine rp _ (hc) ?_|refine nT_ ?_|refine aD1 ?_|(refine And.intro (by first|exact sd _|((simp only [List.length_map,List.length_cons];omega);done)|fail) ?_)|refine aS ?_|fail)
   refine ⟨(21,i+1),by dsimp only;omega,by dsimp only;omega,?_⟩
   repeat' (first|exact trivial|exact LeV.same _|exact LeB.same _|exact rfl|exact fun _ _ _=>trivial|exact lI|refine rM ?_|refine And.intro ?_ ?_)
   simp [e3]
  ·have:i=l.length:=by omega
   subst this
   rw [List.take_length]
   repeat' ((conv=>whnf);first|exact trivial|refine nT_ ?_|refine aD0 ?_|refine aS ?_|fail)
end Go.MM
end
section
namespace Go.MM
open Go Go.DL Go.Proofs
def wQ (l:List Fd):RP→Int
 |.mk k f n m _=>if k=3∨k=4∨k=5 then (match findF l f with
   |none=>4
   |some F=>if (if k=5 then m else n)>((2^F.w - 1:Nat):Int)∨(k=4∧m>F.w) then 1 else 0) else 0
theorem FB {l:List Fd} (hl:LOk l) {s:ByteArray} {F:Fd} (h:findF l s=some F):F.w≤16:=by
 have:=(hl.find h).w2;omega
theorem t92 (l:List Fd) (hl:LOk l) (r:RP):DCalls Tryz.prog 112 [fds l,.agg (sb r)] (I (wQ l r)):=by
 obtain ⟨k,f,n,m,a⟩:=r
 refine qF (rs:=[.tmp 4]) mixed Tryz.func112 Na rfl rfl rfl (r:=[.int _ _]) (nlZ rfl) ?_
 have h51:=t51 l f hl.len
 simp only [wQ]
 by_cases hk:k=3∨k=4∨k=5
 ·rw [if_pos hk]
  unfold uU at h51
  cases hF:findF l f with
  |none=>
   rw [hF] at h51
   simp only at h51 ⊢
   rcases hk with rfl|rfl|rfl <;> repeat' ((conv=>whnf);first|exact trivial|refine rp _ (h51) ?_|refine nT_ ?_|refine aN1 ?_|refine aN0 ?_|refine rix ?_|refine aS ?_|fail)
  |some F=>
   rw [hF] at h51
   simp only at h51 ⊢
   have hw:=FB hl hF
   have h66:=t66 F (hl.find hF)
   obtain ⟨s,fa,w⟩:=F
   simp only at hw h66 ⊢
   generalize hM:((2^w - 1:Nat):Int)=M at *
   rcases hk with rfl|rfl|rfl
   ·by_cases c:n>M
    ·rw [if_pos (by simp;omega)];repeat' ((conv=>whnf);first|exact trivial|refine rp _ (h51) ?_|refine rp _ (h66) ?_|refine nT_ ?_|refine aE0 ?_|refine aN0 ?_|refine aD1 ?_|refine rix ?_|refine aS ?_|fail)
    ·rw [if_neg (by simp;omega)];repeat' ((conv=>whnf);first|exact trivial|refine rp _ (h51) ?_|refine rp _ (h66) ?_|refine nT_ ?_|refine aE0 ?_|refine aN0 ?_|refine aD0 ?_|refine rix ?_|refine aS ?_|fail)
   ·by_cases c:n>M
    ·rw [if_pos (by simp;omega)];repeat' ((conv=>whnf);first|exact trivial|refine rp _ (h51) ?_|refine rp _ (h66) ?_|refine nT_ ?_|refine aE0 ?_|refine aN1 ?_|refine aN0 ?_|refine aD1 ?_|refine rix ?_|refine aS ?_|fail)
    ·by_cases d:m>(w:Int)
     ·rw [if_pos (by simp;omega)];repeat' ((conv=>whnf);first|exact trivial|refine rp _ (h51) ?_|refine rp _ (h66) ?_|refine nT_ ?_|refine aE1 ?_|refine aE0 ?_|refine aN1 ?_|refine aN0 ?_|refine aD1 ?_|refine aD0 ?_|refine rix ?_|refine aS ?_|fail)
     ·rw [if_neg (by simp;omega)];repeat' ((conv=>whnf);first|exact trivial|refine rp _ (h51) ?_|refine rp _ (h66) ?_|refine nT_ ?_|refine aE1 ?_|refine aE0 ?_|refine aN1 ?_|refine aN0 ?_|refine aD0 ?_|refine rix ?_|refine aS ?_|fail)
   ·by_cases c:m>M
    ·rw [if_pos (by simp;omega)];repeat' ((conv=>whnf);first|exact trivial|refine rp _ (h51) ?_|refine rp _ (h66) ?_|refine nT_ ?_|refine aE1 ?_|refine aN1 ?_|refine aN0 ?_|refine aD1 ?_|refine rix ?_|refine aS ?_|fail)
    ·rw [if_neg (by simp;omega)];repeat' ((conv=>whnf);first|exact trivial|refine rp _ (h51) ?_|refine rp _ (h66) ?_|refine nT_ ?_|refine aE1 ?_|refine aE0 ?_|refine aN1 ?_|refine aN0 ?_|refine aD0 ?_|refine rix ?_|refine aS ?_|fail)
 ·rw [if_neg hk]
  have h3:k≠3:=fun h=>hk (.inl h)
  have h4:k≠4:=fun h=>hk (.inr (.inl h))
  have h5:k≠5:=fun h=>hk (.inr (.inr h))
  repeat' ((conv=>whnf);first|exact trivial|refine nT_ ?_|refine aN1 ?_|refine rix ?_|refine aS ?_|fail)
def fitAll (l:List Fd) (r:RP):Int:=sG ((sP r).map (wQ l))
theorem t65 (l:List Fd) (hl:LOk l) (r:RP) (hr:r.nodes<2^40):DCalls Tryz.prog 71 [fds l,.agg (sb r)] (I (fitAll l r)):=by
 refine qF (rs:=[.tmp 4]) mixed Tryz.func71 l71 rfl rfl rfl (r:=[.int _ _]) (nlZ rfl) ?_
 have h91:=t91 _ r (Nat.le_refl _) hr
 have hlen:=uw r
 unfold fitAll
 generalize sP r=ps at *
 repeat' ((conv=>whnf);first|refine rp _ (h91) ?_|(refine And.intro (by first|exact sr _|fail) ?_)|fail)
 refine q7 (α:=Nat) (fun i=>{sl:=[(0,.t (fds l)),(5,.t (.slice 5 (ps.map sA))),(6,.t (I i))],bx:=[]})
  (fun i=>i≤ps.length∧ ∀j (h:j<ps.length),j<i→wQ l ps[j]=0) (fun i=>ps.length - i) 0 (by simp) ?_ ?_
 ·repeat' (first|exact trivial|exact LeV.same _|exact rfl|exact fun _ _ _=>trivial|refine And.intro ?_ ?_)
 rintro i ⟨hi,hp⟩
 rcases Nat.lt_or_ge i ps.length with h|h
 ·have h92:=t92 l hl ps[i]
  by_cases h0:wQ l ps[i]=0
  ·rw [h0] at h92
   repeat' ((conv=>whnf);first|(refine nv_ (.agg (sb ps[i])) (by first|(simp [h,si];done)|fail) ?_)|refine rp _ (h92) ?_|refine nT_ ?_|refine aN0 ?_|refine aD1 ?_|(refine And.intro (by first|exact sr _|fail) ?_)|refine aS ?_|fail)
   refine ⟨i+1,⟨h,fun j hj hlt=>?_⟩,by omega,?_⟩
   ·rcases Nat.lt_or_ge j i with h4|h4
    ·exact hp j hj h4
    ·obtain rfl:j=i:=by omega
     exact h0
   ·repeat' (first|exact trivial|exact LeV.same _|exact rfl|exact fun _ _ _=>trivial|exact lI|refine And.intro ?_ ?_)
  ·have e:sG (ps.map (wQ l))=wQ l ps[i]:=by
    have:=vf (l:=ps.map (wQ l)) (i:=i) (by simpa using h) (fun j hj hlt=>by simpa using hp j (by simpa using hj) hlt) (by simpa using h0)
    simpa using this
   rw [e]
   generalize wQ l ps[i]=e at *
   repeat' ((conv=>whnf);first|exact trivial|(refine nv_ (.agg (sb ps[i])) (by first|(simp [h,si];done)|fail) ?_)|refine rp _ (h92) ?_|refine nT_ ?_|refine aN1 ?_|refine aD1 ?_|refine rix ?_|(refine And.intro (by first|exact sr _|fail) ?_)|refine aS ?_|fail)
 ·rw [wx fun j hj=>by simpa using hp j (by simpa using hj) (by simp at hj;omega)]
  repeat' ((conv=>whnf);first|exact trivial|refine aD0 ?_|refine rix ?_|refine aS ?_|fail)
def u5 (l:List Fd):RO→Int
 |.mk k p f n _=>if k=1 then fitAll l p else if k=2 then (match findF l f with
   |none=>4
   |some F=>if n>((2^F.w - 1:Nat):Int) then 1 else 0) else 0
def C0 (l:List Fd) (r:RO):Int:=if sO r≠0 then sO r else sG ((sY r).map (u5 l))
mutual
theorem uo: ∀r:RO, ∀x∈sY r,x.wt≤r.wt
 |.mk k p f n a=>fun x hx=>by
  simp only [sY,List.mem_cons] at hx
  rcases hx with rfl|hx
  ·exact Nat.le_refl _
  ·have:=zF a x hx;simp only [RO.wt];omega
theorem zF: ∀l:List RO, ∀x∈sR l,x.wt≤th l
 |[]=>fun x hx=>by simp [sR] at hx
 |r::rs=>fun x hx=>by
  simp only [sR,List.mem_append] at hx
  simp only [th]
  rcases hx with hx|hx
  ·have:=uo r x hx;omega
  ·have:=zF rs x hx;omega
end
theorem t40 (l:List Fd) (hl:LOk l) (r:RO) (hr:r.wt<2^40) (hn:uj r):DCalls Tryz.prog 18 [fds l,.agg (r9 r)] (I (C0 l r)):=by
 refine qF (rs:=[.tmp 4]) mixed Tryz.func18 l18 rfl rfl rfl (r:=[.int _ _]) (nlZ rfl) ?_
 have h63:=t63 r (by omega) hn
 have h64:=t64 _ r (Nat.le_refl _) hr
 have hlen:=tR r
 have hw:=uo r
 have hcl:=r.ve
 unfold C0
 generalize sY r=ps at *
 by_cases hc:sO r≠0
 ·rw [if_pos hc]
  generalize sO r=e at *
  repeat' ((conv=>whnf);first|exact trivial|refine rp _ (h63) ?_|refine aN1 ?_|refine rix ?_|(refine And.intro (by first|exact sd _|fail) ?_)|refine aS ?_|fail)
 rw [if_neg hc]
 have hc:sO r=0:=Decidable.not_not.1 hc
 rw [hc] at h63
 repeat' ((conv=>whnf);first|refine rp _ (h63) ?_|refine rp _ (h64) ?_|refine aN0 ?_|(refine And.intro (by first|exact sd _|fail) ?_)|refine aS ?_|fail)
 refine q7 (α:=Nat) (fun i=>{sl:=[(0,.t (fds l)),(5,.t (I 0)),(6,.t (.slice 9 (ps.map sL))),(7,.t (I i))],bx:=[]})
  (fun i=>i≤ps.length∧ ∀j (h:j<ps.length),j<i→u5 l ps[j]=0) (fun i=>ps.length - i) 0 (by simp) ?_ ?_
 ·repeat' (first|exact trivial|exact LeV.same _|exact rfl|exact fun _ _ _=>trivial|refine And.intro ?_ ?_)
 rintro i ⟨hi,hp⟩
 rcases Nat.lt_or_ge i ps.length with h|h
 ·have res: ∀e,u5 l ps[i]=e→e≠0→sG (ps.map (u5 l))=e:=fun e he h0=>by
   have:=vf (l:=ps.map (u5 l)) (i:=i) (by simpa using h) (fun j hj hlt=>by simpa using hp j (by simpa using hj) hlt) (by simpa [he] using h0)
   rw [this];simpa using he
  have next:u5 l ps[i]=0→i+1≤ps.length∧ ∀j (h:j<ps.length),j<i+1→u5 l ps[j]=0:=fun h0=>by
   refine ⟨h,fun j hj hlt=>?_⟩
   rcases Nat.lt_or_ge j i with h4|h4
   ·exact hp j hj h4
   ·obtain rfl:j=i:=by omega
    exact h0
  have hwi:=hw _ (List.getElem_mem h)
  have hg:(ps.map sL)[i]?.getD .nil= .agg (r9 ps[i]):=by simp [h,sy]
  generalize ps[i]=x at *
  obtain ⟨k,⟨pk,pf,pn,pm,pa⟩,f,n,a⟩:=x
  have h51:=t51 l f hl.len
  by_cases hk1:k=1
  ·subst hk1
   have h65:=t65 l hl (.mk pk pf pn pm pa) (by simp only [RO.wt] at hwi;omega)
   have ef:u5 l (.mk 1 (.mk pk pf pn pm pa) f n a)=fitAll l (.mk pk pf pn pm pa):=by simp [u5]
   rw [ef] at res next
   generalize fitAll l (.mk pk pf pn pm pa)=e at *
   by_cases h0:e=0
   ·subst h0
    repeat' ((conv=>whnf);first|(refine nv_ (.agg (r9 (.mk 1 (.mk pk pf pn pm pa) f n a))) (by first|exact hg|fail) ?_)|refine rp _ (h65) ?_|(exact ⟨i+1,next rfl,by omega,by (repeat' (first|exact trivial|exact LeV.same _|exact rfl|exact fun _ _ _=>trivial|exact lI|refine And.intro ?_ ?_));done⟩)|refine nT_ ?_|refine aE1 ?_|refine aE0 ?_|refine aN0 ?_|refine aD1 ?_|refine aS ?_|fail)
   ·rw [res e rfl h0]
    repeat' ((conv=>whnf);first|exact trivial|(refine nv_ (.agg (r9 (.mk 1 (.mk pk pf pn pm pa) f n a))) (by first|exact hg|fail) ?_)|refine rp _ (h65) ?_|refine nT_ ?_|refine aE1 ?_|refine aE0 ?_|refine aN1 ?_|refine aD1 ?_|refine rix ?_|refine aS ?_|fail)
  ·by_cases hk2:k=2
   ·subst hk2
    unfold uU at h51
    cases hF:findF l f with
    |none=>
     rw [hF] at h51
     rw [res 4 (by simp [u5,hF]) (by decide)]
     simp only at h51
     repeat' ((conv=>whnf);first|exact trivial|(refine nv_ (.agg (r9 (.mk 2 (.mk pk pf pn pm pa) f n a))) (by first|exact hg|fail) ?_)|refine rp _ (h51) ?_|refine nT_ ?_|refine aE1 ?_|refine aE0 ?_|refine aN1 ?_|refine aD1 ?_|refine rix ?_|refine aS ?_|fail)
    |some F=>
     rw [hF] at h51
     simp only at h51
     have h66:=t66 F (hl.find hF)
     by_cases hc:n>((2^F.w - 1:Nat):Int)
     ·rw [res 1 (by simp only [u5,hF];rw [if_neg (by decide),if_pos trivial,if_pos hc]) (by decide)]
      generalize ((2^F.w - 1:Nat):Int)=M at *
      repeat' ((conv=>whnf);first|exact trivial|(refine nv_ (.agg (r9 (.mk 2 (.mk pk pf pn pm pa) f n a))) (by first|exact hg|fail) ?_)|refine rp _ (h51) ?_|refine rp _ (h66) ?_|refine nT_ ?_|refine aE1 ?_|refine aE0 ?_|refine aN1 ?_|refine aD1 ?_|refine rix ?_|refine aS ?_|fail)
     ·have next:=next (by simp only [u5,hF];rw [if_neg (by decide),if_pos trivial,if_neg hc])
      generalize ((2^F.w - 1:Nat):Int)=M at *
      repeat' ((conv=>whnf);first|(refine nv_ (.agg (r9 (.mk 2 (.mk pk pf pn pm pa) f n a))) (by first|exact hg|fail) ?_)|refine rp _ (h51) ?_|refine rp _ (h66) ?_|(exact ⟨i+1,next,by omega,by (repeat' (first|exact trivial|exact LeV.same _|exact rfl|exact fun _ _ _=>trivial|exact lI|refine And.intro ?_ ?_));done⟩)|refine nT_ ?_|refine aE1 ?_|refine aE0 ?_|refine aD1 ?_|refine aD0 ?_|refine aS ?_|fail)
   ·have next:=next (by simp only [u5];rw [if_neg hk1,if_neg hk2])
    repeat' ((conv=>whnf);first|(refine nv_ (.agg (r9 (.mk k (.mk pk pf pn pm pa) f n a))) (by first|exact hg|fail) ?_)|(exact ⟨i+1,next,by omega,by (repeat' (first|exact trivial|exact LeV.same _|exact rfl|exact fun _ _ _=>trivial|exact lI|refine And.intro ?_ ?_));done⟩)|refine nT_ ?_|refine aE0 ?_|refine aN0 ?_|refine aD1 ?_|refine aS ?_|fail)
 ·rw [wx fun j hj=>by simpa using hp j (by simpa using hj) (by simp at hj;omega)]
  repeat' ((conv=>whnf);first|exact trivial|refine aD0 ?_|refine rix ?_|refine aS ?_|fail)
def RF.fd (f:RF):Fd:=⟨f.name,f.a.toNat,f.w.toNat⟩
structure Checked (l:List RF):Prop where
 len:l.length≤16
 name: ∀f∈l,v8 f.name=true
 port: ∀f∈l,sa f.name sZ=false
 place: ∀f∈l,uS f=true
 uniq: ∀i j (hi:i<l.length) (hj:j<l.length),j<i→sa l[j].name l[i].name=false
 apart: ∀i j (hi:i<l.length) (hj:j<l.length),j<i→uM l[j] l[i]=false
theorem yL: ∀{l:List Int},sG l=0→ ∀x∈l,x=0
 |[],_,x,hx=>by cases hx
 |y::ys,h,x,hx=>by
  simp only [sG] at h
  split at h
  ·rename_i hy;exact absurd h hy
  ·rename_i hy
   rcases List.mem_cons.1 hx with rfl|hx
   ·exact Decidable.not_not.1 hy
   ·exact yL h x hx
theorem CL {l:List RF} (h:wO l=0):Checked l:=by
 unfold wO at h
 split at h
 ·cases h
 rename_i hlen
 have hz: ∀i (hi:i<l.length),tB l i l[i]=0:=fun i hi=>yL h _ (List.mem_iff_getElem.2 ⟨i,by simpa using hi,by simp⟩)
 have key: ∀i (hi:i<l.length),(¬ (v8 l[i].name=false∨sa l[i].name sZ=true))∧(¬ ((l.take i).any fun g=>sa g.name l[i].name)=true)∧(¬ uS l[i]=false)∧ ¬((l.take i).any fun g=>uM g l[i])=true:=fun i hi=>by
  have:=hz i hi
  unfold tB at this
  split at this; ·cases this
  split at this; ·cases this
  split at this; ·cases this
  split at this; ·cases this
  rename_i h1 h2 h3 h4
  exact ⟨h1,h2,h3,h4⟩
 refine ⟨by omega,fun f hf=>?_,fun f hf=>?_,fun f hf=>?_,fun i j hi hj hji=>?_,fun i j hi hj hji=>?_⟩
 ·obtain ⟨i,hi,rfl⟩:=List.getElem_of_mem hf
  have:=(key i hi).1;simp at this;exact this.1
 ·obtain ⟨i,hi,rfl⟩:=List.getElem_of_mem hf
  have:=(key i hi).1;simp at this;exact this.2
 ·obtain ⟨i,hi,rfl⟩:=List.getElem_of_mem hf
  have:=(key i hi).2.2.1;simpa using this
 ·have:=(key i hi).2.1
  rw [vC (by omega)] at this
  cases hs:sa l[j].name l[i].name with
  |false=>rfl
  |true=>exact absurd ⟨j,hj,hji,hs⟩ this
 ·have:=(key i hi).2.2.2
  rw [vC (by omega)] at this
  cases hs:uM l[j] l[i] with
  |false=>rfl
  |true=>exact absurd ⟨j,hj,hji,hs⟩ this
theorem Checked.fds {l:List RF} (h:Checked l):vW l=MM.fds (l.map RF.fd):=by
 unfold vW MM.fds
 rw [List.map_map]
 congr 1
 refine List.map_congr_left fun f hf=>?_
 have:=h.place f hf
 simp [uS] at this
 obtain ⟨s,a,w⟩:=f
 simp only at this
 simp only [ur,tP,Function.comp,MM.fd,RF.fd]
 rw [Int.toNat_of_nonneg (by omega),Int.toNat_of_nonneg (by omega)]
theorem Checked.ok {l:List RF} (h:Checked l):LOk (l.map RF.fd):=by
 refine ⟨by have:=h.len;simp;omega,fun f hf=>?_⟩
 obtain ⟨g,hg,rfl⟩:=List.mem_map.1 hf
 have:=h.place g hg
 simp [uS] at this
 exact ⟨by simp only [RF.fd];omega,by simp only [RF.fd];omega,by simp only [RF.fd];omega⟩
end Go.MM
end
section
namespace Go.MM
open Go Go.DL Go.Proofs
theorem yH:Tryz.prog.underlying 23=some (.slice 25):=by kernel_rfl
theorem yI:Tryz.prog.underlying 26=some (.slice 28):=by kernel_rfl
theorem zj:Tryz.prog.cellsOf 3=1:=by kernel_rfl
theorem uH {us:List T} (h:ct Tryz.prog 3 us): ∃n,us=[I n]∧(Lit.int .i64 n).wf=true:=by
 cases h with
 |int h n hw=>rw [Tryz.underlying3] at h;cases h;exact ⟨n,rfl,hw⟩
 |bool h|str h|nil h|slice h|struct h|array h=>rw [Tryz.underlying3] at h;cases h
end Go.MM
end
section
namespace Go.MM
open Go Go.DL Go.Proofs
theorem xt:Tryz.prog.cellsOf 9=1:=by kernel_rfl
theorem GQ:Tryz.prog.cellsOf 23=1:=by kernel_rfl
theorem Ac:Tryz.prog.cellsOf 25=5:=by kernel_rfl
theorem GR:Tryz.prog.cellsOf 26=1:=by kernel_rfl
theorem Ad:Tryz.prog.cellsOf 28=9:=by kernel_rfl
theorem Cl:Tryz.prog.cellsOf 88=3:=by kernel_rfl
theorem Og (us:List T):mkT Tryz.prog 25 us= .agg us:=by unfold mkT;rw [Tryz.underlying25]
theorem Oh (us:List T):mkT Tryz.prog 28 us= .agg us:=by unfold mkT;rw [Tryz.underlying28]
theorem Oi (us:List T):mkT Tryz.prog 88 us= .agg us:=by unfold mkT;rw [Tryz.underlying88]
theorem Jg:Tryz.prog.underlying 9=some .string:=by kernel_rfl
theorem xx {us:List T} (h:ct Tryz.prog 9 us): ∃s,us=[.str s]:=by
 cases h with
 |str h s hs=>exact ⟨s,rfl⟩
 |bool h|int h|nil h|slice h|struct h|array h=>rw [Jg] at h;cases h
def RdP (us:List T):Prop:= ∃r:RP,df us (sb r)∧r.nodes≤aR us∧(aR us<2^62→uI r)
def Lo (us:List T):Prop:= ∃rs:List RP,df us [.slice 5 (rs.map sA)]∧sB rs+1≤aR us∧(aR us<2^62→vK rs)
theorem Hh {xs:List (List T)} (h: ∀x∈xs,RdP x): ∃rs:List RP,rs.length=xs.length∧(∀ (i:Nat) (x:List T) (r:RP),xs[i]? =some x→rs[i]? =some r→df x (sb r))∧sB rs≤aR (xs.map .agg)∧(aR (xs.map .agg)<2^62→vK rs):=by
 induction xs with
 |nil=>exact ⟨[],rfl,by simp,by simp [sB],fun _=>trivial⟩
 |cons x xs ih=>
  obtain ⟨r,h1,h2,h3⟩:=h x (by simp)
  obtain ⟨rs,k1,k2,k3,k4⟩:=ih fun y hy=>h y (by simp [hy])
  refine ⟨r::rs,by simp [k1],fun i a b ha hb=>?_,?_,fun hb=>?_⟩
  ·cases i with
   |zero=>simp at ha hb;subst ha;subst hb;exact h1
   |succ i=>exact k2 i a b (by simpa using ha) (by simpa using hb)
  ·simp only [sB,List.map_cons,aR,T.bulk];omega
  ·simp only [List.map_cons,aR,T.bulk] at hb
   exact ⟨h3 (by omega),k4 (by omega)⟩
theorem CZ {us:List T} (h:us.length=5): ∃a b c d e,us=[a,b,c,d,e]:=by
 match us,h with
 |[a,b,c,d,e],_=>exact ⟨a,b,c,d,e,rfl⟩
theorem Hi {t:TypeId} {us:List T} (h:ct Tryz.prog t us):(t=25→RdP us)∧(t=23→Lo us):=by
 induction h with
 |bool h b=>exact ⟨fun e=>(by subst e;rw [Tryz.underlying25] at h;cases h),fun e=>(by subst e;rw [yH] at h;cases h)⟩
 |int h n hw=>exact ⟨fun e=>(by subst e;rw [Tryz.underlying25] at h;cases h),fun e=>(by subst e;rw [yH] at h;cases h)⟩
 |str h s hs=>exact ⟨fun e=>(by subst e;rw [Tryz.underlying25] at h;cases h),fun e=>(by subst e;rw [yH] at h;cases h)⟩
 |array h us hl hf ih=>exact ⟨fun e=>(by subst e;rw [Tryz.underlying25] at h;cases h),fun e=>(by subst e;rw [yH] at h;cases h)⟩
 |nil h=>
  refine ⟨fun e=>(by subst e;rw [Tryz.underlying25] at h;cases h),fun e=>?_⟩
  exact ⟨[],.cons (Les.nil 5) rfl .nil,by simp [sB,aR,T.bulk],fun _=>trivial⟩
 |slice h xs hx hl ih=>
  refine ⟨fun e=>(by subst e;rw [Tryz.underlying25] at h;cases h),fun e=>?_⟩
  subst e
  rw [yH] at h
  cases h
  obtain ⟨rs,k1,k2,k3,k4⟩:=Hh (xs:=xs) fun x hm=>(ih x hm).1 rfl
  have em:xs.map (mkT Tryz.prog 25)=xs.map .agg:=List.map_congr_left fun x _=>Og x
  rw [em,Ac]
  refine ⟨rs,.cons (Les.slice (by simp [k1]) fun i x y hx hy=>?_) rfl .nil,by simp only [aR,T.bulk];omega,fun hb=>k4 (by simp only [aR,T.bulk] at hb;omega)⟩
  rw [List.getElem?_map] at hx hy
  obtain ⟨x',hx',rfl⟩:=Option.map_eq_some_iff.1 hx
  obtain ⟨r',hr',rfl⟩:=Option.map_eq_some_iff.1 hy
  rw [si]
  exact ⟨k2 i x' r' hx' hr',sr r'⟩
 |struct h us hl hf ih=>
  refine ⟨fun e=>?_,fun e=>(by subst e;rw [yH] at h;cases h)⟩
  subst e
  rw [Tryz.underlying25] at h
  cases h
  rw [Ac] at hl
  obtain ⟨a,b,c,d,e,rfl⟩:=CZ hl
  have f0:=hf ⟨ "Kind",3,0,false, "", "",0⟩ (by simp)
  have f1:=hf ⟨ "Field",9,1,false, "", "",8⟩ (by simp)
  have f2:=hf ⟨ "N",3,2,false, "", "",24⟩ (by simp)
  have f3:=hf ⟨ "M",3,3,false, "", "",32⟩ (by simp)
  have f4:=(ih ⟨ "Args",23,4,false, "", "",40⟩ (by simp)).2 rfl
  simp only [zj,xt,GQ,List.drop,List.take] at f0 f1 f2 f3 f4
  obtain ⟨k,e0,_⟩:=uH f0
  obtain ⟨s,e1⟩:=xx f1
  obtain ⟨n,e2,_⟩:=uH f2
  obtain ⟨m,e3,_⟩:=uH f3
  obtain ⟨rs,g1,g2,g3⟩:=f4
  simp only [List.cons.injEq,and_true] at e0 e1 e2 e3
  subst e0;subst e1;subst e2;subst e3
  refine ⟨.mk k s n m rs,.cons (Les.refl _) rfl (.cons (Les.refl _) rfl (.cons (Les.refl _) rfl (.cons (Les.refl _) rfl g1))),?_,fun hb=>?_⟩
  ·simp only [RP.nodes,aR,T.bulk] at g2 ⊢;omega
  ·simp only [aR,T.bulk] at g3 hb
   exact ⟨by omega,g3 (by omega)⟩
def RdO (us:List T):Prop:= ∃r:RO,df us (r9 r)∧r.wt≤aR us∧(aR us<2^62→uj r)
def Ln (us:List T):Prop:= ∃rs:List RO,df us [.slice 9 (rs.map sL)]∧th rs+1≤aR us∧(aR us<2^62→vJ rs)
theorem Hg {xs:List (List T)} (h: ∀x∈xs,RdO x): ∃rs:List RO,rs.length=xs.length∧(∀ (i:Nat) (x:List T) (r:RO),xs[i]? =some x→rs[i]? =some r→df x (r9 r))∧th rs≤aR (xs.map .agg)∧(aR (xs.map .agg)<2^62→vJ rs):=by
 induction xs with
 |nil=>exact ⟨[],rfl,by simp,by simp [th],fun _=>trivial⟩
 |cons x xs ih=>
  obtain ⟨r,h1,h2,h3⟩:=h x (by simp)
  obtain ⟨rs,k1,k2,k3,k4⟩:=ih fun y hy=>h y (by simp [hy])
  refine ⟨r::rs,by simp [k1],fun i a b ha hb=>?_,?_,fun hb=>?_⟩
  ·cases i with
   |zero=>simp at ha hb;subst ha;subst hb;exact h1
   |succ i=>exact k2 i a b (by simpa using ha) (by simpa using hb)
  ·simp only [th,List.map_cons,aR,T.bulk];omega
  ·simp only [List.map_cons,aR,T.bulk] at hb
   exact ⟨h3 (by omega),k4 (by omega)⟩
theorem J2 {us:List T} (h:us.length=9): ∃a b c d e f g i j,us=[a,b,c,d,e,f,g,i,j]:=by
 match us,h with
 |[a,b,c,d,e,f,g,i,j],_=>exact ⟨a,b,c,d,e,f,g,i,j,rfl⟩
theorem df.Lm {a b c d e:T} {r:RP} (h:df [a,b,c,d,e] (sb r)) {x y:T} {xs ys:List T} (k:df (x::xs) (y::ys)):df (a::b::c::d::e::x::xs) (sb r++y::ys):=df.append h k
theorem E9 {t:TypeId} {us:List T} (h:ct Tryz.prog t us):(t=28→RdO us)∧(t=26→Ln us):=by
 induction h with
 |bool h b=>exact ⟨fun e=>(by subst e;rw [Tryz.underlying28] at h;cases h),fun e=>(by subst e;rw [yI] at h;cases h)⟩
 |int h n hw=>exact ⟨fun e=>(by subst e;rw [Tryz.underlying28] at h;cases h),fun e=>(by subst e;rw [yI] at h;cases h)⟩
 |str h s hs=>exact ⟨fun e=>(by subst e;rw [Tryz.underlying28] at h;cases h),fun e=>(by subst e;rw [yI] at h;cases h)⟩
 |array h us hl hf ih=>exact ⟨fun e=>(by subst e;rw [Tryz.underlying28] at h;cases h),fun e=>(by subst e;rw [yI] at h;cases h)⟩
 |nil h=>
  refine ⟨fun e=>(by subst e;rw [Tryz.underlying28] at h;cases h),fun e=>?_⟩
  exact ⟨[],.cons (Les.nil 9) rfl .nil,by simp [th,aR,T.bulk],fun _=>trivial⟩
 |slice h xs hx hl ih=>
  refine ⟨fun e=>(by subst e;rw [Tryz.underlying28] at h;cases h),fun e=>?_⟩
  subst e
  rw [yI] at h
  cases h
  obtain ⟨rs,k1,k2,k3,k4⟩:=Hg (xs:=xs) fun x hm=>(ih x hm).1 rfl
  have em:xs.map (mkT Tryz.prog 28)=xs.map .agg:=List.map_congr_left fun x _=>Oh x
  rw [em,Ad]
  refine ⟨rs,.cons (Les.slice (by simp [k1]) fun i x y hx hy=>?_) rfl .nil,by simp only [aR,T.bulk];omega,fun hb=>k4 (by simp only [aR,T.bulk] at hb;omega)⟩
  rw [List.getElem?_map] at hx hy
  obtain ⟨x',hx',rfl⟩:=Option.map_eq_some_iff.1 hx
  obtain ⟨r',hr',rfl⟩:=Option.map_eq_some_iff.1 hy
  rw [sy]
  exact ⟨k2 i x' r' hx' hr',sd r'⟩
 |struct h us hl hf ih=>
  refine ⟨fun e=>?_,fun e=>(by subst e;rw [yI] at h;cases h)⟩
  subst e
  rw [Tryz.underlying28] at h
  cases h
  rw [Ad] at hl
  obtain ⟨a,b,c,d,e,f,g,i,j,rfl⟩:=J2 hl
  have f0:=hf ⟨ "Kind",3,0,false, "", "",0⟩ (by simp)
  have f1:=(Hi (hf ⟨ "Pred",25,1,false, "", "",8⟩ (by simp))).1 rfl
  have f2:=hf ⟨ "Field",9,6,false, "", "",72⟩ (by simp)
  have f3:=hf ⟨ "N",3,7,false, "", "",88⟩ (by simp)
  have f4:=(ih ⟨ "Args",26,8,false, "", "",96⟩ (by simp)).2 rfl
  simp only [zj,xt,Ac,GR,List.drop,List.take] at f0 f1 f2 f3 f4
  obtain ⟨k,e0,_⟩:=uH f0
  obtain ⟨p,p1,p2,p3⟩:=f1
  obtain ⟨s,e1⟩:=xx f2
  obtain ⟨n,e2,_⟩:=uH f3
  obtain ⟨rs,g1,g2,g3⟩:=f4
  simp only [List.cons.injEq,and_true] at e0 e1 e2
  subst e0;subst e1;subst e2
  refine ⟨.mk k p s n rs,.cons (Les.refl _) rfl (df.Lm p1 (.cons (Les.refl _) rfl (.cons (Les.refl _) rfl g1))),?_,fun hb=>?_⟩
  ·simp only [RO.wt,aR,T.bulk] at p2 g2 ⊢;omega
  ·simp only [aR,T.bulk] at p3 g3 hb
   exact ⟨p3 (by omega),by omega,g3 (by omega)⟩
theorem FM {us:List T} (h:ct Tryz.prog 88 us): ∃f:RF,us=tP f∧f.name.size<aR us:=by
 cases h with
 |struct h us hl hf=>
  rw [Tryz.underlying88] at h
  cases h
  rw [Cl] at hl
  match us,hl with
  |[a,b,c],_=>
   have f0:=hf ⟨ "Name",9,0,false, "", "",0⟩ (by simp)
   have f1:=hf ⟨ "At",3,1,false, "", "",16⟩ (by simp)
   have f2:=hf ⟨ "Width",3,2,false, "", "",24⟩ (by simp)
   simp only [zj,xt,List.drop,List.take] at f0 f1 f2
   obtain ⟨s,e0⟩:=xx f0
   obtain ⟨n,e1,_⟩:=uH f1
   obtain ⟨m,e2,_⟩:=uH f2
   simp only [List.cons.injEq,and_true] at e0 e1 e2
   subst e0;subst e1;subst e2
   exact ⟨⟨s,n,m⟩,rfl,by simp [aR,T.bulk];omega⟩
 |int h|bool h|str h|nil h|slice h|array h=>rw [Tryz.underlying88] at h;cases h
theorem E8 {us:List T} (h:ct Tryz.prog 22 us): ∃l:List RF,Les (mkT Tryz.prog 22 us) (vW l)∧l.length≤aR us∧ ∀f∈l,f.name.size<aR us:=by
 have e: ∀t,mkT Tryz.prog 22 [t]=t:=fun t=>by unfold mkT;rw [Tryz.underlying22];rfl
 cases h with
 |nil h=>exact ⟨[],by rw [e];exact Les.nil 3,by simp,by simp⟩
 |slice h xs hx hl=>
  rw [Tryz.underlying22] at h
  cases h
  rw [e,Cl]
  have em:xs.map (mkT Tryz.prog 88)=xs.map .agg:=List.map_congr_left fun x _=>Oi x
  rw [em]
  have key: ∃l:List RF,l.length=xs.length∧xs.map .agg=l.map ur∧l.length≤aR (xs.map .agg)∧ ∀f∈l,f.name.size<aR (xs.map .agg):=by
   clear hl em
   induction xs with
   |nil=>exact ⟨[],rfl,rfl,by simp,by simp⟩
   |cons x xs ih=>
    obtain ⟨f,h1,h2⟩:=FM (hx x (by simp))
    obtain ⟨l,k1,k2,k3,k4⟩:=ih fun y hy=>hx y (by simp [hy])
    refine ⟨f::l,by simp [k1],by simp only [List.map_cons,k2,h1];rfl,by simp only [List.map_cons,aR,T.bulk,List.length_cons];omega,fun g hg=>?_⟩
    simp only [List.map_cons,aR,T.bulk]
    rcases List.mem_cons.1 hg with rfl|hg
    ·omega
    ·have:=k4 g hg;omega
  obtain ⟨l,k1,k2,k3,k4⟩:=key
  refine ⟨l,by rw [k2];exact Les.refl _,by simp only [aR,T.bulk];omega,fun f hf=>by simp only [aR,T.bulk];have:=k4 f hf;omega⟩
 |int h|bool h|str h|array h|struct h=>rw [Tryz.underlying22] at h;cases h
end Go.MM
end
section
namespace Go.TY
instance memBA (a : ByteArray) (l : List ByteArray) : Decidable (a ∈ l) := @List.instDecidableMemOfLawfulBEq ByteArray instBEqOfDecidableEq inferInstance a l
structure Lin {α:Type} (lt:α→α→Bool):Prop where
 irr: ∀a,lt a a=false
 tr: ∀a b c,lt a b=true→lt b c=true→lt a c=true
 tot: ∀a b,lt a b=false→lt b a=false→a=b
section
variable {α:Type} {lt:α→α→Bool}
theorem Lin.ne (h:Lin lt) {a b:α} (hl:lt a b=true):a≠b:=fun e=>by
 subst e;rw [h.irr] at hl;cases hl
theorem Lin.asym (h:Lin lt) {a b:α} (hl:lt a b=true):lt b a=false:=by
 cases e:lt b a with
 |false=>rfl
 |true=>have:=h.tr _ _ _ hl e;rw [h.irr] at this;cases this
variable [DecidableEq α]
def put (lt:α→α→Bool):List α→α→List α
 |[],s=>[s]
 |x::xs,s=>if lt x s=true then x::put lt xs s else s::(x::xs).filter fun y=> !decide (y=s)
def Inc (lt:α→α→Bool) (l:List α):Prop:=l.Pairwise fun a b=>lt a b=true
theorem Cs {l:List α} {s x:α}:x∈put lt l s↔x=s∨x∈l:=by
 induction l with
 |nil=>simp [put]
 |cons y ys ih=>
  unfold put
  by_cases hl:lt y s=true
  ·rw [if_pos hl,List.mem_cons,ih,List.mem_cons]
   exact ⟨fun h=>by rcases h with h|h|h <;> simp [h],fun h=>by rcases h with h|h|h <;> simp [h]⟩
  ·rw [if_neg hl,List.mem_cons,List.mem_filter]
   by_cases hx:x=s
   ·simp [hx]
   ·simp [hx]
theorem Inc.put (h:Lin lt) {l:List α} (hl:Inc lt l) (s:α):Inc lt (put lt l s):=by
 induction l with
 |nil=>simp [TY.put,Inc]
 |cons y ys ih=>
  have h2:=List.pairwise_cons.1 hl
  unfold TY.put
  by_cases hys:lt y s=true
  ·rw [if_pos hys]
   refine List.pairwise_cons.2 ⟨fun z hz=>?_,ih h2.2⟩
   rcases Cs.1 hz with rfl|hz
   ·exact hys
   ·exact h2.1 z hz
  ·rw [if_neg hys]
   have hys':lt y s=false:=by simpa using hys
   refine List.pairwise_cons.2 ⟨fun z hz=>?_,hl.filter _⟩
   obtain ⟨h3,h4⟩:=List.mem_filter.1 hz
   have hzs:z≠s:=by simpa using h4
   cases e:lt s z with
   |true=>rfl
   |false=>
    exfalso
    cases e2:lt z s with
    |false=>exact hzs (h.tot _ _ e2 e)
    |true=>
     rcases List.mem_cons.1 h3 with rfl|h3
     ·rw [hys'] at e2;cases e2
     ·have:=h.tr _ _ _ (h2.1 z h3) e2
      rw [hys'] at this;cases this
theorem Inc.ext (h:Lin lt): ∀{a b:List α},Inc lt a→Inc lt b→(∀ x,x∈a↔x∈b)→a=b
 |[],[],_,_,_=>rfl
 |[],y::ys,_,_,hm=>by have:=(hm y).2 (by simp);simp at this
 |x::xs,[],_,_,hm=>by have:=(hm x).1 (by simp);simp at this
 |x::xs,y::ys,ha,hb,hm=>by
  have h1:=List.pairwise_cons.1 ha
  have h2:=List.pairwise_cons.1 hb
  have e:x=y:=by
   by_cases e:x=y
   ·exact e
   ·exfalso
    have hx:x∈ys:=by have:=(hm x).1 (by simp);simpa [e] using this
    have hy:y∈xs:=by have:=(hm y).2 (by simp);simpa [show ¬y=x from fun h=>e h.symm] using this
    have l1:=h1.1 y hy
    have l2:=h2.1 x hx
    rw [h.asym l1] at l2;cases l2
  subst e
  rw [Inc.ext h h1.2 h2.2 fun z=>?_]
  have:=hm z
  simp only [List.mem_cons] at this
  by_cases e:z=x
  ·subst e
   exact ⟨fun hz=>absurd rfl (h.ne (h1.1 z hz)),fun hz=>absurd rfl (h.ne (h2.1 z hz))⟩
  ·simpa [e] using this
def um (lt:α→α→Bool) (l:List α):List α:=l.foldl (put lt) []
theorem Cd {l:List α}: ∀{acc:List α} {x:α},x∈l.foldl (put lt) acc↔x∈acc∨x∈l:=by
 induction l with
 |nil=>simp
 |cons y ys ih=>
  intro acc x
  rw [List.foldl_cons,ih,Cs,List.mem_cons]
  exact ⟨fun h=>by rcases h with (h|h)|h <;> simp [h],fun h=>by rcases h with h|h|h <;> simp [h]⟩
theorem vo {l:List α} {x:α}:x∈um lt l↔x∈l:=by simp [um,Cd]
theorem Ca (h:Lin lt) {l:List α}: ∀{acc:List α},Inc lt acc→Inc lt (l.foldl (put lt) acc):=by
 induction l with
 |nil=>exact fun h=>h
 |cons y ys ih=>intro acc ha;exact ih (ha.put h y)
theorem xQ (h:Lin lt) (l:List α):Inc lt (um lt l):=Ca h List.Pairwise.nil
theorem w7 (h:Lin lt) {a b:List α} (hm: ∀x,x∈a↔x∈b):um lt a=um lt b:=
 Inc.ext h (xQ h a) (xQ h b) fun x=>by rw [vo,vo,hm]
def once:List α→List α→List α
 |acc,[]=>acc
 |acc,x::xs=>once (if x∈acc then acc else acc++[x]) xs
theorem vI: ∀{l acc:List α} {x:α},x∈once acc l↔x∈acc∨x∈l
 |[],acc,x=>by simp [once]
 |y::ys,acc,x=>by
  unfold once
  rw [vI,List.mem_cons]
  by_cases h:y∈acc
  ·rw [if_pos h]
   exact ⟨fun h=>by rcases h with h|h <;> simp [h],fun k=>by rcases k with k|rfl|k <;> simp [*]⟩
  ·rw [if_neg h]
   simp [or_assoc]
theorem uO: ∀{l acc:List α},acc.Nodup→(once acc l).Nodup
 |[],_,h=>h
 |y::ys,acc,h=>by
  unfold once
  refine uO ?_
  by_cases hc:y∈acc
  ·rw [if_pos hc];exact h
  ·rw [if_neg hc]
   refine List.nodup_append.2 ⟨h,by simp,fun a ha b hb e=>hc ?_⟩
   rw [List.mem_singleton.1 hb] at e
   subst e
   exact ha
theorem y6 (h:Lin lt) {a zs:List α} (hn:zs.Nodup) (hs:zs.Pairwise fun x y=>lt y x=false) (hm: ∀x,x∈zs↔x∈a):zs=um lt a:=by
 refine Inc.ext h ?_ (xQ h a) fun x=>by rw [hm,vo]
 refine (hs.and (List.nodup_iff_pairwise_ne.1 hn)).imp fun {x y} hxy=>?_
 cases e:lt x y with
 |true=>rfl
 |false=>exact absurd (h.tot _ _ e hxy.1) hxy.2
end
def ltI (a b:Int):Bool:=decide (a<b)
theorem FG:Lin ltI where
 irr:=fun a=>by simp [ltI]
 tr:=fun a b c h k=>by simp only [ltI,decide_eq_true_eq] at *;omega
 tot:=fun a b h k=>by simp only [ltI,decide_eq_false_iff_not] at *;omega
def ltS (a b:ByteArray):Bool:=Op.bytesLess a.toList b.toList
theorem Av {a b:ByteArray} (h:a.toList=b.toList):a=b:=by
 rw [ByteArray.toList_eq,ByteArray.toList_eq] at h
 exact ByteArray.ext (Array.ext' h)
theorem Bc:Lin ltS where
 irr:=fun a=>by simp [ltS,Go.Proofs.bytesLess_eq]
 tr:=fun a b c h k=>by
  simp only [ltS,Go.Proofs.bytesLess_eq,decide_eq_true_eq] at *
  exact List.lt_trans h k
 tot:=fun a b h k=>by
  simp only [ltS,Go.Proofs.bytesLess_eq,decide_eq_false_iff_not,List.not_lt] at *
  exact Av (List.le_antisymm k h)
end Go.TY
end
section
namespace Go.TY
open Go Go.DL Go.MM
abbrev Fd:=Go.MM.Fd
structure RS where
 kind:Int
 var:ByteArray
 key:List ByteArray
 field:ByteArray
 n:Int
 m:Int
def se (s:RS):List T:=[I s.kind,.str s.var,.slice 1 (s.key.map .str),.str s.field,I s.n,I s.m]
structure RV where
 name:ByteArray
 fam:Int
 ws:List Int
 n:Int
 m:Int
 deriving DecidableEq
def wu (v:RV):List T:=[.str v.name,I v.fam,.slice 1 (v.ws.map I),I v.n,I v.m]
def sQ (v:RV):T:=.agg (wu v)
def RS.own (s:RS):Bool:=s.kind==4||s.kind==6
def tH (k:Int):Int:=if k=1 then 1 else if k=2∨k=3 then 2 else if k=4∨k=5 then 3 else 4
def sS (l:List Fd) (s:RS):List Int:=s.key.map fun k=>((fld l k).w:Int)
def vOf (l:List Fd) (s:RS):RV:=⟨s.var,tH s.kind,sS l s,if s.own then s.n else 0,if s.own then s.m else 0⟩
def tV (l:List Fd) (s t:RS):Bool:= !(s.own&&t.own&&((s.n !=t.n)||(s.m !=t.m)))&&((sS l s==sS l t)&&(tH s.kind==tH t.kind))
theorem tY {l:List Fd} {s t:RS}:tV l s t=true↔(s.own=true→t.own=true→s.n=t.n∧s.m=t.m)∧sS l s=sS l t∧tH s.kind=tH t.kind:=by
 unfold tV
 cases h1:s.own <;> cases h2:t.own <;> simp
theorem yJ {l:List Fd} (s:RS):tV l s s=true:=by rw [tY];simp
theorem yK {l:List Fd} {s t:RS} (h:tV l s t=true):tV l t s=true:=by
 rw [tY] at *
 exact ⟨fun a b=>⟨(h.1 b a).1.symm,(h.1 b a).2.symm⟩,h.2.1.symm,h.2.2.symm⟩
def PW (l:List Fd) (ss:List RS):Prop:=ss.Pairwise fun s t=>s.var=t.var→tV l s t=true
theorem PW.all {l:List Fd} {ss:List RS} (h:PW l ss): ∀s∈ss, ∀t∈ss,s.var=t.var→tV l s t=true:=by
 induction ss with
 |nil=>intro s hs;simp at hs
 |cons x xs ih=>
  have h2:=List.pairwise_cons.1 h
  intro s hs t ht e
  rcases List.mem_cons.1 hs with e1|hs'
  ·rcases List.mem_cons.1 ht with e2|ht'
   ·rw [e1,e2];exact yJ _
   ·subst e1;exact h2.1 t ht' e
  ·rcases List.mem_cons.1 ht with e2|ht'
   ·subst e2;exact yK (h2.1 s hs' e.symm)
   ·exact ih h2.2 s hs' t ht' e
theorem PW.of {l:List Fd} {ss:List RS} (h: ∀s∈ss, ∀t∈ss,s.var=t.var→tV l s t=true):PW l ss:=by
 induction ss with
 |nil=>exact List.Pairwise.nil
 |cons x xs ih=>exact List.pairwise_cons.2 ⟨fun t ht e=>h x (by simp) t (by simp [ht]) e,ih fun s hs t ht=>h s (by simp [hs]) t (by simp [ht])⟩
theorem Hw {l:List Fd} {ss:List RS}:PW l ss↔ ∀s∈ss, ∀t∈ss,s.var=t.var→tV l s t=true:=⟨PW.all,PW.of⟩
theorem Ck {l:List Fd} {ss:List RS} {t:RS}:PW l (ss++[t])↔PW l ss∧ ∀s∈ss,s.var=t.var→tV l s t=true:=by
 unfold PW
 rw [List.pairwise_append]
 exact ⟨fun h=>⟨h.1,fun s hs=>h.2.2 s hs t (by simp)⟩,fun h=>⟨h.1,by simp,fun a ha b hb=>by rw [List.mem_singleton.1 hb];exact h.2 a ha⟩⟩
def tq (ss:List RS) (name:ByteArray):Option RS:=ss.find? fun s=>decide (s.var=name)&&s.own
def wF (l:List Fd) (ss:List RS) (name:ByteArray):Option RV:=match ss.find? fun s=>decide (s.var=name) with
 |none=>none
 |some s=>some ⟨name,tH s.kind,sS l s,((tq ss name).map (·.n)).getD 0,((tq ss name).map (·.m)).getD 0⟩
structure VS where
 all:List RV
 num:List (ByteArray×Bool)
def tc (all:List RV) (name:ByteArray):Option RV:=all.find? fun v=>decide (v.name=name)
def uJ (v:RV):List RV→List RV
 |[]=>[v]
 |x::xs=>if x.name=v.name then v::xs else x::uJ v xs
def tW (num:List (ByteArray×Bool)) (name:ByteArray):Option Bool:=(num.find? fun p=>decide (p.1=name)).map (·.2)
def xr (name:ByteArray) (b:Bool):List (ByteArray×Bool)→List (ByteArray×Bool)
 |[]=>[(name,b)]
 |x::xs=>if x.1=name then (name,b)::xs else x::xr name b xs
theorem w4 {v:RV} {all:List RV} {name:ByteArray}:tc (uJ v all) name=if v.name=name then some v else tc all name:=by
 induction all with
 |nil=>unfold uJ tc;by_cases h:v.name=name <;> simp [h]
 |cons x xs ih=>
  unfold uJ
  by_cases hx:x.name=v.name
  ·rw [if_pos hx]
   unfold tc
   by_cases h:v.name=name
   ·simp [h]
   ·have: ¬x.name=name:=fun e=>h (hx.symm.trans e)
    simp [h,this]
  ·rw [if_neg hx]
   unfold tc at ih ⊢
   rw [List.find?_cons,List.find?_cons,ih]
   by_cases h:x.name=name
   ·have: ¬v.name=name:=fun e=>hx (h.trans e.symm)
    simp [h,this]
   ·simp [h]
theorem D5 {n:ByteArray} {b:Bool} {num:List (ByteArray×Bool)} {name:ByteArray}:tW (xr n b num) name=if n=name then some b else tW num name:=by
 induction num with
 |nil=>unfold xr tW;by_cases h:n=name <;> simp [h]
 |cons x xs ih=>
  unfold xr
  by_cases hx:x.1=n
  ·rw [if_pos hx]
   unfold tW
   by_cases h:n=name
   ·simp [h]
   ·have: ¬x.1=name:=fun e=>h (hx.symm.trans e)
    simp [h,this]
  ·rw [if_neg hx]
   unfold tW at ih ⊢
   rw [List.find?_cons,List.find?_cons]
   by_cases h:x.1=name
   ·have: ¬n=name:=fun e=>hx (h.trans e.symm)
    simp [h,this]
   ·simp only [h,decide_false];exact ih
theorem zK {v:RV} {all:List RV}:(uJ v all).map (·.name)=if v.name∈all.map (·.name) then all.map (·.name) else all.map (·.name)++[v.name]:=by
 induction all with
 |nil=>simp [uJ]
 |cons x xs ih=>
  unfold uJ
  by_cases hx:x.name=v.name
  ·rw [if_pos hx,if_pos (by rw [List.map_cons,hx];exact List.mem_cons_self)];simp [hx]
  ·rw [if_neg hx,List.map_cons,ih,List.map_cons]
   by_cases hm:v.name∈xs.map (·.name)
   ·rw [if_pos hm,if_pos (List.mem_cons_of_mem _ hm)]
   ·rw [if_neg hm,if_neg (fun h=>by
     rcases List.mem_cons.1 h with h|h
     ·exact hx h.symm
     ·exact hm h)]
    rfl
def uX (l:List Fd) (st:VS) (s:RS):Option VS:=
 let num:=xr s.var (((tW st.num s.var).getD false)||s.own) st.num
 match tc st.all s.var with
 |none=>some ⟨uJ (vOf l s) st.all,num⟩
 |some old=>if (old.fam !=tH s.kind)|| !(old.ws==sS l s)||(s.own&&((tW st.num s.var).getD false)&&((old.n !=s.n)||(old.m !=s.m))) then none
  else some ⟨if s.own then uJ (vOf l s) st.all else st.all,num⟩
def ug (l:List Fd):VS→List RS→Option VS
 |st,[]=>some st
 |st,s::ss=>(uX l st s).bind fun st=>ug l st ss
structure xd (l:List Fd) (ss:List RS) (st:VS):Prop where
 pw:PW l ss
 look: ∀name,tc st.all name=wF l ss name
 num: ∀name,(tW st.num name).getD false=(tq ss name).isSome
 names:st.all.map (·.name)=once [] (ss.map (·.var))
theorem u9 {α:Type} [DecidableEq α]: ∀{xs acc:List α} {y:α},once acc (xs++[y])=(if y∈once acc xs then once acc xs else once acc xs++[y])
 |[],acc,y=>rfl
 |x::xs,acc,y=>by
  rw [List.cons_append]
  unfold once
  exact u9
theorem uG {α:Type} {p:α→Bool} {ss:List α} {t:α}:(ss++[t]).find? p=match ss.find? p with
  |some s=>some s
  |none=>if p t=true then some t else none:=by
 rw [List.find?_append]
 cases ss.find? p with
 |some s=>rfl
 |none=>simp [List.find?_cons];cases p t <;> rfl
theorem xd.step {l:List Fd} {ss:List RS} {st:VS} (h:xd l ss st) (t:RS):
  (PW l (ss++[t])→ ∃st',uX l st t=some st'∧xd l (ss++[t]) st')∧(¬ PW l (ss++[t])→uX l st t=none):=by
 have hl:=h.look t.var
 have hn:=h.num t.var
 have hsome: ∀s0,ss.find? (fun s=>decide (s.var=t.var))=some s0→s0∈ss∧s0.var=t.var:=fun s0 h0=>⟨List.mem_of_find?_eq_some h0,by simpa using List.find?_some h0⟩
 have hown: ∀s1,tq ss t.var=some s1→s1∈ss∧s1.var=t.var∧s1.own=true:=fun s1 h1=>⟨List.mem_of_find?_eq_some h1,by simpa using List.find?_some h1⟩
 have hpw:=h.pw.all
 have lookO: ∀(x:List RV) name, ¬t.var=name→tc x name=tc st.all name→tc x name=wF l (ss++[t]) name:=fun x name hne hx=>by
  rw [hx,h.look name]
  unfold wF tq
  rw [uG,uG]
  simp only [hne,decide_false,Bool.false_and]
  cases ss.find? fun s=>decide (s.var=name) with
  |none=>rfl
  |some s=>simp only;cases ss.find? fun s=>decide (s.var=name)&&s.own <;> rfl
 have numI: ∀name,(tW (xr t.var (((tW st.num t.var).getD false)||t.own) st.num) name).getD false=(tq (ss++[t]) name).isSome:=fun name=>by
  rw [D5]
  unfold tq
  rw [uG]
  by_cases hne:t.var=name
  ·subst hne
   rw [if_pos rfl,Option.getD_some,hn]
   unfold tq
   cases ss.find? fun s=>decide (s.var=t.var)&&s.own with
   |some s=>simp
   |none=>cases ho:t.own <;> simp []
  ·rw [if_neg hne,h.num name]
   unfold tq
   simp only [hne,decide_false,Bool.false_and]
   cases ss.find? fun s=>decide (s.var=name)&&s.own <;> rfl
 unfold uX
 dsimp only
 cases hf:ss.find? (fun s=>decide (s.var=t.var)) with
 |none=>
  have hno: ∀s∈ss, ¬s.var=t.var:=fun s hs=>by
   have:=List.find?_eq_none.1 hf s hs;simpa using this
  have hlk:tc st.all t.var=none:=by rw [hl];unfold wF;rw [hf]
  rw [hlk]
  have hp2:PW l (ss++[t]):=Ck.2 ⟨h.pw,fun s hs e=>absurd e (hno s hs)⟩
  refine ⟨fun _=>⟨_,rfl,hp2,fun name=>?_,numI,?_⟩,fun hc=>absurd hp2 hc⟩
  ·by_cases hne:t.var=name
   ·subst hne
    rw [w4]
    have h0:tq ss t.var=none:=by
     unfold tq
     rw [List.find?_eq_none]
     intro s hs;simp [hno s hs]
    unfold wF
    rw [uG,hf]
    have:(vOf l t).name=t.var:=rfl
    rw [if_pos this]
    simp only [decide_true,if_true]
    unfold tq at h0 ⊢
    rw [uG,h0]
    simp only [decide_true,Bool.true_and,vOf]
    cases t.own <;> rfl
   ·refine lookO _ name hne ?_
    rw [w4]
    exact if_neg hne
  ·show (uJ (vOf l t) st.all).map (·.name)=_
   rw [zK,h.names,List.map_append,List.map_cons,List.map_nil,u9]
   rfl
 |some s0=>
  obtain ⟨m0,v0⟩:=hsome s0 hf
  have hlk:tc st.all t.var=some ⟨t.var,tH s0.kind,sS l s0,((tq ss t.var).map (·.n)).getD 0,((tq ss t.var).map (·.m)).getD 0⟩:=by rw [hl];unfold wF;rw [hf]
  rw [hlk]
  dsimp only
  have key:PW l (ss++[t])↔(tH s0.kind=tH t.kind∧sS l s0=sS l t)∧(t.own=true→ ∀s1,tq ss t.var=some s1→s1.n=t.n∧s1.m=t.m):=by
   rw [Ck]
   constructor
   ·rintro ⟨_,ha⟩
    have h0:=tY.1 (ha s0 m0 v0)
    exact ⟨⟨h0.2.2,h0.2.1⟩,fun ho s1 h1=>by
     obtain ⟨k1,k2,k3⟩:=hown s1 h1
     exact (tY.1 (ha s1 k1 k2)).1 k3 ho⟩
   ·rintro ⟨⟨f1,f2⟩,f3⟩
    refine ⟨h.pw,fun s hs e=>tY.2 ⟨fun hso hto=>?_,?_,?_⟩⟩
    ·have:(tq ss t.var).isSome=true:=by
      unfold tq
      rw [List.find?_isSome]
      exact ⟨s,hs,by simp [e,hso]⟩
     obtain ⟨s1,h1⟩:=Option.isSome_iff_exists.1 this
     obtain ⟨k1,k2,k3⟩:=hown s1 h1
     have h4:=(tY.1 (hpw s hs s1 k1 (e.trans k2.symm))).1 hso k3
     have h5:=f3 hto s1 h1
     exact ⟨h4.1.trans h5.1,h4.2.trans h5.2⟩
    ·exact (tY.1 (hpw s hs s0 m0 (e.trans v0.symm))).2.1.trans f2
    ·exact (tY.1 (hpw s hs s0 m0 (e.trans v0.symm))).2.2.trans f1
  have cond:((tH s0.kind !=tH t.kind)|| !(sS l s0==sS l t)||(t.own&&((tW st.num t.var).getD false)&&((((tq ss t.var).map (·.n)).getD 0 !=t.n)||(((tq ss t.var).map (·.m)).getD 0 !=t.m))))=true↔ ¬PW l (ss++[t]):=by
   rw [key,hn]
   cases ho:tq ss t.var with
   |none=>simp;exact ⟨fun h=>by rcases h with h|h <;> simp [h],fun h=>by
     by_cases e:tH s0.kind=tH t.kind
     ·exact Or.inr (h e)
     ·exact Or.inl e⟩
   |some s1=>
    simp only [Option.map_some,Option.getD_some,Option.isSome_some,Bool.and_true,Bool.or_eq_true,Bool.and_eq_true,bne_iff_ne,ne_eq,Bool.not_eq_true',beq_eq_false_iff_ne,Option.some.injEq]
    constructor
    ·rintro ((h|h)|⟨h1,h2⟩) ⟨⟨k1,k2⟩,k3⟩
     ·exact h k1
     ·exact h k2
     ·have:=k3 h1 s1 rfl
      rcases h2 with h2|h2
      ·exact h2 this.1
      ·exact h2 this.2
    ·intro hn'
     by_cases e1:tH s0.kind=tH t.kind
     ·by_cases e2:sS l s0=sS l t
      ·by_cases e3:t.own=true
       ·refine Or.inr ⟨e3,?_⟩
        by_cases e4:s1.n=t.n
        ·refine Or.inr fun e5=>hn' ⟨⟨e1,e2⟩,fun _ s h=>by rw [← h];exact ⟨e4,e5⟩⟩
        ·exact Or.inl e4
       ·exact absurd ⟨⟨e1,e2⟩,fun h=>absurd h e3⟩ hn'
      ·exact Or.inl (Or.inr e2)
     ·exact Or.inl (Or.inl e1)
  constructor
  ·intro hp
   rw [if_neg (fun hc=>cond.1 hc hp)]
   obtain ⟨⟨f1,f2⟩,f3⟩:=key.1 hp
   refine ⟨_,rfl,hp,fun name=>?_,numI,?_⟩
   ·by_cases hne:t.var=name
    ·subst hne
     have hs:wF l (ss++[t]) t.var=some ⟨t.var,tH s0.kind,sS l s0,((tq (ss++[t]) t.var).map (·.n)).getD 0,((tq (ss++[t]) t.var).map (·.m)).getD 0⟩:=by
      unfold wF
      rw [uG,hf]
     have ho:tq (ss++[t]) t.var=match tq ss t.var with
       |some s=>some s
       |none=>if t.own=true then some t else none:=by
      unfold tq
      rw [uG]
      simp only [decide_true,Bool.true_and]
      cases ss.find? fun s=>decide (s.var=t.var)&&s.own <;> rfl
     rw [hs,ho]
     show tc (if t.own=true then uJ (vOf l t) st.all else st.all) t.var=_
     cases hto:t.own with
     |false=>
      simp only [Bool.false_eq_true,if_false]
      rw [hlk]
      cases tq ss t.var <;> rfl
     |true=>
      simp only [if_true]
      rw [w4,if_pos (show (vOf l t).name=t.var from rfl)]
      unfold vOf
      rw [hto,f1,f2]
      cases ho2:tq ss t.var with
      |none=>rfl
      |some s1=>
       obtain ⟨k1,k2⟩:=f3 hto s1 ho2
       simp [k1,k2]
    ·refine lookO _ name hne ?_
     show tc (if t.own=true then uJ (vOf l t) st.all else st.all) name=_
     cases t.own with
     |false=>rfl
     |true=>
      simp only [if_true]
      rw [w4]
      exact if_neg hne
   ·show (if t.own=true then uJ (vOf l t) st.all else st.all).map (·.name)=_
    have hc:t.var∈once [] (ss.map (·.var)):=by
     rw [vI]
     exact Or.inr (List.mem_map.2 ⟨s0,m0,v0⟩)
    rw [List.map_append,List.map_cons,List.map_nil,u9,if_pos hc]
    cases t.own with
    |false=>exact h.names
    |true=>
     simp only [if_true]
     rw [zK,h.names]
     exact if_pos (show (vOf l t).name∈_ from hc)
  ·intro hp
   rw [if_pos (cond.2 hp)]
theorem xX {l:List Fd}: ∀{ts ss:List RS} {st:VS},xd l ss st→(PW l (ss++ts)→ ∃st',ug l st ts=some st'∧xd l (ss++ts) st')∧(¬ PW l (ss++ts)→ug l st ts=none)
 |[],ss,st,h=>by
  rw [List.append_nil]
  exact ⟨fun _=>⟨st,rfl,h⟩,fun hn=>absurd h.pw hn⟩
 |t::ts,ss,st,h=>by
  have hs:=h.step t
  have e:ss++t::ts=(ss++[t])++ts:=by simp
  rw [e]
  by_cases hp:PW l (ss++[t])
  ·obtain ⟨st',h1,h2⟩:=hs.1 hp
   have:=xX (ts:=ts) h2
   unfold ug
   rw [h1,Option.bind_some]
   exact this
  ·have hnp: ¬PW l ((ss++[t])++ts):=fun hq=>hp (List.Pairwise.sublist (List.sublist_append_left _ _) hq)
   refine ⟨fun hq=>absurd hq hnp,fun _=>?_⟩
   unfold ug
   rw [hs.2 hp];rfl
theorem xd.start {l:List Fd}:xd l [] ⟨[],[]⟩:=⟨List.Pairwise.nil,fun _=>rfl,fun _=>rfl,rfl⟩
def sJ (ss:List RS):List RS:=ss.filter fun s=>s.kind !=0
end Go.TY
end
section
namespace Go.TY
open Go Go.DL Go.MM Go.Proofs
structure RG where
 pol:RO
 st:RS
def sc (g:RG):List T:=r9 g.pol++se g.st
def sg (g:RG):T:=.agg (sc g)
theorem sq (g:RG):(sc g).length=15:=by simp [sc,sd,se]
structure SmS (B:Nat) (s:RS):Prop where
 var:s.var.size<B
 field:s.field.size<B
 keys: ∀k∈s.key,k.size<B
 len:s.key.length<B
theorem SmS.mono {B B':Nat} {s:RS} (h:SmS B s) (hb:B≤B'):SmS B' s:=⟨by have:=h.var;omega,by have:=h.field;omega,fun k hk=>by have:=h.keys k hk;omega,by have:=h.len;omega⟩
structure SmG (B:Nat) (g:RG):Prop where
 st:SmS B g.st
 wt:g.pol.wt≤B
 names:B≤2^61→uj g.pol
theorem CH:Tryz.prog.underlying 29=some (.slice 9):=by kernel_rfl
theorem Au:Tryz.prog.underlying 56=some (.slice 61):=by kernel_rfl
theorem DW:Tryz.prog.cellsOf 29=1:=by kernel_rfl
theorem Aw:Tryz.prog.cellsOf 31=6:=by kernel_rfl
theorem zk:Tryz.prog.cellsOf 61=15:=by kernel_rfl
theorem G9 (us:List T):mkT Tryz.prog 61 us= .agg us:=by unfold mkT;rw [Tryz.underlying61]
theorem mkStr (t:T):mkT Tryz.prog 9 [t]=t:=by unfold mkT;rw [Jg];rfl
theorem Hl {us:List T} (h:ct Tryz.prog 29 us): ∃l:List ByteArray,df us [.slice 1 (l.map .str)]∧l.length+1≤aR us∧ ∀s∈l,s.size<aR us:=by
 cases h with
 |nil h=>exact ⟨[],.cons (Les.nil 1) rfl .nil,by simp [aR,T.bulk],by simp⟩
 |slice h xs hx hl=>
  rw [CH] at h
  cases h
  rw [xt]
  have key: ∃l:List ByteArray,xs.map (mkT Tryz.prog 9)=l.map .str∧l.length≤aR (xs.map (mkT Tryz.prog 9))∧ ∀s∈l,s.size<aR (xs.map (mkT Tryz.prog 9)):=by
   clear hl
   induction xs with
   |nil=>exact ⟨[],rfl,by simp,by simp⟩
   |cons x xs ih=>
    obtain ⟨s,rfl⟩:=xx (hx x (by simp))
    obtain ⟨l,k1,k2,k3⟩:=ih fun y hy=>hx y (by simp [hy])
    refine ⟨s::l,by simp only [List.map_cons,k1,mkStr],?_,fun z hz=>?_⟩
    ·simp only [List.map_cons,aR,mkStr,T.bulk,List.length_cons];omega
    ·simp only [List.map_cons,aR,mkStr,T.bulk]
     rcases List.mem_cons.1 hz with rfl|hz
     ·omega
     ·have:=k3 z hz;omega
  obtain ⟨l,k1,k2,k3⟩:=key
  refine ⟨l,by rw [← k1];exact .cons (Les.refl _) rfl .nil,by simp only [aR,T.bulk];omega,fun s hs=>by simp only [aR,T.bulk];have:=k3 s hs;omega⟩
 |int h|bool h|str h|array h|struct h=>rw [CH] at h;cases h
theorem J1 {us:List T} (h:us.length=6): ∃a b c d e f,us=[a,b,c,d,e,f]:=by
 match us,h with
 |[a,b,c,d,e,f],_=>exact ⟨a,b,c,d,e,f,rfl⟩
theorem Hk {us:List T} (h:ct Tryz.prog 31 us): ∃s:RS,df us (se s)∧SmS (aR us) s:=by
 cases h with
 |struct h us hl hf=>
  rw [Tryz.underlying31] at h
  cases h
  rw [Aw] at hl
  obtain ⟨a,b,c,d,e,f,rfl⟩:=J1 hl
  have f0:=hf ⟨ "Kind",3,0,false, "", "",0⟩ (by simp)
  have f1:=hf ⟨ "Var",9,1,false, "", "",8⟩ (by simp)
  have f2:=hf ⟨ "Key",29,2,false, "", "",24⟩ (by simp)
  have f3:=hf ⟨ "Field",9,3,false, "", "",48⟩ (by simp)
  have f4:=hf ⟨ "N",3,4,false, "", "",64⟩ (by simp)
  have f5:=hf ⟨ "M",3,5,false, "", "",72⟩ (by simp)
  simp only [zj,xt,DW,List.drop,List.take] at f0 f1 f2 f3 f4 f5
  obtain ⟨k,e0,_⟩:=uH f0
  obtain ⟨v,e1⟩:=xx f1
  obtain ⟨l,g1,g2,g3⟩:=Hl f2
  obtain ⟨s,e3⟩:=xx f3
  obtain ⟨n,e4,_⟩:=uH f4
  obtain ⟨m,e5,_⟩:=uH f5
  simp only [List.cons.injEq,and_true] at e0 e1 e3 e4 e5
  subst e0;subst e1;subst e3;subst e4;subst e5
  refine ⟨⟨k,v,l,s,n,m⟩,.cons (Les.refl _) rfl (.cons (Les.refl _) rfl (df.append (us:=[T.slice 1 (l.map .str)]) g1 (.cons (Les.refl _) rfl (.cons (Les.refl _) rfl (.cons (Les.refl _) rfl .nil))))),?_⟩
  simp only [aR,T.bulk] at g2 g3 ⊢
  exact ⟨by show v.size<_;omega,by show s.size<_;omega,fun z hz=>by have:=g3 z hz;omega,by show l.length<_;omega⟩
 |int h|bool h|str h|nil h|slice h|array h=>rw [Tryz.underlying31] at h;cases h
theorem FN {us:List T} (h:ct Tryz.prog 61 us): ∃g:RG,df us (sc g)∧SmG (aR us) g:=by
 cases h with
 |struct h us hl hf=>
  rw [Tryz.underlying61] at h
  cases h
  rw [zk] at hl
  have f0:=(E9 (hf ⟨ "Policy",28,0,false, "", "",0⟩ (by simp))).1 rfl
  have f1:=Hk (hf ⟨ "Step",31,9,false, "", "",120⟩ (by simp))
  rw [Ad] at f0
  rw [Aw] at f1
  obtain ⟨r,r1,r2,r3⟩:=f0
  obtain ⟨s,s1,s2⟩:=f1
  dsimp only at r1 r2 r3 s1 s2
  have hap:us=(us.drop 0).take 9++(us.drop 9).take 6:=by
   rw [List.drop_zero,List.take_of_length_le (l:=us.drop 9) (by simp;omega),List.take_append_drop]
  have hbk: ∀a b:List T,aR (a++b)=aR a+aR b:=fun a b=>by
   induction a with
   |nil=>simp [aR]
   |cons x xs ih=>simp only [List.cons_append,aR,ih];omega
  have hb:=hbk ((us.drop 0).take 9) ((us.drop 9).take 6)
  rw [← hap] at hb
  refine ⟨⟨r,s⟩,?_,⟨s2.mono (by omega),by show r.wt≤_;omega,fun h=>r3 (by omega)⟩⟩
  rw [hap]
  exact df.append r1 s1
 |int h|bool h|str h|nil h|slice h|array h=>rw [Tryz.underlying61] at h;cases h
theorem Hj {us:List T} (h:ct Tryz.prog 56 us): ∃gs:List RG,Les (mkT Tryz.prog 56 us) (.slice 15 (gs.map sg))∧gs.length≤aR us∧ ∀g∈gs,SmG (aR us) g:=by
 have e: ∀t,mkT Tryz.prog 56 [t]=t:=fun t=>by unfold mkT;rw [Au];rfl
 cases h with
 |nil h=>exact ⟨[],by rw [e];exact Les.nil 15,by simp,by simp⟩
 |slice h xs hx hl=>
  rw [Au] at h
  cases h
  rw [e,zk]
  have em:xs.map (mkT Tryz.prog 61)=xs.map .agg:=List.map_congr_left fun x _=>G9 x
  rw [em]
  have key: ∃gs:List RG,gs.length=xs.length∧(∀ (i:Nat) (x:List T) (r:RG),xs[i]? =some x→gs[i]? =some r→df x (sc r))∧gs.length≤aR (xs.map .agg)∧ ∀g∈gs,SmG (aR (xs.map .agg)) g:=by
   clear hl em
   induction xs with
   |nil=>exact ⟨[],rfl,by simp,by simp,by simp⟩
   |cons x xs ih=>
    obtain ⟨g,h1,h2⟩:=FN (hx x (by simp))
    obtain ⟨gs,k1,k2,k3,k4⟩:=ih fun y hy=>hx y (by simp [hy])
    have hv:=h2.st.var
    refine ⟨g::gs,by simp [k1],fun i a b ha hb=>?_,by simp only [List.map_cons,aR,T.bulk,List.length_cons];omega,fun z hz=>?_⟩
    ·cases i with
     |zero=>simp at ha hb;subst ha;subst hb;exact h1
     |succ i=>exact k2 i a b (by simpa using ha) (by simpa using hb)
    ·have up: ∀{B:Nat} {z:RG},SmG B z→B≤aR ((x::xs).map .agg)→SmG (aR ((x::xs).map .agg)) z:=fun h hb=>⟨h.st.mono hb,by have:=h.wt;omega,fun hh=>h.names (by omega)⟩
     rcases List.mem_cons.1 hz with rfl|hz
     ·exact up h2 (by simp only [List.map_cons,aR,T.bulk];omega)
     ·exact up (k4 z hz) (by simp only [List.map_cons,aR,T.bulk];omega)
  obtain ⟨gs,k1,k2,k3,k4⟩:=key
  refine ⟨gs,Les.slice (by simp [k1]) fun i x y hx hy=>?_,by simp only [aR,T.bulk];omega,fun g hg=>?_⟩
  ·rw [List.getElem?_map] at hx hy
   obtain ⟨x',hx',rfl⟩:=Option.map_eq_some_iff.1 hx
   obtain ⟨r',hr',rfl⟩:=Option.map_eq_some_iff.1 hy
   exact ⟨k2 i x' r' hx' hr',sq r'⟩
  ·have h:=k4 g hg
   have hb:aR (xs.map .agg)≤aR [T.slice 15 (xs.map .agg)]:=by simp only [aR,T.bulk];omega
   exact ⟨h.st.mono hb,by have:=h.wt;omega,fun hh=>h.names (by omega)⟩
 |int h|bool h|str h|array h|struct h=>rw [Au] at h;cases h
end Go.TY
end
section
namespace Go.TY
open Go Go.DL Go.MM Go.Proofs Go.RowKit
def typesT:List TypeId:=[22,88,25,23,28,26,31,29,61,56,66,46,9,3,4,5]
theorem typesT_ok:eJ Tryz.prog typesT=true:=by kernel_rfl
theorem aInt {us:List T} (h:ct Tryz.prog 3 us): ∃n,mkT Tryz.prog 3 us=I n:=by
 obtain ⟨n,rfl,_⟩:=uH h
 exact ⟨n,by unfold mkT;rw [Tryz.underlying3];rfl⟩
theorem aFields {us:List T} (h:ct Tryz.prog 22 us) (hb:aR us≤1048576): ∃l,Les (mkT Tryz.prog 22 us) (vW l)∧l.length<2^60∧ ∀f∈l,f.name.size<2^62:=by
 obtain ⟨l,h1,h2,h3⟩:=E8 h
 exact ⟨l,h1,by omega,fun f hf=>by have:=h3 f hf;omega⟩
theorem aProg {us:List T} (h:ct Tryz.prog 56 us) (hb:aR us≤1048576): ∃gs:List RG,Les (mkT Tryz.prog 56 us) (.slice 15 (gs.map sg))∧gs.length≤1048576∧ ∀g∈gs,SmG (2^30) g:=by
 obtain ⟨gs,h1,h2,h3⟩:=Hj h
 exact ⟨gs,h1,by omega,fun g hg=>by
  have:=h3 g hg
  exact ⟨this.st.mono (by omega),by have:=this.wt;omega,fun _=>this.names (by omega)⟩⟩
def DR {H:Type} (ss:List ByteArray):DataW H:=.agg (ss.map fun s=>.lit (.string s.data.toList))
theorem AN {H:Type} {enc:TypeId×Value→H} {P:Program} {w:World} {base:Nat} {sp:Nat→Bool} {held:Bool} {fuel:Nat} {t e:TypeId} {n:Nat} {cs:List Value} {ss:List ByteArray} {p:List MemPlace}
  (ht:P.underlying t=some (.array n e)) (he:P.underlying e=some .string) (hce:P.cellsOf e=1) (hct:P.cellsOf t=n)
  (h:DataW.trod enc P w base sp held fuel t cs=some (DR ss,p)):cs=ss.map fun z=>Value.string z:=by
 cases fuel with
 |zero=>simp [DataW.trod] at h
 |succ fuel=>
  simp only [DataW.trod,ht,hce,hct,Nat.mul_one] at h
  split at h
  ·rename_i hl
   obtain ⟨xs,hm,hx⟩:=Option.map_eq_some_iff.1 h
   have hxs:xs.map (·.1)=ss.map fun s=>(DataW.lit (.string s.data.toList):DataW H):=by
    have:=congrArg Prod.fst hx
    simpa [DR] using this
   have hxl:xs.length=n:=by simpa using Lib.mapM_length hm
   have hzl:ss.length=n:=by
    have:=congrArg List.length hxs
    simp at this
    omega
   apply List.ext_getElem?
   intro i
   by_cases hi:i<n
   ·obtain ⟨b,hb,hf⟩:=Lib.mapM_at hm i i (by simp [hi])
    obtain ⟨z,hc,rfl,_⟩:=DataW.trod_string he hf
    have h1:cs[i]? =some (.string z):=by
     have:=congrArg (·[0]?) hc
     simpa [List.getElem?_take,List.getElem?_drop] using this
    have h2:(xs.map (·.1))[i]? =some (DataW.lit (.string z.data.toList):DataW H):=by simp [hb]
    rw [hxs] at h2
    simp only [List.getElem?_map,Option.map_eq_some_iff,DataW.lit.injEq,Lit.string.injEq] at h2
    obtain ⟨z',hz',e⟩:=h2
    have e:z'=z:=ByteArray.ext (Array.ext' e)
    simp [h1,hz',e]
   ·rw [List.getElem?_eq_none (by omega),List.getElem?_eq_none (by simp;omega)]
  ·cases h
theorem B5 {P:Program} {W:World} {name:String} {ss:List ByteArray} {rest:List (String×DataW Unit)} {g:Nat} {t e:TypeId} {n:Nat}
  (hg:P.globalNamed name=some g) (hty:(P.globals[g]?).map (·.type)=some t) (ht:P.underlying t=some (.array n e)) (he:P.underlying e=some .string) (hce:P.cellsOf e=1) (hct:P.cellsOf t=n)
  (h:laidMet P ((name,DR ss)::rest) W):W.var? P name=some (ss.map fun z=>Value.string z).toArray:=by
 obtain ⟨ps,⟨g',t',cs,fuel,p,q,hg',ht',hvar,hd,_,_⟩,_⟩:=h
 obtain rfl:=Option.some.inj (hg.symm.trans hg')
 obtain rfl:=Option.some.inj (hty.symm.trans ht')
 rw [hvar, ←AN ht he hce hct hd]
theorem Cq:Tryz.prog.globalNamed "interlace/token.words" =some 0:=by kernel_rfl
theorem B9:(Tryz.prog.globals[0]?).map (·.type)=some 185:=by kernel_rfl
theorem Fy:Tryz.prog.cellsOf 185=49:=by kernel_rfl
theorem globOk_words {W:World} (h:laidMet Tryz.prog [("interlace/token.words",DR wordsG)] W):bI (fun b _=>b<W.heap.size) W:=fun g cs hg=>by
 match g,hg with
 |0,hg=>
  cases hg
  have hv:=B5 Cq B9 Tryz.underlying185 Tryz.underlying9 xt Fy h
  have hc: ∀i,i<wordsG.length→W.cell? ⟨0,i,none⟩=some (.string (wordsG.getD i e0)):=fun i hi=>by
   have:=World.var?_cell Cq hv i
   simpa [List.getD,hi] using this
  have lt:0<W.heap.size:=by
   have:=hc 0 (by decide)
   unfold World.cell? at this
   rcases Nat.lt_or_ge 0 W.heap.size with h|h
   ·exact h
   ·simp [Array.getElem?_eq_none h] at this
  refine ⟨lt,fun i=>.string (wordsG.getD i e0),fun i t ht=>?_⟩
  rw [List.getElem?_map,Option.map_eq_some_iff] at ht
  obtain ⟨z,hz,rfl⟩:=ht
  have hi:=(gsZ hz).1
  have e:wordsG.getD i e0=z:=by simp [List.getD,hz]
  exact ⟨hc i hi,lt,rfl,rfl,by show Rep _ _ (.string (wordsG.getD i e0)) _;rw [e];exact .str z⟩
end Go.TY
end
section
namespace Go.TY
open Go Go.DL Go.MM
mutual
def tg:RP→List RP
 |.mk k f n m a=>.mk k f n m a::sW a
def sW:List RP→List RP
 |[]=>[]
 |r::rs=>tg r++sW rs
end
theorem xB (r:RP):tg r=r::sW r.args:=by cases r;simp [tg,RP.args]
theorem yi: ∀(a b:List RP),sW (a++b)=sW a++sW b
 |[],_=>by simp [sW]
 |r::a,b=>by rw [List.cons_append,sW,sW,yi a b,List.append_assoc]
theorem EZ (r:RP):sW [r]=tg r:=by simp [sW]
theorem zI {l:List RP} {j:Nat} (h:j<l.length):sW (l.take (j+1))=sW (l.take j)++tg l[j]:=by
 rw [List.take_succ_eq_append_getElem h,yi,EZ]
theorem EY {l:List RP} {r:RP} (h:r∈l):(tg r).length≤(sW l).length:=by
 induction l with
 |nil=>simp at h
 |cons x l ih=>
  rw [sW,List.length_append]
  rcases List.mem_cons.1 h with rfl|h
  ·omega
  ·have:=ih h;omega
theorem EW {l:List RP} {j i:Nat} {x:RP} (h:j<l.length) (hx:(tg l[j])[i]? =some x):(sW l)[(sW (l.take j)).length+i]? =some x:=by
 have e:sW l=sW (l.take j)++(tg l[j]++sW (l.drop (j+1))):=by
  conv=>lhs;rw [← List.take_append_drop (j+1) l]
  rw [yi,zI h,List.append_assoc]
 have hi:=(gsZ hx).1
 rw [e,List.getElem?_append_right (by omega),Nat.add_sub_cancel_left,List.getElem?_append_left hi]
 exact hx
theorem EX {l:List RP} {j:Nat} (h:j<l.length):(tg l[j]).length≤(sW l).length:=EY (List.getElem_mem h)
theorem Bj: ∀(l:List RP),l.length≤(sW l).length
 |[]=>Nat.zero_le _
 |r::l=>by
  have:=Bj l
  rw [sW,xB,List.cons_append,List.length_cons,List.length_cons,List.length_append];omega
def sU:RO→List T
 |.mk k p f n a=>[I k,I p.kind,.str p.field,I p.n,I p.m,.slice 5 (p.args.map sA),.str f,I n,.slice 9 (a.map sL)]
theorem uE (r:RO):sU r=r9 r:=by
 obtain ⟨k,⟨pk,pf,pn,pm,pa⟩,f,n,a⟩:=r;rfl
abbrev uC (r:RO):T:=sL r
theorem sI (r:RO):uC r= .agg (sU r):=by rw [uE,uC,sy]
theorem tz (r:RO):(sU r).length=9:=by cases r;rfl
mutual
def sj:RO→List RO
 |.mk k p f n a=>.mk k p f n a::sM a
def sM:List RO→List RO
 |[]=>[]
 |r::rs=>sj r++sM rs
end
theorem xA (r:RO):sj r=r::sM r.args:=by cases r;simp [sj,RO.args]
theorem yh: ∀(a b:List RO),sM (a++b)=sM a++sM b
 |[],_=>by simp [sM]
 |r::a,b=>by rw [List.cons_append,sM,sM,yh a b,List.append_assoc]
theorem EV (r:RO):sM [r]=sj r:=by simp [sM]
theorem zH {l:List RO} {j:Nat} (h:j<l.length):sM (l.take (j+1))=sM (l.take j)++sj l[j]:=by
 rw [List.take_succ_eq_append_getElem h,yh,EV]
theorem EU {l:List RO} {r:RO} (h:r∈l):(sj r).length≤(sM l).length:=by
 induction l with
 |nil=>simp at h
 |cons x l ih=>
  rw [sM,List.length_append]
  rcases List.mem_cons.1 h with rfl|h
  ·omega
  ·have:=ih h;omega
theorem ES {l:List RO} {j i:Nat} {x:RO} (h:j<l.length) (hx:(sj l[j])[i]? =some x):(sM l)[(sM (l.take j)).length+i]? =some x:=by
 have e:sM l=sM (l.take j)++(sj l[j]++sM (l.drop (j+1))):=by
  conv=>lhs;rw [← List.take_append_drop (j+1) l]
  rw [yh,zH h,List.append_assoc]
 have hi:=(gsZ hx).1
 rw [e,List.getElem?_append_right (by omega),Nat.add_sub_cancel_left,List.getElem?_append_left hi]
 exact hx
theorem ET {l:List RO} {j:Nat} (h:j<l.length):(sj l[j]).length≤(sM l).length:=EU (List.getElem_mem h)
theorem Bi: ∀(l:List RO),l.length≤(sM l).length
 |[]=>Nat.zero_le _
 |r::l=>by
  have:=Bi l
  rw [sM,xA,List.cons_append,List.length_cons,List.length_cons,List.length_append];omega
end Go.TY
end
noncomputable section
namespace Go.TY
open Go Go.DL Go.Proofs
theorem mx:Tryz.prog.follows .mixedOrders=true:=by kernel_rfl
def Ab:Code:=(Tryz.f145.body).getD .skip
theorem JQ:Tryz.f145.body=some Ab:=by kernel_rfl
def Bs:Code:=ic [0] Ab
def El:aV:=(.region [oo 2 (.box 1 (tm 0))] [])
theorem Ip:bz Tryz.prog 8 [] Bs=some El:=by kernel_rfl
theorem HX [Glb] {st:St} {Q:ax→St→Prop} (hw:wpC Tryz.prog El st Q):aF Tryz.prog 8 Bs st Q:=aF.low mx Ip (by kernel_rfl) (by kernel_rfl) hw
def Bx:Code:=ic [1,0] Ab
def Er:aV:=(.region [oo 3 (.alloc [.nilfn])] [])
theorem Iv:bz Tryz.prog 8 [] Bx=some Er:=by kernel_rfl
theorem H3 [Glb] {st:St} {Q:ax→St→Prop} (hw:wpC Tryz.prog Er st Q):aF Tryz.prog 8 Bx st Q:=aF.low mx Iv (by kernel_rfl) (by kernel_rfl) hw
def BB:Code:=ic [1,1,0] Ab
def Ev:aV:=(.region [oo 4 (.mkfn 146 [(tm 2),(tm 3)]),o0 (.store 1 (tm 3) (tm 4))] [])
theorem Iz:bz Tryz.prog 8 [] BB=some Ev:=by kernel_rfl
theorem H6 [Glb] {st:St} {Q:ax→St→Prop} (hw:wpC Tryz.prog Ev st Q):aF Tryz.prog 8 BB st Q:=aF.low mx Iz (by kernel_rfl) (by kernel_rfl) hw
def zR:Code:=ic [1,1,1] Ab
theorem HG:zR= .region 3 (r8 zR) false:=by kernel_rfl
theorem Jk [Glb] {st:St} {Q:ax→St→Prop} (hw:aw Tryz.prog [⟨some 5,.load 1 false (.tmp 3),none,[]⟩,⟨some 6,.load 5 true (.tmp 1),none,[]⟩] st fun s0=>gL Tryz.prog (ev s0.sl (.tmp 5)) (List.map (ev s0.sl) [(.tmp 6)]) (some 7) s0 fun s1=>aw Tryz.prog [] s1 (Q .normal)):aF Tryz.prog 8 zR st Q:=by
 rw [HG]
 exact aF.rj (k1:=[0,1]) (k:=2) (k2:=[]) (by kernel_rfl) (by kernel_rfl) (by kernel_rfl) (by kernel_rfl) (by kernel_rfl) (X:=.tmp 5) (az:= #[.tmp 6]) (ats:= #[25]) (d:=7) (by kernel_rfl) rfl rfl (by decide) hw
theorem MR:Ab=(.seq Bs (.seq Bx (.seq BB zR))):=by kernel_rfl
def vE:Code:=(Tryz.f146.body).getD .skip
theorem JR:Tryz.f146.body=some vE:=by kernel_rfl
def Bt:Code:=ic [0] vE
def Em:aV:=(.region [oo 3 (.box 5 (tm 0)),oo 4 (.mov kF)] [])
theorem Iq:bz Tryz.prog 23 [] Bt=some Em:=by kernel_rfl
theorem HY [Glb] {st:St} {Q:ax→St→Prop} (hw:wpC Tryz.prog Em st Q):aF Tryz.prog 23 Bt st Q:=aF.low mx Iq (by kernel_rfl) (by kernel_rfl) hw
def zP:Code:=ic [1,0,0] vE
theorem HE:zP= .region 1 (r8 zP) false:=by kernel_rfl
theorem Ji [Glb] {st:St} {Q:ax→St→Prop} (hw:aw Tryz.prog [⟨some 7,.load 1 false (.tmp 1),none,[]⟩,⟨some 8,.load 5 true (.tmp 3),none,[]⟩] st fun s0=>gL Tryz.prog (ev s0.sl (.tmp 7)) (List.map (ev s0.sl) [(.tmp 8)]) (some 9) s0 fun s1=>aw Tryz.prog [⟨some 10,.not (.tmp 9),none,[]⟩] s1 (Q .normal)):aF Tryz.prog 23 zP st Q:=by
 rw [HE]
 exact aF.rj (k1:=[0,1]) (k:=2) (k2:=[3]) (by kernel_rfl) (by kernel_rfl) (by kernel_rfl) (by kernel_rfl) (by kernel_rfl) (X:=.tmp 7) (az:= #[.tmp 8]) (ats:= #[25]) (d:=9) (by kernel_rfl) rfl rfl (by decide) hw
def BC:Code:=ic [1,0,1] vE
def Ew:aV:=(.cond (tm 10) (.seq (.region [oo 4 (.mov kF)] []) .ret) .skip)
theorem IA:bz Tryz.prog 23 [] BC=some Ew:=by kernel_rfl
theorem D8 [Glb] {st:St} {Q:ax→St→Prop} (hw:wpC Tryz.prog Ew st Q):aF Tryz.prog 23 BC st Q:=aF.low mx IA (by kernel_rfl) (by kernel_rfl) hw
def BE:Code:=ic [1,1,0,0] vE
def Ez:aV:=(.region [fa 11 4 3,ld 12 11,ln 13 12,oo 14 (.mov (Kc 0))] [])
theorem ID:bz Tryz.prog 23 [] BE=some Ez:=by kernel_rfl
theorem H9 [Glb] {st:St} {Q:ax→St→Prop} (hw:wpC Tryz.prog Ez st Q):aF Tryz.prog 23 BE st Q:=aF.low mx ID (by kernel_rfl) (by kernel_rfl) hw
def BG:Code:=ic [1,1,0,1,0,0,0] vE
def EC:aV:=(.region [oo 15 (.bin .lss (tm 14) (tm 13))] [])
theorem IG:bz Tryz.prog 23 [] BG=some EC:=by kernel_rfl
theorem Ic [Glb] {st:St} {Q:ax→St→Prop} (hw:wpC Tryz.prog EC st Q):aF Tryz.prog 23 BG st Q:=aF.low mx IG (by kernel_rfl) (by kernel_rfl) hw
def BI:Code:=ic [1,1,0,1,0,0,1,0] vE
def EF:aV:=(.cond (tm 15) .skip (.exit 0))
theorem IK:bz Tryz.prog 23 [] BI=some EF:=by kernel_rfl
theorem Ea [Glb] {st:St} {Q:ax→St→Prop} (hw:wpC Tryz.prog EF st Q):aF Tryz.prog 23 BI st Q:=aF.low mx IK (by kernel_rfl) (by kernel_rfl) hw
def BK:Code:=ic [1,1,0,1,0,0,1,1,0,0,0] vE
def EH:aV:=(.region [ix 16 5 12 14,lA 17 5 16,⟨some 6,.alloc [Z0,S0,Z0,Z0,.nil],none,[]⟩,o0 (.store 5 (tm 6) (tm 17))] [])
theorem IM:bz Tryz.prog 23 [] BK=some EH:=by kernel_rfl
theorem Ih [Glb] {st:St} {Q:ax→St→Prop} (hw:wpC Tryz.prog EH st Q):aF Tryz.prog 23 BK st Q:=aF.low mx IM (by kernel_rfl) (by kernel_rfl) hw
def zT:Code:=ic [1,1,0,1,0,0,1,1,0,0,1,0] vE
theorem HJ:zT= .region 6 (r8 zT) false:=by kernel_rfl
theorem Jn [Glb] {st:St} {Q:ax→St→Prop} (hw:aw Tryz.prog [⟨some 18,.load 1 false (.tmp 2),none,[]⟩,⟨some 19,.load 5 true (.tmp 6),none,[]⟩] st fun s0=>gL Tryz.prog (ev s0.sl (.tmp 18)) (List.map (ev s0.sl) [(.tmp 19)]) (some 20) s0 fun s1=>aw Tryz.prog [⟨some 21,.not (.tmp 20),none,[]⟩] s1 (Q .normal)):aF Tryz.prog 23 zT st Q:=by
 rw [HJ]
 exact aF.rj (k1:=[0,1]) (k:=2) (k2:=[3]) (by kernel_rfl) (by kernel_rfl) (by kernel_rfl) (by kernel_rfl) (by kernel_rfl) (X:=.tmp 18) (az:= #[.tmp 19]) (ats:= #[25]) (d:=20) (by kernel_rfl) rfl rfl (by decide) hw
def BM:Code:=ic [1,1,0,1,0,0,1,1,0,0,1,1] vE
def EK:aV:=(.cond (tm 21) (.seq (.region [oo 4 (.mov kF)] []) .ret) .skip)
theorem IS:bz Tryz.prog 23 [] BM=some EK:=by kernel_rfl
theorem Ed [Glb] {st:St} {Q:ax→St→Prop} (hw:wpC Tryz.prog EK st Q):aF Tryz.prog 23 BM st Q:=aF.low mx IS (by kernel_rfl) (by kernel_rfl) hw
def BO:Code:=ic [1,1,0,1,0,0,1,1,1] vE
def EM:aV:=(.region [oo 22 (.bin .add (tm 14) (Kc 1)),mv 14 22] [])
theorem IU:bz Tryz.prog 23 [] BO=some EM:=by kernel_rfl
theorem Ij [Glb] {st:St} {Q:ax→St→Prop} (hw:wpC Tryz.prog EM st Q):aF Tryz.prog 23 BO st Q:=aF.low mx IU (by kernel_rfl) (by kernel_rfl) hw
def Ao:Code:=ic [1,1,1] vE
def Cw:aV:=(.seq (.region [oo 4 (.mov kT)] []) .ret)
theorem Hc:bz Tryz.prog 23 [] Ao=some Cw:=by kernel_rfl
theorem G8 [Glb] {st:St} {Q:ax→St→Prop} (hw:wpC Tryz.prog Cw st Q):aF Tryz.prog 23 Ao st Q:=aF.low mx Hc (by kernel_rfl) (by kernel_rfl) hw
theorem MS:vE=(.seq Bt (.seq (.seq zP BC) (.seq (.seq BE (.block 0 (.loop (.seq BG (.seq BI (.seq (.block 1 (.seq BK (.seq zT BM))) BO)))))) Ao))):=by kernel_rfl
def Aa:Code:=(Tryz.f116.body).getD .skip
theorem JN:Tryz.f116.body=some Aa:=by kernel_rfl
def Bp:Code:=ic [0] Aa
def Ei:aV:=(.region [oo 2 (.box 1 (tm 0))] [])
theorem Il:bz Tryz.prog 8 [] Bp=some Ei:=by kernel_rfl
theorem HU [Glb] {st:St} {Q:ax→St→Prop} (hw:wpC Tryz.prog Ei st Q):aF Tryz.prog 8 Bp st Q:=aF.low mx Il (by kernel_rfl) (by kernel_rfl) hw
def Bv:Code:=ic [1,0] Aa
def Eo:aV:=(.region [oo 3 (.alloc [.nilfn])] [])
theorem Is:bz Tryz.prog 8 [] Bv=some Eo:=by kernel_rfl
theorem H0 [Glb] {st:St} {Q:ax→St→Prop} (hw:wpC Tryz.prog Eo st Q):aF Tryz.prog 8 Bv st Q:=aF.low mx Is (by kernel_rfl) (by kernel_rfl) hw
def By:Code:=ic [1,1,0] Aa
def Es:aV:=(.region [oo 4 (.mkfn 117 [(tm 2),(tm 3)]),o0 (.store 1 (tm 3) (tm 4))] [])
theorem Iw:bz Tryz.prog 8 [] By=some Es:=by kernel_rfl
theorem H4 [Glb] {st:St} {Q:ax→St→Prop} (hw:wpC Tryz.prog Es st Q):aF Tryz.prog 8 By st Q:=aF.low mx Iw (by kernel_rfl) (by kernel_rfl) hw
def zQ:Code:=ic [1,1,1] Aa
theorem HF:zQ= .region 3 (r8 zQ) false:=by kernel_rfl
theorem Jj [Glb] {st:St} {Q:ax→St→Prop} (hw:aw Tryz.prog [⟨some 5,.load 1 false (.tmp 3),none,[]⟩,⟨some 6,.load 9 true (.tmp 1),none,[]⟩] st fun s0=>gL Tryz.prog (ev s0.sl (.tmp 5)) (List.map (ev s0.sl) [(.tmp 6)]) (some 7) s0 fun s1=>aw Tryz.prog [] s1 (Q .normal)):aF Tryz.prog 8 zQ st Q:=by
 rw [HF]
 exact aF.rj (k1:=[0,1]) (k:=2) (k2:=[]) (by kernel_rfl) (by kernel_rfl) (by kernel_rfl) (by kernel_rfl) (by kernel_rfl) (X:=.tmp 5) (az:= #[.tmp 6]) (ats:= #[28]) (d:=7) (by kernel_rfl) rfl rfl (by decide) hw
theorem MO:Aa=(.seq Bp (.seq Bv (.seq By zQ))):=by kernel_rfl
def vD:Code:=(Tryz.f117.body).getD .skip
theorem JO:Tryz.f117.body=some vD:=by kernel_rfl
def Bq:Code:=ic [0] vD
def Ej:aV:=(.region [oo 3 (.box 9 (tm 0)),oo 4 (.mov kF)] [])
theorem Im:bz Tryz.prog 23 [] Bq=some Ej:=by kernel_rfl
theorem HV [Glb] {st:St} {Q:ax→St→Prop} (hw:wpC Tryz.prog Ej st Q):aF Tryz.prog 23 Bq st Q:=aF.low mx Im (by kernel_rfl) (by kernel_rfl) hw
def zO:Code:=ic [1,0,0] vD
theorem HD:zO= .region 1 (r8 zO) false:=by kernel_rfl
theorem Jh [Glb] {st:St} {Q:ax→St→Prop} (hw:aw Tryz.prog [⟨some 7,.load 1 false (.tmp 1),none,[]⟩,⟨some 8,.load 9 true (.tmp 3),none,[]⟩] st fun s0=>gL Tryz.prog (ev s0.sl (.tmp 7)) (List.map (ev s0.sl) [(.tmp 8)]) (some 9) s0 fun s1=>aw Tryz.prog [⟨some 10,.not (.tmp 9),none,[]⟩] s1 (Q .normal)):aF Tryz.prog 23 zO st Q:=by
 rw [HD]
 exact aF.rj (k1:=[0,1]) (k:=2) (k2:=[3]) (by kernel_rfl) (by kernel_rfl) (by kernel_rfl) (by kernel_rfl) (by kernel_rfl) (X:=.tmp 7) (az:= #[.tmp 8]) (ats:= #[28]) (d:=9) (by kernel_rfl) rfl rfl (by decide) hw
def Bz:Code:=ic [1,0,1] vD
def Et:aV:=(.cond (tm 10) (.seq (.region [oo 4 (.mov kF)] []) .ret) .skip)
theorem Ix:bz Tryz.prog 23 [] Bz=some Et:=by kernel_rfl
theorem D7 [Glb] {st:St} {Q:ax→St→Prop} (hw:wpC Tryz.prog Et st Q):aF Tryz.prog 23 Bz st Q:=aF.low mx Ix (by kernel_rfl) (by kernel_rfl) hw
def BD:Code:=ic [1,1,0,0] vD
def Ex:aV:=(.region [fa 11 8 3,ld 12 11,ln 13 12,oo 14 (.mov (Kc 0))] [])
theorem IB:bz Tryz.prog 23 [] BD=some Ex:=by kernel_rfl
theorem H7 [Glb] {st:St} {Q:ax→St→Prop} (hw:wpC Tryz.prog Ex st Q):aF Tryz.prog 23 BD st Q:=aF.low mx IB (by kernel_rfl) (by kernel_rfl) hw
def BF:Code:=ic [1,1,0,1,0,0,0] vD
def EA:aV:=(.region [oo 15 (.bin .lss (tm 14) (tm 13))] [])
theorem IE:bz Tryz.prog 23 [] BF=some EA:=by kernel_rfl
theorem Ia [Glb] {st:St} {Q:ax→St→Prop} (hw:wpC Tryz.prog EA st Q):aF Tryz.prog 23 BF st Q:=aF.low mx IE (by kernel_rfl) (by kernel_rfl) hw
def BH:Code:=ic [1,1,0,1,0,0,1,0] vD
def ED:aV:=(.cond (tm 15) .skip (.exit 0))
theorem II:bz Tryz.prog 23 [] BH=some ED:=by kernel_rfl
theorem D9 [Glb] {st:St} {Q:ax→St→Prop} (hw:wpC Tryz.prog ED st Q):aF Tryz.prog 23 BH st Q:=aF.low mx II (by kernel_rfl) (by kernel_rfl) hw
def BJ:Code:=ic [1,1,0,1,0,0,1,1,0,0,0] vD
def EG:aV:=(.region [ix 16 9 12 14,lA 17 9 16,⟨some 6,.alloc [Z0,Z0,S0,Z0,Z0,.nil,S0,Z0,.nil],none,[]⟩,o0 (.store 9 (tm 6) (tm 17))] [])
theorem IL:bz Tryz.prog 23 [] BJ=some EG:=by kernel_rfl
theorem Ig [Glb] {st:St} {Q:ax→St→Prop} (hw:wpC Tryz.prog EG st Q):aF Tryz.prog 23 BJ st Q:=aF.low mx IL (by kernel_rfl) (by kernel_rfl) hw
def zS:Code:=ic [1,1,0,1,0,0,1,1,0,0,1,0] vD
theorem HI:zS= .region 6 (r8 zS) false:=by kernel_rfl
theorem Jm [Glb] {st:St} {Q:ax→St→Prop} (hw:aw Tryz.prog [⟨some 18,.load 1 false (.tmp 2),none,[]⟩,⟨some 19,.load 9 true (.tmp 6),none,[]⟩] st fun s0=>gL Tryz.prog (ev s0.sl (.tmp 18)) (List.map (ev s0.sl) [(.tmp 19)]) (some 20) s0 fun s1=>aw Tryz.prog [⟨some 21,.not (.tmp 20),none,[]⟩] s1 (Q .normal)):aF Tryz.prog 23 zS st Q:=by
 rw [HI]
 exact aF.rj (k1:=[0,1]) (k:=2) (k2:=[3]) (by kernel_rfl) (by kernel_rfl) (by kernel_rfl) (by kernel_rfl) (by kernel_rfl) (X:=.tmp 18) (az:= #[.tmp 19]) (ats:= #[28]) (d:=20) (by kernel_rfl) rfl rfl (by decide) hw
def BL:Code:=ic [1,1,0,1,0,0,1,1,0,0,1,1] vD
def EJ:aV:=(.cond (tm 21) (.seq (.region [oo 4 (.mov kF)] []) .ret) .skip)
theorem IQ:bz Tryz.prog 23 [] BL=some EJ:=by kernel_rfl
theorem Ec [Glb] {st:St} {Q:ax→St→Prop} (hw:wpC Tryz.prog EJ st Q):aF Tryz.prog 23 BL st Q:=aF.low mx IQ (by kernel_rfl) (by kernel_rfl) hw
def BN:Code:=ic [1,1,0,1,0,0,1,1,1] vD
def EL:aV:=(.region [oo 22 (.bin .add (tm 14) (Kc 1)),mv 14 22] [])
theorem IT:bz Tryz.prog 23 [] BN=some EL:=by kernel_rfl
theorem Ii [Glb] {st:St} {Q:ax→St→Prop} (hw:wpC Tryz.prog EL st Q):aF Tryz.prog 23 BN st Q:=aF.low mx IT (by kernel_rfl) (by kernel_rfl) hw
def Am:Code:=ic [1,1,1] vD
def Cv:aV:=(.seq (.region [oo 4 (.mov kT)] []) .ret)
theorem Hb:bz Tryz.prog 23 [] Am=some Cv:=by kernel_rfl
theorem G7 [Glb] {st:St} {Q:ax→St→Prop} (hw:wpC Tryz.prog Cv st Q):aF Tryz.prog 23 Am st Q:=aF.low mx Hb (by kernel_rfl) (by kernel_rfl) hw
theorem MP:vD=(.seq Bq (.seq (.seq zO Bz) (.seq (.seq BD (.block 0 (.loop (.seq BF (.seq BH (.seq (.block 1 (.seq BJ (.seq zS BL))) BN)))))) Am))):=by kernel_rfl
def xg:Code:=(Tryz.f130.body).getD .skip
theorem JP:Tryz.f130.body=some xg:=by kernel_rfl
def Br:Code:=ic [0] xg
def Ek:aV:=(.region [oo 2 (.box 1 (tm 0))] [])
theorem Io:bz Tryz.prog 19 [] Br=some Ek:=by kernel_rfl
theorem HW [Glb] {st:St} {Q:ax→St→Prop} (hw:wpC Tryz.prog Ek st Q):aF Tryz.prog 19 Br st Q:=aF.low mx Io (by kernel_rfl) (by kernel_rfl) hw
def Bw:Code:=ic [1,0] xg
def Ep:aV:=(.region [lA 5 9 1,oo 6 (.call 73 [tm 5])] [])
theorem Iu:bz Tryz.prog 19 [] Bw=some Ep:=by kernel_rfl
theorem H2 [Glb] {st:St} {Q:ax→St→Prop} (hw:wpC Tryz.prog Ep st Q):aF Tryz.prog 19 Bw st Q:=aF.low mx Iu (by kernel_rfl) (by kernel_rfl) hw
def yp:Code:=ic [1,1,0,0] xg
def Eu:aV:=(.region [⟨some 3,.alloc [Z0,Z0,S0,Z0,Z0,.nil,S0,Z0,.nil],none,[]⟩,o0 (.store 9 (tm 3) (tm 7))] [])
theorem Iy:bz Tryz.prog 19 [] yp=some Eu:=by kernel_rfl
theorem H5 [Glb] {st:St} {Q:ax→St→Prop} (hw:wpC Tryz.prog Eu st Q):aF Tryz.prog 19 yp st Q:=aF.low mx Iy (by kernel_rfl) (by kernel_rfl) hw
def yq:Code:=ic [1,1,0,1,0,0] xg
def Ey:aV:=(.seq (.region [fa 8 0 3,ld 9 8,oo 10 (.bin .neq (tm 9) (Kc 1))] []) (.cond (tm 10) (.exit 1) .skip))
theorem IC:bz Tryz.prog 19 [] yq=some Ey:=by kernel_rfl
theorem H8 [Glb] {st:St} {Q:ax→St→Prop} (hw:wpC Tryz.prog Ey st Q):aF Tryz.prog 19 yq st Q:=aF.low mx IC (by kernel_rfl) (by kernel_rfl) hw
def yr:Code:=ic [1,1,0,1,0,1,0] xg
def EB:aV:=(.region [fa 11 1 3,lA 12 5 11,oo 13 (.call 109 [tm 12])] [])
theorem IF:bz Tryz.prog 19 [] yr=some EB:=by kernel_rfl
theorem Ib [Glb] {st:St} {Q:ax→St→Prop} (hw:wpC Tryz.prog EB st Q):aF Tryz.prog 19 yr st Q:=aF.low mx IF (by kernel_rfl) (by kernel_rfl) hw
def xC:Code:=ic [1,1,0,1,0,1,1,0,0] xg
def EE:aV:=(.region [⟨some 4,.alloc [Z0,S0,Z0,Z0,.nil],none,[]⟩,o0 (.store 5 (tm 4) (tm 14))] [])
theorem IJ:bz Tryz.prog 19 [] xC=some EE:=by kernel_rfl
theorem Ie [Glb] {st:St} {Q:ax→St→Prop} (hw:wpC Tryz.prog EE st Q):aF Tryz.prog 19 xC st Q:=aF.low mx IJ (by kernel_rfl) (by kernel_rfl) hw
def wX:Code:=ic [1,1,0,1,0,1,1,0,1,0,0] xg
theorem HH:wX= .region 6 (r8 wX) false:=by kernel_rfl
theorem Jl [Glb] {st:St} {Q:ax→St→Prop} (hw:aw Tryz.prog [⟨some 15,.load 1 false (.tmp 2),none,[]⟩,⟨some 16,.load 5 true (.tmp 4),none,[]⟩] st fun s0=>gL Tryz.prog (ev s0.sl (.tmp 15)) (List.map (ev s0.sl) [(.tmp 16)]) (some 17) s0 fun s1=>aw Tryz.prog [⟨some 18,.not (.tmp 17),none,[]⟩] s1 (Q .normal)):aF Tryz.prog 19 wX st Q:=by
 rw [HH]
 exact aF.rj (k1:=[0,1]) (k:=2) (k2:=[3]) (by kernel_rfl) (by kernel_rfl) (by kernel_rfl) (by kernel_rfl) (by kernel_rfl) (X:=.tmp 15) (az:= #[.tmp 16]) (ats:= #[25]) (d:=17) (by kernel_rfl) rfl rfl (by decide) hw
def xD:Code:=ic [1,1,0,1,0,1,1,0,1,0,1] xg
def EI:aV:=(.cond (tm 18) .ret .skip)
theorem IP:bz Tryz.prog 19 [] xD=some EI:=by kernel_rfl
theorem Eb [Glb] {st:St} {Q:ax→St→Prop} (hw:wpC Tryz.prog EI st Q):aF Tryz.prog 19 xD st Q:=aF.low mx IP (by kernel_rfl) (by kernel_rfl) hw
theorem MQ:xg=(.seq Br (.seq Bw (.block 0 (.rangeFunc (.tmp 6) #[7] yp (.block 1 (.seq yq (.seq yr (.block 2 (.rangeFunc (.tmp 13) #[14] xC (.block 3 (.seq wX xD))))))))))):=by kernel_rfl
def b69:Code:=(Tryz.f69.body).getD .skip
theorem MN:Tryz.f69.body=some b69:=by kernel_rfl
def C7:Code:=ic [0] b69
def Ga:aV:=(.region [oo 2 (.box 1 (tm 0)),oo 3 (.box 5 (tm 1)),oo 4 (.alloc [Z0])] [])
theorem KL:bz Tryz.prog 49 [] C7=some Ga:=by kernel_rfl
theorem J8 [Glb] {st:St} {Q:ax→St→Prop} (hw:wpC Tryz.prog Ga st Q):aF Tryz.prog 49 C7 st Q:=aF.low mx KL (by kernel_rfl) (by kernel_rfl) hw
def De:Code:=ic [1,0,0] b69
def Gg:aV:=(.region [lA 9 5 3,oo 10 (.call 109 [tm 9])] [])
theorem KR:bz Tryz.prog 49 [] De=some Gg:=by kernel_rfl
theorem Kf [Glb] {st:St} {Q:ax→St→Prop} (hw:wpC Tryz.prog Gg st Q):aF Tryz.prog 49 De st Q:=aF.low mx KR (by kernel_rfl) (by kernel_rfl) hw
def Dk:Code:=ic [1,0,1,0,0] b69
def Gm:aV:=(.region [⟨some 5,.alloc [Z0,S0,Z0,Z0,.nil],none,[]⟩,o0 (.store 5 (tm 5) (tm 11))] [])
theorem KX:bz Tryz.prog 49 [] Dk=some Gm:=by kernel_rfl
theorem Kl [Glb] {st:St} {Q:ax→St→Prop} (hw:wpC Tryz.prog Gm st Q):aF Tryz.prog 49 Dk st Q:=aF.low mx KX (by kernel_rfl) (by kernel_rfl) hw
def Dt:Code:=ic [1,0,1,0,1] b69
def Gt:aV:=(.block 1 (.seq (.seq (.region [fa 12 1 5,ld 13 12,⟨some 14,.bin .eql (tm 13) (.const S0),none,[]⟩] []) (.cond (tm 14) (.exit 1) .skip)) (.seq (.region [ld 16 2,fa 17 1 5,ld 18 17,oo 19 (.call 74 [(tm 16),(tm 18)]),mv 15 19,oo 20 (.ext (tm 15) 0),oo 21 (.ext (tm 15) 1),⟨some 6,.alloc [S0,Z0,Z0],none,[]⟩,o0 (.store 3 (tm 6) (tm 20)),mv 7 21] []) (.seq (.region [fa 22 2 5,ld 23 22,mv 8 23] []) (.seq (.seq (.region [fa 24 0 5,ld 25 24,oo 26 (.bin .eql (tm 25) (Kc 5))] []) (.cond (tm 26) (.region [fa 27 3 5,ld 28 27,mv 8 28] []) .skip)) (.block 2 (.seq (.region [mv 30 7,oo 31 (.not (tm 30)),mv 29 31] []) (.cond (tm 29) (.seq (.region [o0 (.store 1 (tm 4) (Kc 4))] []) .ret) (.seq (.region [mv 33 8,lA 34 3 6,oo 35 (.call 75 [tm 34]),oo 36 (.bin .gtr (tm 33) (tm 35)),mv 37 36,oF 38 37 (.offA 0 (tm 5)),oF 39 37 (.load 1 false (tm 38)),oF 40 37 (.bin .eql (tm 39) (Kc 4)),mF 41 40 37,oT 42 41 (.offA 3 (tm 5)),oT 43 41 (.load 1 false (tm 42)),oT 44 41 (.offA 2 (tm 6)),oT 45 41 (.load 1 false (tm 44)),oT 46 41 (.bin .gtr (tm 43) (tm 45)),oF 47 37 (.pick (tm 41) (tm 46) kF),oo 48 (.pick (tm 37) kT (tm 47)),mv 32 48] []) (.cond (tm 32) (.seq (.region [o0 (.store 1 (tm 4) (Kc 1))] []) .ret) .skip))))))))))
theorem K4:bz Tryz.prog 49 [] Dt=some Gt:=by kernel_rfl
theorem Kr [Glb] {st:St} {Q:ax→St→Prop} (hw:wpC Tryz.prog Gt st Q):aF Tryz.prog 49 Dt st Q:=aF.low mx K4 (by kernel_rfl) (by kernel_rfl) hw
def Dz:Code:=ic [1,1] b69
def Gz:aV:=(.seq (.region [o0 (.store 1 (tm 4) (Kc 0))] []) .ret)
theorem La:bz Tryz.prog 49 [] Dz=some Gz:=by kernel_rfl
theorem Kw [Glb] {st:St} {Q:ax→St→Prop} (hw:wpC Tryz.prog Gz st Q):aF Tryz.prog 49 Dz st Q:=aF.low mx La (by kernel_rfl) (by kernel_rfl) hw
theorem k69:b69=(.seq C7 (.seq (.seq De (.block 0 (.rangeFunc (.tmp 10) #[11] Dk Dt))) Dz)):=by kernel_rfl
def b17:Code:=(Tryz.f17.body).getD .skip
theorem MH:Tryz.f17.body=some b17:=by kernel_rfl
def C2:Code:=ic [0] b17
def F5:aV:=(.region [oo 2 (.box 1 (tm 0)),oo 3 (.box 9 (tm 1)),oo 4 (.alloc [Z0])] [])
theorem KG:bz Tryz.prog 47 [] C2=some F5:=by kernel_rfl
theorem J3 [Glb] {st:St} {Q:ax→St→Prop} (hw:wpC Tryz.prog F5 st Q):aF Tryz.prog 47 C2 st Q:=aF.low mx KG (by kernel_rfl) (by kernel_rfl) hw
def C8:Code:=ic [1,0] b17
def Gb:aV:=(.seq (.region [lA 10 9 3,oo 11 (.call 72 [tm 10]),mv 5 11] []) (.seq (.region [mv 12 5,oo 13 (.bin .neq (tm 12) (Kc 0))] []) (.cond (tm 13) (.seq (.region [mv 14 5,o0 (.store 1 (tm 4) (tm 14))] []) .ret) .skip)))
theorem KM:bz Tryz.prog 47 [] C8=some Gb:=by kernel_rfl
theorem J9 [Glb] {st:St} {Q:ax→St→Prop} (hw:wpC Tryz.prog Gb st Q):aF Tryz.prog 47 C8 st Q:=aF.low mx KM (by kernel_rfl) (by kernel_rfl) hw
def Df:Code:=ic [1,1,0,0] b17
def Gh:aV:=(.region [lA 15 9 3,oo 16 (.call 73 [tm 15])] [])
theorem KS:bz Tryz.prog 47 [] Df=some Gh:=by kernel_rfl
theorem Kg [Glb] {st:St} {Q:ax→St→Prop} (hw:wpC Tryz.prog Gh st Q):aF Tryz.prog 47 Df st Q:=aF.low mx KS (by kernel_rfl) (by kernel_rfl) hw
def Dl:Code:=ic [1,1,0,1,0,0] b17
def Gn:aV:=(.region [⟨some 6,.alloc [Z0,Z0,S0,Z0,Z0,.nil,S0,Z0,.nil],none,[]⟩,o0 (.store 9 (tm 6) (tm 17))] [])
theorem KY:bz Tryz.prog 47 [] Dl=some Gn:=by kernel_rfl
theorem Km [Glb] {st:St} {Q:ax→St→Prop} (hw:wpC Tryz.prog Gn st Q):aF Tryz.prog 47 Dl st Q:=aF.low mx KY (by kernel_rfl) (by kernel_rfl) hw
def Du:Code:=ic [1,1,0,1,0,1] b17
def Gu:aV:=(.block 1 (.seq (.region [fa 18 0 6,ld 19 18] []) (.block 2 (.seq (.region [oo 21 (.bin .eql (tm 19) (Kc 1)),mv 20 21] []) (.cond (tm 20) (.seq (.region [ld 22 2,fa 23 1 6,lA 24 5 23,oo 25 (.call 69 [(tm 22),(tm 24)]),mv 7 25] []) (.seq (.region [mv 26 7,oo 27 (.bin .neq (tm 26) (Kc 0))] []) (.cond (tm 27) (.seq (.region [mv 28 7,o0 (.store 1 (tm 4) (tm 28))] []) .ret) .skip))) (.seq (.region [oo 30 (.bin .eql (tm 19) (Kc 2)),mv 29 30] []) (.cond (tm 29) (.seq (.region [ld 32 2,fa 33 6 6,ld 34 33,oo 35 (.call 74 [(tm 32),(tm 34)]),mv 31 35,oo 36 (.ext (tm 31) 0),oo 37 (.ext (tm 31) 1),⟨some 8,.alloc [S0,Z0,Z0],none,[]⟩,o0 (.store 3 (tm 8) (tm 36)),mv 9 37] []) (.block 3 (.seq (.region [mv 39 9,oo 40 (.not (tm 39)),mv 38 40] []) (.cond (tm 38) (.seq (.region [o0 (.store 1 (tm 4) (Kc 4))] []) .ret) (.seq (.region [fa 42 7 6,ld 43 42,lA 44 3 8,oo 45 (.call 75 [tm 44]),oo 46 (.bin .gtr (tm 43) (tm 45)),mv 41 46] []) (.cond (tm 41) (.seq (.region [o0 (.store 1 (tm 4) (Kc 1))] []) .ret) .skip)))))) .skip)))))))
theorem K5:bz Tryz.prog 47 [] Du=some Gu:=by kernel_rfl
theorem Ks [Glb] {st:St} {Q:ax→St→Prop} (hw:wpC Tryz.prog Gu st Q):aF Tryz.prog 47 Du st Q:=aF.low mx K5 (by kernel_rfl) (by kernel_rfl) hw
def DA:Code:=ic [1,1,1] b17
def GA:aV:=(.seq (.region [o0 (.store 1 (tm 4) (Kc 0))] []) .ret)
theorem Lb:bz Tryz.prog 47 [] DA=some GA:=by kernel_rfl
theorem Kx [Glb] {st:St} {Q:ax→St→Prop} (hw:wpC Tryz.prog GA st Q):aF Tryz.prog 47 DA st Q:=aF.low mx Lb (by kernel_rfl) (by kernel_rfl) hw
theorem k17:b17=(.seq C2 (.seq C8 (.seq (.seq Df (.block 0 (.rangeFunc (.tmp 16) #[17] Dl Du))) DA))):=by kernel_rfl
def b23:Code:=(Tryz.f23.body).getD .skip
theorem MI:Tryz.f23.body=some b23:=by kernel_rfl
def C3:Code:=ic [0] b23
def F6:aV:=(.region [oo 1 (.box 9 (tm 0)),oo 2 (.mov (.const .nil))] [])
theorem KH:bz Tryz.prog 18 [] C3=some F6:=by kernel_rfl
theorem J4 [Glb] {st:St} {Q:ax→St→Prop} (hw:wpC Tryz.prog F6 st Q):aF Tryz.prog 18 C3 st Q:=aF.low mx KH (by kernel_rfl) (by kernel_rfl) hw
def C9:Code:=ic [1,0] b23
def Gc:aV:=(.region [oo 5 (.mkmap false [.str]),oo 3 (.alloc [.nilmap]),o0 (.store 1 (tm 3) (tm 5))] [])
theorem KN:bz Tryz.prog 18 [] C9=some Gc:=by kernel_rfl
theorem Ka [Glb] {st:St} {Q:ax→St→Prop} (hw:wpC Tryz.prog Gc st Q):aF Tryz.prog 18 C9 st Q:=aF.low mx KN (by kernel_rfl) (by kernel_rfl) hw
def Dg:Code:=ic [1,1,0,0] b23
def Gi:aV:=(.region [lA 6 9 1,oo 7 (.call 86 [tm 6])] [])
theorem KT:bz Tryz.prog 18 [] Dg=some Gi:=by kernel_rfl
theorem Kh [Glb] {st:St} {Q:ax→St→Prop} (hw:wpC Tryz.prog Gi st Q):aF Tryz.prog 18 Dg st Q:=aF.low mx KT (by kernel_rfl) (by kernel_rfl) hw
def Dm:Code:=ic [1,1,0,1,0,0] b23
def Gp:aV:=(.region [⟨some 4,.alloc [Z0,S0,Z0,Z0,.nil],none,[]⟩,o0 (.store 5 (tm 4) (tm 8))] [])
theorem KZ:bz Tryz.prog 18 [] Dm=some Gp:=by kernel_rfl
theorem Kn [Glb] {st:St} {Q:ax→St→Prop} (hw:wpC Tryz.prog Gp st Q):aF Tryz.prog 18 Dm st Q:=aF.low mx KZ (by kernel_rfl) (by kernel_rfl) hw
def Dv:Code:=ic [1,1,0,1,0,1] b23
def Gv:aV:=(.block 1 (.seq (.region [fa 9 1 4,ld 10 9,⟨some 11,.bin .neq (tm 10) (.const S0),none,[]⟩] []) (.cond (tm 11) (.region [ld 12 3,fa 13 1 4,ld 14 13,o0 (.bG false [.str] (tm 12) (tm 14) kT)] []) .skip)))
theorem K6:bz Tryz.prog 18 [] Dv=some Gv:=by kernel_rfl
theorem Kt [Glb] {st:St} {Q:ax→St→Prop} (hw:wpC Tryz.prog Gv st Q):aF Tryz.prog 18 Dv st Q:=aF.low mx K6 (by kernel_rfl) (by kernel_rfl) hw
def DB:Code:=ic [1,1,1] b23
def GB:aV:=(.seq (.region [ld 15 3,oo 16 (.call 88 [tm 15]),oo 17 (.call 87 [tm 16]),mv 2 17] []) .ret)
theorem Lc:bz Tryz.prog 18 [] DB=some GB:=by kernel_rfl
theorem Ky [Glb] {st:St} {Q:ax→St→Prop} (hw:wpC Tryz.prog GB st Q):aF Tryz.prog 18 DB st Q:=aF.low mx Lc (by kernel_rfl) (by kernel_rfl) hw
theorem k23:b23=(.seq C3 (.seq C9 (.seq (.seq Dg (.block 0 (.rangeFunc (.tmp 7) #[8] Dm Dv))) DB))):=by kernel_rfl
def b25:Code:=(Tryz.f25.body).getD .skip
theorem MJ:Tryz.f25.body=some b25:=by kernel_rfl
def C4:Code:=ic [0] b25
def F7:aV:=(.region [oo 1 (.box 9 (tm 0)),oo 2 (.mov (.const .nil))] [])
theorem KI:bz Tryz.prog 18 [] C4=some F7:=by kernel_rfl
theorem J5 [Glb] {st:St} {Q:ax→St→Prop} (hw:wpC Tryz.prog F7 st Q):aF Tryz.prog 18 C4 st Q:=aF.low mx KI (by kernel_rfl) (by kernel_rfl) hw
def Da:Code:=ic [1,0] b25
def Gd:aV:=(.region [oo 5 (.mkmap false [.str]),oo 3 (.alloc [.nilmap]),o0 (.store 1 (tm 3) (tm 5))] [])
theorem KO:bz Tryz.prog 18 [] Da=some Gd:=by kernel_rfl
theorem Kb [Glb] {st:St} {Q:ax→St→Prop} (hw:wpC Tryz.prog Gd st Q):aF Tryz.prog 18 Da st Q:=aF.low mx KO (by kernel_rfl) (by kernel_rfl) hw
def Dh:Code:=ic [1,1,0,0] b25
def Gj:aV:=(.region [lA 6 9 1,oo 7 (.call 73 [tm 6])] [])
theorem KU:bz Tryz.prog 18 [] Dh=some Gj:=by kernel_rfl
theorem Ki [Glb] {st:St} {Q:ax→St→Prop} (hw:wpC Tryz.prog Gj st Q):aF Tryz.prog 18 Dh st Q:=aF.low mx KU (by kernel_rfl) (by kernel_rfl) hw
def Dp:Code:=ic [1,1,0,1,0,0] b25
def Gq:aV:=(.region [⟨some 4,.alloc [Z0,Z0,S0,Z0,Z0,.nil,S0,Z0,.nil],none,[]⟩,o0 (.store 9 (tm 4) (tm 8))] [])
theorem K1:bz Tryz.prog 18 [] Dp=some Gq:=by kernel_rfl
theorem Ko [Glb] {st:St} {Q:ax→St→Prop} (hw:wpC Tryz.prog Gq st Q):aF Tryz.prog 18 Dp st Q:=aF.low mx K1 (by kernel_rfl) (by kernel_rfl) hw
def Dw:Code:=ic [1,1,0,1,0,1] b25
def Gw:aV:=(.block 1 (.seq (.region [fa 9 0 4,ld 10 9,oo 11 (.bin .eql (tm 10) (Kc 2))] []) (.cond (tm 11) (.region [ld 12 3,fa 13 6 4,ld 14 13,o0 (.bG false [.str] (tm 12) (tm 14) kT)] []) .skip)))
theorem K7:bz Tryz.prog 18 [] Dw=some Gw:=by kernel_rfl
theorem Ku [Glb] {st:St} {Q:ax→St→Prop} (hw:wpC Tryz.prog Gw st Q):aF Tryz.prog 18 Dw st Q:=aF.low mx K7 (by kernel_rfl) (by kernel_rfl) hw
def DC:Code:=ic [1,1,1] b25
def GC:aV:=(.seq (.region [ld 15 3,oo 16 (.call 88 [tm 15]),oo 17 (.call 87 [tm 16]),mv 2 17] []) .ret)
theorem Ld:bz Tryz.prog 18 [] DC=some GC:=by kernel_rfl
theorem Kz [Glb] {st:St} {Q:ax→St→Prop} (hw:wpC Tryz.prog GC st Q):aF Tryz.prog 18 DC st Q:=aF.low mx Ld (by kernel_rfl) (by kernel_rfl) hw
theorem k25:b25=(.seq C4 (.seq Da (.seq (.seq Dh (.block 0 (.rangeFunc (.tmp 7) #[8] Dp Dw))) DC))):=by kernel_rfl
def b28:Code:=(Tryz.f28.body).getD .skip
theorem MK:Tryz.f28.body=some b28:=by kernel_rfl
def C5:Code:=ic [0] b28
def F8:aV:=(.region [oo 1 (.box 9 (tm 0)),oo 2 (.mov (.const .nil))] [])
theorem KJ:bz Tryz.prog 23 [] C5=some F8:=by kernel_rfl
theorem J6 [Glb] {st:St} {Q:ax→St→Prop} (hw:wpC Tryz.prog F8 st Q):aF Tryz.prog 23 C5 st Q:=aF.low mx KJ (by kernel_rfl) (by kernel_rfl) hw
def Db:Code:=ic [1,0] b28
def Ge:aV:=(.region [oo 5 (.mkmap false [.int .i64]),oo 3 (.alloc [.nilmap]),o0 (.store 1 (tm 3) (tm 5))] [])
theorem KP:bz Tryz.prog 23 [] Db=some Ge:=by kernel_rfl
theorem Kd [Glb] {st:St} {Q:ax→St→Prop} (hw:wpC Tryz.prog Ge st Q):aF Tryz.prog 23 Db st Q:=aF.low mx KP (by kernel_rfl) (by kernel_rfl) hw
def Di:Code:=ic [1,1,0,0] b28
def Gk:aV:=(.region [lA 6 9 1,oo 7 (.call 73 [tm 6])] [])
theorem KV:bz Tryz.prog 23 [] Di=some Gk:=by kernel_rfl
theorem Kj [Glb] {st:St} {Q:ax→St→Prop} (hw:wpC Tryz.prog Gk st Q):aF Tryz.prog 23 Di st Q:=aF.low mx KV (by kernel_rfl) (by kernel_rfl) hw
def Dq:Code:=ic [1,1,0,1,0,0] b28
def Gr:aV:=(.region [⟨some 4,.alloc [Z0,Z0,S0,Z0,Z0,.nil,S0,Z0,.nil],none,[]⟩,o0 (.store 9 (tm 4) (tm 8))] [])
theorem K2:bz Tryz.prog 23 [] Dq=some Gr:=by kernel_rfl
theorem Kp [Glb] {st:St} {Q:ax→St→Prop} (hw:wpC Tryz.prog Gr st Q):aF Tryz.prog 23 Dq st Q:=aF.low mx K2 (by kernel_rfl) (by kernel_rfl) hw
def Dx:Code:=ic [1,1,0,1,0,1] b28
def Gx:aV:=(.block 1 (.seq (.region [fa 9 0 4,ld 10 9,oo 11 (.bin .eql (tm 10) (Kc 2)),mv 12 11,oT 13 12 (.offA 6 (tm 4)),oT 14 12 (.load 1 false (tm 13)),⟨some 15,.bin .eql (tm 14) (.const (.str ⟨#[112,111,114,116]⟩)),some (12,true),[]⟩,oo 16 (.pick (tm 12) (tm 15) kF)] []) (.cond (tm 16) (.region [ld 17 3,fa 18 7 4,ld 19 18,o0 (.bG false [.int .i64] (tm 17) (tm 19) kT)] []) .skip)))
theorem K8:bz Tryz.prog 23 [] Dx=some Gx:=by kernel_rfl
theorem Kv [Glb] {st:St} {Q:ax→St→Prop} (hw:wpC Tryz.prog Gx st Q):aF Tryz.prog 23 Dx st Q:=aF.low mx K8 (by kernel_rfl) (by kernel_rfl) hw
def DD:Code:=ic [1,1,1] b28
def GD:aV:=(.seq (.region [ld 20 3,oo 21 (.call 92 [tm 20]),oo 22 (.call 91 [tm 21]),mv 2 22] []) .ret)
theorem Le:bz Tryz.prog 23 [] DD=some GD:=by kernel_rfl
theorem KA [Glb] {st:St} {Q:ax→St→Prop} (hw:wpC Tryz.prog GD st Q):aF Tryz.prog 23 DD st Q:=aF.low mx Le (by kernel_rfl) (by kernel_rfl) hw
theorem k28:b28=(.seq C5 (.seq Db (.seq (.seq Di (.block 0 (.rangeFunc (.tmp 7) #[8] Dq Dx))) DD))):=by kernel_rfl
def b57:Code:=(Tryz.f57.body).getD .skip
theorem ML:Tryz.f57.body=some b57:=by kernel_rfl
def C6:Code:=ic [0] b57
def F9:aV:=(.region [oo 2 (.mov (.const .nil))] [])
theorem KK:bz Tryz.prog 31 [] C6=some F9:=by kernel_rfl
theorem J7 [Glb] {st:St} {Q:ax→St→Prop} (hw:wpC Tryz.prog F9 st Q):aF Tryz.prog 31 C6 st Q:=aF.low mx KK (by kernel_rfl) (by kernel_rfl) hw
def Dc:Code:=ic [1,0] b57
def Gf:aV:=(.region [oo 7 (.mkmap false [.int .i64]),oo 3 (.alloc [.nilmap]),o0 (.store 1 (tm 3) (tm 7))] [])
theorem KQ:bz Tryz.prog 31 [] Dc=some Gf:=by kernel_rfl
theorem Ke [Glb] {st:St} {Q:ax→St→Prop} (hw:wpC Tryz.prog Gf st Q):aF Tryz.prog 31 Dc st Q:=aF.low mx KQ (by kernel_rfl) (by kernel_rfl) hw
def Dj:Code:=ic [1,1,0,0] b57
def Gl:aV:=(.region [mv 8 0,ln 9 8,oo 10 (.mov (Kc 0))] [])
theorem KW:bz Tryz.prog 31 [] Dj=some Gl:=by kernel_rfl
theorem Kk [Glb] {st:St} {Q:ax→St→Prop} (hw:wpC Tryz.prog Gl st Q):aF Tryz.prog 31 Dj st Q:=aF.low mx KW (by kernel_rfl) (by kernel_rfl) hw
def Dr:Code:=ic [1,1,0,1,0,0,0] b57
def Gs:aV:=(.region [oo 11 (.bin .lss (tm 10) (tm 9))] [])
theorem K3:bz Tryz.prog 31 [] Dr=some Gs:=by kernel_rfl
theorem Kq [Glb] {st:St} {Q:ax→St→Prop} (hw:wpC Tryz.prog Gs st Q):aF Tryz.prog 31 Dr st Q:=aF.low mx K3 (by kernel_rfl) (by kernel_rfl) hw
def Dy:Code:=ic [1,1,0,1,0,0,1,0] b57
def Gy:aV:=(.cond (tm 11) .skip (.exit 0))
theorem K9:bz Tryz.prog 31 [] Dy=some Gy:=by kernel_rfl
theorem F4 [Glb] {st:St} {Q:ax→St→Prop} (hw:wpC Tryz.prog Gy st Q):aF Tryz.prog 31 Dy st Q:=aF.low mx K9 (by kernel_rfl) (by kernel_rfl) hw
def DE:Code:=ic [1,1,0,1,0,0,1,1,0,0,0] b57
def GF:aV:=(.region [ix 12 15 8 10,lA 13 15 12,⟨some 5,.alloc [Z0,Z0,S0,Z0,Z0,.nil,S0,Z0,.nil,Z0,S0,.nil,S0,Z0,Z0],none,[]⟩,o0 (.store 15 (tm 5) (tm 13))] [])
theorem Lf:bz Tryz.prog 31 [] DE=some GF:=by kernel_rfl
theorem KB [Glb] {st:St} {Q:ax→St→Prop} (hw:wpC Tryz.prog GF st Q):aF Tryz.prog 31 DE st Q:=aF.low mx Lf (by kernel_rfl) (by kernel_rfl) hw
def DF:Code:=ic [1,1,0,1,0,0,1,1,0,0,1,0] b57
def GG:aV:=(.region [fa 14 0 5,lA 15 9 14,oo 16 (.call 86 [tm 15])] [])
theorem Lg:bz Tryz.prog 31 [] DF=some GG:=by kernel_rfl
theorem KC [Glb] {st:St} {Q:ax→St→Prop} (hw:wpC Tryz.prog GG st Q):aF Tryz.prog 31 DF st Q:=aF.low mx Lg (by kernel_rfl) (by kernel_rfl) hw
def DG:Code:=ic [1,1,0,1,0,0,1,1,0,0,1,1,0,0] b57
def GH:aV:=(.region [⟨some 6,.alloc [Z0,S0,Z0,Z0,.nil],none,[]⟩,o0 (.store 5 (tm 6) (tm 17))] [])
theorem Lh:bz Tryz.prog 31 [] DG=some GH:=by kernel_rfl
theorem KD [Glb] {st:St} {Q:ax→St→Prop} (hw:wpC Tryz.prog GH st Q):aF Tryz.prog 31 DG st Q:=aF.low mx Lh (by kernel_rfl) (by kernel_rfl) hw
def DH:Code:=ic [1,1,0,1,0,0,1,1,0,0,1,1,0,1] b57
def GI:aV:=(.block 3 (.seq (.region [fa 18 0 6,ld 19 18,oo 20 (.bin .eql (tm 19) (Kc 9))] []) (.cond (tm 20) (.region [ld 21 3,fa 22 2 6,ld 23 22,ld 24 3,fa 25 3 6,ld 26 25,o0 (.bG false [.int .i64] (tm 21) (tm 23) kT),o0 (.bG false [.int .i64] (tm 24) (tm 26) kT)] [[],[],[],[],[],[],[3,5],[]]) .skip)))
theorem Li:bz Tryz.prog 31 [] DH=some GI:=by kernel_rfl
theorem KE [Glb] {st:St} {Q:ax→St→Prop} (hw:wpC Tryz.prog GI st Q):aF Tryz.prog 31 DH st Q:=aF.low mx Li (by kernel_rfl) (by kernel_rfl) hw
def DJ:Code:=ic [1,1,0,1,0,0,1,1,1] b57
def GJ:aV:=(.region [oo 27 (.bin .add (tm 10) (Kc 1)),mv 10 27] [])
theorem Lj:bz Tryz.prog 31 [] DJ=some GJ:=by kernel_rfl
theorem KF [Glb] {st:St} {Q:ax→St→Prop} (hw:wpC Tryz.prog GJ st Q):aF Tryz.prog 31 DJ st Q:=aF.low mx Lj (by kernel_rfl) (by kernel_rfl) hw
def Bu:Code:=ic [1,1,1] b57
def En:aV:=(.seq (.region [ld 28 3,oo 29 (.call 92 [tm 28]),oo 30 (.call 91 [tm 29]),mv 2 30] []) .ret)
theorem Ir:bz Tryz.prog 31 [] Bu=some En:=by kernel_rfl
theorem HZ [Glb] {st:St} {Q:ax→St→Prop} (hw:wpC Tryz.prog En st Q):aF Tryz.prog 31 Bu st Q:=aF.low mx Ir (by kernel_rfl) (by kernel_rfl) hw
theorem k57:b57=(.seq C6 (.seq Dc (.seq (.seq Dj (.block 0 (.loop (.seq Dr (.seq Dy (.seq (.block 1 (.seq DE (.seq DF (.block 2 (.rangeFunc (.tmp 16) #[17] DG DH))))) DJ)))))) Bu))):=by kernel_rfl
end Go.TY
end
section
namespace Go.TY
open Go Go.DL Go.MM Go.Proofs
attribute [local irreducible] aF gL WCM YC
section
variable [Glb]
theorem z8 {l:Nat} {rc:Option Code→Loop} {cxo:aa→World→Prop} {own:St} {F:Nat→Prop} {hi:Nat} {xs:List T} {outs:Nat→List (Nat×BX)} {stop:Code→(aa→World→Prop)→List (Nat×BX)→Prop} (G:dL Tryz.prog l rc cxo own F hi xs outs stop) (yb wb:Nat) (hyb:hi≤yb) (hwb:hi≤wb):
  ∀(b:Nat) (r:RP),(tg r).length≤b→b<2^60→ ∀(k m off:Nat) (st:St) (d:Option Nat) (K:St→Prop),(∀ j x,(tg r)[j]? =some x→xs[k+j]? =some (sA x))→AtI qw l (rc none) cxo own F (outs k) m st→
   (∀ n,off≤n→st.bx n=none)→yb<off→wb<off→hi≤off→st.bx yb=some (.v [lP l])→st.bx wb=some (.v [.fn 146 [.ptr yb 0,.ptr wb 0]])→
   K (({st with bx:=aH st.bx (outs (k+(tg r).length))}:St).set d (.t (.bool true)))→
   (∀ c cx' o',stop c cx' o'→K (({st with bx:=aH st.bx o',cx:=dt l (rc (some c)) cx' m }:St).set d (.t (.bool false))))→
   WCM Tryz.prog 146 [.t (sA r),.ptr yb 0,.ptr wb 0] d st K
 |0,r,hb=>by rw [xB] at hb;simp at hb
 |b+1,r,hb=>by
  intro hB k m off st d K hxs hA hfree hyo hwo hio hy hw hK hS
  have ih:=z8 G yb wb hyb hwb b
  refine WCM.clean (fun hnb=>?_) (bM Tryz.func146 rfl rfl)
  refine WCM.run Tryz.func146 JR rfl off (nlZ rfl) ?_
  rw [MS]
  obtain ⟨kd,f,n,mm,args⟩:=r
  have hA1:=hA.enter [.t (sA (.mk kd f n mm args)),.ptr yb 0,.ptr wb 0] off
  have hf3:=hfree (3+off) (by omega)
  have hnm: ∀{k:Nat} {q:Nat},hi≤q→ ∀p∈outs k,p.1≠q:=fun h p hp e=>by have:=(G.nm _ p hp).1;omega
  have hnms: ∀{c cx o} {q:Nat},stop c cx o→hi≤q→ ∀p∈o,p.1≠q:=fun hs h p hp e=>by have:=(G.nms _ _ _ hs p hp).1;omega
  have hpl:(tg (.mk kd f n mm args)).length=1+(sW args).length:=by rw [xB,List.length_cons];exact Nat.add_comm _ _
  rw [si] at hA1 ⊢
  have endT: ∀(s2:St),s2.gh=dI st.sl st.gh→s2.cx=dt l (rc none) cxo (m+1)→(∀ q, ¬q∈[3+off]→s2.bx q=aH st.bx (outs (k+(tg (.mk kd f n mm args)).length)) q)→s2.sl 4= .t (.bool true)→
    qA Tryz.f146.results.toList st.off d (fun s=> ∃fr s',K s'∧DL.Clean st fr s s') .ret s2:=fun s2 h1 h2 h3 h4=>by
   refine ⟨[.t (.bool true)],st.cx,?_,by rw [h2,hA.cx];rfl,by rw [hA.cx];exact pZ G.cxo_,[3+off],_,hK,?_⟩
   ·show (match s2.sl 4 with|u=>some [u])=_
    rw [h4]
   ·exact mC (by rw [h1];rfl) (fun j=>by rw [h1];rfl) h3 (fun q hq=>by rw [List.mem_singleton.1 hq];exact ⟨hf3,hnm (by omega)⟩) (G.sf (G.lvA hA.at_) _)
  have endF: ∀(c:Code) (cx':aa→World→Prop) (o':List (Nat×BX)) (s2:St),stop c cx' o'→s2.gh=dI st.sl st.gh→s2.cx=dt l (rc (some c)) cx' (m+1)→(∀ q, ¬q∈[3+off]→s2.bx q=aH st.bx o' q)→s2.sl 4= .t (.bool false)→
    qA Tryz.f146.results.toList st.off d (fun s=> ∃fr s',K s'∧DL.Clean st fr s s') .ret s2:=fun c cx' o' s2 hs h1 h2 h3 h4=>by
   refine ⟨[.t (.bool false)],dt l (rc (some c)) cx' m,?_,h2,pZ (G.cxd _ _ _ hs),[3+off],_,hS c cx' o' hs,?_⟩
   ·show (match s2.sl 4 with|u=>some [u])=_
    rw [h4]
   ·exact mC (by rw [h1];rfl) (fun j=>by rw [h1];rfl) h3 (fun q hq=>by rw [List.mem_singleton.1 hq];exact ⟨hf3,hnms hs (by omega)⟩) (G.sfs (G.lvA hA.at_) _ _ _ hs)
  generalize qA Tryz.f146.results.toList st.off d (fun s=> ∃fr s',K s'∧DL.Clean st fr s s')=nO at endT endF ⊢
  refine aF.seq (HY (pM (rP (cs:=sb (.mk kd f n mm args)) rfl rfl hf3 (rX rfl (qN ?_)))))
  refine aF.seq (aF.seq (Ji (rQ (b:=yb) rfl ((ae _ _ _ _ (show yb≠3+off by omega)).trans hy) rfl (rR (b:=3+off) rfl (af _ _ _) (qN (rH rfl rfl ?_))))))
  have hx0:xs[k]? =some (T.agg (sb (.mk kd f n mm args))):=by rw [← si];exact hxs 0 _ (by rw [xB];rfl)
  refine G.yld qw k _ (m+1) _ _ _ hx0 (hA1.of rfl rfl (fun q h1=>ae _ _ _ _ (show q≠3+off by have:=G.fh q h1;omega)) (fun p hp=>(ae _ _ _ _ (hnm (show hi≤3+off by omega) p hp)).trans (hA1.at_ p hp)) ⟨off+4,fun q hq=>(ae _ _ _ _ (show q≠3+off by omega)).trans (hfree q (by omega))⟩) ?t (fun c cx' o' hs=> ?f)
  case f=>
   refine rZ rfl (qN ?_)
   refine D8 (rB rfl (q8 (rX rfl (qN (rD ?_)))))
   refine endF c cx' o' _ hs rfl rfl (fun q hq=>?_) rfl
   exact oQ (ae _ _ _ _ (show q≠3+off from fun e=>hq (by rw [e];simp))) o'
  case t=>
  refine rZ rfl (qN ?_)
  refine D8 (rA rfl (rE ?_))
  let b1:Nat→Option BX:=upd st.bx (3+off) (some (.d 5 (sb (.mk kd f n mm args))))
  have hb13: ∀{k:Nat},aH b1 (outs k) (3+off)=some (.d 5 (sb (.mk kd f n mm args))):=(eV (hnm (by omega))).trans (af _ _ _)
  refine aF.seq (aF.seq (H9 (pM (rz (b:=3+off) (off:=0) rfl (rT (b:=3+off) (off:=0+4) rfl hb13 (by decide) rfl (rV (xs:=args.map sA) (n:=5) rfl (rX rfl (qN ?_))))))))
  refine aF.block (aF.rN (fun μ s=> ∃j sl,μ=args.length - j∧j≤args.length∧s={sl:=sl,bx:=aH b1 (outs (k+1+(sW (args.take j)).length)),gh:=dI st.sl st.gh,off:=off,cx:=dt l (rc none) cxo (m+1)}∧sl 1= .ptr yb 0∧sl 2= .ptr wb 0∧sl 12= .t (.slice 5 (args.map sA))∧sl 13= .t (I args.length)∧sl 14= .t (I j)) args.length ?_ ?_)
  ·exact ⟨0,_,by omega,by omega,St.ext' rfl rfl rfl rfl hA1.cx,rfl,rfl,rfl,by show V.t (.int .i64 ((args.map sA).length:Int))=_;rw [List.length_map],rfl⟩
  rintro μ s ⟨j,sl,rfl,hj,rfl,e1,e2,e12,e13,e14⟩
  refine aF.clean (fun _=>?_)
  refine aF.seq (Ic (pM (rW (a:=j) (b:=args.length) e14 e13 (qN ?_))))
  by_cases hlt:j<args.length
  case neg=>
   refine aF.seq (Ea (rA (by show V.t (.bool (decide ((j:Int)<(args.length:Int))))=_;rw [decide_eq_false (by omega)]) (rC ?_)))
   refine ⟨[],{sl:=upd sl 15 .top,bx:=aH b1 (outs (k+1+(sW (args.take j)).length)),gh:=dI st.sl st.gh,off:=off,cx:=dt l (rc none) cxo (m+1)},?_,⟨fun q=>?_,⟨rfl,rfl⟩,rfl,rfl,fun q=>rfl,fun q _=>Or.inl rfl,fun q h=>h,by simp⟩⟩
   ·refine G8 (q8 (rX rfl (qN (rD ?_))))
    refine endT _ rfl rfl (fun q hq=>?_) rfl
    have hjl:j=args.length:=by omega
    show aH b1 (outs (k+1+(sW (args.take j)).length)) q=_
    rw [hjl,List.take_length,hpl,Nat.add_assoc]
    exact oQ (ae _ _ _ _ (fun e=>hq (by rw [e];simp))) _
   ·by_cases h:q=15
    ·subst h;exact Or.inl (show upd sl 15 V.top 15=V.top from af _ _ _)
    ·have h1:upd sl 15 V.top q=sl q:=ae _ _ _ _ h
     exact Or.inr ⟨h1.trans (show sl q=upd sl 15 _ q from (ae _ _ _ _ h).symm),Or.inl h1⟩
  refine aF.seq (Ea (rB (by show V.t (.bool (decide ((j:Int)<(args.length:Int))))=_;rw [decide_eq_true (by omega)]) (rE ?_)))
  have hv:(args.map sA)[((j:Int)).toNat]?.getD .nil=T.agg (sb args[j]):=by
   rw [Int.toNat_natCast,List.getElem?_map,ggZ hlt]
   show sA args[j]=_
   exact si _
  have hf6: ∀{k:Nat},aH b1 (outs k) (6+off)=none:=(eV (hnm (by omega))).trans ((ae _ _ _ _ (by omega)).trans (hfree _ (by omega)))
  have hpt:=zI hlt
  have hpg:=fun i x=>@EW args j i x hlt
  have hpm:=EX hlt
  have hcl:=sr args[j]
  have hec:=si args[j]
  generalize args[j]=aj at hv hpt hpg hpm hcl hec
  refine aF.seq (aF.block (aF.seq (Ih (pM (rv (xs:=args.map sA) (k:=(j:Int)) e12 e14 ⟨by omega,by rw [List.length_map];omega⟩ hv (rS (cs:=sb aj) rfl hcl (pL hf6 (q0 (b:=6+off) (off:=0) rfl (af _ _ _) rfl ⟨hcl,Nat.le_refl _⟩ (qN ?_)))))))))
  have hbo: ∀{x y:Option BX} {q k:Nat},q≠6+off→upd (upd (aH b1 (outs k)) (6+off) x) (6+off) y q=aH b1 (outs k) q:=fun h=>(ae _ _ _ _ h).trans (ae _ _ _ _ h)
  have hbo2: ∀{k q:Nat},hi≤q→q≠3+off→aH b1 (outs k) q=st.bx q:=fun h h'=>(eV (hnm h)).trans (ae _ _ _ _ h')
  refine aF.seq (Jn (rQ (b:=wb) e2 ((hbo (by omega)).trans ((hbo2 hwb (by omega)).trans hw)) rfl (rR (b:=6+off) rfl (af _ _ _) (qN (rG (us':=[.t (sA aj),.ptr yb 0,.ptr wb 0]) rfl (by
   show [V.t (.agg (aK [.int .i64 0,.str ⟨#[]⟩,.int .i64 0,.int .i64 0,.nil] 0 5 (sb aj))),V.ptr yb 0,V.ptr wb 0]=_
   rw [mL (n:=5) rfl,hec]) ?_)))))
  refine ih aj (by omega) (by omega) (k+1+(sW (args.take j)).length) (m+1) (off+7) _ _ _ (fun i x hx=>?_) (hA1.of hA1.cx.symm rfl (fun q h1=>?_) (fun p hp=>?_) ⟨off+7,fun q hq=>?_⟩) (fun q hq=>?_) (by omega) (by omega) (by omega) ?_ ?_ ?t (fun c cx' o' hs=> ?f)
  ·rw [Nat.add_assoc,Nat.add_assoc]
   refine hxs _ x ?_
   rw [xB,Nat.add_comm,List.getElem?_cons_succ]
   exact hpg i x hx
  ·have hq1:=G.fh q h1
   exact (hbo (by omega)).trans ((eV (fun p hp e=>(G.nm _ p hp).2 (by rw [e];exact h1))).trans (ae _ _ _ _ (by omega)))
  ·exact (hbo (hnm (show hi≤6+off by omega) p hp)).trans (mo (G.nd _) hp)
  ·exact (hbo (by omega)).trans ((hbo2 (by omega) (by omega)).trans (hfree q (by omega)))
  ·exact (hbo (by omega)).trans ((hbo2 (by omega) (by omega)).trans (hfree q (by omega)))
  ·exact (hbo (by omega)).trans ((hbo2 hyb (by omega)).trans hy)
  ·exact (hbo (by omega)).trans ((hbo2 hwb (by omega)).trans hw)
  case f=>
   refine rZ rfl (qN ?_)
   refine Ed (rB rfl (q8 (rX rfl (qN (rD ?_)))))
   refine ⟨[6+off],{sl:=fun n=>cond (Nat.beq n 4) (.t (.bool false)) .top,bx:=aH (aH b1 (outs (k+1+(sW (args.take j)).length))) o',gh:=dI st.sl st.gh,off:=off,cx:=dt l (rc (some c)) cx' (m+1)},endF c cx' o' _ hs rfl rfl (fun q hq=>?_) rfl,?_⟩
   ·show aH (aH b1 (outs _)) o' q=_
    rw [qP (G.covs _ _ _ hs _)]
    exact oQ (ae _ _ _ _ (fun e=>hq (by rw [e];simp))) _
   ·refine mX (fun q=>?_) rfl (fun q hq=>oQ (hbo (fun e=>hq (by rw [e];simp))) o') (fun q hq=>?_) (G.sfs (G.lvU _ _) _ _ _ hs)
    ·by_cases h:q=4
     ·subst h;exact Or.inr ⟨rfl,Or.inr (.t _)⟩
     ·refine Or.inl ?_
      show cond (Nat.beq q 4) _ _=_
      rw [eM h];rfl
    ·rw [List.mem_singleton.1 hq]
     exact ⟨hf6,hnms hs (by omega)⟩
  case t=>
   refine rZ rfl (qN ?_)
   refine Ed (rA rfl (rE ?_))
   have hge:=Bj args
   have hw1:IntKind.i64.wrap ((j:Int)+1)=((j+1:Nat):Int):=by rw [mu (by omega) (by omega)];rfl
   refine Ij (pM (rO (a:=(j:Int)) (b:=1) e14 rfl hw1 (rX rfl (qN ?_))))
   have hix:k+1+(sW (args.take j)).length+(tg aj).length=k+1+(sW (args.take (j+1))).length:=by rw [hpt,List.length_append];omega
   refine ⟨[6+off],{sl:=upd (fun n=>cond (Nat.beq n 1||Nat.beq n 2||Nat.beq n 12||Nat.beq n 13) (sl n) .top) 14 (.t (I (j+1:Nat))),bx:=aH (aH b1 (outs (k+1+(sW (args.take j)).length))) (outs (k+1+(sW (args.take j)).length+(tg aj).length)),gh:=dI st.sl st.gh,off:=off,cx:=dt l (rc none) cxo (m+1)},⟨args.length - (j+1),by omega,j+1,_,rfl,by omega,St.ext' rfl ((qP (G.cov _ _)).trans (congrArg (fun i=>aH b1 (outs i)) hix)) rfl rfl rfl,e1,e2,e12,e13,rfl⟩,?_⟩
   refine mX (fun q=>?_) rfl (fun q hq=>oQ (hbo (fun e=>hq (by rw [e];simp))) _) (fun q hq=>?_) (G.sf (G.lvU _ _) _)
   ·by_cases h14:q=14
    ·subst h14;exact Or.inr ⟨rfl,Or.inr (.t _)⟩
    by_cases h1:q=1
    ·subst h1;exact Or.inr ⟨by (conv=>lhs;whnf);(conv=>rhs;whnf),Or.inl rfl⟩
    by_cases h2:q=2
    ·subst h2;exact Or.inr ⟨by (conv=>lhs;whnf);(conv=>rhs;whnf),Or.inl rfl⟩
    by_cases h12:q=12
    ·subst h12;exact Or.inr ⟨by (conv=>lhs;whnf);(conv=>rhs;whnf),Or.inl rfl⟩
    by_cases h13:q=13
    ·subst h13;exact Or.inr ⟨by (conv=>lhs;whnf);(conv=>rhs;whnf),Or.inl rfl⟩
    refine Or.inl ?_
    show upd _ 14 _ q=_
    rw [ae _ _ _ _ h14]
    show cond (Nat.beq q 1||Nat.beq q 2||Nat.beq q 12||Nat.beq q 13) _ _=_
    rw [eM h1,eM h2,eM h12,eM h13];rfl
   ·rw [List.mem_singleton.1 hq]
    exact ⟨hf6,hnm (by omega)⟩
end
end Go.TY
end
section
namespace Go.TY
open Go Go.DL Go.MM Go.Proofs
attribute [local irreducible] aF gL WCM YC
section
variable [Glb]
theorem z7 {l:Nat} {rc:Option Code→Loop} {cxo:aa→World→Prop} {own:St} {F:Nat→Prop} {hi:Nat} {xs:List T} {outs:Nat→List (Nat×BX)} {stop:Code→(aa→World→Prop)→List (Nat×BX)→Prop} (G:dL Tryz.prog l rc cxo own F hi xs outs stop) (yb wb:Nat) (hyb:hi≤yb) (hwb:hi≤wb):
  ∀(b:Nat) (r:RO),(sj r).length≤b→b<2^60→ ∀(k m off:Nat) (st:St) (d:Option Nat) (K:St→Prop),(∀ j x,(sj r)[j]? =some x→xs[k+j]? =some (uC x))→AtI qw l (rc none) cxo own F (outs k) m st→
   (∀ n,off≤n→st.bx n=none)→yb<off→wb<off→hi≤off→st.bx yb=some (.v [lP l])→st.bx wb=some (.v [.fn 117 [.ptr yb 0,.ptr wb 0]])→
   K (({st with bx:=aH st.bx (outs (k+(sj r).length))}:St).set d (.t (.bool true)))→
   (∀ c cx' o',stop c cx' o'→K (({st with bx:=aH st.bx o',cx:=dt l (rc (some c)) cx' m }:St).set d (.t (.bool false))))→
   WCM Tryz.prog 117 [.t (uC r),.ptr yb 0,.ptr wb 0] d st K
 |0,r,hb=>by rw [xA] at hb;simp at hb
 |b+1,r,hb=>by
  intro hB k m off st d K hxs hA hfree hyo hwo hio hy hw hK hS
  have ih:=z7 G yb wb hyb hwb b
  refine WCM.clean (fun hnb=>?_) (bM Tryz.func117 rfl rfl)
  refine WCM.run Tryz.func117 JO rfl off (nlZ rfl) ?_
  rw [MP]
  obtain ⟨kd,f,n,mm,args⟩:=r
  have hA1:=hA.enter [.t (uC (.mk kd f n mm args)),.ptr yb 0,.ptr wb 0] off
  have hf3:=hfree (3+off) (by omega)
  have hnm: ∀{k:Nat} {q:Nat},hi≤q→ ∀p∈outs k,p.1≠q:=fun h p hp e=>by have:=(G.nm _ p hp).1;omega
  have hnms: ∀{c cx o} {q:Nat},stop c cx o→hi≤q→ ∀p∈o,p.1≠q:=fun hs h p hp e=>by have:=(G.nms _ _ _ hs p hp).1;omega
  have hpl:(sj (.mk kd f n mm args)).length=1+(sM args).length:=by rw [xA,List.length_cons];exact Nat.add_comm _ _
  rw [sI] at hA1 ⊢
  have endT: ∀(s2:St),s2.gh=dI st.sl st.gh→s2.cx=dt l (rc none) cxo (m+1)→(∀ q, ¬q∈[3+off]→s2.bx q=aH st.bx (outs (k+(sj (.mk kd f n mm args)).length)) q)→s2.sl 4= .t (.bool true)→
    qA Tryz.f117.results.toList st.off d (fun s=> ∃fr s',K s'∧DL.Clean st fr s s') .ret s2:=fun s2 h1 h2 h3 h4=>by
   refine ⟨[.t (.bool true)],st.cx,?_,by rw [h2,hA.cx];rfl,by rw [hA.cx];exact pZ G.cxo_,[3+off],_,hK,?_⟩
   ·show (match s2.sl 4 with|u=>some [u])=_
    rw [h4]
   ·exact mC (by rw [h1];rfl) (fun j=>by rw [h1];rfl) h3 (fun q hq=>by rw [List.mem_singleton.1 hq];exact ⟨hf3,hnm (by omega)⟩) (G.sf (G.lvA hA.at_) _)
  have endF: ∀(c:Code) (cx':aa→World→Prop) (o':List (Nat×BX)) (s2:St),stop c cx' o'→s2.gh=dI st.sl st.gh→s2.cx=dt l (rc (some c)) cx' (m+1)→(∀ q, ¬q∈[3+off]→s2.bx q=aH st.bx o' q)→s2.sl 4= .t (.bool false)→
    qA Tryz.f117.results.toList st.off d (fun s=> ∃fr s',K s'∧DL.Clean st fr s s') .ret s2:=fun c cx' o' s2 hs h1 h2 h3 h4=>by
   refine ⟨[.t (.bool false)],dt l (rc (some c)) cx' m,?_,h2,pZ (G.cxd _ _ _ hs),[3+off],_,hS c cx' o' hs,?_⟩
   ·show (match s2.sl 4 with|u=>some [u])=_
    rw [h4]
   ·exact mC (by rw [h1];rfl) (fun j=>by rw [h1];rfl) h3 (fun q hq=>by rw [List.mem_singleton.1 hq];exact ⟨hf3,hnms hs (by omega)⟩) (G.sfs (G.lvA hA.at_) _ _ _ hs)
  generalize qA Tryz.f117.results.toList st.off d (fun s=> ∃fr s',K s'∧DL.Clean st fr s s')=nO at endT endF ⊢
  refine aF.seq (HV (pM (rP (cs:=sU (.mk kd f n mm args)) rfl rfl hf3 (rX rfl (qN ?_)))))
  refine aF.seq (aF.seq (Jh (rQ (b:=yb) rfl ((ae _ _ _ _ (show yb≠3+off by omega)).trans hy) rfl (rR (b:=3+off) rfl (af _ _ _) (qN (rH rfl rfl ?_))))))
  have hx0:xs[k]? =some (T.agg (sU (.mk kd f n mm args))):=by rw [← sI];exact hxs 0 _ (by rw [xA];rfl)
  refine G.yld qw k _ (m+1) _ _ _ hx0 (hA1.of rfl rfl (fun q h1=>ae _ _ _ _ (show q≠3+off by have:=G.fh q h1;omega)) (fun p hp=>(ae _ _ _ _ (hnm (show hi≤3+off by omega) p hp)).trans (hA1.at_ p hp)) ⟨off+4,fun q hq=>(ae _ _ _ _ (show q≠3+off by omega)).trans (hfree q (by omega))⟩) ?t (fun c cx' o' hs=> ?f)
  case f=>
   refine rZ rfl (qN ?_)
   refine D7 (rB rfl (q8 (rX rfl (qN (rD ?_)))))
   refine endF c cx' o' _ hs rfl rfl (fun q hq=>?_) rfl
   exact oQ (ae _ _ _ _ (show q≠3+off from fun e=>hq (by rw [e];simp))) o'
  case t=>
  refine rZ rfl (qN ?_)
  refine D7 (rA rfl (rE ?_))
  let b1:Nat→Option BX:=upd st.bx (3+off) (some (.d 9 (sU (.mk kd f n mm args))))
  have hb13: ∀{k:Nat},aH b1 (outs k) (3+off)=some (.d 9 (sU (.mk kd f n mm args))):=(eV (hnm (by omega))).trans (af _ _ _)
  refine aF.seq (aF.seq (H7 (pM (rz (b:=3+off) (off:=0) rfl (rT (b:=3+off) (off:=0+8) rfl hb13 (by decide) rfl (rV (xs:=args.map uC) (n:=9) rfl (rX rfl (qN ?_))))))))
  refine aF.block (aF.rN (fun μ s=> ∃j sl,μ=args.length - j∧j≤args.length∧s={sl:=sl,bx:=aH b1 (outs (k+1+(sM (args.take j)).length)),gh:=dI st.sl st.gh,off:=off,cx:=dt l (rc none) cxo (m+1)}∧sl 1= .ptr yb 0∧sl 2= .ptr wb 0∧sl 12= .t (.slice 9 (args.map uC))∧sl 13= .t (I args.length)∧sl 14= .t (I j)) args.length ?_ ?_)
  ·exact ⟨0,_,by omega,by omega,St.ext' rfl rfl rfl rfl hA1.cx,rfl,rfl,rfl,by show V.t (.int .i64 ((args.map uC).length:Int))=_;rw [List.length_map],rfl⟩
  rintro μ s ⟨j,sl,rfl,hj,rfl,e1,e2,e12,e13,e14⟩
  refine aF.clean (fun _=>?_)
  refine aF.seq (Ia (pM (rW (a:=j) (b:=args.length) e14 e13 (qN ?_))))
  by_cases hlt:j<args.length
  case neg=>
   refine aF.seq (D9 (rA (by show V.t (.bool (decide ((j:Int)<(args.length:Int))))=_;rw [decide_eq_false (by omega)]) (rC ?_)))
   refine ⟨[],{sl:=upd sl 15 .top,bx:=aH b1 (outs (k+1+(sM (args.take j)).length)),gh:=dI st.sl st.gh,off:=off,cx:=dt l (rc none) cxo (m+1)},?_,⟨fun q=>?_,⟨rfl,rfl⟩,rfl,rfl,fun q=>rfl,fun q _=>Or.inl rfl,fun q h=>h,by simp⟩⟩
   ·refine G7 (q8 (rX rfl (qN (rD ?_))))
    refine endT _ rfl rfl (fun q hq=>?_) rfl
    have hjl:j=args.length:=by omega
    show aH b1 (outs (k+1+(sM (args.take j)).length)) q=_
    rw [hjl,List.take_length,hpl,Nat.add_assoc]
    exact oQ (ae _ _ _ _ (fun e=>hq (by rw [e];simp))) _
   ·by_cases h:q=15
    ·subst h;exact Or.inl (show upd sl 15 V.top 15=V.top from af _ _ _)
    ·have h1:upd sl 15 V.top q=sl q:=ae _ _ _ _ h
     exact Or.inr ⟨h1.trans (show sl q=upd sl 15 _ q from (ae _ _ _ _ h).symm),Or.inl h1⟩
  refine aF.seq (D9 (rB (by show V.t (.bool (decide ((j:Int)<(args.length:Int))))=_;rw [decide_eq_true (by omega)]) (rE ?_)))
  have hv:(args.map uC)[((j:Int)).toNat]?.getD .nil=T.agg (sU args[j]):=by
   rw [Int.toNat_natCast,List.getElem?_map,ggZ hlt]
   show uC args[j]=_
   exact sI _
  have hf6: ∀{k:Nat},aH b1 (outs k) (6+off)=none:=(eV (hnm (by omega))).trans ((ae _ _ _ _ (by omega)).trans (hfree _ (by omega)))
  have hpt:=zH hlt
  have hpg:=fun i x=>@ES args j i x hlt
  have hpm:=ET hlt
  have hcl:=tz args[j]
  have hec:=sI args[j]
  generalize args[j]=aj at hv hpt hpg hpm hcl hec
  refine aF.seq (aF.block (aF.seq (Ig (pM (rv (xs:=args.map uC) (k:=(j:Int)) e12 e14 ⟨by omega,by rw [List.length_map];omega⟩ hv (rS (cs:=sU aj) rfl hcl (pL hf6 (q0 (b:=6+off) (off:=0) rfl (af _ _ _) rfl ⟨hcl,Nat.le_refl _⟩ (qN ?_)))))))))
  have hbo: ∀{x y:Option BX} {q k:Nat},q≠6+off→upd (upd (aH b1 (outs k)) (6+off) x) (6+off) y q=aH b1 (outs k) q:=fun h=>(ae _ _ _ _ h).trans (ae _ _ _ _ h)
  have hbo2: ∀{k q:Nat},hi≤q→q≠3+off→aH b1 (outs k) q=st.bx q:=fun h h'=>(eV (hnm h)).trans (ae _ _ _ _ h')
  refine aF.seq (Jm (rQ (b:=wb) e2 ((hbo (by omega)).trans ((hbo2 hwb (by omega)).trans hw)) rfl (rR (b:=6+off) rfl (af _ _ _) (qN (rG (us':=[.t (uC aj),.ptr yb 0,.ptr wb 0]) rfl (by
   show [V.t (.agg (aK [.int .i64 0,.int .i64 0,.str ⟨#[]⟩,.int .i64 0,.int .i64 0,.nil,.str ⟨#[]⟩,.int .i64 0,.nil] 0 9 (sU aj))),V.ptr yb 0,V.ptr wb 0]=_
   rw [mL (n:=9) rfl,hec]) ?_)))))
  refine ih aj (by omega) (by omega) (k+1+(sM (args.take j)).length) (m+1) (off+7) _ _ _ (fun i x hx=>?_) (hA1.of hA1.cx.symm rfl (fun q h1=>?_) (fun p hp=>?_) ⟨off+7,fun q hq=>?_⟩) (fun q hq=>?_) (by omega) (by omega) (by omega) ?_ ?_ ?t (fun c cx' o' hs=> ?f)
  ·rw [Nat.add_assoc,Nat.add_assoc]
   refine hxs _ x ?_
   rw [xA,Nat.add_comm,List.getElem?_cons_succ]
   exact hpg i x hx
  ·have hq1:=G.fh q h1
   exact (hbo (by omega)).trans ((eV (fun p hp e=>(G.nm _ p hp).2 (by rw [e];exact h1))).trans (ae _ _ _ _ (by omega)))
  ·exact (hbo (hnm (show hi≤6+off by omega) p hp)).trans (mo (G.nd _) hp)
  ·exact (hbo (by omega)).trans ((hbo2 (by omega) (by omega)).trans (hfree q (by omega)))
  ·exact (hbo (by omega)).trans ((hbo2 (by omega) (by omega)).trans (hfree q (by omega)))
  ·exact (hbo (by omega)).trans ((hbo2 hyb (by omega)).trans hy)
  ·exact (hbo (by omega)).trans ((hbo2 hwb (by omega)).trans hw)
  case f=>
   refine rZ rfl (qN ?_)
   refine Ec (rB rfl (q8 (rX rfl (qN (rD ?_)))))
   refine ⟨[6+off],{sl:=fun n=>cond (Nat.beq n 4) (.t (.bool false)) .top,bx:=aH (aH b1 (outs (k+1+(sM (args.take j)).length))) o',gh:=dI st.sl st.gh,off:=off,cx:=dt l (rc (some c)) cx' (m+1)},endF c cx' o' _ hs rfl rfl (fun q hq=>?_) rfl,?_⟩
   ·show aH (aH b1 (outs _)) o' q=_
    rw [qP (G.covs _ _ _ hs _)]
    exact oQ (ae _ _ _ _ (fun e=>hq (by rw [e];simp))) _
   ·refine mX (fun q=>?_) rfl (fun q hq=>oQ (hbo (fun e=>hq (by rw [e];simp))) o') (fun q hq=>?_) (G.sfs (G.lvU _ _) _ _ _ hs)
    ·by_cases h:q=4
     ·subst h;exact Or.inr ⟨rfl,Or.inr (.t _)⟩
     ·refine Or.inl ?_
      show cond (Nat.beq q 4) _ _=_
      rw [eM h];rfl
    ·rw [List.mem_singleton.1 hq]
     exact ⟨hf6,hnms hs (by omega)⟩
  case t=>
   refine rZ rfl (qN ?_)
   refine Ec (rA rfl (rE ?_))
   have hge:=Bi args
   have hw1:IntKind.i64.wrap ((j:Int)+1)=((j+1:Nat):Int):=by rw [mu (by omega) (by omega)];rfl
   refine Ii (pM (rO (a:=(j:Int)) (b:=1) e14 rfl hw1 (rX rfl (qN ?_))))
   have hix:k+1+(sM (args.take j)).length+(sj aj).length=k+1+(sM (args.take (j+1))).length:=by rw [hpt,List.length_append];omega
   refine ⟨[6+off],{sl:=upd (fun n=>cond (Nat.beq n 1||Nat.beq n 2||Nat.beq n 12||Nat.beq n 13) (sl n) .top) 14 (.t (I (j+1:Nat))),bx:=aH (aH b1 (outs (k+1+(sM (args.take j)).length))) (outs (k+1+(sM (args.take j)).length+(sj aj).length)),gh:=dI st.sl st.gh,off:=off,cx:=dt l (rc none) cxo (m+1)},⟨args.length - (j+1),by omega,j+1,_,rfl,by omega,St.ext' rfl ((qP (G.cov _ _)).trans (congrArg (fun i=>aH b1 (outs i)) hix)) rfl rfl rfl,e1,e2,e12,e13,rfl⟩,?_⟩
   refine mX (fun q=>?_) rfl (fun q hq=>oQ (hbo (fun e=>hq (by rw [e];simp))) _) (fun q hq=>?_) (G.sf (G.lvU _ _) _)
   ·by_cases h14:q=14
    ·subst h14;exact Or.inr ⟨rfl,Or.inr (.t _)⟩
    by_cases h1:q=1
    ·subst h1;exact Or.inr ⟨by (conv=>lhs;whnf);(conv=>rhs;whnf),Or.inl rfl⟩
    by_cases h2:q=2
    ·subst h2;exact Or.inr ⟨by (conv=>lhs;whnf);(conv=>rhs;whnf),Or.inl rfl⟩
    by_cases h12:q=12
    ·subst h12;exact Or.inr ⟨by (conv=>lhs;whnf);(conv=>rhs;whnf),Or.inl rfl⟩
    by_cases h13:q=13
    ·subst h13;exact Or.inr ⟨by (conv=>lhs;whnf);(conv=>rhs;whnf),Or.inl rfl⟩
    refine Or.inl ?_
    show upd _ 14 _ q=_
    rw [ae _ _ _ _ h14]
    show cond (Nat.beq q 1||Nat.beq q 2||Nat.beq q 12||Nat.beq q 13) _ _=_
    rw [eM h1,eM h2,eM h12,eM h13];rfl
   ·rw [List.mem_singleton.1 hq]
    exact ⟨hf6,hnm (by omega)⟩
end
end Go.TY
end
section
namespace Go.TY
open Go Go.DL Go.MM Go.Proofs
attribute [local irreducible] aF gL WCM YC
section
variable [Glb]
theorem y3 {N:Nat} {st:St} {g:Operand} {y:O} {p:Nat} {asg body:Code} (hg:ao g=some y) (r:RP) (hv:ev st.sl y= .t (.clos 145 [.cptr (sb r) 0])) (off:Nat) (F:Nat→Prop) (hi:Nat) (hio:hi≤off) (hB:(tg r).length<2^59) (hfl: ∀n,F n→st.bx n=none) (hfo: ∀n,off≤n→st.bx n=none) (hcn:CxN st.cx)
  {outs:Nat→List (Nat×BX)} {stop:Code→(aa→World→Prop)→List (Nat×BX)→Prop} {Q:ax→St→Prop} (h0: ∀q∈outs 0,st.bx q.1=some q.2)
  (hG: ∀(l D:Nat) (fn:FuncId) (tmps:Array Value),tmps.size=N→dL Tryz.prog l (rcE fn tmps p asg body D) st.cx st F hi ((tg r).map sA) outs stop)
  (hend:Q .normal {st with bx:=aH st.bx (outs (tg r).length)})
  (hstop: ∀c cx' o',stop c cx' o'→(c= .ret∧Q .ret {st with bx:=aH st.bx o',cx:=cx' })∨ ∃id,c= .exit id∧Q (.exit id) {st with bx:=aH st.bx o',cx:=cx' }):
  aF Tryz.prog N (.rangeFunc g #[p] asg body) st Q:=by
 refine aF.clean (fun _=>?_)
 refine aF.range (N:=N) hg (gf:=145) (caps:=[.t (.cptr (sb r) 0)]) (by rw [hv];rfl) Tryz.func145 JQ rfl rfl (nlZ rfl) off hcn (fun l D fn tmps hN=>?_)
 have G:=hG l D fn tmps hN
 rw [MR]
 have hA:AtI qw l (rcE fn tmps p asg body D none) st.cx st F (outs 0) 0 (st.itr l [.t (.cptr (sb r) 0)] off (rdy fn tmps p asg body D)):=
  ⟨rfl,rfl,fun j=>by
   show dI st.sl st.gh (0+0+1+j)=_
   rw [show 0+0+1+j=j+1 by omega];rfl,h0,hfl,off,hfo⟩
 have hnm: ∀{k:Nat} {q:Nat},hi≤q→ ∀p∈outs k,p.1≠q:=fun h p hp e=>by have:=(G.nm _ p hp).1;omega
 have hnms: ∀{c cx o} {q:Nat},stop c cx o→hi≤q→ ∀p∈o,p.1≠q:=fun hs h p hp e=>by have:=(G.nms _ _ _ hs p hp).1;omega
 have hf2:st.bx (2+off)=none:=hfo _ (by omega)
 have hf3:st.bx (3+off)=none:=hfo _ (by omega)
 have fin: ∀{s2:St} {o:List (Nat×BX)} {cx:aa→World→Prop},s2.gh=dI st.sl st.gh→(∀ q, ¬q∈[2+off,3+off]→s2.bx q=aH st.bx o q)→(∀ q∈[2+off,3+off], ∀p∈o,p.1≠q)→(∀ p∈o,bp (fun n=>(st.bx n).isSome=true) p.2)→
   DL.Clean st [2+off,3+off] (s2.bA st.off cx) {st with bx:=aH st.bx o,cx:=cx }:=fun h1 h2 h3 h4=>
  mC (d:=none) (v:=.nil) (by rw [h1];rfl) (fun j=>by rw [h1];rfl) h2 (fun q hq=>⟨by
   rcases List.mem_cons.1 hq with rfl|hq
   ·exact hf2
   ·rw [List.mem_singleton.1 hq];exact hf3,h3 q hq⟩) h4
 refine aF.seq (HX (pM (rr (v:=.func (.yield l) #[] #[]) rfl hf2 (qN ?_))))
 refine aF.seq (H3 (pM (pL ((ae _ _ _ _ (show 3+off≠2+off by omega)).trans hf3) (qN ?_))))
 refine aF.seq (H6 (pM (ry rfl (r5 (b:=3+off) rfl (af _ _ _) rfl (qN ?_)))))
 have hbo: ∀{x y z:Option BX} {q:Nat},q≠2+off→q≠3+off→upd (upd (upd st.bx (2+off) x) (3+off) y) (3+off) z q=st.bx q:=fun h1 h2=>(ae _ _ _ _ h2).trans ((ae _ _ _ _ h2).trans (ae _ _ _ _ h1))
 have h23:2+off≠3+off:=by omega
 have hq2: ∀q, ¬q∈[2+off,3+off]→q≠2+off∧q≠3+off:=fun q h=>⟨fun e=>h (by rw [e];simp),fun e=>h (by rw [e];simp)⟩
 refine Jk (rQ (b:=3+off) rfl (af _ _ _) rfl (rS (cs:=sb r) rfl (sr r) (qN (rG (us':=[.t (sA r),.ptr (2+off) 0,.ptr (3+off) 0]) rfl (by rw [si];rfl) ?_))))
 refine z8 G (2+off) (3+off) (by omega) (by omega) (tg r).length r (Nat.le_refl _) (by omega) 0 0 (off+4) _ _ _ (fun j x hx=>by rw [Nat.zero_add,List.getElem?_map,hx];rfl) (hA.of rfl rfl (fun q h1=>hbo (by have:=G.fh q h1;omega) (by have:=G.fh q h1;omega)) (fun q hq=>(hbo (hnm (by omega) q hq) (hnm (by omega) q hq)).trans (h0 q hq)) ⟨off+4,fun q hq=>(hbo (by omega) (by omega)).trans (hfo q (by omega))⟩)
  (fun q hq=>(hbo (by omega) (by omega)).trans (hfo q (by omega))) (by omega) (by omega) (by omega) ((ae _ _ _ _ h23).trans ((ae _ _ _ _ h23).trans (af _ _ _))) (af _ _ _) ?t (fun c cx' o' hs=> ?f)
 case t=>
  refine qN ⟨none,st.cx,rfl,G.cxo_,[2+off,3+off],_,?_,fin (o:=outs (tg r).length) rfl (fun q hq=>?_) (fun q hq=>hnm (by
   rcases List.mem_cons.1 hq with rfl|hq
   ·omega
   ·rw [List.mem_singleton.1 hq];omega)) (G.sf (G.lvA h0) _)⟩
  ·exact hend
  ·show aH _ (outs (0+(tg r).length)) q=_
   rw [Nat.zero_add]
   exact oQ (hbo (hq2 q hq).1 (hq2 q hq).2) _
 case f=>
  rcases hstop c cx' o' hs with ⟨rfl,hq⟩|⟨id,rfl,hq⟩
  all_goals
   refine qN ⟨some _,cx',rfl,G.cxd _ _ _ hs,[2+off,3+off],_,hq,fin (o:=o') rfl (fun q hq=>?_) (fun q hq=>hnms hs (by
    rcases List.mem_cons.1 hq with rfl|hq
    ·omega
    ·rw [List.mem_singleton.1 hq];omega)) (G.sfs (G.lvA h0) _ _ _ hs)⟩
   exact oQ (hbo (hq2 q hq).1 (hq2 q hq).2) _
theorem wk {N:Nat} {st:St} {g:Operand} {y:O} {p:Nat} {asg body:Code} (hg:ao g=some y) (r:RO) (hv:ev st.sl y= .t (.clos 116 [.cptr (sU r) 0])) (off:Nat) (F:Nat→Prop) (hi:Nat) (hio:hi≤off) (hB:(sj r).length<2^59) (hfl: ∀n,F n→st.bx n=none) (hfo: ∀n,off≤n→st.bx n=none) (hcn:CxN st.cx)
  {outs:Nat→List (Nat×BX)} {stop:Code→(aa→World→Prop)→List (Nat×BX)→Prop} {Q:ax→St→Prop} (h0: ∀q∈outs 0,st.bx q.1=some q.2)
  (hG: ∀(l D:Nat) (fn:FuncId) (tmps:Array Value),tmps.size=N→dL Tryz.prog l (rcE fn tmps p asg body D) st.cx st F hi ((sj r).map uC) outs stop)
  (hend:Q .normal {st with bx:=aH st.bx (outs (sj r).length)})
  (hstop: ∀c cx' o',stop c cx' o'→(c= .ret∧Q .ret {st with bx:=aH st.bx o',cx:=cx' })∨ ∃id,c= .exit id∧Q (.exit id) {st with bx:=aH st.bx o',cx:=cx' }):
  aF Tryz.prog N (.rangeFunc g #[p] asg body) st Q:=by
 refine aF.clean (fun _=>?_)
 refine aF.range (N:=N) hg (gf:=116) (caps:=[.t (.cptr (sU r) 0)]) (by rw [hv];rfl) Tryz.func116 JN rfl rfl (nlZ rfl) off hcn (fun l D fn tmps hN=>?_)
 have G:=hG l D fn tmps hN
 rw [MO]
 have hA:AtI qw l (rcE fn tmps p asg body D none) st.cx st F (outs 0) 0 (st.itr l [.t (.cptr (sU r) 0)] off (rdy fn tmps p asg body D)):=
  ⟨rfl,rfl,fun j=>by
   show dI st.sl st.gh (0+0+1+j)=_
   rw [show 0+0+1+j=j+1 by omega];rfl,h0,hfl,off,hfo⟩
 have hnm: ∀{k:Nat} {q:Nat},hi≤q→ ∀p∈outs k,p.1≠q:=fun h p hp e=>by have:=(G.nm _ p hp).1;omega
 have hnms: ∀{c cx o} {q:Nat},stop c cx o→hi≤q→ ∀p∈o,p.1≠q:=fun hs h p hp e=>by have:=(G.nms _ _ _ hs p hp).1;omega
 have hf2:st.bx (2+off)=none:=hfo _ (by omega)
 have hf3:st.bx (3+off)=none:=hfo _ (by omega)
 have fin: ∀{s2:St} {o:List (Nat×BX)} {cx:aa→World→Prop},s2.gh=dI st.sl st.gh→(∀ q, ¬q∈[2+off,3+off]→s2.bx q=aH st.bx o q)→(∀ q∈[2+off,3+off], ∀p∈o,p.1≠q)→(∀ p∈o,bp (fun n=>(st.bx n).isSome=true) p.2)→
   DL.Clean st [2+off,3+off] (s2.bA st.off cx) {st with bx:=aH st.bx o,cx:=cx }:=fun h1 h2 h3 h4=>
  mC (d:=none) (v:=.nil) (by rw [h1];rfl) (fun j=>by rw [h1];rfl) h2 (fun q hq=>⟨by
   rcases List.mem_cons.1 hq with rfl|hq
   ·exact hf2
   ·rw [List.mem_singleton.1 hq];exact hf3,h3 q hq⟩) h4
 refine aF.seq (HU (pM (rr (v:=.func (.yield l) #[] #[]) rfl hf2 (qN ?_))))
 refine aF.seq (H0 (pM (pL ((ae _ _ _ _ (show 3+off≠2+off by omega)).trans hf3) (qN ?_))))
 refine aF.seq (H4 (pM (ry rfl (r5 (b:=3+off) rfl (af _ _ _) rfl (qN ?_)))))
 have hbo: ∀{x y z:Option BX} {q:Nat},q≠2+off→q≠3+off→upd (upd (upd st.bx (2+off) x) (3+off) y) (3+off) z q=st.bx q:=fun h1 h2=>(ae _ _ _ _ h2).trans ((ae _ _ _ _ h2).trans (ae _ _ _ _ h1))
 have h23:2+off≠3+off:=by omega
 have hq2: ∀q, ¬q∈[2+off,3+off]→q≠2+off∧q≠3+off:=fun q h=>⟨fun e=>h (by rw [e];simp),fun e=>h (by rw [e];simp)⟩
 refine Jj (rQ (b:=3+off) rfl (af _ _ _) rfl (rS (cs:=sU r) rfl (tz r) (qN (rG (us':=[.t (uC r),.ptr (2+off) 0,.ptr (3+off) 0]) rfl (by rw [sI];rfl) ?_))))
 refine z7 G (2+off) (3+off) (by omega) (by omega) (sj r).length r (Nat.le_refl _) (by omega) 0 0 (off+4) _ _ _ (fun j x hx=>by rw [Nat.zero_add,List.getElem?_map,hx];rfl) (hA.of rfl rfl (fun q h1=>hbo (by have:=G.fh q h1;omega) (by have:=G.fh q h1;omega)) (fun q hq=>(hbo (hnm (by omega) q hq) (hnm (by omega) q hq)).trans (h0 q hq)) ⟨off+4,fun q hq=>(hbo (by omega) (by omega)).trans (hfo q (by omega))⟩)
  (fun q hq=>(hbo (by omega) (by omega)).trans (hfo q (by omega))) (by omega) (by omega) (by omega) ((ae _ _ _ _ h23).trans ((ae _ _ _ _ h23).trans (af _ _ _))) (af _ _ _) ?t (fun c cx' o' hs=> ?f)
 case t=>
  refine qN ⟨none,st.cx,rfl,G.cxo_,[2+off,3+off],_,?_,fin (o:=outs (sj r).length) rfl (fun q hq=>?_) (fun q hq=>hnm (by
   rcases List.mem_cons.1 hq with rfl|hq
   ·omega
   ·rw [List.mem_singleton.1 hq];omega)) (G.sf (G.lvA h0) _)⟩
  ·exact hend
  ·show aH _ (outs (0+(sj r).length)) q=_
   rw [Nat.zero_add]
   exact oQ (hbo (hq2 q hq).1 (hq2 q hq).2) _
 case f=>
  rcases hstop c cx' o' hs with ⟨rfl,hq⟩|⟨id,rfl,hq⟩
  all_goals
   refine qN ⟨some _,cx',rfl,G.cxd _ _ _ hs,[2+off,3+off],_,hq,fin (o:=o') rfl (fun q hq=>?_) (fun q hq=>hnms hs (by
    rcases List.mem_cons.1 hq with rfl|hq
    ·omega
    ·rw [List.mem_singleton.1 hq];omega)) (G.sfs (G.lvA h0) _ _ _ hs)⟩
   exact oQ (hbo (hq2 q hq).1 (hq2 q hq).2) _
end
end Go.TY
end
noncomputable section
namespace Go.TY
open Go Go.DL Go.Proofs
def Ly:aV:=(.seq (.region [oo 1 (.box 5 (tm 0)),oo 2 (.mov (.const .nilfn))] []) (.seq (.region [oo 3 (.mkfn 145 [tm 1]),mv 2 3] []) .ret))
theorem M7:(Tryz.f109.body.bind (bz Tryz.prog 4 []))=some Ly:=by kernel_rfl
def c73:aV:=(.seq (.region [oo 1 (.box 9 (tm 0)),oo 2 (.mov (.const .nilfn))] []) (.seq (.region [oo 3 (.mkfn 116 [tm 1]),mv 2 3] []) .ret))
theorem l73:(Tryz.f73.body.bind (bz Tryz.prog 4 []))=some c73:=by kernel_rfl
def c86:aV:=(.seq (.region [oo 1 (.box 9 (tm 0)),oo 2 (.mov (.const .nilfn))] []) (.seq (.region [oo 3 (.mkfn 130 [tm 1]),mv 2 3] []) .ret))
theorem l86:(Tryz.f86.body.bind (bz Tryz.prog 4 []))=some c86:=by kernel_rfl
end Go.TY
end
section
namespace Go.TY
open Go Go.DL Go.MM Go.Proofs
section
variable [Glb]
theorem CG (r:RP):DCalls Tryz.prog 109 [sA r] (.clos 145 [.cptr (sb r) 0]):=by
 rw [si]
 refine qF (rs:=[.tmp 2]) mx Tryz.func109 M7 rfl rfl rfl (r:=[.clos 145 [.cptr (sb r) 0]]) (nlZ rfl) ?_
 repeat' ((conv=>whnf);first|exact trivial|(refine And.intro (by first|exact sr r|fail) ?_)|refine aS ?_|fail)
theorem yG (r:RO):DCalls Tryz.prog 73 [uC r] (.clos 116 [.cptr (sU r) 0]):=by
 rw [sI]
 refine qF (rs:=[.tmp 2]) mx Tryz.func73 l73 rfl rfl rfl (r:=[.clos 116 [.cptr (sU r) 0]]) (nlZ rfl) ?_
 repeat' ((conv=>whnf);first|exact trivial|(refine And.intro (by first|exact tz r|fail) ?_)|refine aS ?_|fail)
theorem CE (r:RO):DCalls Tryz.prog 86 [uC r] (.clos 130 [.cptr (sU r) 0]):=by
 rw [sI]
 refine qF (rs:=[.tmp 2]) mx Tryz.func86 l86 rfl rfl rfl (r:=[.clos 130 [.cptr (sU r) 0]]) (nlZ rfl) ?_
 repeat' ((conv=>whnf);first|exact trivial|(refine And.intro (by first|exact tz r|fail) ?_)|refine aS ?_|fail)
def ux (o:RO):List RP:=if o.kind=1 then tg o.pred else []
def td (r:RO):List RP:=(sj r).flatMap ux
def cnt (r:RO) (k:Nat):Nat:=(((sj r).take k).flatMap ux).length
end
section
theorem FA {r:RO} {k:Nat} {o:RO} (h:(sj r)[k]? =some o):cnt r (k+1)=cnt r k+(ux o).length:=by
 obtain ⟨hl,rfl⟩:=gsZ h
 unfold cnt
 rw [List.take_succ_eq_append_getElem hl,List.flatMap_append,List.length_append]
 simp
theorem GU (r:RO):cnt r (sj r).length=(td r).length:=by
 unfold cnt td;rw [List.take_length]
theorem ER {r:RO} {k i:Nat} {o:RO} {t:RP} (h:(sj r)[k]? =some o) (ht:(ux o)[i]? =some t):(td r)[cnt r k+i]? =some t:=by
 obtain ⟨hl,rfl⟩:=gsZ h
 obtain ⟨hi,_⟩:=gsZ ht
 unfold td cnt
 have e:(sj r).flatMap ux=((sj r).take k).flatMap ux++(ux (sj r)[k]++((sj r).drop (k+1)).flatMap ux):=by
  conv=>lhs;rw [← List.take_append_drop k (sj r),List.flatMap_append,List.drop_eq_getElem_cons hl,List.flatMap_cons]
 rw [e,List.getElem?_append_right (by omega),Nat.add_sub_cancel_left,List.getElem?_append_left hi]
 exact ht
end
section
variable [Glb]
end
end Go.TY
end
section
namespace Go.TY
open Go Go.DL Go.MM Go.Proofs
attribute [local irreducible] aF gL WCM YC
section
variable [Glb]
end
section
theorem vA {b:Nat→Option BX} {n:Nat} {v:BX} {o:List (Nat×BX)} (hb:b n=some v) (ho: ∀p∈o,p.1≠n):aH b ((n,v)::o)=aH b o:=by
 show upd (aH b o) n (some v)=aH b o
 exact qq ((eV ho).trans hb)
theorem gh2 {sl sl1 sl2:Nat→V} {gh gh1 gh2:Nat→Nat→V} {a b:Nat} (h1: ∀i,gh1 (a+1+i)=dI sl gh i) (h2: ∀i,gh2 (b+1+i)=dI sl1 gh1 i) (i:Nat):dI sl2 gh2 (b+a+4+i)=dI sl gh i:=by
 rw [show b+a+4+i=(b+1+((a+1+i)+1))+1 by omega]
 exact (h2 _).trans (h1 i)
end
section
variable [Glb]
theorem y0 {N:Nat} {st:St} {g:Operand} {y:O} {p:Nat} {asg body:Code} (hg:ao g=some y) (r:RO) (hv:ev st.sl y= .t (.clos 130 [.cptr (sU r) 0])) (off:Nat) (F:Nat→Prop) (hi:Nat) (hio:hi≤off) (hB:(sj r).length<2^59) (hBp: ∀o∈sj r,(tg o.pred).length<2^59) (hfl: ∀n,F n→st.bx n=none) (hfo: ∀n,off≤n→st.bx n=none) (hcn:CxN st.cx)
  {outs:Nat→List (Nat×BX)} {stop:Code→(aa→World→Prop)→List (Nat×BX)→Prop} {Q:ax→St→Prop} (h0: ∀q∈outs 0,st.bx q.1=some q.2)
  (hG: ∀(l D:Nat) (fn:FuncId) (tmps:Array Value),tmps.size=N→dL Tryz.prog l (rcE fn tmps p asg body D) st.cx st F hi ((td r).map sA) outs stop)
  (hend:Q .normal {st with bx:=aH st.bx (outs (td r).length)})
  (hstop: ∀c cx' o',stop c cx' o'→(c= .ret∧Q .ret {st with bx:=aH st.bx o',cx:=cx' })∨ ∃id,c= .exit id∧Q (.exit id) {st with bx:=aH st.bx o',cx:=cx' }):
  aF Tryz.prog N (.rangeFunc g #[p] asg body) st Q:=by
 refine aF.clean (fun _=>?_)
 refine aF.range (N:=N) hg (gf:=130) (caps:=[.t (.cptr (sU r) 0)]) (by rw [hv];rfl) Tryz.func130 JP rfl rfl (nlZ rfl) off hcn (fun l D fn tmps hN=>?_)
 have G:=hG l D fn tmps hN
 rw [MQ]
 have hf2:st.bx (2+off)=none:=hfo _ (by omega)
 have hnm: ∀{k:Nat} {q:Nat},hi≤q→ ∀p∈outs k,p.1≠q:=fun h p hp e=>by have:=(G.nm _ p hp).1;omega
 have hnms: ∀{c cx o} {q:Nat},stop c cx o→hi≤q→ ∀p∈o,p.1≠q:=fun hs h p hp e=>by have:=(G.nms _ _ _ hs p hp).1;omega
 refine aF.seq (HW (pM (rr (v:=.func (.yield l) #[] #[]) rfl hf2 (qN ?_))))
 refine aF.seq (H2 (pM (rS (cs:=sU r) rfl (tz r) (ru (ts:=[uC r]) (by rw [sI];rfl) (yG r) (qN ?_)))))
 let b1:Nat→Option BX:=upd st.bx (2+off) (some (.v [lP l]))
 have hb1o: ∀{q:Nat},q≠2+off→b1 q=st.bx q:=fun h=>ae _ _ _ _ h
 let yb:Nat×BX:=(2+off,.v [lP l])
 let rc:=rcE fn tmps p asg body D
 let outs1:Nat→List (Nat×BX):=fun k=>yb::outs (cnt r k)
 let stop1:Code→(aa→World→Prop)→List (Nat×BX)→Prop:=fun c cx' o'=>c= .ret∧ ∃c0 cx0 o0,stop c0 cx0 o0∧cx'=dt l (rc (some c0)) cx0 0∧o'=yb::o0
 have safeY: ∀q:Nat→Prop,bp q yb.2:=fun q c hc=>by
  rw [List.mem_singleton.1 hc];exact .raw _
 have nmY: ∀{k:Nat}, ∀p∈outs k,p.1≠2+off:=hnm (by omega)
 have nmsY: ∀{c cx o},stop c cx o→ ∀p∈o,p.1≠2+off:=fun hs=>hnms hs (by omega)
 have nFY: ¬F (2+off):=fun h=>by have:=G.fh _ h;omega
 let F1:Nat→Prop:=fun n=>F n∨(off+3≤n∧n<off+30)
 have sub1: ∀{hi' lo':Nat} {c:aa→World→Prop} {f:Nat→Nat} {stp:Code→(aa→World→Prop)→List (Nat×BX)→Prop},off+30≤hi'→off+3≤lo'→CxD c→(∀ c cx o',stp c cx o'→CxD cx∧ ∃c0 cx0 o0,stop c0 cx0 o0∧o'=yb::o0)→oW (fun n=>F n∨(lo'≤n∧n<off+30)) hi' c (fun k=>yb::outs (f k)) stp:=fun {hi' lo' c f stp} hh hl hc hst=>
  {fh:=fun n h=>by
    rcases h with h|h
    ·have:=G.fh _ h;omega
    ·omega
   nm:=fun k p hp=>by
    rcases List.mem_cons.1 hp with rfl|hp
    ·exact ⟨by show 2+off<_;omega,fun h=>by
      rcases h with h|h
      ·exact nFY h
      ·have:2+off≥_:=h.1;omega⟩
    ·have h1:=G.nm _ p hp
     exact ⟨by omega,fun h=>by
      rcases h with h|h
      ·exact h1.2 h
      ·omega⟩
   nms:=fun c cx o ho p hp=>by
    obtain ⟨_,c0,cx0,o0,hs0,rfl⟩:=hst _ _ _ ho
    rcases List.mem_cons.1 hp with rfl|hp
    ·exact ⟨by show 2+off<_;omega,fun h=>by
      rcases h with h|h
      ·exact nFY h
      ·have:2+off≥_:=h.1;omega⟩
    ·have h1:=G.nms _ _ _ hs0 p hp
     exact ⟨by omega,fun h=>by
      rcases h with h|h
      ·exact h1.2 h
      ·omega⟩
   cov:=fun k k' p hp=>by
    rcases List.mem_cons.1 hp with rfl|hp
    ·exact ⟨yb,by simp,rfl⟩
    ·obtain ⟨q,hq,e⟩:=G.cov (f k) (f k') p hp
     exact ⟨q,by simp [hq],e⟩
   covs:=fun c cx o ho k p hp=>by
    obtain ⟨_,c0,cx0,o0,hs0,rfl⟩:=hst _ _ _ ho
    rcases List.mem_cons.1 hp with rfl|hp
    ·exact ⟨yb,by simp,rfl⟩
    ·obtain ⟨q,hq,e⟩:=G.covs _ _ _ hs0 (f k) p hp
     exact ⟨q,by simp [hq],e⟩
   safe:=fun k p hp=>by
    rcases List.mem_cons.1 hp with rfl|hp
    ·exact safeY _
    ·exact (G.safe _ p hp).imp fun n ⟨q,hq,e⟩=>by
      obtain ⟨q',hq',e'⟩:=G.cov 0 (f 0) q hq
      exact ⟨q',List.mem_cons_of_mem _ hq',e'.trans e⟩
   safes:=fun c cx o ho p hp=>by
    obtain ⟨_,c0,cx0,o0,hs0,rfl⟩:=hst _ _ _ ho
    rcases List.mem_cons.1 hp with rfl|hp
    ·exact safeY _
    ·exact (G.safes _ _ _ hs0 p hp).imp fun n ⟨q,hq,e⟩=>by
      obtain ⟨q',hq',e'⟩:=G.cov 0 (f 0) q hq
      exact ⟨q',List.mem_cons_of_mem _ hq',e'.trans e⟩
   cxd:=fun c cx o ho=>(hst _ _ _ ho).1
   cxo_:=hc
   nd:=fun k=>List.nodup_cons.2 ⟨fun h=>by
    obtain ⟨p,hp,e⟩:=List.mem_map.1 h
    exact nmY p hp e,G.nd _⟩}
 have cl: ∀{s2:St} {o:List (Nat×BX)} {cx:aa→World→Prop},s2.gh=dI st.sl st.gh→(∀ q,q≠2+off→s2.bx q=aH st.bx o q)→(∀ p∈o,p.1≠2+off)→(∀ p∈o,bp (fun n=>(st.bx n).isSome=true) p.2)→
   DL.Clean st [2+off] (s2.bA st.off cx) {st with bx:=aH st.bx o,cx:=cx }:=fun h1 h2 h3 h4=>
  mC (d:=none) (v:=.nil) (by rw [h1];rfl) (fun j=>by rw [h1];rfl) (fun q hq=>h2 q (fun e=>hq (by rw [e];simp))) (fun q hq=>by rw [List.mem_singleton.1 hq];exact ⟨hf2,h3⟩) h4
 refine aF.block (wk (N:=19) rfl r rfl (off+30) F1 (off+30) (Nat.le_refl _) hB (fun n h=>?_) (fun n h=>(hb1o (by omega)).trans (hfo n (by omega))) (rl hcn) (outs:=outs1) (stop:=stop1) (fun q hq=>?_) (fun l1 D1 fn1 tmps1 hN1=>?_) ?_ (fun c cx' o' h=>?_))
 ·rcases h with h|h
  ·exact (hb1o (fun e=>nFY (by rw [← e];exact h))).trans (hfl n h)
  ·exact (hb1o (by omega)).trans (hfo n (by omega))
 ·rcases List.mem_cons.1 hq with rfl|hq
  ·exact af _ _ _
  ·exact (hb1o (nmY q hq)).trans (h0 q hq)
 rotate_left
 ·refine ⟨none,st.cx,rfl,G.cxo_,[2+off],_,hend,cl rfl (fun q hq=>?_) nmY (G.sf (G.lvA h0) _)⟩
  show aH b1 (yb::outs (cnt r (sj r).length)) q=_
  rw [vA (b:=b1) (af _ _ _) nmY,GU]
  exact oQ (hb1o hq) _
 ·obtain ⟨rfl,c0,cx0,o0,hs0,rfl,rfl⟩:=h
  refine Or.inl ⟨rfl,?_⟩
  have hbx: ∀q,q≠2+off→aH b1 (yb::o0) q=aH st.bx o0 q:=fun q hq=>by
   rw [vA (b:=b1) (af _ _ _) (nmsY hs0)]
   exact oQ (hb1o hq) _
  rcases hstop _ _ _ hs0 with ⟨rfl,hq⟩|⟨id,rfl,hq⟩
  ·exact ⟨some _,cx0,rfl,G.cxd _ _ _ hs0,[2+off],_,hq,cl rfl hbx (nmsY hs0) (G.sfs (G.lvA h0) _ _ _ hs0)⟩
  ·exact ⟨some _,cx0,rfl,G.cxd _ _ _ hs0,[2+off],_,hq,cl rfl hbx (nmsY hs0) (G.sfs (G.lvA h0) _ _ _ hs0)⟩
 refine dL.of (lo:=off+3) (hi:=off+30) (sub1 (Nat.le_refl _) (Nat.le_refl _) (pZ G.cxo_) ?_) (fun n h1 h2=>Or.inr ⟨h1,h2⟩) hN1 (by decide) (fun {W1} R1 k x m1 st' hx hA1=>?_)
 ·rintro c cx o' ⟨rfl,c0,cx0,o0,hs0,rfl,rfl⟩
  exact ⟨pZ (G.cxd _ _ _ hs0),c0,cx0,o0,hs0,rfl⟩
 obtain ⟨pk,hk,rfl⟩: ∃pk,(sj r)[k]? =some pk∧uC pk=x:=by
  rw [List.getElem?_map,Option.map_eq_some_iff] at hx;exact hx
 have hcs:=FA hk
 have hget:=fun i t=>ER (r:=r) (k:=k) (i:=i) (o:=pk) (t:=t) hk
 have hBk:=hBp pk (List.mem_of_getElem? hk)
 have hpd:ux pk=if pk.kind=1 then tg pk.pred else []:=rfl
 generalize ux pk=pd at hcs hget hpd
 have hfr1: ∀n,off+3≤n→n<off+30→st'.bx n=none:=fun n h1 h2=>hA1.fr n (Or.inr ⟨h1,h2⟩)
 have hfr1F: ∀n,F n→st'.bx n=none:=fun n h=>hA1.fr n (Or.inl h)
 obtain ⟨B,htop1⟩:=hA1.top
 have hat1:=hA1.at_
 have hsl2:st'.gh (m1+R1.j) 2= .ptr (2+off) 0:=congrFun hA1.g0 2
 have hgs1:=hA1.gs
 have hcx1:=hA1.cx
 clear hA1
 rw [sI]
 obtain ⟨kd,pr,f,n,args⟩:=pk
 refine H5 (pM (pL (hfr1 (3+(off+3)) (by omega) (by omega)) (q0 (b:=3+(off+3)) (off:=0) rfl (af _ _ _) rfl ⟨rfl,Nat.le_refl _⟩ (qN ⟨rfl,_,rfl,?_⟩))))
 have hb0: ∀{u v:Option BX} {q:Nat},q≠3+(off+3)→upd (upd st'.bx (3+(off+3)) u) (3+(off+3)) v q=st'.bx q:=fun h=>(ae _ _ _ _ h).trans (ae _ _ _ _ h)
 refine aF.block (aF.seq (H8 (q8 (rz (b:=3+(off+3)) (off:=0) rfl (rT (b:=3+(off+3)) (off:=0+0) (t:=I kd) rfl (af _ _ _) (by decide) rfl (rY (a:=kd) (b:=1) rfl rfl (qN ?_)))))))
 by_cases hkd:kd=1
 case neg=>
  refine rB (by show V.t (.bool (kd !=1))=_;rw [bne_iff_ne.2 hkd]) (rC ⟨rfl,_,yb::outs (cnt r (k+1)),rfl,fun q hq=>?_,rfl,rfl⟩)
  have e:cnt r (k+1)=cnt r k:=by rw [hcs,hpd,if_neg (show ¬(RO.mk kd pr f n args).kind=1 from hkd)];rfl
  exact (hb0 (show q≠3+(off+3) from fun h=>hq (by omega))).trans (congrFun ((kn hat1).symm.trans (congrArg (fun j=>aH st'.bx (yb::outs j)) e.symm)) q)
 have hpd:pd=tg pr:=hpd.trans (if_pos hkd)
 subst hpd
 refine rA (by show V.t (.bool (kd !=1))=_;rw [hkd];rfl) (rE ?_)
 have hprc:T.agg (sb pr)=sA pr:=(si pr).symm
 refine aF.seq (Ib (pM (rz (b:=3+(off+3)) (off:=0) rfl (rU (b:=3+(off+3)) (off:=0) (m:=9) (t:=sA pr) rfl (af _ _ _) (by decide) (by rw [← hprc];cases pr;rfl) (ru (ts:=[sA pr]) rfl (CG pr) (qN ?_))))))
 let off2:=max B (off+30)
 have ho2:B≤off2∧off+30≤off2:=⟨Nat.le_max_left _ _,Nat.le_max_right _ _⟩
 refine aF.block (y3 (N:=19) rfl pr rfl off2 (fun n=>F n∨(off+8≤n∧n<off+30)) off2 (Nat.le_refl _) hBk (fun n h=>?_) (fun n h=>(hb0 (by omega)).trans (htop1 n (by omega))) ?_ (outs:=fun i=>yb::outs (cnt r k+i)) (stop:=fun c cx' o'=>c= .ret∧ ∃c0 cx0 o0,stop c0 cx0 o0∧cx'=ca (W1 (dh l1 (bsy fn1 tmps1 7 yp (.block 1 (.seq yq (.seq yr (.block 2 (.rangeFunc (.tmp 13) #[14] xC (.block 3 (.seq wX xD))))))) D1) (dt l (rc (some c0)) cx0 0) m1))∧o'=yb::o0) (fun q hq=>?_) (fun l2 D2 fn2 tmps2 hN2=>?_) ?_ (fun c cx' o' h=>?_))
 ·rcases h with h|h
  ·exact (hb0 (by have:=G.fh _ h;omega)).trans (hfr1F n h)
  ·exact (hb0 (by omega)).trans (hfr1 n (by omega) (by omega))
 ·exact Wr.cxN (Wr.pop (R1.comp (Wr.r0 l1 _ m1))) (rl hcn)
 ·refine (hb0 ?_).trans (hat1 q hq)
  rcases List.mem_cons.1 hq with rfl|hq
  ·show 2+off≠_;omega
  ·exact hnm (by omega) q hq
 rotate_left
 ·refine ⟨rfl,_,yb::outs (cnt r (k+1)),rfl,fun q hq=>?_,rfl,rfl⟩
  exact (oQ (hb0 (show q≠3+(off+3) from fun h=>hq (by omega))) (yb::outs (cnt r k+(tg pr).length))).trans (congrArg (fun j=>aH st'.bx (yb::outs j) q) hcs.symm)
 ·obtain ⟨rfl,c0,cx0,o0,hs0,rfl,rfl⟩:=h
  exact Or.inl ⟨rfl,rfl,_,yb::o0,rfl,fun q hq=>oQ (hb0 (show q≠3+(off+3) from fun h=>hq (by omega))) (yb::o0),rfl,c0,cx0,o0,hs0,rfl,rfl⟩
 refine dL.of (lo:=off+8) (hi:=off+30) (sub1 (lo':=off+8) (f:=fun i=>cnt r k+i) (by omega) (by omega) (Wr.cxD (Wr.pop (R1.comp (Wr.r0 l1 _ m1))) (pZ G.cxo_)) ?_) (fun n h1 h2=>Or.inr ⟨h1,h2⟩) hN2 (by decide) (fun {W2} R2 i x m2 st'' hx2 hA2=>?_)
 ·rintro c cx o' ⟨rfl,c0,cx0,o0,hs0,rfl,rfl⟩
  exact ⟨Wr.cxD (Wr.pop (R1.comp (Wr.r0 l1 _ m1))) (pZ (G.cxd _ _ _ hs0)),c0,cx0,o0,hs0,rfl⟩
 have hex: ∃t,(tg pr)[i]? =some t∧T.agg (sb t)=x:=by
  rw [List.getElem?_map,Option.map_eq_some_iff] at hx2
  obtain ⟨t,h1,h2⟩:=hx2
  exact ⟨t,h1,(si t).symm.trans h2⟩
 obtain ⟨t,ht,hxe⟩:=hex
 subst hxe
 have hxt:((td r).map sA)[cnt r k+i]? =some (sA t):=by rw [List.getElem?_map,hget i t ht];rfl
 have hfr2: ∀n,off+8≤n→n<off+30→st''.bx n=none:=fun n h1 h2=>hA2.fr n (Or.inr ⟨h1,h2⟩)
 have hfr2F: ∀n,F n→st''.bx n=none:=fun n h=>hA2.fr n (Or.inl h)
 have htop2':=hA2.top
 obtain ⟨B2,htop2⟩:=htop2'
 have hat2:=hA2.at_
 have hsl22:st''.gh (m2+R2.j) 2= .ptr (2+off) 0:=(congrFun hA2.g0 2).trans hsl2
 have hgs2:=hA2.gs
 have hcx2:=hA2.cx
 clear hA2
 have hb2: ∀{u v:Option BX} {q:Nat},q≠4+(off+8)→upd (upd st''.bx (4+(off+8)) u) (4+(off+8)) v q=st''.bx q:=fun h=>(ae _ _ _ _ h).trans (ae _ _ _ _ h)
 have hY2:st''.bx (2+off)=some (.v [lP l]):=hat2 yb (by simp)
 refine Ie (pM (pL (hfr2 (4+(off+8)) (by omega) (by omega)) (q0 (b:=4+(off+8)) (off:=0) rfl (af _ _ _) rfl ⟨sr t,Nat.le_refl _⟩ (qN ⟨rfl,_,rfl,?_⟩))))
 refine aF.block (aF.seq (Jl (rQ (b:=2+off) hsl22 ((hb2 (by omega)).trans hY2) rfl (rR (b:=4+(off+8)) rfl (af _ _ _) (qN (rH (us':=[.t (sA t)]) rfl (by
   show [V.t (.agg (aK [.int .i64 0,.str ⟨#[]⟩,.int .i64 0,.int .i64 0,.nil] 0 5 (sb t)))]=_
   rw [mL (n:=5) rfl,si]) ?_))))))
 let R:=Wr.pop (R2.comp ((Wr.r0 l2 (bsy fn2 tmps2 14 xC (.block 3 (.seq wX xD)) D2) m2).comp (Wr.pop (R1.comp (Wr.r0 l1 (bsy fn1 tmps1 7 yp (.block 1 (.seq yq (.seq yr (.block 2 (.rangeFunc (.tmp 13) #[14] xC (.block 3 (.seq wX xD))))))) D1) m1)))))
 have hRj:R.j=(m2+R2.j)+(m1+R1.j)+4:=by
  show ((((m1+1)+R1.j)+1+(m2+1))+R2.j)+1=_
  omega
 refine G.yld R (cnt r k+i) (sA t) 0 _ _ _ hxt ⟨rfl,?_,fun j=>?_,fun q hq=>?_,fun q hq=>?_,?_⟩ ?t (fun c cx' o' hs=> ?f)
 ·exact (congrArg (fun k=>dI st''.sl st''.gh k) (show 0+R.j=(m2+R2.j)+(m1+R1.j)+4+0 by omega)).trans (gh2 hgs1 hgs2 0)
 ·exact (congrArg (fun k=>dI st''.sl st''.gh k) (show 0+R.j+1+j=(m2+R2.j)+(m1+R1.j)+4+(j+1) by omega)).trans (gh2 hgs1 hgs2 (j+1))
 ·exact (hb2 (hnm (by omega) q hq)).trans (hat2 q (List.mem_cons_of_mem _ hq))
 ·exact (hb2 (by have:=G.fh _ hq;omega)).trans (hfr2F q hq)
 ·exact ⟨max B2 (off+30),fun q hq=>(hb2 (by omega)).trans (htop2 q (by omega))⟩
 case t=>
  refine rZ rfl (qN ?_)
  refine Eb (rA rfl (rE ?_))
  refine ⟨rfl,_,yb::outs (cnt r k+(i+1)),rfl,fun q hq=>?_,rfl,rfl⟩
  exact (oQ (hb2 (show q≠4+(off+8) from fun h=>hq (by omega))) (outs (cnt r k+i+1))).trans (congrFun (vA hY2 nmY).symm q)
 case f=>
  refine rZ rfl (qN ?_)
  refine Eb (rB rfl (rD ?_))
  refine ⟨rfl,_,yb::o',rfl,fun q hq=>?_,rfl,c,cx',o',hs,rfl,rfl⟩
  exact (oQ (hb2 (show q≠4+(off+8) from fun h=>hq (by omega))) o').trans (congrFun (vA hY2 (nmsY hs)).symm q)
end
end Go.TY
end
section
namespace Go.TY
open Go Go.DL Go.MM
def ui (l:List Fd):RP→Int
 |.mk k f n m _=>if sa f e0 then 0 else match findF l f with
   |none=>4
   |some F=>if (if k=5 then m else n)>((2^F.w - 1:Nat):Int)∨(k=4∧m>F.w) then 1 else 0
def wJ (l:List Fd) (r:RP):Int:=sG ((sP r).map (ui l))
def A6 (l:List Fd) (f:ByteArray) (n:Int):Int:=match findF l f with
 |none=>4
 |some F=>if n>((2^F.w - 1:Nat):Int) then 1 else 0
def uu (l:List Fd):RO→Int
 |.mk k p f n _=>if k=1 then wJ l p else if k=2 then A6 l f n else 0
def xu (r:RP):Int:=wK (vl r.nodes r.depth) (sD r)
def AU (l:List Fd) (r:RP):Int:=if xu r≠0 then xu r else wJ l r
def tu (l:List Fd) (r:RO):Int:=if sO r≠0 then sO r else sG ((sY r).map (uu l))
theorem BP {f:ByteArray} (h:sa f e0=true):f=e0:=by
 unfold sa at h
 have h:f.data.toList=[]:=by simpa using h
 exact ByteArray.ext (Array.ext' h)
theorem xR {f:ByteArray} (h:sN f=true):sa f e0=false:=by
 cases e:sa f e0 with
 |false=>rfl
 |true=>
  rw [BP e] at h
  have:sN e0=false:=by decide+kernel
  rw [this] at h;cases h
theorem GX {l:List Fd} {k:Int} {f:ByteArray} {n m:Int} {a:List RP} (h:okP k f n m=true):ui l (.mk k f n m a)=wQ l (.mk k f n m a):=by
 simp only [ui,wQ]
 unfold okP at h
 by_cases h1:k=1∨k=2
 ·rw [if_pos h1] at h
  unfold vp at h
  simp only [Bool.and_eq_true] at h
  rw [if_pos h.1.1,if_neg (by omega)]
 rw [if_neg h1] at h
 by_cases h3:k=3
 ·subst h3
  simp only [if_true,Bool.and_eq_true] at h
  rw [xR h.1.1];cases findF l f <;> simp
 rw [if_neg h3] at h
 by_cases h4:k=4
 ·subst h4
  simp only [if_true,Bool.and_eq_true] at h
  rw [xR h.1.1.1];cases findF l f <;> simp
 rw [if_neg h4] at h
 by_cases h5:k=5
 ·subst h5
  simp only [if_true,Bool.and_eq_true] at h
  rw [xR h.1.1.1];cases findF l f <;> simp
 rw [if_neg h5] at h
 by_cases h6:k=6∨k=7∨k=8
 ·rw [if_pos h6] at h
  unfold vp at h
  simp only [Bool.and_eq_true] at h
  rw [if_pos h.1.1,if_neg (by omega)]
 rw [if_neg h6] at h
 by_cases h9:k=9
 ·subst h9
  simp only [if_true,Bool.and_eq_true] at h
  rw [if_pos h.1.1.1,if_neg (by omega)]
 ·rw [if_neg h9] at h;cases h
mutual
theorem xY: ∀r:RP,sD r=true→ ∀x∈sP r,sD x=true
 |.mk k f n m a,h,x,hx=>by
  rw [sP] at hx
  rcases List.mem_cons.1 hx with rfl|hx
  ·exact h
  ·simp only [sD,Bool.and_eq_true] at h
   exact xw a h.2 x hx
theorem xw: ∀l:List RP,tf l=true→ ∀x∈sH l,sD x=true
 |[],_,x,hx=>by simp [sH] at hx
 |r::rs,h,x,hx=>by
  simp only [tf,Bool.and_eq_true] at h
  rw [sH] at hx
  rcases List.mem_append.1 hx with hx|hx
  ·exact xY r h.1 x hx
  ·exact xw rs h.2 x hx
end
mutual
theorem wD: ∀r:RO,sC r=true→ ∀x∈sY r,sC x=true
 |.mk k p f n a,h,x,hx=>by
  rw [sY] at hx
  rcases List.mem_cons.1 hx with rfl|hx
  ·exact h
  ·simp only [sC,Bool.and_eq_true] at h
   exact xv a h.2 x hx
theorem xv: ∀l:List RO,s7 l=true→ ∀x∈sR l,sC x=true
 |[],_,x,hx=>by simp [sR] at hx
 |r::rs,h,x,hx=>by
  simp only [s7,Bool.and_eq_true] at h
  rw [sR] at hx
  rcases List.mem_append.1 hx with hx|hx
  ·exact wD r h.1 x hx
  ·exact xv rs h.2 x hx
end
theorem FD {l:List Fd} {r:RP} (h:sD r=true):wJ l r=fitAll l r:=by
 unfold wJ fitAll
 congr 1
 refine List.map_congr_left fun x hx=>?_
 have:=xY r h x hx
 obtain ⟨k,f,n,m,a⟩:=x
 simp only [sD,Bool.and_eq_true] at this
 exact GX this.1.1
theorem Co {e:Int} {b:Bool} (h:wK e b=0):e=0∧b=true:=by
 unfold wK at h
 by_cases he:e=0
 ·rw [if_pos he] at h
  cases b with
  |true=>exact ⟨he,rfl⟩
  |false=>simp at h
 ·rw [if_neg he] at h;exact absurd h he
theorem FC {l:List Fd} {r:RO} (h:sC r=true):uu l r=u5 l r:=by
 obtain ⟨k,p,f,n,a⟩:=r
 simp only [uu,u5]
 by_cases h1:k=1
 ·subst h1
  simp only [sC,okO,if_true,Bool.and_eq_true] at h
  simp only [if_true]
  exact FD h.1.1.1
 ·rw [if_neg h1,if_neg h1];rfl
theorem Ha (l:List Fd) (r:RO):tu l r=C0 l r:=by
 unfold tu C0
 by_cases h:sO r≠0
 ·rw [if_pos h,if_pos h]
 ·rw [if_neg h,if_neg h]
  have hf:=(Co (Decidable.not_not.1 h)).2
  congr 1
  exact List.map_congr_left fun x hx=>FC (wD r hf x hx)
def vN (o:RO):List RP:=if o.kind=1 then sP o.pred else []
def vq (r:RO):List RP:=(sY r).flatMap vN
def Fa (r:RO):List ByteArray:=(vq r).flatMap fun x=>if sa x.field e0 then [] else [x.field]
def reads (r:RO):List ByteArray:=um ltS (Fa r)
def CI (r:RO):List ByteArray:=(sY r).flatMap fun o=>if o.kind=2 then [o.field] else []
def writes (r:RO):List ByteArray:=um ltS (CI r)
def EP (r:RO):List Int:=(sY r).flatMap fun o=>if o.kind=2∧sa o.field sZ=true then [o.n] else []
def zG (r:RO):List Int:=um ltI (EP r)
def uf (x:RP):List Int:=if x.kind=9 then [x.n,x.m] else []
def vz (r:RO):List Int:=(vq r).flatMap uf
mutual
def ua:RO→Nat
 |.mk k p _ _ a=>if k=3 then min ((wv a).getD 0 0+(wv a).getD 1 0) 65536
  else if k=4 then min ((wv a).getD 0 0 * (wv a).getD 1 0) 65536
  else if k=5 then (if (wv a).getD 0 0=0 then 1 else 65536)
  else if k=1∧p.kind=2 then 0 else 1
def wv:List RO→List Nat
 |[]=>[]
 |r::rs=>ua r::wv rs
end
theorem AZ (r:RO):ua r≤65536:=by
 obtain ⟨k,p,f,n,a⟩:=r
 rw [ua]
 split
 ·exact Nat.min_le_right _ _
 ·split
  ·exact Nat.min_le_right _ _
  ·split
   ·split <;> omega
   ·split <;> omega
end Go.TY
end
section
namespace Go.TY
open Go Go.DL Go.MM Go.Proofs
mutual
theorem uy: ∀r:RP,tg r=sP r
 |.mk k f n m a=>by rw [tg,sP,yX a]
theorem yX: ∀l:List RP,sW l=sH l
 |[]=>rfl
 |r::rs=>by rw [sW,sH,uy r,yX rs]
end
mutual
theorem s9: ∀r:RO,sj r=sY r
 |.mk k p f n a=>by rw [sj,sY,yW a]
theorem yW: ∀l:List RO,sM l=sR l
 |[]=>rfl
 |r::rs=>by rw [sM,sR,s9 r,yW rs]
end
def okB (v:List Int) (k:Nat):Bool:=(v.take k).all fun x=>x==0
theorem Bf {v:List Int} {k:Nat} {x:Int} (h:v[k]? =some x):okB v (k+1)=(okB v k&&(x==0)):=by
 obtain ⟨hl,rfl⟩:=gsZ h
 unfold okB
 rw [List.take_succ_eq_append_getElem hl,List.all_append]
 simp
theorem AH {v:List Int} {k:Nat} {x:Int} (h:v[k]? =some x) (hok:okB v k=true) (hx:x≠0):sG v=x:=by
 obtain ⟨hl,rfl⟩:=gsZ h
 refine vf hl (fun j hj hlt=>?_) hx
 unfold okB at hok
 have:=List.all_eq_true.1 hok v[j] (List.mem_take_iff_getElem.2 ⟨j,by omega,rfl⟩)
 simpa using this
theorem Cu {v:List Int} (hok:okB v v.length=true):sG v=0:=by
 refine wx fun j hj=>?_
 unfold okB at hok
 rw [List.take_length] at hok
 simpa using List.all_eq_true.1 hok v[j] (List.getElem_mem hj)
attribute [local irreducible] aF gL WCM YC
def tC (l:List Fd) (v:List Int) (k:Nat):List (Nat×BX):=[(2,.d 1 [fds l]),(4,.d 1 (if okB v k then [I 0] else []))]
def w8 (l:List Fd) (v:List Int) (c:Code) (o:List (Nat×BX)):Prop:=c= .ret∧sG v≠0∧o=[(2,.d 1 [fds l]),(4,.d 1 [I (sG v)])]
theorem Ff (l:List Fd) (v:List Int):oW (fun n=>10≤n∧n<100) 100 (fun _ _=>True) (tC l v) (fun c cx o=>cx=(fun _ _=>True)∧w8 l v c o) where
 fh:=fun n h=>h.2
 nm:=fun k p hp=>by
  simp only [tC,List.mem_cons,List.not_mem_nil,or_false] at hp
  rcases hp with rfl|rfl <;> exact ⟨by dsimp only;omega,by dsimp only;omega⟩
 nms:=fun c cx o ho p hp=>by
  obtain ⟨_,_,_,rfl⟩:=ho
  simp only [List.mem_cons,List.not_mem_nil,or_false] at hp
  rcases hp with rfl|rfl <;> exact ⟨by dsimp only;omega,by dsimp only;omega⟩
 cov:=fun k k' p hp=>by
  simp only [tC,List.mem_cons,List.not_mem_nil,or_false] at hp ⊢
  rcases hp with rfl|rfl
  ·exact ⟨_,Or.inl rfl,rfl⟩
  ·exact ⟨_,Or.inr rfl,rfl⟩
 covs:=fun c cx o ho k p hp=>by
  obtain ⟨_,_,_,rfl⟩:=ho
  simp only [tC,List.mem_cons,List.not_mem_nil,or_false] at hp ⊢
  rcases hp with rfl|rfl
  ·exact ⟨_,Or.inl rfl,rfl⟩
  ·exact ⟨_,Or.inr rfl,rfl⟩
 safe:=fun k p hp=>by
  simp only [tC,List.mem_cons,List.not_mem_nil,or_false] at hp
  rcases hp with rfl|rfl <;> exact trivial
 safes:=fun c cx o ho p hp=>by
  obtain ⟨_,_,_,rfl⟩:=ho
  simp only [List.mem_cons,List.not_mem_nil,or_false] at hp
  rcases hp with rfl|rfl <;> exact trivial
 cxd:=fun c cx o ho=>by rw [ho.1];exact rI
 cxo_:=rI
 nd:=fun k=>by show ([2,4]:List Nat).Nodup;decide
theorem Fp (l:List Fd) (hl:LOk l) (r:RP) (hr:r.nodes<2^40):DCalls Tryz.prog 69 [fds l,.agg (sb r)] (I (wJ l r)):=by
 refine qG Tryz.func69 MN rfl (r:=[I (wJ l r)]) (nlZ rfl) ?_
 have hlen:(tg r).length=r.nodes:=by rw [uy,uw]
 unfold wJ
 rw [← uy]
 rw [show Tryz.f69.ntmps=49 from rfl,show Tryz.f69.results.toList=[.cell 4 33] from rfl,k69]
 have ht:=CG r
 rw [si] at ht
 have hfl: ∀k x,((tg r).map (ui l))[k]? =some x→ ∃t,(tg r)[k]? =some t∧ui l t=x:=fun k x h=>by
  rw [List.getElem?_map,Option.map_eq_some_iff] at h;exact h
 generalize hv:(tg r).map (ui l)=v at *
 refine aF.seq (J8 ?_)
 repeat' ((conv=>whnf);first|(refine And.intro (by first|exact sr _|fail) ?_)|refine aS ?_|fail)
 refine aF.seq (aF.seq (Kf ?_))
 repeat' ((conv=>whnf);first|refine rp _ (ht) ?_|fail)
 refine aF.bL (s:={sl:=[(2,.ptr 2 0),(4,.ptr 4 0),(10,.t (.clos 145 [.cptr (sb r) 0]))],bx:=[(2,.d 1 [fds l]),(4,.d 1 [I 0])]}) (by repeat' (first|exact trivial|exact LeV.same _|exact LeB.same _|exact rfl|exact fun _ _ _=>trivial|refine And.intro ?_ ?_)) ?_
 refine aF.block (y3 (N:=49) rfl r rfl 100 (fun n=>10≤n∧n<100) 100 (Nat.le_refl _) (by omega) (fun n h=>rf fun p hp=>?_) (fun n h=>rf fun p hp=>?_) (by exact rJ) (outs:=tC l v) (stop:=fun c cx o=>cx=(fun _ _=>True)∧w8 l v c o) ?_ (fun l0 D fn tmps hN=>?_) ?_ ?_)
 ·simp only [List.mem_cons,List.not_mem_nil,or_false] at hp
  rcases hp with rfl|rfl <;> (dsimp only;omega)
 ·simp only [List.mem_cons,List.not_mem_nil,or_false] at hp
  rcases hp with rfl|rfl <;> (dsimp only;omega)
 ·intro q hq
  simp only [tC,List.mem_cons,List.not_mem_nil,or_false] at hq
  rcases hq with rfl|rfl <;> rfl
 ·refine dL.top (d:=5) (n:=5) (lo:=10) (hi:=100) (Ff l v) (fun n h1 h2=>⟨h1,h2⟩) hN (by decide) (fun hw=>Kl hw) rfl (by decide) (by decide) (fun x hx=>?_) (fun k cs b G C hk hcs=>?_)
  ·obtain ⟨t,_,rfl⟩:=List.mem_map.1 hx
   exact ⟨_,si t,sr t⟩
  rw [List.getElem?_map,Option.map_eq_some_iff] at hk
  obtain ⟨t,htk,hte⟩:=hk
  rw [si] at hte
  obtain rfl:sb t=cs:=T.agg.inj hte
  have hvk:v[k]? =some (ui l t):=by rw [← hv,List.getElem?_map,htk];rfl
  have hs:=Bf hvk
  have hfst:=AH hvk
  cases hok:okB v k with
  |false=>exact aF.absurd (n:=4) (m:=1) (ts:=[]) (by show some (BX.d 1 (if okB v k=true then [I 0] else []))=_;rw [hok];rfl) (by decide)
  |true=>
  have ho:tC l v k=[(2,.d 1 [fds l]),(4,.d 1 [I 0])]:=by unfold tC;rw [hok];rfl
  rw [ho]
  rw [hok,Bool.true_and] at hs
  have hfst:=hfst hok
  clear hok ho
  refine Kr ?_
  clear hte
  obtain ⟨kd,f,n,m,args⟩:=t
  have hE:=su f e0
  have endN: ∀s:St,s.gh=G→s.cx=C→(∀ q, ¬(10≤q∧q<100)→s.bx q=aH b [(2,.d 1 [fds l]),(4,.d 1 [I 0])] q)→ui l (.mk kd f n m args)=0→RB b G C 10 100 (tC l v (k+1)) (w8 l v) .normal s:=fun s h1 h2 h3 h4=>by
   refine ⟨h1,h2,_,h3,?_⟩
   unfold tC
   rw [hs,h4];rfl
  have endR: ∀s:St,s.gh=G→s.cx=C→(∀ q, ¬(10≤q∧q<100)→s.bx q=aH b [(2,.d 1 [fds l]),(4,.d 1 [I (ui l (.mk kd f n m args))])] q)→ui l (.mk kd f n m args)≠0→RB b G C 10 100 (tC l v (k+1)) (w8 l v) .ret s:=fun s h1 h2 h3 h4=>by
   have e:=hfst h4
   exact ⟨h1,h2,_,h3,rfl,by rw [e];exact h4,by rw [e]⟩
  cases hb:sa f e0 with
  |true=>
   rw [hb] at hE
   have hq:ui l (.mk kd f n m args)=0:=by simp only [ui];rw [if_pos hb]
   repeat' ((conv=>whnf);first|refine nb_ true hE ?_|refine nT_ ?_|refine aS ?_|fail)
   refine endN _ rfl rfl (fun q hq=>?_) hq
   have hm:=qO (b:=b) hq
   show cond (Nat.beq q 15) _ (cond (Nat.beq q 2) _ (cond (Nat.beq q 4) _ (gy 10 100 b q)))=cond (Nat.beq q 2) _ (cond (Nat.beq q 4) _ (b q))
   rw [eM (show q≠15 by omega),hm];rfl
  |false=>
  rw [hb] at hE
  have h74:=t74 l f hl.len
  unfold uU at h74
  have hq:ui l (.mk kd f n m args)=(match findF l f with
   |none=>4
   |some F=>if (if kd=5 then m else n)>((2^F.w - 1:Nat):Int)∨(kd=4∧m>F.w) then 1 else 0):=by simp only [ui];rw [hb];rfl
  generalize ui l (.mk kd f n m args)=x at *
  cases hF:findF l f with
  |none=>
   rw [hF] at h74 hq
   dsimp only at h74 hq
   subst hq
   by_cases h5:kd=5
   all_goals
    repeat' ((conv=>whnf);first|refine nb_ false hE ?_|refine rp _ (h74) ?_|refine qi h5 ?_|refine qh h5 ?_|refine nT_ ?_|refine aS ?_|fail)
    (conv=>whnf)
    refine endR _ rfl rfl (fun q hq=>?_) (by decide)
    have hm:=qO (b:=b) hq
    by_cases h4:q=4
    ·subst h4;rfl
    show cond (Nat.beq q 4) _ (cond (Nat.beq q 16) _ (cond (Nat.beq q 16) _ (cond (Nat.beq q 15) _ (cond (Nat.beq q 2) _ (cond (Nat.beq q 4) _ (gy 10 100 b q))))))=cond (Nat.beq q 2) _ (cond (Nat.beq q 4) _ (b q))
    rw [eM (show q≠15 by omega),eM (show q≠16 by omega),eM h4,hm];rfl
  |some F=>
   rw [hF] at h74 hq
   dsimp only at h74 hq
   have h97:=t97 F (hl.find hF)
   generalize (2^F.w - 1:Nat)=M at *
   have fin: ∀(y:Int),x=y→(y=0∨y=1)→True:=fun _ _ _=>trivial
   by_cases hbad:(if kd=5 then m else n)>(M:Int)∨(kd=4∧m>F.w)
   ·rw [if_pos hbad] at hq
    subst hq
    by_cases h5:kd=5
    ·rw [if_pos h5] at hbad
     have hbad:m>(M:Int):=by omega
     repeat' ((conv=>whnf);first|refine nb_ false hE ?_|refine rp _ (h74) ?_|refine qi h5 ?_|refine rp _ (h97) ?_|refine qg hbad ?_|refine nT_ ?_|refine aS ?_|fail)
     (conv=>whnf)
     refine endR _ rfl rfl (fun q hq=>?_) (by decide)
     have hm:=qO (b:=b) hq
     by_cases h4:q=4
     ·subst h4;rfl
     show cond (Nat.beq q 4) _ (cond (Nat.beq q 16) _ (cond (Nat.beq q 16) _ (cond (Nat.beq q 15) _ (cond (Nat.beq q 2) _ (cond (Nat.beq q 4) _ (gy 10 100 b q))))))=cond (Nat.beq q 2) _ (cond (Nat.beq q 4) _ (b q))
     rw [eM (show q≠15 by omega),eM (show q≠16 by omega),eM h4,hm];rfl
    ·rw [if_neg h5] at hbad
     by_cases hn:n>(M:Int)
     ·repeat' ((conv=>whnf);first|refine nb_ false hE ?_|refine rp _ (h74) ?_|refine qh h5 ?_|refine rp _ (h97) ?_|refine qg hn ?_|refine nT_ ?_|refine aS ?_|fail)
      (conv=>whnf)
      refine endR _ rfl rfl (fun q hq=>?_) (by decide)
      have hm:=qO (b:=b) hq
      by_cases h4:q=4
      ·subst h4;rfl
      show cond (Nat.beq q 4) _ (cond (Nat.beq q 16) _ (cond (Nat.beq q 16) _ (cond (Nat.beq q 15) _ (cond (Nat.beq q 2) _ (cond (Nat.beq q 4) _ (gy 10 100 b q))))))=cond (Nat.beq q 2) _ (cond (Nat.beq q 4) _ (b q))
      rw [eM (show q≠15 by omega),eM (show q≠16 by omega),eM h4,hm];rfl
     ·have h4k:kd=4:=by omega
      have hmw:m>(F.w:Int):=by omega
      repeat' ((conv=>whnf);first|refine nb_ false hE ?_|refine rp _ (h74) ?_|refine qh h5 ?_|refine rp _ (h97) ?_|refine qe hn ?_|refine qi h4k ?_|refine qg hmw ?_|refine nT_ ?_|refine aS ?_|fail)
      (conv=>whnf)
      refine endR _ rfl rfl (fun q hq=>?_) (by decide)
      have hm:=qO (b:=b) hq
      by_cases h4:q=4
      ·subst h4;rfl
      show cond (Nat.beq q 4) _ (cond (Nat.beq q 16) _ (cond (Nat.beq q 16) _ (cond (Nat.beq q 15) _ (cond (Nat.beq q 2) _ (cond (Nat.beq q 4) _ (gy 10 100 b q))))))=cond (Nat.beq q 2) _ (cond (Nat.beq q 4) _ (b q))
      rw [eM (show q≠15 by omega),eM (show q≠16 by omega),eM h4,hm];rfl
   ·rw [if_neg hbad] at hq
    have good: ∀s:St,s.gh=G→s.cx=C→(∀ q,s.bx q=cond (Nat.beq q 16) (s.bx 16) (cond (Nat.beq q 15) (s.bx 15) (cond (Nat.beq q 2) (some (.d 1 [fds l])) (cond (Nat.beq q 4) (some (.d 1 [I 0])) (gy 10 100 b q)))))→RB b G C 10 100 (tC l v (k+1)) (w8 l v) .normal s:=fun s h1 h2 h3=>endN s h1 h2 (fun q hq=>by
     have hm:=qO (b:=b) hq
     rw [h3 q,eM (show q≠15 by omega),eM (show q≠16 by omega),hm];rfl) hq
    have r16: ∀(q:Nat) (f:Nat→Option BX) (x y:Option BX),upd (upd f 16 x) 16 y q=cond (Nat.beq q 16) y (f q):=fun q f x y=>by rw [fX];rfl
    by_cases h5:kd=5
    ·rw [if_pos h5] at hbad
     have hbad: ¬m>(M:Int):=by omega
     have h4k:kd≠4:=by omega
     repeat' ((conv=>whnf);first|refine nb_ false hE ?_|refine rp _ (h74) ?_|refine qi h5 ?_|refine rp _ (h97) ?_|refine qe hbad ?_|refine qh h4k ?_|refine nT_ ?_|refine aS ?_|fail)
     (conv=>whnf)
     refine good _ rfl rfl fun q=>?_
     exact (r16 q _ _ _).trans rfl
    ·rw [if_neg h5] at hbad
     have hn: ¬n>(M:Int):=by omega
     by_cases h4k:kd=4
     ·have hmw: ¬m>(F.w:Int):=by omega
      repeat' ((conv=>whnf);first|refine nb_ false hE ?_|refine rp _ (h74) ?_|refine qh h5 ?_|refine rp _ (h97) ?_|refine qe hn ?_|refine qi h4k ?_|refine qe hmw ?_|refine nT_ ?_|refine aS ?_|fail)
      (conv=>whnf)
      refine good _ rfl rfl fun q=>?_
      exact (r16 q _ _ _).trans rfl
     ·repeat' ((conv=>whnf);first|refine nb_ false hE ?_|refine rp _ (h74) ?_|refine qh h5 ?_|refine rp _ (h97) ?_|refine qe hn ?_|refine qh h4k ?_|refine nT_ ?_|refine aS ?_|fail)
      (conv=>whnf)
      refine good _ rfl rfl fun q=>?_
      exact (r16 q _ _ _).trans rfl
 ·have hlv:(tg r).length=v.length:=by rw [← hv,List.length_map]
  rw [hlv]
  cases hok:okB v v.length with
  |false=>exact aF.absurd (n:=4) (m:=1) (ts:=[]) (by show some (BX.d 1 (if okB v v.length=true then [I 0] else []))=_;rw [hok];rfl) (by decide)
  |true=>
   rw [Cu hok]
   have ho:tC l v v.length=[(2,.d 1 [fds l]),(4,.d 1 [I 0])]:=by unfold tC;rw [hok];rfl
   rw [ho]
   refine Kw ?_
   repeat' ((conv=>whnf);first|refine aS ?_|fail)
   exact ⟨⟨⟨Nat.lt_succ_self 0,rfl⟩,trivial⟩,fun _ _=>trivial⟩
 ·rintro c cx o ⟨rfl,rfl,hne,rfl⟩
  refine Or.inl ⟨rfl,?_,fun _ _=>trivial⟩
  (conv=>whnf)
  exact ⟨⟨Nat.lt_succ_self 0,rfl⟩,trivial⟩
end Go.TY
end
