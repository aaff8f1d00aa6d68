/- Joined by program: parts of a data level over the model, of the program's functions over it, and of the statement's proof. -/
import Derived.Test.YtnfonfjleonbdaaGreatProg
import Derived.Test.YtnfonfjleonbdaaGreatGc
import Derived.KernelRfl
import Derived.Sort.Walk0
set_option maxRecDepth 100000
set_option maxHeartbeats 8000000
noncomputable section
namespace Go.DL
abbrev Kc(n:Int):O:=.const (.int .i64 n)
abbrev Zi(n:Int):T:=.int .i64 n
abbrev Ui(n:Int):T:=.int .u8 n
abbrev tm(n:Nat):O:=.tmp n
abbrev mv(d s:Nat):DI:=⟨some d,.mov (.tmp s),none,[]⟩
abbrev mF(d s g:Nat):DI:=⟨some d,.mov (.tmp s),some (g,false),[]⟩
abbrev mT(d s g:Nat):DI:=⟨some d,.mov (.tmp s),some (g,true),[]⟩
abbrev oo(d:Nat)(p:DOp):DI:=⟨some d,p,none,[]⟩
abbrev oF(d g:Nat)(p:DOp):DI:=⟨some d,p,some (g,false),[]⟩
abbrev oT(d g:Nat)(p:DOp):DI:=⟨some d,p,some (g,true),[]⟩
abbrev o0(p:DOp):DI:=⟨none,p,none,[]⟩
abbrev ld(d a:Nat):DI:=⟨some d,.load 1 false (.tmp a),none,[]⟩
abbrev lA(d n a:Nat):DI:=⟨some d,.load n true (.tmp a),none,[]⟩
abbrev fa(d k a:Nat):DI:=⟨some d,.offA k (.tmp a),none,[]⟩
abbrev ix(d z a b:Nat):DI:=⟨some d,.idxL z (.tmp a) (.tmp b),none,[]⟩
abbrev ln(d a:Nat):DI:=⟨some d,.len (.tmp a),none,[]⟩
abbrev kT:O:=.const (.bool true)
abbrev kF:O:=.const (.bool false)
abbrev S0:T:=.str ⟨#[]⟩
abbrev Z0:T:=.int .i64 0
end Go.DL
namespace Go.MM
open Go Go.DL Go.Proofs
def c15:aV:=(sr [oo 1 (.box 10 (tm 0)),oo 2 (.mov kF)] (.seq (sr [oo 3 (.mov (Kc 0))] (.block 0 (.loop (.seq (sr [mv 4 3,oo 5 (.bin .lss (tm 4) (Kc 10))] (.cond (tm 5) .skip (.exit 0))) (.seq (.block 1 (sr [mv 8 3,oo 9 (.idxA 10 1 (tm 1) (tm 8)),ld 10 9,oo 11 (.bin .lss (tm 10) (Kc 0)),mv 12 11,mF 13 3 12,oF 14 12 (.idxA 10 1 (tm 1) (tm 13)),oF 15 12 (.load 1 false (tm 14)),oF 16 12 (.bin .gtr (tm 15) (Kc 65535)),oo 17 (.pick (tm 12) kT (tm 16))] (.cond (tm 17) (sr [oo 2 (.mov kF)] .ret) .skip))) (rg [mv 6 3,oo 7 (.bin .add (tm 6) (Kc 1)),mv 3 7])))))) (sr [oo 2 (.mov kT)] .ret)))
theorem l15:(Tryz.f15.body.bind (bt Tryz.prog 18 []))=some c15:=by kernel_rfl
def c40:aV:=(sr [oo 1 (.box 9 (tm 0)),oo 2 (.mov kF)] (sr [lA 5 9 1,oo 6 (.call 39 [tm 5]),mv 3 6] (sr [lA 7 9 1,oo 8 (.call 93 [tm 7]),mv 4 8] (sr [mv 9 3,oo 10 (.bin .eql (tm 9) (Kc 0)),mv 11 10,mF 12 3 11,oF 13 11 (.bin .eql (tm 12) (Kc 1)),mF 14 13 11,mT 15 4 14,oT 16 14 (.bin .leq (tm 15) (Kc 8)),oF 17 11 (.pick (tm 14) (tm 16) kF),oo 18 (.pick (tm 11) kT (tm 17)),mv 19 18,mF 20 3 19,oF 21 19 (.bin .eql (tm 20) (Kc 2)),mF 22 21 19,mT 23 4 22,oT 24 22 (.bin .leq (tm 23) (Kc 4)),oF 25 19 (.pick (tm 22) (tm 24) kF),oo 26 (.pick (tm 19) kT (tm 25)),mv 27 26,mF 28 3 27,oF 29 27 (.bin .eql (tm 28) (Kc 3)),mF 30 29 27,mT 31 4 30,oT 32 30 (.bin .leq (tm 31) (Kc 3)),oF 33 27 (.pick (tm 30) (tm 32) kF),oo 34 (.pick (tm 27) kT (tm 33)),mv 35 34,mF 36 3 35,oF 37 35 (.bin .eql (tm 36) (Kc 4)),mF 38 37 35,mT 39 4 38,oT 40 38 (.bin .leq (tm 39) (Kc 2)),oF 41 35 (.pick (tm 38) (tm 40) kF),oo 42 (.pick (tm 35) kT (tm 41)),mv 2 42] .ret))))
theorem l40:(Tryz.f40.body.bind (bt Tryz.prog 43 []))=some c40:=by kernel_rfl
def Lv:aV:=(sr [oo 3 (.box 9 (tm 1)),oo 4 (.mov (Kc 0))] (sr [lA 10 9 3,oo 11 (.call 171 [tm 10]),mv 5 11] (.seq (sr [mv 12 5,oo 13 (.bin .neq (tm 12) (Kc 0))] (.cond (tm 13) (sr [mv 14 5,mv 4 14] .ret) .skip)) (sr [lA 15 9 3,oo 16 (.call 173 [tm 15]),mv 6 16] (.seq (sr [oo 7 (.mov (Kc 0))] (.block 0 (.loop (.seq (sr [mv 17 7,mv 18 6,ln 19 18,oo 20 (.bin .lss (tm 17) (tm 19))] (.cond (tm 20) .skip (.exit 0))) (.seq (.block 1 (.seq (sr [mv 23 6,mv 24 7,ix 25 9 23 24,fa 26 0 25,ld 27 26,oo 28 (.bin .eql (tm 27) (Kc 1))] (.cond (tm 28) (rg [mv 29 0,mv 30 6,mv 31 7,ix 32 9 30 31,fa 33 1 32,lA 34 5 33,oo 35 (.call 174 [(tm 29),(tm 34)]),mv 5 35]) .skip)) (.seq (sr [mv 36 6,mv 37 7,ix 38 9 36 37,fa 39 0 38,ld 40 39,oo 41 (.bin .eql (tm 40) (Kc 2))] (.cond (tm 41) (sr [mv 43 0,mv 44 6,mv 45 7,ix 46 9 44 45,fa 47 6 46,ld 48 47,oo 49 (.call 17 [(tm 43),(tm 48)]),mv 42 49,oo 50 (.ext (tm 42) 0),oo 51 (.ext (tm 42) 1),⟨some 8,.alloc [S0,Z0,Z0],none,[]⟩,o0 (.store 3 (tm 8) (tm 50)),mv 9 51] (sr [mv 52 9,oo 53 (.not (tm 52))] (.cond (tm 53) (rg [oo 5 (.mov (Kc 4))]) (sr [mv 54 6,mv 55 7,ix 56 9 54 55,fa 57 7 56,ld 58 57,lA 59 3 8,oo 60 (.call 111 [tm 59]),oo 61 (.bin .gtr (tm 58) (tm 60))] (.cond (tm 61) (rg [oo 5 (.mov (Kc 1))]) .skip))))) .skip)) (sr [mv 62 5,oo 63 (.bin .neq (tm 62) (Kc 0))] (.cond (tm 63) (sr [mv 64 5,mv 4 64] .ret) .skip))))) (rg [mv 21 7,oo 22 (.bin .add (tm 21) (Kc 1)),mv 7 22])))))) (sr [oo 4 (.mov (Kc 0))] .ret))))))
theorem MO:(Tryz.f132.body.bind (bt Tryz.prog 65 []))=some Lv:=by kernel_rfl
def c36:aV:=(sr [oo 2 (.mov (Kc 0))] (.seq (sr [mv 9 0,ln 10 9,oo 11 (.bin .gtr (tm 10) (Kc 16))] (.cond (tm 11) (sr [oo 2 (.mov (Kc 2))] .ret) .skip)) (.seq (sr [oo 3 (.mov (Kc 0))] (.block 0 (.loop (.seq (sr [mv 12 3,mv 13 0,ln 14 13,oo 15 (.bin .lss (tm 12) (tm 14))] (.cond (tm 15) .skip (.exit 0))) (.seq (.block 1 (sr [mv 18 0,mv 19 3,ix 20 3 18 19,fa 21 0 20,ld 22 21,oo 23 (.call 87 [tm 22]),mv 4 23] (.seq (sr [mv 24 4,oo 25 (.not (tm 24)),mv 26 25,mF 27 0 26,mF 28 3 26,oF 29 26 (.idxL 3 (tm 27) (tm 28)),oF 30 26 (.offA 0 (tm 29)),oF 31 26 (.load 1 false (tm 30)),⟨some 32,.bin .eql (tm 31) (.const (.str ⟨#[112,111,114,116]⟩)),some (26,false),[]⟩,oo 33 (.pick (tm 26) kT (tm 32))] (.cond (tm 33) (sr [oo 2 (.mov (Kc 4))] .ret) .skip)) (.seq (sr [oo 5 (.mov (Kc 0))] (.block 2 (.loop (.seq (sr [mv 34 5,mv 35 3,oo 36 (.bin .lss (tm 34) (tm 35))] (.cond (tm 36) .skip (.exit 2))) (.seq (.block 3 (sr [mv 39 0,mv 40 5,ix 41 3 39 40,fa 42 0 41,ld 43 42,mv 44 0,mv 45 3,ix 46 3 44 45,fa 47 0 46,ld 48 47,oo 49 (.bin .eql (tm 43) (tm 48))] (.cond (tm 49) (sr [oo 2 (.mov (Kc 4))] .ret) .skip))) (rg [mv 37 5,oo 38 (.bin .add (tm 37) (Kc 1)),mv 5 38])))))) (sr [mv 50 0,mv 51 3,ix 52 3 50 51,lA 53 3 52,oo 54 (.call 88 [tm 53]),mv 6 54] (.seq (sr [mv 55 6,oo 56 (.not (tm 55))] (.cond (tm 56) (sr [oo 2 (.mov (Kc 1))] .ret) .skip)) (sr [oo 7 (.mov (Kc 0))] (.block 4 (.loop (.seq (sr [mv 57 7,mv 58 3,oo 59 (.bin .lss (tm 57) (tm 58))] (.cond (tm 59) .skip (.exit 4))) (.seq (.block 5 (sr [mv 62 0,mv 63 7,ix 64 3 62 63,lA 65 3 64,mv 66 0,mv 67 3,ix 68 3 66 67,lA 69 3 68,oo 70 (.call 89 [(tm 65),(tm 69)]),mv 8 70] (sr [mv 71 8] (.cond (tm 71) (sr [oo 2 (.mov (Kc 1))] .ret) .skip)))) (rg [mv 60 7,oo 61 (.bin .add (tm 60) (Kc 1)),mv 7 61])))))))))))) (rg [mv 16 3,oo 17 (.bin .add (tm 16) (Kc 1)),mv 3 17])))))) (sr [oo 2 (.mov (Kc 0))] .ret))))
theorem l36:(Tryz.f36.body.bind (bt Tryz.prog 72 []))=some c36:=by kernel_rfl
def c17:aV:=(sr [⟨some 4,.alloc [S0,Z0,Z0],none,[]⟩,oo 5 (.mov kF)] (.seq (sr [mv 7 1,⟨some 8,.bin .eql (tm 7) (.const (.str ⟨#[112,111,114,116]⟩)),none,[]⟩] (.cond (tm 8) (sr [oo 9 (.call 68 []),o0 (.store 3 (tm 4) (tm 9)),oo 5 (.mov kT)] .ret) .skip)) (.seq (sr [oo 6 (.mov (Kc 0))] (.block 0 (.loop (.seq (sr [mv 10 6,mv 11 0,ln 12 11,oo 13 (.bin .lss (tm 10) (tm 12))] (.cond (tm 13) .skip (.exit 0))) (.seq (.block 1 (sr [mv 16 0,mv 17 6,ix 18 3 16 17,fa 19 0 18,ld 20 19,mv 21 1,oo 22 (.bin .eql (tm 20) (tm 21))] (.cond (tm 22) (sr [mv 23 0,mv 24 6,ix 25 3 23 24,lA 26 3 25,o0 (.store 3 (tm 4) (tm 26)),oo 5 (.mov kT)] .ret) .skip))) (rg [mv 14 6,oo 15 (.bin .add (tm 14) (Kc 1)),mv 6 15])))))) (sr [⟨some 27,.build [S0,Z0,Z0] [],none,[]⟩,o0 (.store 3 (tm 4) (tm 27)),oo 5 (.mov kF)] .ret))))
theorem l17:(Tryz.f17.body.bind (bt Tryz.prog 28 []))=some c17:=by kernel_rfl
def c19:aV:=(sr [oo 3 (.box 3 (tm 0)),oo 4 (.box 10 (tm 1)),oo 6 (.alloc [Z0,Z0,Z0,Z0,Z0,Z0,Z0,Z0,Z0,Z0])] (sr [lA 8 3 3,lA 9 10 4,oo 10 (.call 18 [(tm 8),(tm 9)]),mv 7 10] (sr [fa 11 1 3,ld 12 11,oo 13 (.bin .quo (tm 12) (Kc 16)),fa 14 1 3,ld 15 14,oo 16 (.bin .quo (tm 15) (Kc 16)),oo 17 (.idxA 10 1 (tm 4) (tm 16)),ld 18 17,mv 19 2,mv 20 7,oo 21 (.bin .sub (tm 19) (tm 20)),lA 22 3 3,oo 23 (.call 69 [tm 22]),oo 24 (.bin .mul (tm 21) (tm 23)),oo 25 (.bin .add (tm 18) (tm 24)),oo 26 (.idxA 10 1 (tm 4) (tm 13)),o0 (.store 1 (tm 26) (tm 25))] (sr [lA 27 10 4,o0 (.store 10 (tm 6) (tm 27))] .ret))))
theorem l19:(Tryz.f19.body.bind (bt Tryz.prog 28 []))=some c19:=by kernel_rfl
def c18:aV:=(sr [oo 2 (.box 3 (tm 0)),oo 3 (.box 10 (tm 1)),oo 4 (.mov (Kc 0))] (sr [fa 5 1 2,ld 6 5,oo 7 (.bin .quo (tm 6) (Kc 16)),oo 8 (.idxA 10 1 (tm 3) (tm 7)),ld 9 8,lA 10 3 2,oo 11 (.call 69 [tm 10]),oo 12 (.bin .quo (tm 9) (tm 11)),fa 13 2 2,ld 14 13,oo 15 (.call 70 [tm 14]),oo 16 (.bin .rem (tm 12) (tm 15)),mv 4 16] .ret))
theorem l18:(Tryz.f18.body.bind (bt Tryz.prog 17 []))=some c18:=by kernel_rfl
def c39:aV:=(sr [oo 1 (.box 9 (tm 0)),oo 2 (.mov (Kc 0))] (sr [oo 3 (.mov (Kc 0))] (.seq (sr [oo 4 (.mov (Kc 0))] (.block 0 (.loop (.seq (sr [mv 5 4,fa 6 8 1,ld 7 6,ln 8 7,oo 9 (.bin .lss (tm 5) (tm 8))] (.cond (tm 9) .skip (.exit 0))) (.seq (.block 1 (rg [mv 12 3,fa 13 8 1,ld 14 13,mv 15 4,ix 16 9 14 15,lA 17 9 16,oo 18 (.call 39 [tm 17]),oo 19 (.maxI (tm 12) (tm 18)),mv 3 19])) (rg [mv 10 4,oo 11 (.bin .add (tm 10) (Kc 1)),mv 4 11])))))) (.seq (sr [fa 20 0 1,ld 21 20,oo 22 (.bin .eql (tm 21) (Kc 5))] (.cond (tm 22) (rg [mv 23 3,oo 24 (.bin .add (tm 23) (Kc 1)),mv 3 24]) .skip)) (sr [mv 25 3,mv 2 25] .ret)))))
theorem l39:(Tryz.f39.body.bind (bt Tryz.prog 26 []))=some c39:=by kernel_rfl
def c93:aV:=(sr [oo 1 (.box 9 (tm 0)),oo 2 (.mov (Kc 0))] (sr [oo 3 (.mov (Kc 0))] (.seq (sr [oo 4 (.mov (Kc 0))] (.block 0 (.loop (.seq (sr [mv 5 4,fa 6 8 1,ld 7 6,ln 8 7,oo 9 (.bin .lss (tm 5) (tm 8))] (.cond (tm 9) .skip (.exit 0))) (.seq (.block 1 (rg [mv 12 3,fa 13 8 1,ld 14 13,mv 15 4,ix 16 9 14 15,lA 17 9 16,oo 18 (.call 93 [tm 17]),oo 19 (.bin .add (tm 12) (tm 18)),mv 3 19])) (rg [mv 10 4,oo 11 (.bin .add (tm 10) (Kc 1)),mv 4 11])))))) (.seq (sr [fa 20 0 1,ld 21 20,oo 22 (.bin .eql (tm 21) (Kc 2))] (.cond (tm 22) (rg [mv 23 3,oo 24 (.bin .add (tm 23) (Kc 1)),mv 3 24]) .skip)) (sr [mv 25 3,mv 2 25] .ret)))))
theorem l93:(Tryz.f93.body.bind (bt Tryz.prog 26 []))=some c93:=by kernel_rfl
def LJ:aV:=(sr [oo 1 (.box 9 (tm 0)),oo 2 (.mov (Kc 0))] (sr [lA 3 9 1,oo 4 (.call 38 [tm 3]),lA 5 9 1,oo 6 (.call 188 [tm 5]),oo 7 (.call 187 [(tm 4),(tm 6)]),mv 2 7] .ret))
theorem M5:(Tryz.f171.body.bind (bt Tryz.prog 8 []))=some LJ:=by kernel_rfl
def LL:aV:=(sr [oo 1 (.box 9 (tm 0)),oo 2 (.mov (.const .nil))] (sr [lA 5 9 1,⟨some 6,.buildS 39 9 1 [Z0,Z0,S0,Z0,Z0,.nil,S0,Z0,.nil] [(0,(tm 5))],none,[]⟩,mv 3 6] (.seq (sr [oo 4 (.mov (Kc 0))] (.block 0 (.loop (.seq (sr [mv 7 4,fa 8 8 1,ld 9 8,ln 10 9,oo 11 (.bin .lss (tm 7) (tm 10))] (.cond (tm 11) .skip (.exit 0))) (.seq (.block 1 (rg [mv 14 3,fa 15 8 1,ld 16 15,mv 17 4,ix 18 9 16 17,lA 19 9 18,oo 20 (.call 173 [tm 19]),oo 21 (.append 37 39 9 120 (tm 14) (tm 20)),mv 3 21])) (rg [mv 12 4,oo 13 (.bin .add (tm 12) (Kc 1)),mv 4 13])))))) (sr [mv 22 3,mv 2 22] .ret))))
theorem M7:(Tryz.f173.body.bind (bt Tryz.prog 23 []))=some LL:=by kernel_rfl
def LM:aV:=(sr [oo 3 (.box 5 (tm 1)),oo 4 (.mov (Kc 0))] (sr [lA 8 5 3,oo 9 (.call 190 [tm 8]),mv 5 9] (.seq (sr [oo 6 (.mov (Kc 0))] (.block 0 (.loop (.seq (sr [mv 10 6,mv 11 5,ln 12 11,oo 13 (.bin .lss (tm 10) (tm 12))] (.cond (tm 13) .skip (.exit 0))) (.seq (.block 1 (sr [mv 16 0,mv 17 5,mv 18 6,ix 19 5 17 18,lA 20 5 19,oo 21 (.call 191 [(tm 16),(tm 20)]),mv 7 21] (sr [mv 22 7,oo 23 (.bin .neq (tm 22) (Kc 0))] (.cond (tm 23) (sr [mv 24 7,mv 4 24] .ret) .skip)))) (rg [mv 14 6,oo 15 (.bin .add (tm 14) (Kc 1)),mv 6 15])))))) (sr [oo 4 (.mov (Kc 0))] .ret))))
theorem M8:(Tryz.f174.body.bind (bt Tryz.prog 25 []))=some LM:=by kernel_rfl
def Ll:aV:=(sr [oo 1 (.box 3 (tm 0)),oo 2 (.mov (Kc 0))] (sr [fa 3 2 1,ld 4 3,oo 5 (.call 70 [tm 4]),oo 6 (.bin .sub (tm 5) (Kc 1)),mv 2 6] .ret))
theorem MD:(Tryz.f111.body.bind (bt Tryz.prog 7 []))=some Ll:=by kernel_rfl
def c87:aV:=(sr [oo 2 (.mov kF)] (.seq (sr [oo 3 (.mov (Kc 0))] (.block 0 (.loop (.seq (sr [mv 6 3,mv 7 0,oo 8 (.lenS (tm 7)),oo 9 (.bin .lss (tm 6) (tm 8))] (.cond (tm 9) .skip (.exit 0))) (.seq (.block 1 (sr [mv 12 0,mv 13 3,oo 14 (.idxS (tm 12) (tm 13)),oo 15 (.bin .geq (tm 14) (.const (Ui 97))),mv 16 15,mT 17 0 16,mT 18 3 16,oT 19 16 (.idxS (tm 17) (tm 18)),oT 20 16 (.bin .leq (tm 19) (.const (Ui 122))),oo 21 (.pick (tm 16) (tm 20) kF),mv 4 21] (sr [mv 22 0,mv 23 3,oo 24 (.idxS (tm 22) (tm 23)),oo 25 (.bin .geq (tm 24) (.const (Ui 48))),mv 26 25,mT 27 0 26,mT 28 3 26,oT 29 26 (.idxS (tm 27) (tm 28)),oT 30 26 (.bin .leq (tm 29) (.const (Ui 57))),oo 31 (.pick (tm 26) (tm 30) kF),mv 32 31,mF 33 0 32,mF 34 3 32,oF 35 32 (.idxS (tm 33) (tm 34)),oF 36 32 (.bin .eql (tm 35) (.const (Ui 95))),oo 37 (.pick (tm 32) kT (tm 36)),mv 5 37] (sr [mv 38 4,oo 39 (.not (tm 38)),mv 40 39,mT 41 5 40,oT 42 40 (.not (tm 41)),mT 43 42 40,mF 44 3 43,oF 45 43 (.bin .eql (tm 44) (Kc 0)),oT 46 40 (.pick (tm 43) kT (tm 45)),oo 47 (.pick (tm 40) (tm 46) kF)] (.cond (tm 47) (sr [oo 2 (.mov kF)] .ret) .skip))))) (rg [mv 10 3,oo 11 (.bin .add (tm 10) (Kc 1)),mv 3 11])))))) (sr [mv 48 0,oo 49 (.lenS (tm 48)),oo 50 (.bin .geq (tm 49) (Kc 1)),mv 51 50,mT 52 0 51,oT 53 51 (.lenS (tm 52)),oT 54 51 (.bin .leq (tm 53) (Kc 24)),oo 55 (.pick (tm 51) (tm 54) kF),mv 2 55] .ret)))
theorem l87:(Tryz.f87.body.bind (bt Tryz.prog 56 []))=some c87:=by kernel_rfl
def c88:aV:=(sr [oo 1 (.box 3 (tm 0)),oo 2 (.mov kF)] (sr [fa 3 2 1,ld 4 3,oo 5 (.bin .geq (tm 4) (Kc 1)),mv 6 5,oT 7 6 (.offA 2 (tm 1)),oT 8 6 (.load 1 false (tm 7)),oT 9 6 (.bin .leq (tm 8) (Kc 16)),oo 10 (.pick (tm 6) (tm 9) kF),mv 11 10,oT 12 11 (.offA 1 (tm 1)),oT 13 11 (.load 1 false (tm 12)),oT 14 11 (.bin .geq (tm 13) (Kc 16)),oo 15 (.pick (tm 11) (tm 14) kF),mv 16 15,oT 17 16 (.offA 1 (tm 1)),oT 18 16 (.load 1 false (tm 17)),oT 19 16 (.bin .leq (tm 18) (Kc 143)),oo 20 (.pick (tm 16) (tm 19) kF),mv 21 20,oT 22 21 (.offA 1 (tm 1)),oT 23 21 (.load 1 false (tm 22)),oT 24 21 (.bin .rem (tm 23) (Kc 16)),oT 25 21 (.offA 2 (tm 1)),oT 26 21 (.load 1 false (tm 25)),oT 27 21 (.bin .add (tm 24) (tm 26)),oT 28 21 (.bin .leq (tm 27) (Kc 16)),oo 29 (.pick (tm 21) (tm 28) kF),mv 2 29] .ret))
theorem l88:(Tryz.f88.body.bind (bt Tryz.prog 30 []))=some c88:=by kernel_rfl
def c89:aV:=(sr [oo 2 (.box 3 (tm 0)),oo 3 (.box 3 (tm 1)),oo 4 (.mov kF)] (sr [fa 5 1 2,ld 6 5,fa 7 1 3,ld 8 7,fa 9 2 3,ld 10 9,oo 11 (.bin .add (tm 8) (tm 10)),oo 12 (.bin .lss (tm 6) (tm 11)),mv 13 12,oT 14 13 (.offA 1 (tm 3)),oT 15 13 (.load 1 false (tm 14)),oT 16 13 (.offA 1 (tm 2)),oT 17 13 (.load 1 false (tm 16)),oT 18 13 (.offA 2 (tm 2)),oT 19 13 (.load 1 false (tm 18)),oT 20 13 (.bin .add (tm 17) (tm 19)),oT 21 13 (.bin .lss (tm 15) (tm 20)),oo 22 (.pick (tm 13) (tm 21) kF),mv 4 22] .ret))
theorem l89:(Tryz.f89.body.bind (bt Tryz.prog 23 []))=some c89:=by kernel_rfl
def GS:aV:=(sr [oo 3 (.box 1 (tm 1)),⟨some 4,.alloc [S0,Z0,Z0],none,[]⟩,oo 5 (.mov kF)] (.seq (sr [ld 7 3,oo 8 (.call 142 []),oo 9 (.fld 0 1 false (tm 8)),oo 10 (.bin .eql (tm 7) (tm 9))] (.cond (tm 10) (sr [oo 11 (.call 142 []),o0 (.store 3 (tm 4) (tm 11)),oo 5 (.mov kT)] .ret) .skip)) (sr [mv 12 0,oo 13 (.mkfn 144 [tm 3]),oo 14 (.call 143 [(tm 12),(tm 13)]),mv 6 14] (.seq (sr [mv 15 6,oo 16 (.bin .lss (tm 15) (Kc 0))] (.cond (tm 16) (sr [⟨some 17,.build [S0,Z0,Z0] [],none,[]⟩,o0 (.store 3 (tm 4) (tm 17)),oo 5 (.mov kF)] .ret) .skip)) (sr [mv 18 0,mv 19 6,ix 20 3 18 19,lA 21 3 20,o0 (.store 3 (tm 4) (tm 21)),oo 5 (.mov kT)] .ret)))))
theorem Mz:(Tryz.f107.body.bind (bt Tryz.prog 22 []))=some GS:=by kernel_rfl
def Li:aV:=(sr [oo 2 (.box 3 (tm 0)),oo 3 (.box 10 (tm 1)),oo 4 (.mov (Kc 0))] (sr [fa 5 1 2,ld 6 5,oo 7 (.bin .quo (tm 6) (Kc 16)),oo 8 (.idxA 10 1 (tm 3) (tm 7)),ld 9 8,lA 10 3 2,oo 11 (.call 145 [tm 10]),oo 12 (.bin .shr (tm 9) (tm 11)),lA 13 3 2,oo 14 (.call 141 [tm 13]),oo 15 (.bin .and (tm 12) (tm 14)),mv 4 15] .ret))
theorem MA:(Tryz.f108.body.bind (bt Tryz.prog 16 []))=some Li:=by kernel_rfl
def c68:aV:=(sr [⟨some 0,.alloc [S0,Z0,Z0],none,[]⟩] (sr [⟨some 1,.build [S0,Z0,Z0] [(0,1,(.const (.str ⟨#[112,111,114,116]⟩))),(1,1,(Kc 0)),(2,1,(Kc 16))],none,[]⟩,o0 (.store 3 (tm 0) (tm 1))] .ret))
theorem l68:(Tryz.f68.body.bind (bt Tryz.prog 2 []))=some c68:=by kernel_rfl
def c69:aV:=(sr [oo 1 (.box 3 (tm 0)),oo 2 (.mov (Kc 0))] (sr [fa 3 1 1,ld 4 3,oo 5 (.bin .rem (tm 4) (Kc 16)),oo 6 (.bin .sub (Kc 16) (tm 5)),fa 7 2 1,ld 8 7,oo 9 (.bin .sub (tm 6) (tm 8)),oo 10 (.call 70 [tm 9]),mv 2 10] .ret))
theorem l69:(Tryz.f69.body.bind (bt Tryz.prog 11 []))=some c69:=by kernel_rfl
def c70:aV:=(sr [oo 2 (.mov (Kc 0))] (sr [oo 3 (.mov (Kc 1))] (.seq (sr [oo 4 (.mov (Kc 0))] (.block 0 (.loop (.seq (sr [mv 5 4,mv 6 0,oo 7 (.bin .lss (tm 5) (tm 6))] (.cond (tm 7) .skip (.exit 0))) (.seq (.block 1 (rg [mv 10 3,oo 11 (.bin .mul (tm 10) (Kc 2)),mv 3 11])) (rg [mv 8 4,oo 9 (.bin .add (tm 8) (Kc 1)),mv 4 9])))))) (sr [mv 12 3,mv 2 12] .ret))))
theorem l70:(Tryz.f70.body.bind (bt Tryz.prog 13 []))=some c70:=by kernel_rfl
def LO:aV:=(sr [oo 2 (.box 2 (tm 0)),oo 4 (.mov (Kc 0))] (sr [lA 6 2 2,oo 7 (.call 199 [tm 6]),mv 5 7] (.seq (sr [mv 8 5,oo 9 (.bin .eql (tm 8) (Kc 0)),mv 10 9,mT 11 1 10,oT 12 10 (.not (tm 11)),oo 13 (.pick (tm 10) (tm 12) kF)] (.cond (tm 13) (sr [oo 4 (.mov (Kc 1))] .ret) .skip)) (sr [mv 14 5,mv 4 14] .ret))))
theorem Na:(Tryz.f187.body.bind (bt Tryz.prog 15 []))=some LO:=by kernel_rfl
def c38:aV:=(sr [oo 1 (.box 9 (tm 0)),oo 2 (.alloc [Z0,Z0])] (sr [oo 5 (.build [Z0,Z0] [(0,1,(Kc 1)),(1,1,(Kc 1))]),oo 3 (.alloc [Z0,Z0]),o0 (.store 2 (tm 3) (tm 5))] (.seq (sr [fa 6 0 1,ld 7 6,oo 8 (.bin .eql (tm 7) (Kc 1))] (.cond (tm 8) (rg [lA 9 2 3,fa 10 1 1,lA 11 5 10,oo 12 (.call 92 [tm 11]),oo 13 (.call 91 [(tm 9),(tm 12)]),o0 (.store 2 (tm 3) (tm 13))]) .skip)) (.seq (sr [oo 4 (.mov (Kc 0))] (.block 0 (.loop (.seq (sr [mv 14 4,fa 15 8 1,ld 16 15,ln 17 16,oo 18 (.bin .lss (tm 14) (tm 17))] (.cond (tm 18) .skip (.exit 0))) (.seq (.block 1 (rg [lA 21 2 3,fa 22 8 1,ld 23 22,mv 24 4,ix 25 9 23 24,lA 26 9 25,oo 27 (.call 38 [tm 26]),oo 28 (.call 91 [(tm 21),(tm 27)]),o0 (.store 2 (tm 3) (tm 28))])) (rg [mv 19 4,oo 20 (.bin .add (tm 19) (Kc 1)),mv 4 20])))))) (sr [lA 29 2 3,o0 (.store 2 (tm 2) (tm 29))] .ret)))))
theorem l38:(Tryz.f38.body.bind (bt Tryz.prog 30 []))=some c38:=by kernel_rfl
def LP:aV:=(sr [oo 1 (.box 9 (tm 0)),oo 2 (.mov kF)] (sr [fa 10 6 1,ld 11 10,oo 12 (.call 200 [tm 11]),mv 3 12] (sr [fa 13 1 1,lA 14 5 13,⟨some 15,.build [Z0,S0,Z0,Z0,.nil] [],none,[]⟩,oo 16 (.call 201 [(tm 14),(tm 15)]),mv 4 16] (.seq (.cut (rg [fa 17 6 1,ld 18 17,⟨some 19,.bin .eql (tm 18) (.const S0),none,[]⟩,mv 20 19,oT 21 20 (.offA 7 (tm 1)),oT 22 20 (.load 1 false (tm 21)),oT 23 20 (.bin .eql (tm 22) (Kc 0)),oo 24 (.pick (tm 20) (tm 23) kF),mv 5 24])) (sr [oo 6 (.mov (Kc 0))] (sr [oo 7 (.mov kF)] (.seq (sr [fa 25 0 1,ld 26 25] (.cut (.block 0 (sr [oo 28 (.bin .eql (tm 26) (Kc 1)),mv 27 28] (.cond (tm 27) (rg [fa 29 1 1,lA 30 5 29,oo 31 (.call 202 [tm 30]),mv 32 31,mT 33 5 32,oo 34 (.pick (tm 32) (tm 33) kF),mv 7 34]) (sr [oo 36 (.bin .eql (tm 26) (Kc 2)),mv 35 36] (.cond (tm 35) (rg [mv 37 3,mv 38 37,mT 39 4 38,oo 40 (.pick (tm 38) (tm 39) kF),mv 41 40,oT 42 41 (.offA 7 (tm 1)),oT 43 41 (.load 1 false (tm 42)),oT 44 41 (.bin .geq (tm 43) (Kc 0)),oo 45 (.pick (tm 41) (tm 44) kF),mv 46 45,oT 47 46 (.offA 7 (tm 1)),oT 48 46 (.load 1 false (tm 47)),oT 49 46 (.bin .leq (tm 48) (Kc 65535)),oo 50 (.pick (tm 46) (tm 49) kF),mv 7 50]) (.seq (sr [oo 52 (.bin .eql (tm 26) (Kc 3)),mv 51 52] (.cond (tm 51) .skip (rg [oo 53 (.bin .eql (tm 26) (Kc 4)),mv 51 53]))) (.cond (tm 51) (sr [mv 54 4,mv 55 54,mT 56 5 55,oo 57 (.pick (tm 55) (tm 56) kF),mv 7 57] (rg [oo 6 (.mov (Kc 2))])) (sr [oo 59 (.bin .eql (tm 26) (Kc 5)),mv 58 59] (.cond (tm 58) (sr [mv 60 4,mv 61 60,mT 62 5 61,oo 63 (.pick (tm 61) (tm 62) kF),mv 7 63] (rg [oo 6 (.mov (Kc 1))])) .skip))))))))))) (.seq (sr [mv 64 7,oo 65 (.not (tm 64)),mv 66 65,oF 67 66 (.offA 8 (tm 1)),oF 68 66 (.load 1 false (tm 67)),oF 69 66 (.len (tm 68)),mF 70 6 66,oF 71 66 (.bin .neq (tm 69) (tm 70)),oo 72 (.pick (tm 66) kT (tm 71))] (.cond (tm 72) (sr [oo 2 (.mov kF)] .ret) .skip)) (.seq (sr [oo 8 (.mov (Kc 0))] (.block 1 (.loop (.seq (sr [mv 73 8,mv 74 6,oo 75 (.bin .lss (tm 73) (tm 74))] (.cond (tm 75) .skip (.exit 1))) (.seq (.block 2 (sr [fa 78 8 1,ld 79 78,mv 80 8,ix 81 9 79 80,lA 82 9 81,oo 83 (.call 188 [tm 82]),mv 9 83] (sr [mv 84 9,oo 85 (.not (tm 84))] (.cond (tm 85) (sr [oo 2 (.mov kF)] .ret) .skip)))) (rg [mv 76 8,oo 77 (.bin .add (tm 76) (Kc 1)),mv 8 77])))))) (sr [oo 2 (.mov kT)] .ret))))))))))
theorem Nb:(Tryz.f188.body.bind (bt Tryz.prog 86 [6000003,4000000]))=some LP:=by kernel_rfl
def LR:aV:=(sr [oo 1 (.box 5 (tm 0)),oo 2 (.mov (.const .nil))] (sr [lA 5 5 1,⟨some 6,.buildS 36 5 1 [Z0,S0,Z0,Z0,.nil] [(0,(tm 5))],none,[]⟩,mv 3 6] (.seq (sr [oo 4 (.mov (Kc 0))] (.block 0 (.loop (.seq (sr [mv 7 4,fa 8 4 1,ld 9 8,ln 10 9,oo 11 (.bin .lss (tm 7) (tm 10))] (.cond (tm 11) .skip (.exit 0))) (.seq (.block 1 (rg [mv 14 3,fa 15 4 1,ld 16 15,mv 17 4,ix 18 5 16 17,lA 19 5 18,oo 20 (.call 190 [tm 19]),oo 21 (.append 34 36 5 64 (tm 14) (tm 20)),mv 3 21])) (rg [mv 12 4,oo 13 (.bin .add (tm 12) (Kc 1)),mv 4 13])))))) (sr [mv 22 3,mv 2 22] .ret))))
theorem Nd:(Tryz.f190.body.bind (bt Tryz.prog 23 []))=some LR:=by kernel_rfl
def LS:aV:=(sr [oo 3 (.box 5 (tm 1)),oo 4 (.mov (Kc 0))] (.seq (sr [fa 8 0 3,ld 9 8,oo 10 (.bin .neq (tm 9) (Kc 3)),mv 11 10,oT 12 11 (.offA 0 (tm 3)),oT 13 11 (.load 1 false (tm 12)),oT 14 11 (.bin .neq (tm 13) (Kc 4)),oo 15 (.pick (tm 11) (tm 14) kF),mv 16 15,oT 17 16 (.offA 0 (tm 3)),oT 18 16 (.load 1 false (tm 17)),oT 19 16 (.bin .neq (tm 18) (Kc 5)),oo 20 (.pick (tm 16) (tm 19) kF)] (.cond (tm 20) (sr [oo 4 (.mov (Kc 0))] .ret) .skip)) (sr [mv 22 0,fa 23 1 3,ld 24 23,oo 25 (.call 17 [(tm 22),(tm 24)]),mv 21 25,oo 26 (.ext (tm 21) 0),oo 27 (.ext (tm 21) 1),⟨some 5,.alloc [S0,Z0,Z0],none,[]⟩,o0 (.store 3 (tm 5) (tm 26)),mv 6 27] (.seq (sr [mv 28 6,oo 29 (.not (tm 28))] (.cond (tm 29) (sr [oo 4 (.mov (Kc 4))] .ret) .skip)) (sr [fa 30 2 3,ld 31 30,mv 7 31] (.seq (sr [fa 32 0 3,ld 33 32,oo 34 (.bin .eql (tm 33) (Kc 5))] (.cond (tm 34) (rg [fa 35 3 3,ld 36 35,mv 7 36]) .skip)) (.seq (sr [mv 37 7,lA 38 3 5,oo 39 (.call 111 [tm 38]),oo 40 (.bin .gtr (tm 37) (tm 39)),mv 41 40,oF 42 41 (.offA 0 (tm 3)),oF 43 41 (.load 1 false (tm 42)),oF 44 41 (.bin .eql (tm 43) (Kc 4)),mF 45 44 41,oT 46 45 (.offA 3 (tm 3)),oT 47 45 (.load 1 false (tm 46)),oT 48 45 (.offA 2 (tm 5)),oT 49 45 (.load 1 false (tm 48)),oT 50 45 (.bin .gtr (tm 47) (tm 49)),oF 51 41 (.pick (tm 45) (tm 50) kF),oo 52 (.pick (tm 41) kT (tm 51))] (.cond (tm 52) (sr [oo 4 (.mov (Kc 1))] .ret) .skip)) (sr [oo 4 (.mov (Kc 0))] .ret))))))))
theorem Nf:(Tryz.f191.body.bind (bt Tryz.prog 53 []))=some LS:=by kernel_rfl
def Lt:aV:=(sr [oo 4 (.mov (Kc 0))] (sr [mv 7 0,oo 8 (.call 156 [tm 7]),mv 5 8] (sr [mv 9 1,oo 10 (.call 156 [tm 9]),mv 6 10] (.seq (sr [mv 11 5] (.cond (tm 11) (.seq (sr [mv 12 6] (.cond (tm 12) (sr [oo 4 (.mov (Kc 0))] .ret) .skip)) (sr [oo 4 (.mov (.const (.int .i64 (-1))))] .ret)) .skip)) (.seq (sr [mv 13 6] (.cond (tm 13) (sr [oo 4 (.mov (Kc 1))] .ret) .skip)) (.seq (sr [mv 14 0,mv 15 1,oo 16 (.bin .lss (tm 14) (tm 15))] (.cond (tm 16) (sr [oo 4 (.mov (.const (.int .i64 (-1))))] .ret) .skip)) (.seq (sr [mv 17 0,mv 18 1,oo 19 (.bin .gtr (tm 17) (tm 18))] (.cond (tm 19) (sr [oo 4 (.mov (Kc 1))] .ret) .skip)) (sr [oo 4 (.mov (Kc 0))] .ret))))))))
theorem ML:(Tryz.f123.body.bind (bt Tryz.prog 20 []))=some Lt:=by kernel_rfl
def LD:aV:=(sr [⟨some 0,.alloc [S0,Z0,Z0],none,[]⟩] (sr [⟨some 1,.build [S0,Z0,Z0] [(0,1,(.const (.str ⟨#[112,111,114,116]⟩))),(2,1,(Kc 16))],none,[]⟩,o0 (.store 3 (tm 0) (tm 1))] .ret))
theorem MW:(Tryz.f142.body.bind (bt Tryz.prog 2 []))=some LD:=by kernel_rfl
def LF:aV:=(sr [oo 4 (.mov (Kc 0))] (.seq (sr [mv 6 0,ln 7 6,oo 8 (.mov (Kc 0))] (.block 0 (.loop (sr [oo 9 (.bin .lss (tm 8) (tm 7))] (.seq (.cond (tm 9) .skip (.exit 0)) (.seq (.block 1 (sr [mv 10 8,mv 5 10] (sr [mv 11 1,mv 12 0,mv 13 5,ix 14 3 12 13,lA 15 3 14,oo 16 (.bY (tm 11) [tm 15])] (.cond (tm 16) (sr [mv 17 5,mv 4 17] .ret) .skip)))) (rg [oo 18 (.bin .add (tm 8) (Kc 1)),mv 8 18]))))))) (sr [oo 4 (.mov (.const (.int .i64 (-1))))] .ret)))
theorem MX:(Tryz.f143.body.bind (bt Tryz.prog 19 []))=some LF:=by kernel_rfl
def LG:aV:=(sr [oo 2 (.box 3 (tm 0)),oo 3 (.mov kF)] (sr [fa 4 0 2,ld 5 4,ld 6 1,oo 7 (.bin .eql (tm 5) (tm 6)),mv 3 7] .ret))
theorem MY:(Tryz.f144.body.bind (bt Tryz.prog 8 []))=some LG:=by kernel_rfl
def LC:aV:=(sr [oo 1 (.box 3 (tm 0)),oo 2 (.mov (Kc 0))] (sr [fa 3 2 1,ld 4 3,oo 5 (.bin .shl (Kc 1) (tm 4)),oo 6 (.bin .sub (tm 5) (Kc 1)),mv 2 6] .ret))
theorem MV:(Tryz.f141.body.bind (bt Tryz.prog 7 []))=some LC:=by kernel_rfl
def LB:aV:=(sr [oo 3 (.box 3 (tm 0)),oo 4 (.box 10 (tm 1)),oo 6 (.alloc [Z0,Z0,Z0,Z0,Z0,Z0,Z0,Z0,Z0,Z0])] (sr [fa 8 1 3,ld 9 8,oo 10 (.bin .quo (tm 9) (Kc 16)),oo 11 (.idxA 10 1 (tm 4) (tm 10)),mv 7 11] (sr [mv 12 7,mv 13 7,oo 14 (.nilck (tm 13)),ld 15 14,lA 16 3 3,oo 17 (.call 141 [tm 16]),lA 18 3 3,oo 19 (.call 145 [tm 18]),oo 20 (.bin .shl (tm 17) (tm 19)),oo 21 (.bin .andNot (tm 15) (tm 20)),mv 22 2,lA 23 3 3,oo 24 (.call 145 [tm 23]),oo 25 (.bin .shl (tm 22) (tm 24)),oo 26 (.bin .or (tm 21) (tm 25)),oo 27 (.nilck (tm 12)),o0 (.store 1 (tm 27) (tm 26))] (sr [lA 28 10 4,o0 (.store 10 (tm 6) (tm 28))] .ret))))
theorem MU:(Tryz.f140.body.bind (bt Tryz.prog 29 []))=some LB:=by kernel_rfl
def LH:aV:=(sr [oo 1 (.box 3 (tm 0)),oo 2 (.mov (Kc 0))] (sr [fa 3 1 1,ld 4 3,oo 5 (.bin .rem (tm 4) (Kc 16)),oo 6 (.bin .sub (Kc 16) (tm 5)),fa 7 2 1,ld 8 7,oo 9 (.bin .sub (tm 6) (tm 8)),mv 2 9] .ret))
theorem MZ:(Tryz.f145.body.bind (bt Tryz.prog 10 []))=some LH:=by kernel_rfl
def LU:aV:=(sr [oo 1 (.box 2 (tm 0)),oo 2 (.mov (Kc 0))] (.seq (sr [fa 3 0 1,ld 4 3,oo 5 (.bin .gtr (tm 4) (Kc 200)),mv 6 5,oF 7 6 (.offA 1 (tm 1)),oF 8 6 (.load 1 false (tm 7)),oF 9 6 (.bin .gtr (tm 8) (Kc 20)),oo 10 (.pick (tm 6) kT (tm 9))] (.cond (tm 10) (sr [oo 2 (.mov (Kc 2))] .ret) .skip)) (sr [oo 2 (.mov (Kc 0))] .ret)))
theorem Ng:(Tryz.f199.body.bind (bt Tryz.prog 11 []))=some LU:=by kernel_rfl
def c91:aV:=(sr [oo 2 (.box 2 (tm 0)),oo 3 (.box 2 (tm 1)),oo 4 (.alloc [Z0,Z0])] (sr [fa 5 0 2,ld 6 5,fa 7 0 3,ld 8 7,oo 9 (.bin .add (tm 6) (tm 8)),fa 10 1 2,ld 11 10,fa 12 1 3,ld 13 12,oo 14 (.bin .add (tm 13) (Kc 1)),oo 15 (.maxI (tm 11) (tm 14)),oo 16 (.build [Z0,Z0] [(0,1,(tm 9)),(1,1,(tm 15))]),o0 (.store 2 (tm 4) (tm 16))] .ret))
theorem l91:(Tryz.f91.body.bind (bt Tryz.prog 17 []))=some c91:=by kernel_rfl
def c92:aV:=(sr [oo 1 (.box 5 (tm 0)),oo 2 (.alloc [Z0,Z0])] (sr [oo 5 (.build [Z0,Z0] [(0,1,(Kc 1)),(1,1,(Kc 1))]),oo 3 (.alloc [Z0,Z0]),o0 (.store 2 (tm 3) (tm 5))] (.seq (sr [oo 4 (.mov (Kc 0))] (.block 0 (.loop (.seq (sr [mv 6 4,fa 7 4 1,ld 8 7,ln 9 8,oo 10 (.bin .lss (tm 6) (tm 9))] (.cond (tm 10) .skip (.exit 0))) (.seq (.block 1 (rg [lA 13 2 3,fa 14 4 1,ld 15 14,mv 16 4,ix 17 5 15 16,lA 18 5 17,oo 19 (.call 92 [tm 18]),oo 20 (.call 91 [(tm 13),(tm 19)]),o0 (.store 2 (tm 3) (tm 20))])) (rg [mv 11 4,oo 12 (.bin .add (tm 11) (Kc 1)),mv 4 12])))))) (sr [lA 21 2 3,o0 (.store 2 (tm 2) (tm 21))] .ret))))
theorem l92:(Tryz.f92.body.bind (bt Tryz.prog 22 []))=some c92:=by kernel_rfl
def LV:aV:=(sr [oo 2 (.mov kF)] (sr [mv 4 0,oo 5 (.call 204 [tm 4]),mv 3 5] (sr [mv 6 3,mv 7 6,mF 8 0 7,⟨some 9,.bin .eql (tm 8) (.const (.str ⟨#[112,111,114,116]⟩)),some (7,false),[]⟩,oo 10 (.pick (tm 7) kT (tm 9)),mv 2 10] .ret)))
theorem Nh:(Tryz.f200.body.bind (bt Tryz.prog 11 []))=some LV:=by kernel_rfl
def LW:aV:=(sr [oo 2 (.box 5 (tm 0)),oo 3 (.box 5 (tm 1)),oo 4 (.mov kF)] (.seq (sr [fa 7 0 2,ld 8 7,fa 9 0 3,ld 10 9,oo 11 (.bin .neq (tm 8) (tm 10)),mv 12 11,oF 13 12 (.offA 1 (tm 2)),oF 14 12 (.load 1 false (tm 13)),oF 15 12 (.offA 1 (tm 3)),oF 16 12 (.load 1 false (tm 15)),oF 17 12 (.bin .neq (tm 14) (tm 16)),oo 18 (.pick (tm 12) kT (tm 17)),mv 19 18,oF 20 19 (.offA 2 (tm 2)),oF 21 19 (.load 1 false (tm 20)),oF 22 19 (.offA 2 (tm 3)),oF 23 19 (.load 1 false (tm 22)),oF 24 19 (.bin .neq (tm 21) (tm 23)),oo 25 (.pick (tm 19) kT (tm 24)),mv 26 25,oF 27 26 (.offA 3 (tm 2)),oF 28 26 (.load 1 false (tm 27)),oF 29 26 (.offA 3 (tm 3)),oF 30 26 (.load 1 false (tm 29)),oF 31 26 (.bin .neq (tm 28) (tm 30)),oo 32 (.pick (tm 26) kT (tm 31)),mv 33 32,oF 34 33 (.offA 4 (tm 2)),oF 35 33 (.load 1 false (tm 34)),oF 36 33 (.len (tm 35)),oF 37 33 (.offA 4 (tm 3)),oF 38 33 (.load 1 false (tm 37)),oF 39 33 (.len (tm 38)),oF 40 33 (.bin .neq (tm 36) (tm 39)),oo 41 (.pick (tm 33) kT (tm 40))] (.cond (tm 41) (sr [oo 4 (.mov kF)] .ret) .skip)) (.seq (sr [oo 5 (.mov (Kc 0))] (.block 0 (.loop (.seq (sr [mv 42 5,fa 43 4 2,ld 44 43,ln 45 44,oo 46 (.bin .lss (tm 42) (tm 45))] (.cond (tm 46) .skip (.exit 0))) (.seq (.block 1 (sr [fa 49 4 2,ld 50 49,mv 51 5,ix 52 5 50 51,lA 53 5 52,fa 54 4 3,ld 55 54,mv 56 5,ix 57 5 55 56,lA 58 5 57,oo 59 (.call 201 [(tm 53),(tm 58)]),mv 6 59] (sr [mv 60 6,oo 61 (.not (tm 60))] (.cond (tm 61) (sr [oo 4 (.mov kF)] .ret) .skip)))) (rg [mv 47 5,oo 48 (.bin .add (tm 47) (Kc 1)),mv 5 48])))))) (sr [oo 4 (.mov kT)] .ret))))
theorem Ni:(Tryz.f201.body.bind (bt Tryz.prog 62 []))=some LW:=by kernel_rfl
def LX:aV:=(sr [oo 1 (.box 5 (tm 0)),oo 2 (.mov kF)] (sr [fa 10 1 1,ld 11 10,oo 12 (.call 200 [tm 11]),mv 3 12] (.seq (.cut (rg [fa 13 2 1,ld 14 13,oo 15 (.bin .geq (tm 14) (Kc 0)),mv 16 15,oT 17 16 (.offA 2 (tm 1)),oT 18 16 (.load 1 false (tm 17)),oT 19 16 (.bin .leq (tm 18) (Kc 65535)),oo 20 (.pick (tm 16) (tm 19) kF),mv 4 20])) (.seq (.cut (rg [fa 21 1 1,ld 22 21,⟨some 23,.bin .eql (tm 22) (.const S0),none,[]⟩,mv 24 23,oT 25 24 (.offA 2 (tm 1)),oT 26 24 (.load 1 false (tm 25)),oT 27 24 (.bin .eql (tm 26) (Kc 0)),oo 28 (.pick (tm 24) (tm 27) kF),mv 29 28,oT 30 29 (.offA 3 (tm 1)),oT 31 29 (.load 1 false (tm 30)),oT 32 29 (.bin .eql (tm 31) (Kc 0)),oo 33 (.pick (tm 29) (tm 32) kF),mv 5 33])) (sr [oo 6 (.mov (Kc 0))] (sr [oo 7 (.mov kF)] (.seq (sr [fa 34 0 1,ld 35 34] (.cut (.block 0 (.seq (sr [oo 37 (.bin .eql (tm 35) (Kc 1)),mv 36 37] (.cond (tm 36) .skip (rg [oo 38 (.bin .eql (tm 35) (Kc 2)),mv 36 38]))) (.cond (tm 36) (rg [mv 39 5,mv 7 39]) (sr [oo 41 (.bin .eql (tm 35) (Kc 3)),mv 40 41] (.cond (tm 40) (rg [mv 42 3,mv 43 42,mT 44 4 43,oo 45 (.pick (tm 43) (tm 44) kF),mv 46 45,oT 47 46 (.offA 3 (tm 1)),oT 48 46 (.load 1 false (tm 47)),oT 49 46 (.bin .eql (tm 48) (Kc 0)),oo 50 (.pick (tm 46) (tm 49) kF),mv 7 50]) (sr [oo 52 (.bin .eql (tm 35) (Kc 4)),mv 51 52] (.cond (tm 51) (rg [mv 53 3,mv 54 53,mT 55 4 54,oo 56 (.pick (tm 54) (tm 55) kF),mv 57 56,oT 58 57 (.offA 3 (tm 1)),oT 59 57 (.load 1 false (tm 58)),oT 60 57 (.bin .geq (tm 59) (Kc 0)),oo 61 (.pick (tm 57) (tm 60) kF),mv 62 61,oT 63 62 (.offA 3 (tm 1)),oT 64 62 (.load 1 false (tm 63)),oT 65 62 (.bin .leq (tm 64) (Kc 16)),oo 66 (.pick (tm 62) (tm 65) kF),mv 7 66]) (sr [oo 68 (.bin .eql (tm 35) (Kc 5)),mv 67 68] (.cond (tm 67) (rg [mv 69 3,mv 70 69,oT 71 70 (.offA 2 (tm 1)),oT 72 70 (.load 1 false (tm 71)),oT 73 70 (.bin .geq (tm 72) (Kc 0)),oo 74 (.pick (tm 70) (tm 73) kF),mv 75 74,oT 76 75 (.offA 2 (tm 1)),oT 77 75 (.load 1 false (tm 76)),oT 78 75 (.offA 3 (tm 1)),oT 79 75 (.load 1 false (tm 78)),oT 80 75 (.bin .leq (tm 77) (tm 79)),oo 81 (.pick (tm 75) (tm 80) kF),mv 82 81,oT 83 82 (.offA 3 (tm 1)),oT 84 82 (.load 1 false (tm 83)),oT 85 82 (.bin .leq (tm 84) (Kc 65535)),oo 86 (.pick (tm 82) (tm 85) kF),mv 7 86]) (sr [oo 88 (.bin .eql (tm 35) (Kc 6)),mv 87 88] (.cond (tm 87) (sr [mv 89 5,mv 7 89] (rg [oo 6 (.mov (Kc 1))])) (.seq (sr [oo 91 (.bin .eql (tm 35) (Kc 7)),mv 90 91] (.cond (tm 90) .skip (rg [oo 92 (.bin .eql (tm 35) (Kc 8)),mv 90 92]))) (.cond (tm 90) (sr [mv 93 5,mv 7 93] (rg [oo 6 (.mov (Kc 2))])) (sr [oo 95 (.bin .eql (tm 35) (Kc 9)),mv 94 95] (.cond (tm 94) (rg [fa 96 1 1,ld 97 96,⟨some 98,.bin .eql (tm 97) (.const S0),none,[]⟩,mv 99 98,oT 100 99 (.offA 2 (tm 1)),oT 101 99 (.load 1 false (tm 100)),oT 102 99 (.bin .geq (tm 101) (Kc 0)),oo 103 (.pick (tm 99) (tm 102) kF),mv 104 103,oT 105 104 (.offA 2 (tm 1)),oT 106 104 (.load 1 false (tm 105)),oT 107 104 (.offA 3 (tm 1)),oT 108 104 (.load 1 false (tm 107)),oT 109 104 (.bin .lss (tm 106) (tm 108)),oo 110 (.pick (tm 104) (tm 109) kF),mv 111 110,oT 112 111 (.offA 3 (tm 1)),oT 113 111 (.load 1 false (tm 112)),oT 114 111 (.bin .leq (tm 113) (Kc 1073741824)),oo 115 (.pick (tm 111) (tm 114) kF),mv 7 115]) .skip))))))))))))))))) (.seq (sr [mv 116 7,oo 117 (.not (tm 116)),mv 118 117,oF 119 118 (.offA 4 (tm 1)),oF 120 118 (.load 1 false (tm 119)),oF 121 118 (.len (tm 120)),mF 122 6 118,oF 123 118 (.bin .neq (tm 121) (tm 122)),oo 124 (.pick (tm 118) kT (tm 123))] (.cond (tm 124) (sr [oo 2 (.mov kF)] .ret) .skip)) (.seq (sr [oo 8 (.mov (Kc 0))] (.block 1 (.loop (.seq (sr [mv 125 8,mv 126 6,oo 127 (.bin .lss (tm 125) (tm 126))] (.cond (tm 127) .skip (.exit 1))) (.seq (.block 2 (sr [fa 130 4 1,ld 131 130,mv 132 8,ix 133 5 131 132,lA 134 5 133,oo 135 (.call 202 [tm 134]),mv 9 135] (sr [mv 136 9,oo 137 (.not (tm 136))] (.cond (tm 137) (sr [oo 2 (.mov kF)] .ret) .skip)))) (rg [mv 128 8,oo 129 (.bin .add (tm 128) (Kc 1)),mv 8 129])))))) (sr [oo 2 (.mov kT)] .ret))))))))))
theorem Nj:(Tryz.f202.body.bind (bt Tryz.prog 138 [6000002,6000003,4000000]))=some LX:=by kernel_rfl
def LI:aV:=(sr [oo 2 (.mov kF)] (sr [mv 3 0,mv 4 0,oo 5 (.bin .neq (tm 3) (tm 4)),mv 2 5] .ret))
theorem M0:(Tryz.f156.body.bind (bt Tryz.prog 6 []))=some LI:=by kernel_rfl
def LZ:aV:=(sr [oo 2 (.mov kF)] (sr [mv 3 0,oo 4 (.call 206 [tm 3]),mv 2 4] .ret))
theorem Nl:(Tryz.f204.body.bind (bt Tryz.prog 5 []))=some LZ:=by kernel_rfl
def L0:aV:=(sr [oo 2 (.mov kF)] (.seq (sr [mv 5 0,oo 6 (.lenS (tm 5)),oo 7 (.bin .eql (tm 6) (Kc 0)),mv 8 7,mF 9 0 8,oF 10 8 (.lenS (tm 9)),oF 11 8 (.bin .gtr (tm 10) (Kc 24)),oo 12 (.pick (tm 8) kT (tm 11))] (.cond (tm 12) (sr [oo 2 (.mov kF)] .ret) .skip)) (sr [mv 13 0,oo 14 (.idxS (tm 13) (Kc 0)),oo 15 (.call 208 [tm 14]),mv 3 15] (sr [mv 16 0,oo 17 (.call 209 [tm 16]),mv 4 17] (sr [mv 18 3,mv 19 18,mT 20 0 19,oT 21 19 (.call 210 [tm 20]),mT 22 0 19,oT 23 19 (.lenS (tm 22)),oT 24 19 (.bin .eql (tm 21) (tm 23)),oo 25 (.pick (tm 19) (tm 24) kF),mv 26 25,mT 27 4 26,oT 28 26 (.not (tm 27)),oo 29 (.pick (tm 26) (tm 28) kF),mv 2 29] .ret)))))
theorem Nn:(Tryz.f206.body.bind (bt Tryz.prog 30 []))=some L0:=by kernel_rfl
def L5:aV:=(sr [oo 2 (.mov kF)] (sr [mv 3 0,oo 4 (.bin .geq (tm 3) (.const (Ui 97))),mv 5 4,mT 6 0 5,oT 7 5 (.bin .leq (tm 6) (.const (Ui 122))),oo 8 (.pick (tm 5) (tm 7) kF),mv 2 8] .ret))
theorem Np:(Tryz.f208.body.bind (bt Tryz.prog 9 []))=some L5:=by kernel_rfl
def L6:aV:=(sr [oo 2 (.mov kF)] (sr [oo 5 (.call 211 []),mv 3 5] (.seq (sr [oo 4 (.mov (Kc 0))] (.block 0 (.loop (.seq (sr [mv 6 4,mv 7 3,ln 8 7,oo 9 (.bin .lss (tm 6) (tm 8))] (.cond (tm 9) .skip (.exit 0))) (.seq (.block 1 (sr [mv 12 3,mv 13 4,ix 14 1 12 13,ld 15 14,mv 16 0,oo 17 (.bin .eql (tm 15) (tm 16))] (.cond (tm 17) (sr [oo 2 (.mov kT)] .ret) .skip))) (rg [mv 10 4,oo 11 (.bin .add (tm 10) (Kc 1)),mv 4 11])))))) (sr [oo 2 (.mov kF)] .ret))))
theorem Nq:(Tryz.f209.body.bind (bt Tryz.prog 18 []))=some L6:=by kernel_rfl
def L7:aV:=(sr [oo 2 (.mov (Kc 0))] (sr [oo 3 (.mov (Kc 0))] (.seq (.block 0 (.loop (.seq (sr [mv 5 3,mv 6 0,oo 7 (.lenS (tm 6)),oo 8 (.bin .lss (tm 5) (tm 7))] (.cond (tm 8) .skip (.exit 0))) (.block 1 (sr [mv 9 0,mv 10 3,oo 11 (.idxS (tm 9) (tm 10)),oo 12 (.call 212 [tm 11]),mv 4 12] (.seq (sr [mv 13 4,oo 14 (.not (tm 13))] (.cond (tm 14) (.exit 0) .skip)) (rg [mv 15 3,oo 16 (.bin .add (tm 15) (Kc 1)),mv 3 16]))))))) (sr [mv 17 3,mv 2 17] .ret))))
theorem Nr:(Tryz.f210.body.bind (bt Tryz.prog 18 []))=some L7:=by kernel_rfl
def L8:aV:=(sr [oo 0 (.mov (.const .nil))] (sr [⟨some 1,.buildS 9 1 49 [S0] [(0,(.const (.str ⟨#[97,110,100]⟩))),(1,(.const (.str ⟨#[97,110,121]⟩))),(2,(.const (.str ⟨#[97,116]⟩))),(3,(.const (.str ⟨#[98,97,99,107]⟩))),(4,(.const (.str ⟨#[98,111,120]⟩))),(5,(.const (.str ⟨#[98,117,114,115,116]⟩))),(6,(.const (.str ⟨#[98,121]⟩))),(7,(.const (.str ⟨#[99,97,112,97,99,105,116,121]⟩))),(8,(.const (.str ⟨#[99,101,105,108,105,110,103]⟩))),(9,(.const (.str ⟨#[99,104,101,99,107]⟩))),(10,(.const (.str ⟨#[99,111,110,116,114,97,99,116]⟩))),(11,(.const (.str ⟨#[99,111,117,110,116]⟩))),(12,(.const (.str ⟨#[100,101,109,97,110,100]⟩))),(13,(.const (.str ⟨#[100,114,111,112]⟩))),(14,(.const (.str ⟨#[101,97,99,104]⟩))),(15,(.const (.str ⟨#[101,100,103,101]⟩))),(16,(.const (.str ⟨#[101,110,116,114,105,101,115]⟩))),(17,(.const (.str ⟨#[102,97,108,115,101]⟩))),(18,(.const (.str ⟨#[102,105,101,108,100]⟩))),(19,(.const (.str ⟨#[102,108,111,111,114]⟩))),(20,(.const (.str ⟨#[102,114,111,109]⟩))),(21,(.const (.str ⟨#[105,100]⟩))),(22,(.const (.str ⟨#[105,110]⟩))),(23,(.const (.str ⟨#[105,110,110,101,114]⟩))),(24,(.const (.str ⟨#[105,110,116,111]⟩))),(25,(.const (.str ⟨#[108,105,110,107]⟩))),(26,(.const (.str ⟨#[110,101,116,119,111,114,107]⟩))),(27,(.const (.str ⟨#[110,111,100,101]⟩))),(28,(.const (.str ⟨#[110,111,116]⟩))),(29,(.const (.str ⟨#[111,112,101,110]⟩))),(30,(.const (.str ⟨#[111,114]⟩))),(31,(.const (.str ⟨#[112,97,116,104]⟩))),(32,(.const (.str ⟨#[112,111,114,116]⟩))),(33,(.const (.str ⟨#[112,114,105,99,101]⟩))),(34,(.const (.str ⟨#[114,111,117,116,101]⟩))),(35,(.const (.str ⟨#[114,117,108,101,115]⟩))),(36,(.const (.str ⟨#[115,116,97,103,101]⟩))),(37,(.const (.str ⟨#[116,97,107,101]⟩))),(38,(.const (.str ⟨#[116,101,110,97,110,116]⟩))),(39,(.const (.str ⟨#[116,104,101,110]⟩))),(40,(.const (.str ⟨#[116,105,109,101]⟩))),(41,(.const (.str ⟨#[116,111]⟩))),(42,(.const (.str ⟨#[116,111,107,101,110]⟩))),(43,(.const (.str ⟨#[116,114,97,110,115,108,97,116,101]⟩))),(44,(.const (.str ⟨#[116,114,117,101]⟩))),(45,(.const (.str ⟨#[118,105,97]⟩))),(46,(.const (.str ⟨#[119,105,100,116,104]⟩))),(47,(.const (.str ⟨#[119,105,114,101]⟩))),(48,(.const (.str ⟨#[119,105,116,104,105,110]⟩)))],none,[]⟩,mv 0 1] .ret))
theorem Ns:(Tryz.f211.body.bind (bt Tryz.prog 2 []))=some L8:=by kernel_rfl
def L9:aV:=(sr [oo 2 (.mov kF)] (sr [mv 5 0,oo 6 (.call 208 [tm 5]),mv 3 6] (sr [mv 7 0,oo 8 (.call 213 [tm 7]),mv 4 8] (sr [mv 9 3,mv 10 9,mF 11 4 10,oo 12 (.pick (tm 10) kT (tm 11)),mv 13 12,mF 14 0 13,oF 15 13 (.bin .eql (tm 14) (.const (Ui 95))),oo 16 (.pick (tm 13) kT (tm 15)),mv 2 16] .ret))))
theorem Nt:(Tryz.f212.body.bind (bt Tryz.prog 17 []))=some L9:=by kernel_rfl
def Ma:aV:=(sr [oo 2 (.mov kF)] (sr [mv 3 0,oo 4 (.bin .geq (tm 3) (.const (Ui 48))),mv 5 4,mT 6 0 5,oT 7 5 (.bin .leq (tm 6) (.const (Ui 57))),oo 8 (.pick (tm 5) (tm 7) kF),mv 2 8] .ret))
theorem Nu:(Tryz.f213.body.bind (bt Tryz.prog 9 []))=some Ma:=by kernel_rfl
end Go.MM
end
section
namespace Go.MM
open Go Go.DL
instance : Glb := ⟨fun _ => none⟩
end Go.MM
end
section
namespace Go.MM
open Go Go.DL Go.Proofs
theorem mixed:Tryz.prog.follows .mixedOrders=true:=by kernel_rfl
abbrev I(n:Int):T:=.int .i64 n
def hd(h:List Int):T:=.agg (h.map I)
theorem getD_map{α β:Type}(f:α->β)(l:List α)(i:Nat)(d:β)(h:i<l.length):(l.map f)[i]?.getD d=f l[i]:=by simp [h]
def vS(h:List Int):Bool:=h.all fun x=>decide (0<=x)&&decide (x<=65535)
theorem t11(h:List Int)(l:h.length=10):DCalls Tryz.prog 15 [hd h] (.bool (vS h)):=by
 refine dl2 mixed [.tmp 2] [.bool (vS h)] Tryz.func15 l15 ?_;refine And.intro (by simp [l]) ?_;refine tT (α:=Nat) (fun i=>{sl:=[(1,.ptr 1 0),(3,.t (I i))],bx:=[(1,.d 10 (h.map I))]}) (fun i=>i<=10/\vS (h.drop i)=vS h) (fun i=>10 - i) 0 (by simp) ?_ ?_
 ·exact ⟨⟨.same _,.same _,trivial⟩,⟨.same _,trivial⟩,trivial,rfl,fun _ _ _=>trivial,rfl⟩
 rintro i ⟨m,a⟩;refine ue trivial (fun j=>?_) (fun j=>?_)
 ·have g:i<10:=by simp at j;omega
  have f:i<h.length:=by omega
  have a:(decide (0<=h[i])&&decide (h[i]<=65535)&&vS (h.drop (i+1)))=vS h:=by
   rw [<- a,List.drop_eq_getElem_cons f];rfl
  refine And.intro (by omega) ?_;refine uh (I h[i]) (by simp;omega) (by simp [f]) ?_;refine ue trivial (fun e=>?_) (fun e=>?_)
  ·have e:h[i]<0:=by simpa using e
   rw [<- a,decide_eq_false (by omega)];exact ⟨rfl,trivial⟩
  have e: ¬h[i]<0:=by simpa using e
  refine And.intro (by omega) ?_;refine uh (I h[i]) (by simp;omega) (by simp [f]) ?_;refine ue trivial (fun b=>?_) (fun b=>?_)
  ·have b:h[i]>65535:=by simpa using b
   rw [<- a,decide_eq_false (p:=h[i]<=65535) (by omega),Bool.and_false,Bool.false_and];exact ⟨rfl,trivial⟩
  have b: ¬h[i]>65535:=by simpa using b
  refine ⟨i+1,⟨g,?_⟩,by omega,?_⟩
  ·rw [<- a,decide_eq_true (by omega),decide_eq_true (by omega)];rfl
  ·exact ⟨⟨.same _,leI (by rw [nW] <;> omega),trivial⟩,⟨.same _,trivial⟩,trivial,rfl,fun _ _ _=>trivial,rfl⟩
 ·have k:10<=i:=by simp at j;omega
  rw [List.drop_eq_nil_of_le (by omega)] at a;rw [<- a];exact ⟨rfl,trivial⟩
abbrev Kj:List T:=[I 0,I 0,I 0,I 0,I 0,I 0,I 0,I 0,I 0,I 0]
theorem yi{n:Nat}(h:n<2^63):IntKind.wrap .i64 (n:Int)=n:=nW (by omega) (by omega)
theorem xJ(x:Nat):BitVec.ofInt 64 (x:Int)=BitVec.ofNat 64 x:=by simp
theorem Ig{x y:Nat}(a:x<2^63)(b:y<2^63):iV .and .i64 x y=((x &&& y:Nat):Int):=by
 show IntKind.wrap .i64 (((BitVec.ofInt 64 (x:Int) &&& BitVec.ofInt 64 (y:Int)).toNat:Nat):Int)=_
 rw [xJ,xJ];rw [BitVec.toNat_and,BitVec.toNat_ofNat,BitVec.toNat_ofNat,Nat.mod_eq_of_lt (by omega),Nat.mod_eq_of_lt (by omega)];exact yi (Nat.lt_of_le_of_lt Nat.and_le_left a)
theorem Jp{x y:Nat}(a:x<2^63)(b:y<2^63):iV .or .i64 x y=((x ||| y:Nat):Int):=by
 show IntKind.wrap .i64 (((BitVec.ofInt 64 (x:Int) ||| BitVec.ofInt 64 (y:Int)).toNat:Nat):Int)=_
 rw [xJ,xJ];rw [BitVec.toNat_or,BitVec.toNat_ofNat,BitVec.toNat_ofNat,Nat.mod_eq_of_lt (by omega),Nat.mod_eq_of_lt (by omega)];exact yi (Nat.or_lt_two_pow a b)
def clr(x y:Nat):Nat:=x ^^^ (x &&& y)
theorem Ey(x y j:Nat):(clr x y).testBit j=(x.testBit j&& !y.testBit j):=by
 unfold clr;rw [Nat.testBit_xor,Nat.testBit_and];cases x.testBit j <;> cases y.testBit j <;> rfl
theorem EY{x y:Nat}(a:x<2^63)(_:y<2^63):iV .andNot .i64 x y=((clr x y:Nat):Int):=by
 show IntKind.wrap .i64 (((BitVec.ofInt 64 (x:Int) &&& ~~~BitVec.ofInt 64 (y:Int)).toNat:Nat):Int)=_
 rw [xJ,xJ];have e:(BitVec.ofNat 64 x &&& ~~~BitVec.ofNat 64 y).toNat=clr x y:=by
  refine Nat.eq_of_testBit_eq fun j=>?_
  rw [Ey,BitVec.testBit_toNat,BitVec.getLsbD_and,BitVec.getLsbD_not,BitVec.getLsbD_ofNat,BitVec.getLsbD_ofNat]
  by_cases b:j<64
  ·simp [b]
  ·have:x.testBit j=false:=Nat.testBit_lt_two_pow (Nat.lt_of_lt_of_le a (Nat.pow_le_pow_right (by decide) (by omega)))
   simp [b,this]
 rw [e]
 have:clr x y<2^63:=Nat.xor_lt_two_pow a (Nat.lt_of_le_of_lt Nat.and_le_left a)
 exact yi this
def AQ(x s w:Nat):Nat:=(x / 2^s) % 2^w
def zd(x s w n:Nat):Nat:=(x / 2^(s+w)) * 2^(s+w)+n * 2^s+x % 2^s
theorem Jc(x s w:Nat):x=(x / 2^(s+w)) * 2^(s+w)+AQ x s w * 2^s+x % 2^s:=by
 unfold AQ;have b:=Nat.div_add_mod x (2^s);have a:=Nat.div_add_mod (x / 2^s) (2^w);rw [Nat.div_div_eq_div_mul, <-Nat.pow_add] at a;have d:x / 2^(s+w) * 2^(s+w)=2^s * (2^w * (x / 2^(s+w))):=by
  rw [Nat.pow_add];rw [Nat.mul_comm,Nat.mul_assoc]
 rw [d,Nat.mul_comm (x / 2^s % 2^w)];rw [<- Nat.mul_add,a];exact b.symm
theorem D0{x s w n:Nat}(e:n<2^w)(j:Nat):(zd x s w n).testBit j=if j<s then x.testBit j else if j<s+w then n.testBit (j - s) else x.testBit j:=by
 have d:x % 2^s<2^s:=Nat.mod_lt _ (Nat.two_pow_pos _);have f:n * 2^s+x % 2^s<2^(s+w):=by
  rw [Nat.pow_add,Nat.mul_comm (2^s)]
  calc n * 2^s+x % 2^s<n * 2^s+2^s:=by omega
   _=(n+1) * 2^s:=by rw [Nat.add_mul,Nat.one_mul]
   _<=2^w * 2^s:=Nat.mul_le_mul_right _ e
 unfold zd;rw [Nat.add_assoc,Nat.mul_comm (x / 2^(s+w)),Nat.testBit_two_pow_mul_add _ f]
 by_cases b:j<s+w
 ·rw [if_pos b,Nat.mul_comm n,Nat.testBit_two_pow_mul_add _ d]
  by_cases a:j<s
  ·rw [if_pos a,if_pos a,Nat.testBit_mod_two_pow];simp [a]
  ·rw [if_neg a,if_neg a,if_pos b]
 ·rw [if_neg b,if_neg (by omega),if_neg b,Nat.testBit_div_two_pow]
  congr 1;omega
structure Fd where
 name:ByteArray
 a:Nat
 w:Nat
deriving Inhabited
def fd(f:Fd):T:=.agg [.str f.name,I f.a,I f.w]
structure FOk (f:Fd):Prop where
 a:f.a<160
 w1:1<=f.w
 w2:f.a % 16+f.w<=16
def Fd.s(f:Fd):Nat:=16 - f.a % 16 - f.w
def Fd.i(f:Fd):Nat:=f.a / 16
theorem FOk.i{f:Fd}(h:FOk f):f.i<10:=by have:=h.a;unfold Fd.i;omega
theorem FOk.sw{f:Fd}(h:FOk f):f.s+f.w<=16:=by have:=h.w2;unfold Fd.s;omega
structure HOk (h:List Int):Prop where
 len:h.length=10
 right:vS h=true
def wd(h:List Int)(i:Nat):Nat:=(h[i]?.getD 0).toNat
theorem HOk.wd{h:List Int}(a:HOk h)(i:Nat):MM.wd h i<65536:=by
 unfold MM.wd;cases b:h[i]? with
 |none=>simp
 |some x=>
  have:=a.right
  unfold vS at this;rw [List.all_eq_true] at this
  have:=this x (List.mem_of_getElem? b)
  simp at this ⊢;omega
theorem HOk.get{h:List Int}(a:HOk h){i:Nat}(b:i<10):h[i]'(by rw [a.len];exact b)=(MM.wd h i:Int):=by
 have d:i<h.length:=by rw [a.len];exact b
 unfold MM.wd
 have:=a.right
 unfold vS at this;rw [List.all_eq_true] at this
 have:=this h[i] (List.getElem_mem _)
 simp at this;simp [d];omega
def vk(f:Fd)(h:List Int):Nat:=AQ (wd h f.i) f.s f.w
def yA(f:Fd)(h:List Int)(n:Nat):List Int:=h.set f.i (zd (wd h f.i) f.s f.w n:Nat)
theorem EE(f:Fd)(h:List Int):vk f h<2^f.w:=Nat.mod_lt _ (Nat.two_pow_pos _)
theorem t87(n:Nat)(g:n<=60):DCalls Tryz.prog 70 [I n] (I (2^n:Nat)):=by
 refine dl2 mixed [.tmp 2] [I (2^n:Nat)] Tryz.func70 l70 ?_;refine tT (α:=Nat) (fun i=>{sl:=[(0,.t (I n)),(3,.t (I (2^i:Nat))),(4,.t (I i))],bx:=[]}) (fun i=>i<=n) (fun i=>n - i) 0 (by simp) ?_ ?_
 ·exact ⟨⟨.same _,.same _,.same _,trivial⟩,trivial,trivial,rfl,fun _ _ _=>trivial,rfl⟩
 rintro i f;refine ue trivial (fun a=>?_) (fun a=>?_)
 ·have b:i<n:=by simpa using a
  refine ⟨i+1,b,by omega,?_⟩;have d:(2:Nat)^(i+1)<=2^60:=Nat.pow_le_pow_right (by decide) (by omega);refine ⟨⟨.same _,leI ?_,leI (by rw [nW] <;> omega),trivial⟩,trivial,trivial,rfl,fun _ _ _=>trivial,rfl⟩;have e:((2^i:Nat):Int) * 2=((2^(i+1):Nat):Int):=by rw [Nat.pow_succ];push_cast;rfl
  rw [e,yi (by omega)]
 ·have b:i=n:=by simp at a;omega
  subst b;exact ⟨rfl,trivial⟩
theorem Ed{f:Fd}(h:FOk f):IntKind.wrap .i64 (IntKind.wrap .i64 (16 - ((f.a:Int).tmod 16)) - (f.w:Int))=(f.s:Int):=by
 have b:(f.a:Int).tmod 16=((f.a % 16:Nat):Int):=by rw [Int.tmod_eq_emod_of_nonneg (by omega)];omega
 have:=h.w2
 rw [b,nW (n:=16 - ((f.a % 16:Nat):Int)) (by omega) (by omega),nW (by omega) (by omega)];unfold Fd.s;omega
theorem vr{f:Fd}(h:FOk f):IntKind.wrap .i64 ((f.a:Int).tdiv 16)=(f.i:Int):=by
 have b:(f.a:Int).tdiv 16=((f.a / 16:Nat):Int):=by rw [Int.tdiv_eq_ediv_of_nonneg (by omega)];omega
 have:=h.a
 rw [b,yi (by omega)];rfl
theorem t84(f:Fd)(h:FOk f):DCalls Tryz.prog 69 [fd f] (I (2^f.s:Nat)):=by
 refine dl2 mixed [.tmp 2] [I (2^f.s:Nat)] Tryz.func69 l69 ?_;refine And.intro rfl ?_;refine uh (I f.a) (by decide) rfl ?_;refine And.intro (by decide) ?_;refine uh (I f.w) (by decide) rfl ?_
 have:=t87 f.s (by unfold Fd.s;omega)
 rw [<- Ed h] at this;refine uc _ this ?_;exact ⟨rfl,trivial⟩
theorem t99(f:Fd)(h:FOk f):DCalls Tryz.prog 145 [fd f] (I f.s):=by
 refine dl2 mixed [.tmp 2] [I f.s] Tryz.func145 MZ ?_;refine And.intro rfl ?_;refine uh (I f.a) (by decide) rfl ?_;refine And.intro (by decide) ?_;refine uh (I f.w) (by decide) rfl ?_;exact ⟨congrArg (fun n=>some (I n)) (Ed h),trivial⟩
theorem Bp{w:Nat}(h:w<=16):2^w<=65536:=Nat.pow_le_pow_right (by decide) h
theorem t66(f:Fd)(h:FOk f):DCalls Tryz.prog 111 [fd f] (I (2^f.w - 1:Nat)):=by
 refine dl2 mixed [.tmp 2] [I (2^f.w - 1:Nat)] Tryz.func111 MD ?_;have a:f.w<=16:=by have:=h.w2;omega
 have b:=Nat.two_pow_pos f.w;refine And.intro rfl ?_;refine uh (I f.w) (by decide) rfl ?_;refine uc _ (t87 f.w (by omega)) ?_;exact ⟨congrArg (fun n=>some (I n)) (by have:=Bp a;rw [nW] <;> omega),trivial⟩
theorem t97(f:Fd)(h:FOk f):DCalls Tryz.prog 141 [fd f] (I (2^f.w - 1:Nat)):=by
 refine dl2 mixed [.tmp 2] [I (2^f.w - 1:Nat)] Tryz.func141 MV ?_;have a:f.w<=16:=by have:=h.w2;omega
 have b:=Nat.two_pow_pos f.w
 have:=Bp a
 refine And.intro rfl ?_;refine uh (I f.w) (by decide) rfl ?_;refine And.intro (by omega) ?_;refine ⟨congrArg (fun n=>some (I n)) ?_,trivial⟩;have e:(1:Int) * 2^(min (f.w:Int).toNat (IntKind.bits .i64))=((2^f.w:Nat):Int):=by
  have:min (f.w:Int).toNat (IntKind.bits .i64)=f.w:=by show min _ 64=_;simp;omega
  rw [this];push_cast;rw [Int.one_mul]
 rw [e,yi (by omega),nW] <;> omega
theorem t57(f:Fd)(b:FOk f)(h:List Int)(d:HOk h):DCalls Tryz.prog 18 [fd f,hd h] (I (vk f h)):=by
 refine dl2 mixed [.tmp 4] [I (vk f h)] Tryz.func18 l18 ?_;have g:=b.i;have l:f.w<=16:=by have:=b.w2;omega
 have o:=d.wd f.i;have e:f.i<h.length:=by rw [d.len];exact g
 refine And.intro rfl ?_;refine And.intro (by simp [d.len]) ?_;refine uh (I f.a) (by decide) rfl ?_;refine And.intro (by decide) ?_;refine And.intro (show 0<=IntKind.wrap .i64 _/\_ by rw [vr b];omega) ?_;refine uh (I (wd h f.i)) (show 0+(IntKind.wrap .i64 _).toNat * 1<10 by rw [vr b];simp;omega) (show (h.map I)[0+(IntKind.wrap .i64 _).toNat * 1]?.getD .nil=_ by
  rw [vr b,Int.toNat_natCast,Nat.zero_add,Nat.mul_one,getD_map I h f.i .nil e,d.get g]) ?_
 refine uc _ (t84 f b) ?_;have p:=Nat.two_pow_pos f.s;refine And.intro (by omega) ?_;refine uh (I f.w) (by decide) rfl ?_;refine uc _ (t87 f.w (by omega)) ?_;have m:=Nat.two_pow_pos f.w;refine And.intro (by omega) ?_;refine ⟨congrArg (fun n=>some (I n)) ?_,trivial⟩;have k:(wd h f.i:Int).tdiv ((2^f.s:Nat):Int)=((wd h f.i / 2^f.s:Nat):Int):=by
  rw [Int.tdiv_eq_ediv_of_nonneg (by omega)];simp
 have j:wd h f.i / 2^f.s<=wd h f.i:=Nat.div_le_self _ _;rw [k,yi (Nat.lt_of_le_of_lt j (by omega)),Int.tmod_eq_emod_of_nonneg (Int.natCast_nonneg _)];unfold vk AQ;simp
theorem G0(x s:Nat)(a:s<=64):((x:Int)).fdiv (2^(min (s:Int).toNat (IntKind.bits .i64)))=((x / 2^s:Nat):Int):=by
 have:min (s:Int).toNat (IntKind.bits .i64)=s:=by show min _ 64=_;simp;omega
 rw [this,Int.fdiv_eq_ediv_of_nonneg _ (by exact_mod_cast Nat.zero_le _)]
 push_cast;rfl
theorem EJ(x s:Nat)(a:s<=64):(x:Int) * 2^(min (s:Int).toNat (IntKind.bits .i64))=((x * 2^s:Nat):Int):=by
 have:min (s:Int).toNat (IntKind.bits .i64)=s:=by show min _ 64=_;simp;omega
 rw [this];push_cast;rfl
theorem t78(f:Fd)(b:FOk f)(h:List Int)(d:HOk h):DCalls Tryz.prog 108 [fd f,hd h] (I (vk f h)):=by
 refine dl2 mixed [.tmp 4] [I (vk f h)] Tryz.func108 MA ?_;have g:=b.i;have j:f.w<=16:=by have:=b.w2;omega
 have k:=b.sw;have m:=d.wd f.i;have e:f.i<h.length:=by rw [d.len];exact g
 refine And.intro rfl ?_;refine And.intro (by simp [d.len]) ?_;refine uh (I f.a) (by decide) rfl ?_;refine And.intro (by decide) ?_;refine And.intro (show 0<=IntKind.wrap .i64 _/\_ by rw [vr b];omega) ?_;refine uh (I (wd h f.i)) (show 0+(IntKind.wrap .i64 _).toNat * 1<10 by rw [vr b];simp;omega) (show (h.map I)[0+(IntKind.wrap .i64 _).toNat * 1]?.getD .nil=_ by
  rw [vr b,Int.toNat_natCast,Nat.zero_add,Nat.mul_one,getD_map I h f.i .nil e,d.get g]) ?_
 refine uc _ (t99 f b) ?_;refine And.intro (by omega) ?_;refine uc _ (t97 f b) ?_;refine ⟨congrArg (fun n=>some (I n)) ?_,trivial⟩;have l:wd h f.i / 2^f.s<=wd h f.i:=Nat.div_le_self _ _;have o:=Bp j;rw [G0 _ _ (by omega),Ig (Nat.lt_of_le_of_lt l (by omega)) (by omega),Nat.and_two_pow_sub_one_eq_mod];rfl
theorem Gu{x s w n:Nat}(e:n<2^w):clr x ((2^w - 1) * 2^s) ||| (n * 2^s)=zd x s w n:=by
 refine Nat.eq_of_testBit_eq fun j=>?_
 rw [Nat.testBit_or,Ey,D0 e,Nat.testBit_mul_two_pow,Nat.testBit_mul_two_pow,Nat.testBit_two_pow_sub_one]
 by_cases b:j<s
 ·rw [if_pos b]
  have: ¬s<=j:=by omega
  simp [this]
 ·rw [if_neg b];have f:s<=j:=by omega
  by_cases d:j<s+w
  ·rw [if_pos d];have a:j - s<w:=by omega
   simp [f,a]
  ·rw [if_neg d];have a: ¬j - s<w:=by omega
   have g:n.testBit (j - s)=false:=Nat.testBit_lt_two_pow (Nat.lt_of_lt_of_le e (Nat.pow_le_pow_right (by decide) (by omega)));simp [a,g]
theorem EL{x s w n:Nat}(d:x<65536)(a:s+w<=16)(e:n<2^w):zd x s w n<65536:=by
 refine Nat.lt_pow_two_of_testBit (n:=16) _ fun j b=>?_
 rw [D0 e,if_neg (by omega),if_neg (by omega)];exact Nat.testBit_lt_two_pow (Nat.lt_of_lt_of_le d (Nat.pow_le_pow_right (by decide) b:2^16<=2^j))
theorem map_set(h:List Int)(i:Nat)(n:Int):(h.map I).set i (I n)=(h.set i n).map I:=by rw [List.map_set]
theorem t98(f:Fd)(b:FOk f)(h:List Int)(d:HOk h)(n:Nat)(o:n<2^f.w):DCalls Tryz.prog 140 [fd f,hd h,I n] (hd (yA f h n)):=by
 refine dl2 mixed [.cell 6 27] [hd (yA f h n)] Tryz.func140 MU ?_;have j:=b.i;have k:f.w<=16:=by have:=b.w2;omega
 have l:=b.sw;have q:=d.wd f.i;have g:f.i<h.length:=by rw [d.len];exact j
 have r:=Bp k;have e:2^f.s<=2^16:=Nat.pow_le_pow_right (by decide) (by omega);have t:(2^f.w - 1) * 2^f.s<=65536 * 65536:=Nat.mul_le_mul (by omega) e;have p:n * 2^f.s<=65536 * 65536:=Nat.mul_le_mul (by omega) e;refine And.intro rfl ?_;refine And.intro (by simp [d.len]) ?_;refine uh (I f.a) (by decide) rfl ?_;refine And.intro (by decide) ?_;refine And.intro (show 0<=IntKind.wrap .i64 _/\_ by rw [vr b];omega) ?_;refine uh (I (wd h f.i)) (show 0+(IntKind.wrap .i64 _).toNat * 1<10 by rw [vr b];simp;omega) (show (h.map I)[0+(IntKind.wrap .i64 _).toNat * 1]?.getD .nil=_ by
  rw [vr b,Int.toNat_natCast,Nat.zero_add,Nat.mul_one,getD_map I h f.i .nil g,d.get j]) ?_
 refine uc _ (t97 f b) ?_;refine uc _ (t99 f b) ?_;refine And.intro (by omega) ?_;refine uc _ (t99 f b) ?_;refine And.intro (by omega) ?_;have m:iV .or .i64 (iV .andNot .i64 (wd h f.i) (IntKind.wrap .i64 (((2^f.w - 1:Nat):Int) * 2^(min (f.s:Int).toNat (IntKind.bits .i64))))) (IntKind.wrap .i64 ((n:Int) * 2^(min (f.s:Int).toNat (IntKind.bits .i64))))=(zd (wd h f.i) f.s f.w n:Nat):=by
  rw [EJ _ _ (by omega),EJ _ _ (by omega),yi (by omega),yi (by omega),EY (by omega) (by omega),Jp ?_ (by omega),Gu o];exact Nat.xor_lt_two_pow (by omega) (Nat.lt_of_le_of_lt Nat.and_le_left (by omega))
 refine And.intro (show 0+(IntKind.wrap .i64 _).toNat * 1<10 by rw [vr b];simp;omega) ?_;refine And.intro ⟨by simp [d.len],by decide⟩ ?_;refine ⟨?_,trivial⟩;refine congrArg some ?_;show T.agg (aN Kj 0 10 ((h.map I).set (0+(IntKind.wrap .i64 _).toNat * 1) (I (iV _ _ _ _))))=_
 rw [m,vr b,Int.toNat_natCast,Nat.zero_add,Nat.mul_one,map_set];simp [aN,hd,yA]
theorem Hq{x s w n:Nat}:(x:Int)+((n:Int) - (AQ x s w:Int)) * ((2^s:Nat):Int)=(zd x s w n:Nat):=by
 have h:=Jc x s w;unfold zd;generalize x / 2^(s+w) * 2^(s+w)=A at *
 generalize x % 2^s=B at *
 have a:(x:Int)=(A:Int)+(AQ x s w:Int) * ((2^s:Nat):Int)+(B:Int):=by exact_mod_cast h
 generalize AQ x s w=v at *
 generalize 2^s=P at *
 rw [a,Int.sub_mul]
 push_cast
 omega
theorem t52(f:Fd)(b:FOk f)(h:List Int)(d:HOk h)(n:Nat)(r:n<2^f.w):DCalls Tryz.prog 19 [fd f,hd h,I n] (hd (yA f h n)):=by
 refine dl2 mixed [.cell 6 27] [hd (yA f h n)] Tryz.func19 l19 ?_;have j:=b.i;have o:f.w<=16:=by have:=b.w2;omega
 have g:=b.sw;have m:=d.wd f.i;have e:f.i<h.length:=by rw [d.len];exact j
 have y:=Bp o;have z:=EE f h;have u:=EL m g r;have k:2^f.s<=65536:=Bp (w:=f.s) (by omega);have q:=Nat.two_pow_pos f.s;refine And.intro rfl ?_;refine And.intro (by simp [d.len]) ?_;refine uc _ (t57 f b h d) ?_;refine uh (I f.a) (by decide) rfl ?_;refine And.intro (by decide) ?_;refine uh (I f.a) (by decide) rfl ?_;refine And.intro (by decide) ?_;refine And.intro (show 0<=IntKind.wrap .i64 _/\_ by rw [vr b];omega) ?_;refine uh (I (wd h f.i)) (show 0+(IntKind.wrap .i64 _).toNat * 1<10 by rw [vr b];simp;omega) (show (h.map I)[0+(IntKind.wrap .i64 _).toNat * 1]?.getD .nil=_ by
  rw [vr b,Int.toNat_natCast,Nat.zero_add,Nat.mul_one,getD_map I h f.i .nil e,d.get j]) ?_
 refine uc _ (t84 f b) ?_;have t:IntKind.wrap .i64 ((wd h f.i:Int)+IntKind.wrap .i64 (IntKind.wrap .i64 ((n:Int) - (vk f h:Int)) * ((2^f.s:Nat):Int)))=((zd (wd h f.i) f.s f.w n:Nat):Int):=by
  have l:IntKind.wrap .i64 ((n:Int) - (vk f h:Int))=(n:Int) - (vk f h:Int):=nW (by omega) (by omega);have v:=Hq (x:=wd h f.i) (s:=f.s) (w:=f.w) (n:=n);rw [l];have p:((n:Int) - (vk f h:Int)) * ((2^f.s:Nat):Int)=((zd (wd h f.i) f.s f.w n:Nat):Int) - (wd h f.i:Int):=by
   show ((n:Int) - (AQ (wd h f.i) f.s f.w:Int)) * _=_
   omega
  rw [p,nW (n:=((zd (wd h f.i) f.s f.w n:Nat):Int) - (wd h f.i:Int)) (by omega) (by omega),nW (by omega) (by omega)];omega
 refine And.intro (show 0<=IntKind.wrap .i64 _/\_ by rw [vr b];omega) ?_;refine And.intro (show 0+(IntKind.wrap .i64 _).toNat * 1<10 by rw [vr b];simp;omega) ?_;refine And.intro ⟨by simp [d.len],by decide⟩ ?_;refine ⟨congrArg some ?_,trivial⟩;show T.agg (aN Kj 0 10 ((h.map I).set (0+(IntKind.wrap .i64 _).toNat * 1) (I (IntKind.wrap .i64 _))))=_
 rw [t,vr b,Int.toNat_natCast,Nat.zero_add,Nat.mul_one,map_set];simp [aN,hd,yA]
theorem Hx(f:Fd)(h:List Int)(n:Nat):(yA f h n).length=h.length:=by simp [yA]
def wF:ByteArray:=⟨#[112,111,114,116]⟩
def Bn:Fd:=⟨wF,0,16⟩
def Dm:Fd:=⟨⟨#[]⟩,0,0⟩
def uq(a b:ByteArray):Bool:=a.data.toList==b.data.toList
theorem uL(a b:ByteArray):(a.toList==b.toList)=uq a b:=by unfold uq;rw [ByteArray.toList_eq,ByteArray.toList_eq]
def fds(l:List Fd):T:=.slice 3 (l.map fd)
def findF(l:List Fd)(s:ByteArray):Option Fd:=if uq s wF then some Bn else l.find? fun f=>uq f.name s
def yC(l:List Fd)(s:ByteArray):T:=match findF l s with
 |some f=>.tup [fd f,.bool true]
 |none=>.tup [fd Dm,.bool false]
theorem t94:DCalls Tryz.prog 142 [] (fd Bn):=by
 refine dl2 mixed [.cell 0 54] [fd Bn] Tryz.func142 MW ?_;refine And.intro trivial ?_;refine And.intro ⟨rfl,by decide⟩ ?_;exact ⟨rfl,trivial⟩
theorem t83:DCalls Tryz.prog 68 [] (fd Bn):=by
 refine dl2 mixed [.cell 0 54] [fd Bn] Tryz.func68 l68 ?_;refine And.intro trivial ?_;refine And.intro ⟨rfl,by decide⟩ ?_;exact ⟨rfl,trivial⟩
theorem t96(f:Fd)(s:ByteArray):DCalls Tryz.prog 144 [fd f,.cptr [.str s] 0] (.bool (uq f.name s)):=by
 refine dl2 mixed [.tmp 3] [.bool (uq f.name s)] Tryz.func144 MY ?_;refine And.intro rfl ?_;refine uh (.str f.name) (by decide) rfl ?_;refine uh (.str s) (Nat.lt_succ_self 0) rfl ?_;refine uf (uq f.name s) trivial (uL _ _) ?_;exact ⟨rfl,trivial⟩
def xG(l:List Fd)(s:ByteArray):Int:=match l.findIdx? fun f=>uq f.name s with
 |some i=>i
 |none=> -1
theorem t95(l:List Fd)(s:ByteArray)(r:l.length<2^60):DCalls Tryz.prog 143 [fds l,.clos 144 [.cptr [.str s] 0]] (I (xG l s)):=by
 refine dl2 mixed [.tmp 4] [I (xG l s)] Tryz.func143 MX ?_;refine tT (α:=Nat) (fun i=>{sl:=[(0,.t (fds l)),(1,.t (.clos 144 [.cptr [.str s] 0])),(7,.t (I l.length)),(8,.t (I i))],bx:=[]}) (fun i=>i<=l.length/\ ∀j (h:j<l.length),j<i->uq l[j].name s=false) (fun i=>l.length - i) 0 (by simp) ?_ ?_
 ·exact ⟨⟨.same _,.same _,leI (by simp),.same _,trivial⟩,trivial,trivial,rfl,fun _ _ _=>trivial,rfl⟩
 rintro i ⟨q,e⟩;refine ue trivial (fun d=>?_) (fun d=>?_)
 ·have b:i<l.length:=by simpa using d
  refine uh (fd l[i]) (by simpa using b) (by simp [b]) ?_;refine uh (fd l[i]) rfl rfl ?_;refine uc _ (t96 l[i] s) ?_;cases g:uq l[i].name s with
  |true=>
   have:xG l s=i:=by
    unfold xG;rw [List.findIdx?_eq_some_iff_getElem.2 ⟨b,g,fun j a=>by simp [e j (by omega) a]⟩]
   exact ⟨congrArg (fun n=>some (I n)) this.symm,trivial⟩
  |false=>
   refine ⟨i+1,⟨b,fun j a p=>?_⟩,by omega,?_⟩
   ·rcases Nat.lt_or_ge j i with k|k
    ·exact e j a k
    ·obtain rfl:j=i:=by omega
     exact g
   ·exact ⟨⟨.same _,.same _,.same _,leI (by rw [nW] <;> omega),trivial⟩,trivial,trivial,rfl,fun _ _ _=>trivial,rfl⟩
 ·have m:l.length<=i:=by simpa using d
  have:xG l s= -1:=by
   unfold xG;rw [List.findIdx?_eq_none_iff.2 fun f o=>by
    obtain ⟨j,a,rfl⟩:=List.mem_iff_getElem.1 o;exact e j a (by omega)]
  exact ⟨congrArg (fun n=>some (I n)) this.symm,trivial⟩
theorem DD(l:List Fd)(s:ByteArray):(xG l s= -1/\l.find? (fun f=>uq f.name s)=none)\/ ∃(i:Nat) (h:i<l.length),xG l s=i/\l.find? (fun f=>uq f.name s)=some l[i]:=by
 unfold xG;cases a:l.findIdx? fun f=>uq f.name s with
 |none=>exact .inl ⟨rfl,by rw [List.find?_eq_none];intro f e;simpa using List.findIdx?_eq_none_iff.1 a f e⟩
 |some i=>
  obtain ⟨b,d,g⟩:=List.findIdx?_eq_some_iff_getElem.1 a;refine .inr ⟨i,b,rfl,?_⟩;rw [List.find?_eq_some_iff_getElem];exact ⟨d,i,b,rfl,fun j k=>by simpa using g j k⟩
theorem t74(l:List Fd)(s:ByteArray)(o:l.length<2^60):DCalls Tryz.prog 107 [fds l,.str s] (yC l s):=by
 unfold yC findF;have m: ∀(f:Fd) (b:Bool),wpC Tryz.prog GS (gA [fds l,.str s]) (nX (dj Tryz.prog) [.cell 4 54,.tmp 5] [fd f,.bool b])->DCalls Tryz.prog 107 [fds l,.str s] (.tup [fd f,.bool b]):=fun f b h=>
  oi (rs:=[.cell 4 54,.tmp 5]) mixed Tryz.func107 Mz rfl rfl rfl (r:=[fd f,.bool b]) (nlZ rfl) h
 by_cases a:uq s wF=true
 ·rw [if_pos a];refine m _ _ ?_;refine And.intro trivial ?_;refine uh (.str s) (by decide) rfl ?_;refine uc _ t94 ?_;refine uh (.str wF) (by decide) rfl ?_;refine uf true trivial ((uL _ _).trans a) ?_;refine uc _ t94 ?_;refine And.intro ⟨rfl,by decide⟩ ?_;exact ⟨rfl,rfl,trivial⟩
 ·rw [if_neg a];have a:uq s wF=false:=by simpa using a
  have d: ∀(f:Fd) (b:Bool),(∃ i,xG l s=i/\(i= -1/\f=Dm/\b=false\/ ∃(k:Nat) (h:k<l.length),i=k/\f=l[k]/\b=true))->wpC Tryz.prog GS (gA [fds l,.str s]) (nX (dj Tryz.prog) [.cell 4 54,.tmp 5] [fd f,.bool b]):=fun f b ⟨i,n,h⟩=>by
   refine And.intro trivial ?_;refine uh (.str s) (by decide) rfl ?_;refine uc _ t94 ?_;refine uh (.str wF) (by decide) rfl ?_;refine uf false trivial ((uL _ _).trans a) ?_;refine ⟨I i,n▸t95 l s o,rfl,?_⟩;rcases h with ⟨rfl,rfl,rfl⟩|⟨k,e,rfl,rfl,rfl⟩
   ·refine uf true trivial (by decide) ?_;refine And.intro trivial ?_;refine And.intro ⟨rfl,by decide⟩ ?_;exact ⟨rfl,rfl,trivial⟩
   ·refine uf false trivial (by simp) ?_;refine uh (fd l[k]) (by simpa using e) (by simp [e]) ?_;refine uh (fd l[k]) rfl rfl ?_;refine And.intro ⟨rfl,by decide⟩ ?_;exact ⟨rfl,rfl,trivial⟩
  rcases DD l s with ⟨g,j⟩|⟨k,e,g,j⟩
  ·rw [j];exact m _ _ (d _ _ ⟨-1,g,.inl ⟨rfl,rfl,rfl⟩⟩)
  ·rw [j];exact m _ _ (d _ _ ⟨k,g,.inr ⟨k,e,rfl,rfl,rfl⟩⟩)
theorem t51(l:List Fd)(s:ByteArray)(C:l.length<2^60):DCalls Tryz.prog 17 [fds l,.str s] (yC l s):=by
 unfold yC findF;have w: ∀(f:Fd) (b:Bool),wpC Tryz.prog c17 (gA [fds l,.str s]) (nX (dj Tryz.prog) [.cell 4 54,.tmp 5] [fd f,.bool b])->DCalls Tryz.prog 17 [fds l,.str s] (.tup [fd f,.bool b]):=fun f b h=>
  oi (rs:=[.cell 4 54,.tmp 5]) mixed Tryz.func17 l17 rfl rfl rfl (r:=[fd f,.bool b]) (nlZ rfl) h
 by_cases o:uq s wF=true
 ·rw [if_pos o];refine w _ _ ?_;refine uf true trivial ((uL _ _).trans o) ?_;refine uc _ t83 ?_;refine And.intro ⟨rfl,by decide⟩ ?_;exact ⟨rfl,rfl,trivial⟩
 ·rw [if_neg o];have o:uq s wF=false:=by simpa using o
  have p: ∀(f:Fd) (b:Bool),(∃ i,xG l s=i/\(i= -1/\f=Dm/\b=false\/ ∃(k:Nat) (h:k<l.length),i=k/\f=l[k]/\b=true))->wpC Tryz.prog c17 (gA [fds l,.str s]) (nX (dj Tryz.prog) [.cell 4 54,.tmp 5] [fd f,.bool b]):=fun f b ⟨i,E,h⟩=>by
   refine uf false trivial ((uL _ _).trans o) ?_;refine tT (α:=Nat) (fun i=>{sl:=[(0,.t (fds l)),(1,.t (.str s)),(4,.ptr 4 0),(6,.t (I i))],bx:=[(4,.d 3 [.str ⟨#[]⟩,I 0,I 0])]}) (fun i=>i<=l.length/\ ∀j (h:j<l.length),j<i->uq l[j].name s=false) (fun i=>l.length - i) 0 (by simp) ?_ ?_
   ·exact ⟨⟨.same _,.same _,.same _,.same _,trivial⟩,⟨.same _,trivial⟩,trivial,rfl,fun _ _ _=>trivial,rfl⟩
   rintro j ⟨D,n⟩;refine ue trivial (fun v=>?_) (fun v=>?_)
   ·have g:j<l.length:=by simpa using v
    refine uh (fd l[j]) (by simpa using g) (by simp [g]) ?_;refine uh (.str l[j].name) (show 0+0<3 by decide) rfl ?_;cases q:uq l[j].name s with
    |true=>
     refine uf true trivial ((uL _ _).trans q) ?_;refine uh (fd l[j]) (by simpa using g) (by simp [g]) ?_;refine uh (fd l[j]) rfl rfl ?_;refine And.intro ⟨rfl,by decide⟩ ?_;have e:xG l s=j:=by
      unfold xG;rw [List.findIdx?_eq_some_iff_getElem.2 ⟨g,q,fun m a=>by simp [n m (by omega) a]⟩]
     rcases h with ⟨rfl,rfl,rfl⟩|⟨k,x,rfl,rfl,rfl⟩
     ·omega
     ·obtain rfl:k=j:=by omega
      exact ⟨rfl,rfl,trivial⟩
    |false=>
     refine uf false trivial ((uL _ _).trans q) ?_;refine ⟨j+1,⟨g,fun m a B=>?_⟩,by omega,?_⟩
     ·rcases Nat.lt_or_ge m j with y|y
      ·exact n m a y
      ·obtain rfl:m=j:=by omega
       exact q
     ·exact ⟨⟨.same _,.same _,.same _,leI (by rw [nW] <;> omega),trivial⟩,⟨.same _,trivial⟩,trivial,rfl,fun _ _ _=>trivial,rfl⟩
   ·have z:l.length<=j:=by simpa using v
    have e:xG l s= -1:=by
     unfold xG;rw [List.findIdx?_eq_none_iff.2 fun f A=>by
      obtain ⟨m,a,rfl⟩:=List.mem_iff_getElem.1 A;exact n m a (by omega)]
    rcases h with ⟨rfl,rfl,rfl⟩|⟨k,x,rfl,rfl,rfl⟩
    ·refine And.intro trivial ?_;refine And.intro ⟨rfl,by decide⟩ ?_;exact ⟨rfl,rfl,trivial⟩
    ·omega
  rcases DD l s with ⟨g,u⟩|⟨k,x,g,u⟩
  ·rw [u];exact w _ _ (p _ _ ⟨-1,g,.inl ⟨rfl,rfl,rfl⟩⟩)
  ·rw [u];exact w _ _ (p _ _ ⟨k,g,.inr ⟨k,x,rfl,rfl,rfl⟩⟩)
theorem HOk.set{f:Fd}(d:FOk f){h:List Int}(a:HOk h){n:Nat}(e:n<2^f.w):HOk (yA f h n):=by
 refine ⟨by rw [Hx,a.len],?_⟩;unfold yA vS;rw [List.all_eq_true];intro x b;rcases List.mem_or_eq_of_mem_set b with b|rfl
 ·have:=a.right
  unfold vS at this;exact List.all_eq_true.1 this x b
 ·have:=EL (a.wd f.i) d.sw e
  simp;omega
def fld(l:List Fd)(f:ByteArray):Fd:=(findF l f).getD Dm
structure LOk (l:List Fd):Prop where
 len:l.length<2^60
 ok: ∀f∈l,FOk f
theorem B7{l:List Fd}{f:ByteArray}{F:Fd}(h:findF l f=some F):fld l f=F:=by unfold fld;rw [h];rfl
theorem JT:FOk Bn:=⟨by decide,by decide,by decide⟩
theorem LOk.find{l:List Fd}(h:LOk l){s:ByteArray}{f:Fd}(a:findF l s=some f):FOk f:=by
 unfold findF at a;split at a
 ·cases a;exact JT
 ·exact h.ok f (List.mem_of_find?_eq_some a)
end Go.MM
end
section
end
section
namespace Go.MM
open Go Go.DL Go.Proofs
inductive RP where
 |mk (kind:Int) (field:ByteArray) (n m:Int) (args:List RP)
namespace RP
def kind:RP->Int|.mk k _ _ _ _=>k
end RP
mutual
def zw:RP->T
 |.mk k f n m a=>.agg [I k,.str f,I n,I m,.slice 5 (E9 a)]
def E9:List RP->List T
 |[]=>[]
 |r::rs=>zw r::E9 rs
end
theorem Dx: ∀l:List RP,E9 l=l.map zw
 |[]=>rfl
 |r::rs=>congrArg (zw r:: ·) (Dx rs)
def uW:RP->List T
 |.mk k f n m a=>[I k,.str f,I n,I m,.slice 5 (a.map zw)]
theorem wC(r:RP):zw r= .agg (uW r):=by
 cases r;simp only [zw,uW,Dx]
theorem vZ(r:RP):(uW r).length=5:=by cases r;rfl
inductive RO where
 |mk (kind:Int) (pred:RP) (field:ByteArray) (n:Int) (args:List RO)
namespace RO
def kind:RO->Int|.mk k _ _ _ _=>k
def pred:RO->RP|.mk _ p _ _ _=>p
end RO
mutual
def yR:RO->T
 |.mk k p f n a=>.agg (I k::(uW p++[.str f,I n,.slice 9 (Fa a)]))
def Fa:List RO->List T
 |[]=>[]
 |r::rs=>yR r::Fa rs
end
theorem Dy: ∀l:List RO,Fa l=l.map yR
 |[]=>rfl
 |r::rs=>congrArg (yR r:: ·) (Dy rs)
def uy:RO->List T
 |.mk k p f n a=>I k::(uW p++[.str f,I n,.slice 9 (a.map yR)])
theorem vO(r:RO):yR r= .agg (uy r):=by
 cases r;simp only [yR,uy,Dy]
theorem uG(r:RO):(uy r).length=9:=by cases r;simp [uy,vZ]
mutual
def RP.nodes:RP->Nat
 |.mk _ _ _ _ a=>1+uV a
def uV:List RP->Nat
 |[]=>0
 |r::rs=>r.nodes+uV rs
end
mutual
def RP.depth:RP->Nat
 |.mk _ _ _ _ a=>1+wM a
def wM:List RP->Nat
 |[]=>0
 |r::rs=>max r.depth (wM rs)
end
mutual
theorem RP.zX: ∀r:RP,r.depth<=r.nodes
 |.mk _ _ _ _ a=>by have:=zW a;simp only [RP.depth,RP.nodes];omega
theorem zW: ∀l:List RP,wM l<=uV l
 |[]=>Nat.le_refl _
 |r::rs=>by have:=RP.zX r;have:=zW rs;simp only [wM,uV];omega
end
theorem xR: ∀{l:List RP} {j:Nat} (h:j<l.length),uV (l.take (j+1))=uV (l.take j)+l[j].nodes
 |r::rs,0,h=>by simp [uV]
 |r::rs,j+1,h=>by
  have:=xR (l:=rs) (j:=j) (by simpa using h)
  simp only [List.take_succ_cons,uV,List.getElem_cons_succ];omega
theorem AO: ∀{l:List RP} {j:Nat} (h:j<l.length),wM (l.take (j+1))=max (wM (l.take j)) l[j].depth
 |r::rs,0,h=>by simp [wM]
 |r::rs,j+1,h=>by
  have:=AO (l:=rs) (j:=j) (by simpa using h)
  simp only [List.take_succ_cons,wM,List.getElem_cons_succ];omega
theorem xQ: ∀{l:List RP} {j:Nat},uV (l.take j)<=uV l
 |[],j=>by simp
 |r::rs,0=>by simp [uV]
 |r::rs,j+1=>by
  have:=xQ (l:=rs) (j:=j)
  simp only [List.take_succ_cons,uV];omega
theorem RP.xd(r:RP):1<=r.nodes:=by cases r;simp only [RP.nodes];omega
theorem yg: ∀l:List RP,l.length<=uV l
 |[]=>Nat.le_refl _
 |r::rs=>by have:=yg rs;have:=r.xd;simp only [uV,List.length_cons];omega
def sz(n d:Nat):T:=.agg [I n,I d]
theorem t102(a b c d:Nat)(f:a+c<2^62)(_:b<2^62)(h:d<2^62):DCalls Tryz.prog 91 [sz a b,sz c d] (sz (a+c) (max b (d+1))):=by
 refine dl2 mixed [.cell 4 86] [sz (a+c) (max b (d+1))] Tryz.func91 l91 ?_
 repeat' ((conv=>whnf);first|refine aS ?_|refine nT_ ?_)
 refine And.intro (congrArg some ?_) trivial;simp (disch:=omega) only [nW,aN,List.take,List.drop,List.nil_append,List.cons_append];unfold sz I;have e:(if (d:Int)+1>(b:Int) then (d:Int)+1 else (b:Int))=((max b (d+1):Nat):Int):=by split <;> omega
 rw [e,Int.natCast_add]
theorem t103(N:Nat): ∀r:RP,r.nodes<=N->N<2^60->DCalls Tryz.prog 92 [.agg (uW r)] (sz r.nodes r.depth):=by
 induction N with
 |zero=>intro r h;have:=r.xd;omega
 |succ N e=>
  rintro ⟨k,f,n,m,l⟩ a v;refine dl2 mixed [.cell 2 86] [sz _ _] Tryz.func92 l92 ?_;simp only [RP.nodes,RP.depth] at a ⊢
  repeat' ((conv=>whnf);first|refine aS ?_|fail)
  refine tT (α:=Nat) (fun i=>{sl:=[(1,.ptr 1 0),(2,.ptr 2 0),(3,.ptr 3 0),(4,.t (I i))],bx:=[(1,.d 5 (uW (.mk k f n m l))),(2,.d 2 [I 0,I 0]),(3,.d 2 [I (1+uV (l.take i):Nat),I (1+wM (l.take i):Nat)])]})
   (fun i=>i<=l.length) (fun i=>l.length - i) 0 (by omega) ?_ ?_
  ·repeat' (first|exact wJ|refine And.intro ?_ ?_)
  rintro i s;rcases Nat.lt_or_ge i l.length with h|h
  ·have o:=xR h;have hd:=AO h;have q:=xQ (l:=l) (j:=i+1);have u:=l[i].xd;have p:=yg l;have b:=l[i].zX;have g:=zW (l.take i)
   repeat' ((conv=>whnf);first|(refine nv_ (.agg (uW l[i])) (by first|(simp [h,wC];done)|fail) ?_)|refine uc _ (e l[i] (by omega) (by omega)) ?_|refine uc _ (t102 _ _ _ _ (by omega) (by omega) (by omega)) ?_|refine aD1 ?_|(refine And.intro (by first|exact vZ _) ?_)|refine aS ?_|refine nT_ ?_)
   refine ⟨i+1,by omega,by omega,?_⟩
   repeat' (first|exact wJ|refine ui ?_|refine And.intro ?_ ?_)
   rw [o,hd,show 1+(uV (l.take i)+l[i].nodes)=1+uV (l.take i)+l[i].nodes by omega,show 1+max (wM (l.take i)) l[i].depth=max (1+wM (l.take i)) (l[i].depth+1) by omega];rfl
  ·have:i=l.length:=by omega
   subst this;rw [List.take_length]
   repeat' ((conv=>whnf);first|exact trivial|refine aD0 ?_|refine aS ?_|refine nT_ ?_)
end Go.MM
end
section
namespace Go.MM
open Go Go.DL Go.Proofs
def Be:List ByteArray:=[⟨#[97,110,100]⟩,
 ⟨#[97,110,121]⟩,
 ⟨#[97,116]⟩,
 ⟨#[98,97,99,107]⟩,
 ⟨#[98,111,120]⟩,
 ⟨#[98,117,114,115,116]⟩,
 ⟨#[98,121]⟩,
 ⟨#[99,97,112,97,99,105,116,121]⟩,
 ⟨#[99,101,105,108,105,110,103]⟩,
 ⟨#[99,104,101,99,107]⟩,
 ⟨#[99,111,110,116,114,97,99,116]⟩,
 ⟨#[99,111,117,110,116]⟩,
 ⟨#[100,101,109,97,110,100]⟩,
 ⟨#[100,114,111,112]⟩,
 ⟨#[101,97,99,104]⟩,
 ⟨#[101,100,103,101]⟩,
 ⟨#[101,110,116,114,105,101,115]⟩,
 ⟨#[102,97,108,115,101]⟩,
 ⟨#[102,105,101,108,100]⟩,
 ⟨#[102,108,111,111,114]⟩,
 ⟨#[102,114,111,109]⟩,
 ⟨#[105,100]⟩,
 ⟨#[105,110]⟩,
 ⟨#[105,110,110,101,114]⟩,
 ⟨#[105,110,116,111]⟩,
 ⟨#[108,105,110,107]⟩,
 ⟨#[110,101,116,119,111,114,107]⟩,
 ⟨#[110,111,100,101]⟩,
 ⟨#[110,111,116]⟩,
 ⟨#[111,112,101,110]⟩,
 ⟨#[111,114]⟩,
 ⟨#[112,97,116,104]⟩,
 ⟨#[112,111,114,116]⟩,
 ⟨#[112,114,105,99,101]⟩,
 ⟨#[114,111,117,116,101]⟩,
 ⟨#[114,117,108,101,115]⟩,
 ⟨#[115,116,97,103,101]⟩,
 ⟨#[116,97,107,101]⟩,
 ⟨#[116,101,110,97,110,116]⟩,
 ⟨#[116,104,101,110]⟩,
 ⟨#[116,105,109,101]⟩,
 ⟨#[116,111]⟩,
 ⟨#[116,111,107,101,110]⟩,
 ⟨#[116,114,97,110,115,108,97,116,101]⟩,
 ⟨#[116,114,117,101]⟩,
 ⟨#[118,105,97]⟩,
 ⟨#[119,105,100,116,104]⟩,
 ⟨#[119,105,114,101]⟩,
 ⟨#[119,105,116,104,105,110]⟩]
def wY(c:Int):Bool:=decide (97<=c)&&decide (c<=122)
def ym(c:Int):Bool:=decide (48<=c)&&decide (c<=57)
def AG(c:Int):Bool:=wY c||ym c||c==95
def w7(s:ByteArray)(i:Nat):Int:=((s.toList[i]?.getD 0).toNat:Int)
abbrev U(n:Int):T:=.int .u8 n
theorem t110(c:Int):DCalls Tryz.prog 208 [U c] (.bool (wY c)):=by
 refine dl2 mixed [.tmp 2] [.bool _] Tryz.func208 Np ?_;unfold wY
 repeat' ((conv=>whnf);first|refine nD_ (fun a=>?_) (fun a=>?_)|refine rb1 ?_|refine rb0 ?_|refine aS ?_|exact trivial)
theorem t115(c:Int):DCalls Tryz.prog 213 [U c] (.bool (ym c)):=by
 refine dl2 mixed [.tmp 2] [.bool _] Tryz.func213 Nu ?_;unfold ym
 repeat' ((conv=>whnf);first|refine nD_ (fun a=>?_) (fun a=>?_)|refine rb1 ?_|refine rb0 ?_|refine aS ?_|exact trivial)
theorem t114(c:Int):DCalls Tryz.prog 212 [U c] (.bool (AG c)):=by
 refine dl2 mixed [.tmp 2] [.bool _] Tryz.func212 Nt ?_;unfold AG;have e:=t110 c;have d:=t115 c;generalize wY c=a at *
 generalize ym c=b at *
 cases a <;> cases b
 all_goals repeat' ((conv=>whnf);first|refine uc _ (e) ?_|refine uc _ (d) ?_|refine nE_ (fun f=>?_) (fun f=>?_)|refine rb1 ?_|refine rb0 ?_|refine aS ?_|exact trivial)
theorem t113:DCalls Tryz.prog 211 [] (.slice 1 (Be.map .str)):=by
 refine dl2 mixed [.tmp 0] [.slice 1 (Be.map .str)] Tryz.func211 Ns ?_
 repeat' ((conv=>whnf);first|refine aS ?_|exact trivial)
def Bm(s:ByteArray):Bool:=Be.any fun w=>uq w s
theorem t111(s:ByteArray):DCalls Tryz.prog 209 [.str s] (.bool (Bm s)):=by
 refine dl2 mixed [.tmp 2] [.bool _] Tryz.func209 Nq ?_;unfold Bm;have d:Be.length=49:=rfl;have l:=t113;generalize Be=ws at *
 repeat' ((conv=>whnf);first|refine uc _ (l) ?_)
 refine tT (α:=Nat) (fun i=>{sl:=[(0,.t (.str s)),(3,.t (.slice 1 (ws.map .str))),(4,.t (I i))],bx:=[]})
  (fun i=>i<=ws.length/\ ∀j (h:j<ws.length),j<i->uq ws[j] s=false) (fun i=>ws.length - i) 0 (by simp) ?_ ?_
 ·repeat' (first|exact wJ|refine And.intro ?_ ?_)
 rintro i ⟨m,g⟩;rcases Nat.lt_or_ge i ws.length with h|h
 ·cases a:uq ws[i] s with
  |true=>
   have e:(ws.any fun w=>uq w s)=true:=List.any_eq_true.2 ⟨_,List.getElem_mem h,a⟩;rw [e]
   repeat' ((conv=>whnf);first|exact trivial|(refine nv_ (.str ws[i]) (by first|(simp [h];done)|fail) ?_)|refine nb_ true ((uL _ _).trans a) ?_|refine aD1 ?_|refine rb1 ?_|refine aS ?_|refine nT_ ?_)
  |false=>
   repeat' ((conv=>whnf);first|(refine nv_ (.str ws[i]) (by first|(simp [h];done)|fail) ?_)|refine nb_ false ((uL _ _).trans a) ?_|refine aD1 ?_|refine aS ?_|refine nT_ ?_)
   refine ⟨i+1,⟨h,fun j b k=>?_⟩,by omega,?_⟩
   ·rcases Nat.lt_or_ge j i with f|f
    ·exact g j b f
    ·obtain rfl:j=i:=by omega
     exact a
   ·repeat' (first|exact wJ|refine And.intro ?_ ?_)
 ·have e:(ws.any fun w=>uq w s)=false:=by
   rw [List.any_eq_false];intro w d;obtain ⟨j,b,rfl⟩:=List.getElem_of_mem d;simp [g j b (by omega)]
  rw [e]
  repeat' ((conv=>whnf);first|refine aD0 ?_|refine rb0 ?_|refine aS ?_|exact trivial)
def zD:List UInt8->Nat
 |[]=>0
 |b::bs=>if AG (b.toNat:Int) then 1+zD bs else 0
theorem A8: ∀{l:List UInt8} {n:Nat},n<=l.length->(∀ j,j<n->AG ((l[j]?.getD 0).toNat:Int)=true)->(n=l.length\/AG ((l[n]?.getD 0).toNat:Int)=false)->zD l=n
 |[],n,hn,_,_=>by simp at hn;simp [zD,hn]
 |b::bs,0,hn,_,h=>by
  rcases h with h|h
  ·simp at h
  ·simp at h;simp [zD,h]
 |b::bs,n+1,hn,hp,h=>by
  have a:=hp 0 (by omega);simp at a
  have:=A8 (l:=bs) (n:=n) (by simpa using hn) (fun j d=>by simpa using hp (j+1) (by omega)) (by simpa using h)
  simp [zD,a,this];omega
theorem Er(s:ByteArray):s.toList.length=s.size:=by rw [ByteArray.toList_eq];rfl
theorem t112(s:ByteArray)(g:s.size<2^62):DCalls Tryz.prog 210 [.str s] (I (zD s.toList)):=by
 refine dl2 mixed [.tmp 2] [.int _ _] Tryz.func210 Nr ?_;have m:=Er s
 skip
 refine tT (α:=Nat) (fun i=>{sl:=[(0,.t (.str s)),(3,.t (I i))],bx:=[]})
  (fun i=>i<=s.size/\ ∀j,j<i->AG (w7 s j)=true) (fun i=>s.size - i) 0 (by simp) ?_ ?_
 ·repeat' (first|exact wJ|refine And.intro ?_ ?_)
 rintro i ⟨l,d⟩;rcases Nat.lt_or_ge i s.size with h|h
 ·have b:=t114 (w7 s i);cases a:AG (w7 s i) with
  |true=>
   rw [a] at b
   repeat' ((conv=>whnf);first|refine uc _ (b) ?_|refine aD1 ?_|refine aS ?_|refine nT_ ?_)
   refine ⟨i+1,⟨h,fun j k=>?_⟩,by omega,?_⟩
   ·rcases Nat.lt_or_ge j i with f|f
    ·exact d j f
    ·obtain rfl:j=i:=by omega
     exact a
   ·repeat' (first|exact wJ|refine And.intro ?_ ?_)
  |false=>
   rw [a] at b;have e:zD s.toList=i:=A8 (by omega) d (.inr a);rw [e]
   repeat' ((conv=>whnf);first|exact trivial|refine uc _ (b) ?_|refine aD1 ?_|refine rix ?_|refine aS ?_|refine nT_ ?_)
 ·have e:zD s.toList=i:=A8 (by omega) d (.inl (by omega));rw [e]
  repeat' ((conv=>whnf);first|refine aD0 ?_|refine rix ?_|refine aS ?_|exact trivial)
def zc(s:ByteArray):Bool:=decide (0<s.size)&&decide (s.size<=24)&&wY (w7 s 0)&&(zD s.toList==s.size)&& !Bm s
theorem t109(s:ByteArray)(h:s.size<2^62):DCalls Tryz.prog 206 [.str s] (.bool (zc s)):=by
 refine dl2 mixed [.tmp 2] [.bool _] Tryz.func206 Nn ?_;unfold zc;have e:=t110 (w7 s 0);have g:=t111 s;have i:=t112 s h;generalize wY (w7 s 0)=a at *
 generalize Bm s=w at *
 generalize zD s.toList=n at *
 by_cases f:s.size=0
 ·simp [f]
  repeat' ((conv=>whnf);first|refine aE1 ?_|refine rb0 ?_|refine aS ?_|exact trivial)
 ·by_cases b:s.size<=24
  ·simp [b,show 0<s.size by omega];cases a <;> cases w <;> repeat' ((conv=>whnf);first|exact trivial|refine uc _ (e) ?_|refine uc _ (g) ?_|refine uc _ (i) ?_|refine aE0 ?_|refine aD0 ?_|refine nE_ (fun d=>?_) (fun d=>?_)|refine rb1 ?_|refine rb0 ?_|refine aS ?_|refine nT_ ?_)
  ·simp [b]
   repeat' ((conv=>whnf);first|refine aE0 ?_|refine aD1 ?_|refine rb0 ?_|refine aS ?_|exact trivial)
theorem t108(s:ByteArray)(b:s.size<2^62):DCalls Tryz.prog 204 [.str s] (.bool (zc s)):=by
 refine dl2 mixed [.tmp 2] [.bool _] Tryz.func204 Nl ?_;have a:=t109 s b
 repeat' ((conv=>whnf);first|refine uc _ (a) ?_|refine rbx ?_|exact trivial)
def vh(s:ByteArray):Bool:=zc s||uq s wF
theorem t104(s:ByteArray)(f:s.size<2^62):DCalls Tryz.prog 200 [.str s] (.bool (vh s)):=by
 refine dl2 mixed [.tmp 2] [.bool _] Tryz.func200 Nh ?_;have e:=t108 s f;unfold vh;have d:=uL s wF;generalize zc s=a at *
 generalize uq s wF=b at *
 cases a <;> cases b <;> repeat' ((conv=>whnf);first|refine uc _ (e) ?_|refine nb_ _ d ?_|refine rb1 ?_|refine rb0 ?_|refine aS ?_|exact trivial)
abbrev e0:ByteArray:=⟨#[]⟩
def zI:RP->Bool
 |.mk k f n m a=>(k==0)&&uq f e0&&(n==0)&&(m==0)&&(a.length==0)
theorem t105(r:RP):DCalls Tryz.prog 201 [.agg (uW r),.agg [I 0,.str e0,I 0,I 0,.nil]] (.bool (zI r)):=by
 obtain ⟨k,f,n,m,l⟩:=r;refine dl2 mixed [.tmp 4] [.bool _] Tryz.func201 Ni ?_;simp only [zI];have e:=uL f e0;generalize uq f e0=b at *
 cases l <;> repeat' ((conv=>whnf);first|exact trivial|refine nb_ (!b) (congrArg _ e) ?_|refine nT_ ?_|refine aN1 ?_|refine aN0 ?_|refine nN_ (fun a=>?_) (fun a=>?_)|refine rb0 ?_|refine aS ?_|(cases b))
 refine tT (α:=Unit) (fun _=>{sl:=[(2,.ptr 2 0),(3,.ptr 3 0),(5,.t (I 0))],bx:=[(2,.d 5 (uW (.mk k f n m []))),(3,.d 5 [I 0,.str e0,I 0,I 0,.nil])]}) (fun _=>True) (fun _=>0) () trivial ?_ ?_
 ·repeat' (first|exact wJ|refine And.intro ?_ ?_)
 rintro _ _
 repeat' ((conv=>whnf);first|exact trivial|refine aD0 ?_|refine rb1 ?_|refine aS ?_|refine nT_ ?_)
def xX(n:Int):Bool:=decide (0<=n)&&decide (n<=65535)
def Am(f:ByteArray)(n m:Int):Bool:=uq f e0&&(n==0)&&(m==0)
def Bh(k:Int):Nat:=if k=6 then 1 else if k=7\/k=8 then 2 else 0
def okP(k:Int)(f:ByteArray)(n m:Int):Bool:=
 if k=1\/k=2 then Am f n m
 else if k=3 then vh f&&xX n&&(m==0)
 else if k=4 then vh f&&xX n&&decide (0<=m)&&decide (m<=16)
 else if k=5 then vh f&&decide (0<=n)&&decide (n<=m)&&decide (m<=65535)
 else if k=6\/k=7\/k=8 then Am f n m
 else if k=9 then uq f e0&&decide (0<=n)&&decide (n<m)&&decide (m<=1073741824)
 else false
mutual
def vV:RP->Bool
 |.mk k f n m a=>okP k f n m&&(a.length==Bh k)&&vK a
def vK:List RP->Bool
 |[]=>true
 |r::rs=>vV r&&vK rs
end
theorem yU: ∀{l:List RP},vK l=true↔ ∀(i:Nat) (h:i<l.length),vV l[i]=true
 |[]=>by simp [vK]
 |r::rs=>by
  simp only [vK,Bool.and_eq_true,yU (l:=rs)];constructor
  ·rintro ⟨b,h⟩ i a;cases i with
   |zero=>exact b
   |succ i=>simpa using h i (by simpa using a)
  ·intro h;exact ⟨h 0 (by simp),fun i a=>h (i+1) (by simpa using a)⟩
mutual
def AY:RP->Prop
 |.mk _ f _ _ a=>f.size<2^62/\zN a
def zN:List RP->Prop
 |[]=>True
 |r::rs=>AY r/\zN rs
end
theorem BF: ∀{l:List RP},zN l-> ∀(i:Nat) (h:i<l.length),AY l[i]
 |[],_,i,h=>by simp at h
 |r::rs,h,i,hi=>by
  cases i with
  |zero=>exact h.1
  |succ i=>simpa using BF h.2 i (by simpa using hi)
theorem t106(N:Nat): ∀r:RP,r.nodes<=N->N<2^60->AY r->DCalls Tryz.prog 202 [.agg (uW r)] (.bool (vV r)):=by
 induction N with
 |zero=>intro r h;have:=r.xd;omega
 |succ N B=>
  rintro ⟨k,f,n,m,l⟩ A F s;refine dl2 mixed [.tmp 2] [.bool _] Tryz.func202 Nj ?_;simp only [RP.nodes,vV] at A ⊢;have p:=t104 f s.1
  repeat' ((conv=>whnf);first|refine uc _ (p) ?_|refine aS ?_|refine nT_ ?_)
  refine tV (β:=Unit) (fun _=>{sl:=[(1,.ptr 1 0),(3,.t (.bool (vh f))),(4,.t (.bool (xX n)))],bx:=[(1,.d 5 (uW (.mk k f n m l)))]}) (fun _=>True) ?_ ?_
  ·repeat' ((conv=>whnf);first|refine nD_ (fun o=>?_) (fun o=>?_)|refine aS ?_|refine nT_ ?_)
   all_goals refine ⟨(),trivial,?_⟩
   all_goals unfold xX
   all_goals repeat' (first|exact wJ|refine And.intro ?_ ?_)
  rintro _ _
  skip
  refine tV (β:=Unit) (fun _=>{sl:=[(1,.ptr 1 0),(3,.t (.bool (vh f))),(4,.t (.bool (xX n))),(5,.t (.bool (Am f n m)))],bx:=[(1,.d 5 (uW (.mk k f n m l)))]}) (fun _=>True) ?_ ?_
  ·unfold Am;have v:=uL f e0;generalize uq f e0=b at *
   repeat' ((conv=>whnf);first|refine nb_ b v ?_|(exact ⟨(),trivial,by (repeat' (first|exact wJ|refine And.intro ?_ ?_));done⟩)|refine nT_ ?_|refine nE_ (fun o=>?_) (fun o=>?_)|refine aS ?_|(cases b))
  rintro _ _
  repeat' ((conv=>whnf);first|refine aS ?_|refine nT_ ?_)
  refine tV (β:=Unit) (fun _=>{sl:=[(1,.ptr 1 0),(6,.t (I (Bh k))),(7,.t (.bool (okP k f n m)))],bx:=[(1,.d 5 (uW (.mk k f n m l)))]}) (fun _=>True) ?_ ?_
  ·have v:=uL f e0;unfold okP Bh;generalize vh f=a at *
   generalize xX n=b at *
   generalize Am f n m=c at *
   generalize uq f e0=d at *
   repeat' ((conv=>whnf);first|refine nb_ d v ?_|(exact ⟨(),trivial,by (repeat' (first|exact wJ|refine And.intro ?_ ?_));done⟩)|refine nT_ ?_|refine nE_ (fun o=>?_) (fun o=>?_)|refine nD_ (fun o=>?_) (fun o=>?_)|refine aS ?_|(cases a)|(cases b)|(cases d))
  rintro _ _;generalize okP k f n m=ok at *
  cases ok with
  |false=>repeat' ((conv=>whnf);first|refine rb0 ?_|exact trivial)
  |true=>
  by_cases g:l.length=Bh k
  ·have e:(true&&(l.length==Bh k)&&vK l)=vK l:=by simp [g]
   rw [e, <-g];have E:=yg l
   repeat' ((conv=>whnf);first|refine aN0 ?_|refine aS ?_|refine nT_ ?_)
   refine tT (α:=Nat) (fun i=>{sl:=[(1,.ptr 1 0),(6,.t (I l.length)),(8,.t (I i))],bx:=[(1,.d 5 (uW (.mk k f n m l)))]})
    (fun i=>i<=l.length/\ ∀j (h:j<l.length),j<i->vV l[j]=true) (fun i=>l.length - i) 0 (by simp) ?_ ?_
   ·repeat' (first|exact wJ|refine And.intro ?_ ?_)
   rintro i ⟨H,z⟩;rcases Nat.lt_or_ge i l.length with h|h
   ·have J:=xR h;have G:=xQ (l:=l) (j:=i+1);have u:=B l[i] (by omega) (by omega) (BF s.2 i h);cases q:vV l[i] with
    |true=>
     rw [q] at u
     repeat' ((conv=>whnf);first|(refine nv_ (.agg (uW l[i])) (by first|(simp [h,wC];done)|fail) ?_)|refine uc _ (u) ?_|refine aD1 ?_|(refine And.intro (by first|exact vZ _) ?_)|refine aS ?_|refine nT_ ?_)
     refine ⟨i+1,⟨h,fun j x C=>?_⟩,by omega,?_⟩
     ·rcases Nat.lt_or_ge j i with y|y
      ·exact z j x y
      ·obtain rfl:j=i:=by omega
       exact q
     ·repeat' (first|exact wJ|refine And.intro ?_ ?_)
    |false=>
     rw [q] at u;have w:vK l=false:=by
      cases D:vK l with
      |false=>rfl
      |true=>rw [yU.1 D i h] at q;cases q
     rw [w]
     repeat' ((conv=>whnf);first|exact trivial|(refine nv_ (.agg (uW l[i])) (by first|(simp [h,wC];done)|fail) ?_)|refine uc _ (u) ?_|refine aD1 ?_|refine rb0 ?_|(refine And.intro (by first|exact vZ _) ?_)|refine aS ?_|refine nT_ ?_)
   ·have w:vK l=true:=yU.2 fun j x=>z j x (by omega)
    rw [w]
    repeat' ((conv=>whnf);first|refine aD0 ?_|refine rb1 ?_|refine aS ?_|exact trivial)
  ·have e:(true&&(l.length==Bh k)&&vK l)=false:=by simp [g]
   rw [e]
   repeat' ((conv=>whnf);first|exact trivial|refine aN1 ?_|refine rb0 ?_|refine aS ?_|refine nT_ ?_)
end Go.MM
end
section
namespace Go.MM
open Go Go.DL Go.Proofs
mutual
def RO.wt:RO->Nat
 |.mk _ p _ _ a=>1+p.nodes+vC a
def vC:List RO->Nat
 |[]=>0
 |r::rs=>r.wt+vC rs
end
mutual
def RO.size:RO->Nat
 |.mk k p _ _ a=>1+(if k=1 then p.nodes else 0)+wW a
def wW:List RO->Nat
 |[]=>0
 |r::rs=>r.size+wW rs
end
mutual
def RO.deep:RO->Nat
 |.mk k p _ _ a=>1+max (if k=1 then p.depth else 0) (wU a)
def wU:List RO->Nat
 |[]=>0
 |r::rs=>max r.deep (wU rs)
end
mutual
theorem RO.size_le: ∀r:RO,r.size<=r.wt
 |.mk k p _ _ a=>by have:=zl a;simp only [RO.size,RO.wt];split <;> omega
theorem zl: ∀l:List RO,wW l<=vC l
 |[]=>Nat.le_refl _
 |r::rs=>by have:=RO.size_le r;have:=zl rs;simp only [wW,vC];omega
end
mutual
theorem RO.Cv: ∀r:RO,r.deep<=r.wt
 |.mk k p _ _ a=>by have:=zf a;have:=p.zX;simp only [RO.deep,RO.wt];split <;> omega
theorem zf: ∀l:List RO,wU l<=vC l
 |[]=>Nat.le_refl _
 |r::rs=>by have:=RO.Cv r;have:=zf rs;simp only [wU,vC];omega
end
theorem xj: ∀{l:List RO} {j:Nat} (h:j<l.length),vC (l.take (j+1))=vC (l.take j)+l[j].wt
 |r::rs,0,h=>by simp [vC]
 |r::rs,j+1,h=>by
  have:=xj (l:=rs) (j:=j) (by simpa using h)
  simp only [List.take_succ_cons,vC,List.getElem_cons_succ];omega
theorem zF: ∀{l:List RO} {j:Nat} (h:j<l.length),wW (l.take (j+1))=wW (l.take j)+l[j].size
 |r::rs,0,h=>by simp [wW]
 |r::rs,j+1,h=>by
  have:=zF (l:=rs) (j:=j) (by simpa using h)
  simp only [List.take_succ_cons,wW,List.getElem_cons_succ];omega
theorem zu: ∀{l:List RO} {j:Nat} (h:j<l.length),wU (l.take (j+1))=max (wU (l.take j)) l[j].deep
 |r::rs,0,h=>by simp [wU]
 |r::rs,j+1,h=>by
  have:=zu (l:=rs) (j:=j) (by simpa using h)
  simp only [List.take_succ_cons,wU,List.getElem_cons_succ];omega
theorem xi: ∀{l:List RO} {j:Nat},vC (l.take j)<=vC l
 |[],j=>by simp
 |r::rs,0=>by simp [vC]
 |r::rs,j+1=>by
  have:=xi (l:=rs) (j:=j)
  simp only [List.take_succ_cons,vC];omega
theorem RO.yr(r:RO):1<=r.wt:=by cases r;simp only [RO.wt];omega
theorem yc: ∀l:List RO,l.length<=vC l
 |[]=>Nat.le_refl _
 |r::rs=>by have:=yc rs;have:=r.yr;simp only [vC,List.length_cons];omega
theorem two{a b c d:Nat}(e:a=c)(f:b=d):[I (a:Int),I (b:Int)]=[I (c:Int),I (d:Int)]:=by rw [e,f]
theorem t89(N:Nat): ∀r:RO,r.wt<=N->N<2^60->DCalls Tryz.prog 38 [.agg (uy r)] (sz r.size r.deep):=by
 induction N with
 |zero=>intro r h;have:=r.yr;omega
 |succ N p=>
  rintro ⟨k,⟨m,b,e,a,g⟩,f,n,l⟩ u F;refine dl2 mixed [.cell 2 86] [sz _ _] Tryz.func38 l38 ?_;simp only [RO.size,RO.deep,RO.wt] at u ⊢;have o:=t103 _ (.mk m b e a g) (Nat.le_refl _) (by omega);have A:=(RP.mk m b e a g).zX;have q:=yc l
  by_cases s:k=1
  ·simp only [s,if_true]
   repeat' ((conv=>whnf);first|refine uc _ (o) ?_|refine uc _ (t102 1 1 _ _ (by omega) (by omega) (by omega)) ?_|refine aE1 ?_|refine aS ?_|refine nT_ ?_)
   refine tT (α:=Nat) (fun i=>{sl:=[(1,.ptr 1 0),(2,.ptr 2 0),(3,.ptr 3 0),(4,.t (I i))],bx:=[(1,.d 9 (uy (.mk 1 (.mk m b e a g) f n l))),(2,.d 2 [I 0,I 0]),(3,.d 2 [I (1+(RP.mk m b e a g).nodes+wW (l.take i):Nat),I (1+max (RP.mk m b e a g).depth (wU (l.take i)):Nat)])]})
    (fun i=>i<=l.length) (fun i=>l.length - i) 0 (by omega) ?_ ?_
   ·repeat' (first|exact wJ|refine ui ?_|refine And.intro ?_ ?_)
    all_goals exact two (by simp [wW]) (by simp [wU];try omega)
   rintro i z;rcases Nat.lt_or_ge i l.length with h|h
   ·have E:=zF h;have hd:=zu h;have C:=xj h;have y:=xi (l:=l) (j:=i+1);have B:=l[i].yr;have w:=l[i].size_le;have x:=l[i].Cv;have D:=zf (l.take i);have v:=zl (l.take i)
    repeat' ((conv=>whnf);first|(refine nv_ (.agg (uy l[i])) (by first|(simp [h,vO];done)|fail) ?_)|refine uc _ (p l[i] (by omega) (by omega)) ?_|refine uc _ (t102 _ _ _ _ (by omega) (by omega) (by omega)) ?_|refine aD1 ?_|(refine And.intro (by first|exact uG _) ?_)|refine aS ?_|refine nT_ ?_)
    refine ⟨i+1,by omega,by omega,?_⟩
    repeat' (first|exact wJ|refine ui ?_|refine And.intro ?_ ?_)
    exact two (by omega) (by omega)
   ·have:i=l.length:=by omega
    subst this;rw [List.take_length]
    repeat' ((conv=>whnf);first|exact trivial|refine aD0 ?_|refine aS ?_|refine nT_ ?_)
  ·simp only [s,if_false]
   repeat' ((conv=>whnf);first|refine aE0 ?_|refine aS ?_|refine nT_ ?_)
   refine tT (α:=Nat) (fun i=>{sl:=[(1,.ptr 1 0),(2,.ptr 2 0),(3,.ptr 3 0),(4,.t (I i))],bx:=[(1,.d 9 (uy (.mk k (.mk m b e a g) f n l))),(2,.d 2 [I 0,I 0]),(3,.d 2 [I (1+0+wW (l.take i):Nat),I (1+max 0 (wU (l.take i)):Nat)])]})
    (fun i=>i<=l.length) (fun i=>l.length - i) 0 (by omega) ?_ ?_
   ·repeat' (first|exact wJ|refine And.intro ?_ ?_)
    all_goals exact two (by simp [wW]) (by simp [wU];try omega)
   rintro i z;rcases Nat.lt_or_ge i l.length with h|h
   ·have E:=zF h;have hd:=zu h;have C:=xj h;have y:=xi (l:=l) (j:=i+1);have B:=l[i].yr;have w:=l[i].size_le;have x:=l[i].Cv;have D:=zf (l.take i);have v:=zl (l.take i)
    repeat' ((conv=>whnf);first|(refine nv_ (.agg (uy l[i])) (by first|(simp [h,vO];done)|fail) ?_)|refine uc _ (p l[i] (by omega) (by omega)) ?_|refine uc _ (t102 _ _ _ _ (by omega) (by omega) (by omega)) ?_|refine aD1 ?_|(refine And.intro (by first|exact uG _) ?_)|refine aS ?_|refine nT_ ?_)
    refine ⟨i+1,by omega,by omega,?_⟩
    repeat' (first|exact wJ|refine ui ?_|refine And.intro ?_ ?_)
    exact two (by omega) (by omega)
   ·have:i=l.length:=by omega
    subst this;rw [List.take_length]
    repeat' ((conv=>whnf);first|exact trivial|refine aD0 ?_|refine aS ?_|refine nT_ ?_)
def DT(n d:Nat):Int:=if n<=200/\d<=20 then 0 else 2
theorem t101(n d:Nat):DCalls Tryz.prog 199 [sz n d] (I (DT n d)):=by
 refine dl2 mixed [.tmp 2] [.int _ _] Tryz.func199 Ng ?_;unfold DT
 by_cases b:n<=200
 ·by_cases a:d<=20
  ·rw [if_pos ⟨b,a⟩];repeat' ((conv=>whnf);first|exact trivial|refine aD0 ?_|refine rix ?_|refine aS ?_|refine nT_ ?_)
  ·rw [if_neg (by omega)];repeat' ((conv=>whnf);first|exact trivial|refine aD1 ?_|refine aD0 ?_|refine rix ?_|refine aS ?_|refine nT_ ?_)
 ·rw [if_neg (by omega)];repeat' ((conv=>whnf);first|exact trivial|refine aD1 ?_|refine rix ?_|refine aS ?_|refine nT_ ?_)
def B8(e:Int)(b:Bool):Int:=if e=0 then (if b then 0 else 1) else e
theorem t88(n d:Nat)(b:Bool):DCalls Tryz.prog 187 [sz n d,.bool b] (I (B8 (DT n d) b)):=by
 refine dl2 mixed [.tmp 4] [.int _ _] Tryz.func187 Na ?_;have h:=t101 n d;generalize DT n d=e at *
 unfold B8
 by_cases a:e=0
 ·subst a;cases b <;> repeat' ((conv=>whnf);first|refine uc _ (h) ?_|refine aE1 ?_|refine rix ?_|refine aS ?_|exact trivial)
 ·rw [if_neg a]
  repeat' ((conv=>whnf);first|refine uc _ (h) ?_|refine aE0 ?_|refine rix ?_|refine aS ?_|exact trivial)
def Bg(k:Int):Nat:=if k=3\/k=4 then 2 else if k=5 then 1 else 0
def Cg(f:ByteArray)(n:Int):Bool:=uq f e0&&(n==0)
def okO(k:Int)(p:RP)(f:ByteArray)(n:Int):Bool:=
 if k=1 then vV p&&Cg f n
 else if k=2 then vh f&&zI p&&decide (0<=n)&&decide (n<=65535)
 else if k=3\/k=4\/k=5 then zI p&&Cg f n
 else false
mutual
def vU:RO->Bool
 |.mk k p f n a=>okO k p f n&&(a.length==Bg k)&&vJ a
def vJ:List RO->Bool
 |[]=>true
 |r::rs=>vU r&&vJ rs
end
theorem yT: ∀{l:List RO},vJ l=true↔ ∀(i:Nat) (h:i<l.length),vU l[i]=true
 |[]=>by simp [vJ]
 |r::rs=>by
  simp only [vJ,Bool.and_eq_true,yT (l:=rs)];constructor
  ·rintro ⟨b,h⟩ i a;cases i with
   |zero=>exact b
   |succ i=>simpa using h i (by simpa using a)
  ·intro h;exact ⟨h 0 (by simp),fun i a=>h (i+1) (by simpa using a)⟩
mutual
def zb:RO->Prop
 |.mk _ p f _ a=>AY p/\f.size<2^62/\zM a
def zM:List RO->Prop
 |[]=>True
 |r::rs=>zb r/\zM rs
end
theorem BE: ∀{l:List RO},zM l-> ∀(i:Nat) (h:i<l.length),zb l[i]
 |[],_,i,h=>by simp at h
 |r::rs,h,i,hi=>by
  cases i with
  |zero=>exact h.1
  |succ i=>simpa using BE h.2 i (by simpa using hi)
theorem t90(N:Nat): ∀r:RO,r.wt<=N->N<2^60->zb r->DCalls Tryz.prog 188 [.agg (uy r)] (.bool (vU r)):=by
 induction N with
 |zero=>intro r h;have:=r.yr;omega
 |succ N J=>
  rintro ⟨k,⟨s,o,p,m,q⟩,f,n,l⟩ H S ⟨E,A,D⟩;refine dl2 mixed [.tmp 2] [.bool _] Tryz.func188 Nb ?_;simp only [RO.wt,vU] at H ⊢;have u:=t104 f A;have y:=t105 (.mk s o p m q);have x:=t106 _ (.mk s o p m q) (Nat.le_refl _) (by omega) E
  repeat' ((conv=>whnf);first|refine uc _ (u) ?_|refine uc _ (y) ?_|refine aS ?_|refine nT_ ?_)
  refine tV (β:=Unit) (fun _=>{sl:=[(1,.ptr 1 0),(3,.t (.bool (vh f))),(4,.t (.bool (zI (.mk s o p m q)))),(5,.t (.bool (Cg f n)))],bx:=[(1,.d 9 (uy (.mk k (.mk s o p m q) f n l)))]}) (fun _=>True) ?_ ?_
  ·unfold Cg;have K:=uL f e0;generalize uq f e0=b at *
   repeat' ((conv=>whnf);first|refine nb_ b K ?_|(exact ⟨(),trivial,by (repeat' (first|exact wJ|refine And.intro ?_ ?_));done⟩)|refine nT_ ?_|refine nE_ (fun w=>?_) (fun w=>?_)|refine aS ?_|(cases b))
  rintro _ _
  repeat' ((conv=>whnf);first|refine aS ?_|refine nT_ ?_)
  refine tV (β:=Unit) (fun _=>{sl:=[(1,.ptr 1 0),(6,.t (I (Bg k))),(7,.t (.bool (okO k (.mk s o p m q) f n)))],bx:=[(1,.d 9 (uy (.mk k (.mk s o p m q) f n l)))]}) (fun _=>True) ?_ ?_
  ·unfold okO Bg;generalize vh f=a at *
   generalize vV (.mk s o p m q)=b at *
   generalize Cg f n=c at *
   generalize zI (.mk s o p m q)=d at *
   repeat' ((conv=>whnf);first|refine uc _ (x) ?_|(exact ⟨(),trivial,by (repeat' (first|exact wJ|refine And.intro ?_ ?_));done⟩)|refine nT_ ?_|refine nE_ (fun w=>?_) (fun w=>?_)|refine nD_ (fun w=>?_) (fun w=>?_)|refine aS ?_|(cases a)|(cases b)|(cases d))
  rintro _ _;generalize okO k (.mk s o p m q) f n=ok at *
  cases ok with
  |false=>repeat' ((conv=>whnf);first|refine rb0 ?_|exact trivial)
  |true=>
  by_cases g:l.length=Bg k
  ·have e:(true&&(l.length==Bg k)&&vJ l)=vJ l:=by simp [g]
   rw [e, <-g];have O:=yc l
   repeat' ((conv=>whnf);first|refine aN0 ?_|refine aS ?_|refine nT_ ?_)
   refine tT (α:=Nat) (fun i=>{sl:=[(1,.ptr 1 0),(6,.t (I l.length)),(8,.t (I i))],bx:=[(1,.d 9 (uy (.mk k (.mk s o p m q) f n l)))]})
    (fun i=>i<=l.length/\ ∀j (h:j<l.length),j<i->vU l[j]=true) (fun i=>l.length - i) 0 (by simp) ?_ ?_
   ·repeat' (first|exact wJ|refine And.intro ?_ ?_)
   rintro i ⟨Q,G⟩;rcases Nat.lt_or_ge i l.length with h|h
   ·have R:=xj h;have P:=xi (l:=l) (j:=i+1);have z:=J l[i] (by omega) (by omega) (BE D i h);cases v:vU l[i] with
    |true=>
     rw [v] at z
     repeat' ((conv=>whnf);first|(refine nv_ (.agg (uy l[i])) (by first|(simp [h,vO];done)|fail) ?_)|refine uc _ (z) ?_|refine aD1 ?_|(refine And.intro (by first|exact uG _) ?_)|refine aS ?_|refine nT_ ?_)
     refine ⟨i+1,⟨h,fun j C L=>?_⟩,by omega,?_⟩
     ·rcases Nat.lt_or_ge j i with F|F
      ·exact G j C F
      ·obtain rfl:j=i:=by omega
       exact v
     ·repeat' (first|exact wJ|refine And.intro ?_ ?_)
    |false=>
     rw [v] at z;have B:vJ l=false:=by
      cases M:vJ l with
      |false=>rfl
      |true=>rw [yT.1 M i h] at v;cases v
     rw [B]
     repeat' ((conv=>whnf);first|exact trivial|(refine nv_ (.agg (uy l[i])) (by first|(simp [h,vO];done)|fail) ?_)|refine uc _ (z) ?_|refine aD1 ?_|refine rb0 ?_|(refine And.intro (by first|exact uG _) ?_)|refine aS ?_|refine nT_ ?_)
   ·have B:vJ l=true:=yT.2 fun j C=>G j C (by omega)
    rw [B]
    repeat' ((conv=>whnf);first|refine aD0 ?_|refine rb1 ?_|refine aS ?_|exact trivial)
  ·have e:(true&&(l.length==Bg k)&&vJ l)=false:=by simp [g]
   rw [e]
   repeat' ((conv=>whnf);first|exact trivial|refine aN1 ?_|refine rb0 ?_|refine aS ?_|refine nT_ ?_)
def vQ(r:RO):Int:=B8 (DT r.size r.deep) (vU r)
theorem t63(r:RO)(a:r.wt<2^60)(f:zb r):DCalls Tryz.prog 171 [.agg (uy r)] (I (vQ r)):=by
 refine dl2 mixed [.tmp 2] [.int _ _] Tryz.func171 M5 ?_;have b:=t89 _ r (Nat.le_refl _) a;have d:=t90 _ r (Nat.le_refl _) a f;have e:=t88 r.size r.deep (vU r);have g:=uG r;unfold vQ
 repeat' ((conv=>whnf);first|refine uc _ (b) ?_|refine uc _ (d) ?_|refine uc _ (e) ?_|refine rix ?_|refine aS ?_|exact trivial)
end Go.MM
end
section
namespace Go.MM
open Go Go.DL Go.Proofs
structure RF where
 name:ByteArray
 a:Int
 w:Int
deriving Inhabited
def vY(f:RF):List T:=[.str f.name,I f.a,I f.w]
def wQ(f:RF):T:=.agg (vY f)
def yd(l:List RF):T:=.slice 3 (l.map wQ)
def at8(s:ByteArray)(i:Nat):Bool:=wY (w7 s i)||((ym (w7 s i)||w7 s i==95)&& !(i==0))
def Dq(s:ByteArray):Bool:=(List.range s.size).all fun i=>at8 s i
def yf(s:ByteArray):Bool:=Dq s&&(decide (1<=s.size)&&decide (s.size<=24))
theorem t69(s:ByteArray)(o:s.size<2^62):DCalls Tryz.prog 87 [.str s] (.bool (yf s)):=by
 refine dl2 mixed [.tmp 2] [.bool _] Tryz.func87 l87 ?_
 skip
 refine tT (α:=Nat) (fun i=>{sl:=[(0,.t (.str s)),(3,.t (I i))],bx:=[]})
  (fun i=>i<=s.size/\ ∀j,j<i->at8 s j=true) (fun i=>s.size - i) 0 (by simp) ?_ ?_
 ·repeat' (first|exact wJ|refine And.intro ?_ ?_)
 rintro i ⟨p,m⟩;rcases Nat.lt_or_ge i s.size with h|h
 ·have b:at8 s i=true->i+1<=s.size/\ ∀j,j<i+1->at8 s j=true:=fun d=>by
   refine ⟨h,fun j k=>?_⟩;rcases Nat.lt_or_ge j i with l|l
   ·exact m j l
   ·obtain rfl:j=i:=by omega
    exact d
  have g:at8 s i=false->yf s=false:=fun d=>by
   unfold yf
   have:Dq s=false:=by
    unfold Dq;rw [List.all_eq_false];exact ⟨i,by simpa using h,by simp [d]⟩
   rw [this];rfl
  have a:at8 s i=false->false=yf s:=fun d=>(g d).symm
  clear g;rw [show at8 s i=(wY (w7 s i)||((ym (w7 s i)||w7 s i==95)&& !(i==0))) from rfl] at b a;have n:((s.toList[i]?.getD 0).toNat:Int)=w7 s i:=rfl;generalize yf s=N at *
  generalize w7 s i=c at *
  repeat' ((conv=>whnf);first|(refine nv_ (U c) (by first|exact congrArg U n) ?_)|(exact rb (x:=false) (a (by simp [wY,ym];omega)) trivial)|(exact ⟨i+1,b (by simp [wY,ym];omega),by omega,by (repeat' (first|exact wJ|refine And.intro ?_ ?_));done⟩)|refine aE0 ?_|refine aD1 ?_|refine aD0 ?_|refine nE_ (fun f=>?_) (fun f=>?_)|refine nD_ (fun f=>?_) (fun f=>?_)|refine aS ?_|fail)
 ·have e:Dq s=true:=by
   unfold Dq;rw [List.all_eq_true];intro j k;exact m j (by simp at k;omega)
  unfold yf;rw [e]
  repeat' ((conv=>whnf);first|refine aD0 ?_|refine nD_ (fun f=>?_) (fun f=>?_)|refine rb1 ?_|refine rb0 ?_|refine aS ?_|exact trivial)
def xz(f:RF):Bool:=decide (1<=f.w)&&decide (f.w<=16)&&decide (16<=f.a)&&decide (f.a<=143)&&decide (f.a % 16+f.w<=16)
theorem Kd{a:Int}(h:0<=a):a.tmod 16=a % 16:=Int.tmod_eq_emod_of_nonneg h
theorem t70(f:RF):DCalls Tryz.prog 88 [wQ f] (.bool (xz f)):=by
 obtain ⟨s,a,w⟩:=f;refine dl2 mixed [.tmp 2] [.bool _] Tryz.func88 l88 ?_;simp only [xz]
 by_cases b:16<=a
 ·have e:=Kd (a:=a) (by omega)
  by_cases i:1<=w
  ·by_cases j:w<=16
   ·by_cases k:a<=143
    ·have d:IntKind.wrap .i64 (a.tmod 16+w)=a % 16+w:=by rw [e,nW] <;> omega
     have l:(decide (1<=w)&&decide (w<=16)&&decide (16<=a)&&decide (a<=143)&&decide (a % 16+w<=16))=decide (a % 16+w<=16):=by simp [b,i,j,k]
     rw [l]
     by_cases g:a % 16+w<=16
     ·repeat' ((conv=>whnf);first|exact trivial|(refine sC (by rw [d];exact g) ?_)|refine aD1 ?_|refine rb1 ?_|refine aS ?_|refine nT_ ?_)
     ·repeat' ((conv=>whnf);first|exact trivial|(refine su (by rw [d];exact g) ?_)|refine aD1 ?_|refine rb0 ?_|refine aS ?_|refine nT_ ?_)
    ·repeat' ((conv=>whnf);first|exact trivial|refine aD1 ?_|refine aD0 ?_|refine rb0 ?_|refine aS ?_|refine nT_ ?_)
   ·repeat' ((conv=>whnf);first|exact trivial|refine aD1 ?_|refine aD0 ?_|refine rb0 ?_|refine aS ?_|refine nT_ ?_)
  ·repeat' ((conv=>whnf);first|exact trivial|refine aD0 ?_|refine rb0 ?_|refine aS ?_|refine nT_ ?_)
 ·repeat' ((conv=>whnf);first|exact trivial|refine aD0 ?_|refine nD_ (fun h=>?_) (fun h=>?_)|refine rb0 ?_|refine aS ?_|refine nT_ ?_)
def zR(f:RF):Prop:= -1000<=f.a/\f.a<=1000/\ -1000<=f.w/\f.w<=1000
def xq(f g:RF):Bool:=decide (f.a<g.a+g.w)&&decide (g.a<f.a+f.w)
theorem t71(f g:RF)(j:zR f)(k:zR g):DCalls Tryz.prog 89 [wQ f,wQ g] (.bool (xq f g)):=by
 obtain ⟨s,a,w⟩:=f;obtain ⟨l,b,v⟩:=g;simp only [zR] at j k;refine dl2 mixed [.tmp 4] [.bool _] Tryz.func89 l89 ?_;simp only [xq];have e:IntKind.wrap .i64 (b+v)=b+v:=nW (by omega) (by omega);have i:IntKind.wrap .i64 (a+w)=a+w:=nW (by omega) (by omega)
 by_cases d:a<b+v
 ·by_cases h:b<a+w
  ·repeat' ((conv=>whnf);first|exact trivial|(refine sC (by rw [e];exact d) ?_)|(refine sC (by rw [i];exact h) ?_)|refine rb1 ?_|refine aS ?_|refine nT_ ?_)
  ·repeat' ((conv=>whnf);first|exact trivial|(refine sC (by rw [e];exact d) ?_)|(refine su (by rw [i];exact h) ?_)|refine rb0 ?_|refine aS ?_|refine nT_ ?_)
 ·repeat' ((conv=>whnf);first|exact trivial|(refine su (by rw [e];exact d) ?_)|refine rb0 ?_|refine aS ?_|refine nT_ ?_)
def vp(l:List RF)(i:Nat)(f:RF):Int:=
 if yf f.name=false\/uq f.name wF=true then 4
 else if ((l.take i).any fun g=>uq g.name f.name)=true then 4
 else if xz f=false then 1
 else if ((l.take i).any fun g=>xq g f)=true then 1 else 0
def uT:List Int->Int
 |[]=>0
 |x::xs=>if x≠0 then x else uT xs
theorem yD: ∀{l:List Int} {i:Nat} (h:i<l.length),(∀ j (a:j<l.length),j<i->l[j]=0)->l[i]≠0->uT l=l[i]
 |x::xs,0,h,_,h0=>by simp at h0;simp [uT,h0]
 |x::xs,i+1,h,hz,h0=>by
  have b:x=0:=hz 0 (by simp) (by omega);simp only [uT,b,ne_eq,not_true_eq_false,if_false];exact yD (by simpa using h) (fun j a d=>hz (j+1) (by simpa using a) (by omega)) (by simpa using h0)
theorem zg: ∀{l:List Int},(∀ j (a:j<l.length),l[j]=0)->uT l=0
 |[],_=>rfl
 |x::xs,hz=>by
  have b:x=0:=hz 0 (by simp);simp only [uT,b,ne_eq,not_true_eq_false,if_false];exact zg fun j a=>hz (j+1) (by simpa using a)
def yN(l:List RF):Int:=if l.length>16 then 2 else uT (l.mapIdx fun i f=>vp l i f)
theorem A3{f:RF}(h:xz f=true):zR f:=by
 simp [xz] at h;unfold zR;omega
theorem xS{p:RF->Bool}{l:List RF}{i:Nat}(f:i<=l.length):((l.take i).any p=true)↔ ∃j, ∃h:j<l.length,j<i/\p l[j]=true:=by
 rw [List.any_eq_true];constructor
 ·rintro ⟨x,d,a⟩;obtain ⟨j,b,rfl⟩:=List.getElem_of_mem d;simp at b;exact ⟨j,by omega,by omega,by simpa using a⟩
 ·rintro ⟨j,h,e,a⟩;exact ⟨l[j],List.mem_take_iff_getElem.2 ⟨j,by omega,rfl⟩,a⟩
theorem t47(l:List RF)(S:l.length<2^60)(R: ∀f∈l,f.name.size<2^62):DCalls Tryz.prog 36 [yd l] (I (yN l)):=by
 refine dl2 mixed [.tmp 2] [.int _ _] Tryz.func36 l36 ?_;unfold yN
 by_cases E:l.length>16
 ·rw [if_pos E];repeat' ((conv=>whnf);first|refine aD1 ?_|refine rix ?_|refine aS ?_|exact trivial)
 rw [if_neg E]
 repeat' ((conv=>whnf);first|refine aD0 ?_|refine aS ?_|fail)
 refine tT (α:=Nat) (fun i=>{sl:=[(0,.t (yd l)),(3,.t (I i))],bx:=[]})
  (fun i=>i<=l.length/\ ∀j (h:j<l.length),j<i->vp l j l[j]=0) (fun i=>l.length - i) 0 (by simp) ?_ ?_
 ·repeat' (first|exact wJ|refine And.intro ?_ ?_)
 rintro i ⟨P,H⟩;rcases Nat.lt_or_ge i l.length with h|h
 ·have o: ∀e,vp l i l[i]=e->e≠0->uT (l.mapIdx fun i f=>vp l i f)=e:=fun e O K=>by
   have:=yD (l:=l.mapIdx fun i f=>vp l i f) (i:=i) (by simpa using h) (fun j a b=>by simpa using H j (by simpa using a) b) (by simpa [O] using K)
   rw [this];simpa using O
  have F:vp l i l[i]=0->i+1<=l.length/\ ∀j (h:j<l.length),j<i+1->vp l j l[j]=0:=fun K=>by
   refine ⟨h,fun j a b=>?_⟩;rcases Nat.lt_or_ge j i with r|r
   ·exact H j a r
   ·obtain rfl:j=i:=by omega
    exact K
  have u: ∀k (N:k<l.length),k<i->zR l[k]:=fun k N b=>by
   have:=H k N b
   unfold vp at this;split at this; ·omega
   split at this; ·omega
   split at this; ·omega
   rename_i Q;exact A3 (by simpa using Q)
  have c69:=t69 l[i].name (R _ (List.getElem_mem h));have c70:=t70 l[i];have J:=uL l[i].name wF;cases s:yf l[i].name with
  |false=>
   rw [s] at c69;rw [o 4 (by unfold vp;simp [s]) (by decide)]
   repeat' ((conv=>whnf);first|exact trivial|(refine nv_ (.agg (vY l[i])) (by first|(simp [h,wQ];done)|fail) ?_)|refine uc _ (c69) ?_|refine aD1 ?_|refine rix ?_|refine aS ?_|refine nT_ ?_)
  |true=>
  rw [s] at c69;cases x:uq l[i].name wF with
  |true=>
   rw [x] at J;rw [o 4 (by unfold vp;simp [x]) (by decide)]
   repeat' ((conv=>whnf);first|exact trivial|(refine nv_ (.agg (vY l[i])) (by first|(simp [h,wQ];done)|fail) ?_)|refine uc _ (c69) ?_|refine nb_ true J ?_|refine aD1 ?_|refine rix ?_|refine aS ?_|refine nT_ ?_)
  |false=>
  rw [x] at J
  repeat' ((conv=>whnf);first|(refine nv_ (.agg (vY l[i])) (by first|(simp [h,wQ];done)|fail) ?_)|refine uc _ (c69) ?_|refine nb_ false J ?_|refine aD1 ?_|refine aS ?_|refine nT_ ?_)
  refine tT (α:=Nat) (fun k=>{sl:=[(0,.t (yd l)),(3,.t (I i)),(5,.t (I k))],bx:=[]})
   (fun k=>k<=i/\ ∀j (a:j<l.length),j<k->uq l[j].name l[i].name=false) (fun k=>i - k) 0 (by simp) ?_ ?_
  ·repeat' (first|exact wJ|refine And.intro ?_ ?_)
  rintro k ⟨N,C⟩;rcases Nat.lt_or_ge k i with D|D
  ·have w:k<l.length:=by omega
   have G:=uL l[k].name l[i].name;cases q:uq l[k].name l[i].name with
   |true=>
    rw [q] at G;rw [o 4 (by unfold vp;rw [if_neg (by simp [s,x]),if_pos ((xS (by omega)).2 ⟨k,w,D,q⟩)]) (by decide)]
    repeat' ((conv=>whnf);first|exact trivial|(refine nv_ (.agg (vY l[k])) (by first|(simp [w,wQ];done)|fail) ?_)|(refine nv_ (.agg (vY l[i])) (by first|(simp [h,wQ];done)|fail) ?_)|refine nb_ true G ?_|refine aD1 ?_|refine rix ?_|refine aS ?_|refine nT_ ?_)
   |false=>
    rw [q] at G
    repeat' ((conv=>whnf);first|(refine nv_ (.agg (vY l[k])) (by first|(simp [w,wQ];done)|fail) ?_)|(refine nv_ (.agg (vY l[i])) (by first|(simp [h,wQ];done)|fail) ?_)|refine nb_ false G ?_|refine aD1 ?_|refine aS ?_|refine nT_ ?_)
    refine ⟨k+1,⟨by omega,fun j a b=>?_⟩,by omega,?_⟩
    ·rcases Nat.lt_or_ge j k with r|r
     ·exact C j a r
     ·obtain rfl:j=k:=by omega
      exact q
    ·repeat' (first|exact wJ|refine And.intro ?_ ?_)
  obtain rfl:k=i:=by omega
  have n: ¬((l.take k).any fun g=>uq g.name l[k].name)=true:=fun L=>by
   obtain ⟨j,a,y,d⟩:=(xS P).1 L;rw [C j a y] at d;cases d
  cases z:xz l[k] with
  |false=>
   rw [z] at c70;rw [o 1 (by unfold vp;rw [if_neg (by simp [s,x]),if_neg n,if_pos z]) (by decide)]
   repeat' ((conv=>whnf);first|exact trivial|(refine nv_ (.agg (vY l[k])) (by first|(simp [h,wQ];done)|fail) ?_)|refine uc _ (c70) ?_|refine aD0 ?_|refine rix ?_|refine aS ?_|refine nT_ ?_)
  |true=>
  rw [z] at c70;have M:=A3 z
  repeat' ((conv=>whnf);first|(refine nv_ (.agg (vY l[k])) (by first|(simp [h,wQ];done)|fail) ?_)|refine uc _ (c70) ?_|refine aD0 ?_|refine aS ?_|refine nT_ ?_)
  refine tT (α:=Nat) (fun m=>{sl:=[(0,.t (yd l)),(3,.t (I k)),(7,.t (I m))],bx:=[]})
   (fun m=>m<=k/\ ∀j (a:j<l.length),j<m->xq l[j] l[k]=false) (fun m=>k - m) 0 (by simp) ?_ ?_
  ·repeat' (first|exact wJ|refine And.intro ?_ ?_)
  rintro m ⟨T,A⟩;rcases Nat.lt_or_ge m k with v|v
  ·have p:m<l.length:=by omega
   have c71:=t71 l[m] l[k] (u m p v) M;cases q:xq l[m] l[k] with
   |true=>
    rw [q] at c71;rw [o 1 (by unfold vp;rw [if_neg (by simp [s,x]),if_neg n,if_neg (by simp [z]),if_pos ((xS (by omega)).2 ⟨m,p,v,q⟩)]) (by decide)]
    repeat' ((conv=>whnf);first|exact trivial|(refine nv_ (.agg (vY l[m])) (by first|(simp [p,wQ];done)|fail) ?_)|(refine nv_ (.agg (vY l[k])) (by first|(simp [h,wQ];done)|fail) ?_)|refine uc _ (c71) ?_|refine aD1 ?_|refine rix ?_|refine aS ?_|refine nT_ ?_)
   |false=>
    rw [q] at c71
    repeat' ((conv=>whnf);first|(refine nv_ (.agg (vY l[m])) (by first|(simp [p,wQ];done)|fail) ?_)|(refine nv_ (.agg (vY l[k])) (by first|(simp [h,wQ];done)|fail) ?_)|refine uc _ (c71) ?_|refine aD1 ?_|refine aS ?_|refine nT_ ?_)
    refine ⟨m+1,⟨by omega,fun j a b=>?_⟩,by omega,?_⟩
    ·rcases Nat.lt_or_ge j m with r|r
     ·exact A j a r
     ·obtain rfl:j=m:=by omega
      exact q
    ·repeat' (first|exact wJ|refine And.intro ?_ ?_)
  obtain rfl:m=k:=by omega
  have B: ¬((l.take m).any fun g=>xq g l[m])=true:=fun L=>by
   obtain ⟨j,a,y,d⟩:=(xS P).1 L;rw [A j a y] at d;cases d
  have e0:vp l m l[m]=0:=by unfold vp;rw [if_neg (by simp [s,x]),if_neg n,if_neg (by simp [z]),if_neg B]
  repeat' ((conv=>whnf);first|(exact ⟨m+1,F e0,by omega,by (repeat' (first|exact wJ|refine And.intro ?_ ?_));done⟩)|refine aD0 ?_|refine aS ?_|fail)
 ·rw [zg fun j a=>by simpa using H j (by simpa using a) (by simp at a;omega)]
  repeat' ((conv=>whnf);first|refine aD0 ?_|refine rix ?_|refine aS ?_|exact trivial)
mutual
def xg:RP->List RP
 |.mk k f n m a=>.mk k f n m a::wo a
def wo:List RP->List RP
 |[]=>[]
 |r::rs=>xg r++wo rs
end
mutual
theorem Aq: ∀r:RP,(xg r).length=r.nodes
 |.mk k f n m a=>by simp only [xg,List.length_cons,zA a,RP.nodes];omega
theorem zA: ∀l:List RP,(wo l).length=uV l
 |[]=>rfl
 |r::rs=>by simp only [wo,List.length_append,Aq r,zA rs,uV]
end
theorem A0: ∀{l:List RP} {j:Nat} (h:j<l.length),wo (l.take (j+1))=wo (l.take j)++xg l[j]
 |r::rs,0,h=>by simp [wo]
 |r::rs,j+1,h=>by
  have:=A0 (l:=rs) (j:=j) (by simpa using h)
  simp only [List.take_succ_cons,wo,List.getElem_cons_succ,this,List.append_assoc]
theorem t91(N:Nat): ∀r:RP,r.nodes<=N->N<2^40->DCalls Tryz.prog 190 [.agg (uW r)] (.slice 5 ((xg r).map zw)):=by
 induction N with
 |zero=>intro r h;have:=r.xd;omega
 |succ N e=>
  rintro ⟨k,f,n,m,l⟩ a y;refine dl2 mixed [.tmp 2] [.slice 5 _] Tryz.func190 Nd ?_;simp only [RP.nodes,xg] at a ⊢;have s:=yg l
  repeat' ((conv=>whnf);first|refine aS ?_|fail)
  refine tT (α:=Nat×Nat) (fun q=>{sl:=[(1,.ptr 1 0),(3,.own q.1 36 5 ((RP.mk k f n m l::wo (l.take q.2)).map zw)),(4,.t (I q.2))],bx:=[(1,.d 5 (uW (.mk k f n m l)))]})
   (fun q=>q.2<=l.length) (fun q=>l.length - q.2) (6,0) (by simp) ?_ ?_
  ·repeat' (first|exact wJ|refine ug ?_|refine And.intro ?_ ?_)
   simp [wo,wC]
  rintro ⟨o,i⟩ g;dsimp only at g;rcases Nat.lt_or_ge i l.length with h|h
  ·have w:=xR h;have u:=xQ (l:=l) (j:=i+1);have p:=e l[i] (by omega) (by omega);have x:=Aq l[i];have v:=zA (l.take i);have b:=A0 h
   repeat' ((conv=>whnf);first|(refine nv_ (.agg (uW l[i])) (by first|(simp [h,wC];done)|fail) ?_)|refine uc _ (p) ?_|refine aD1 ?_|(refine And.intro (by first|exact vZ _|((simp only [List.length_map,List.length_cons];omega);done)|fail) ?_)|refine aS ?_|refine nT_ ?_)
   refine ⟨(21,i+1),by dsimp only;omega,by dsimp only;omega,?_⟩
   repeat' (first|exact wJ|refine ug ?_|refine And.intro ?_ ?_)
   simp [b]
  ·have:i=l.length:=by omega
   subst this;rw [List.take_length]
   repeat' ((conv=>whnf);first|exact trivial|refine aD0 ?_|refine aS ?_|refine nT_ ?_)
mutual
def wO:RO->List RO
 |.mk k p f n a=>.mk k p f n a::vD a
def vD:List RO->List RO
 |[]=>[]
 |r::rs=>wO r++vD rs
end
mutual
def RO.cnt:RO->Nat
 |.mk _ _ _ _ a=>1+Bi a
def Bi:List RO->Nat
 |[]=>0
 |r::rs=>r.cnt+Bi rs
end
mutual
theorem RO.Dv: ∀r:RO,r.cnt<=r.wt
 |.mk k p _ _ a=>by have:=BM a;simp only [RO.cnt,RO.wt];omega
theorem BM: ∀l:List RO,Bi l<=vC l
 |[]=>Nat.le_refl _
 |r::rs=>by have:=RO.Dv r;have:=BM rs;simp only [Bi,vC];omega
end
mutual
theorem Ar: ∀r:RO,(wO r).length=r.cnt
 |.mk k p f n a=>by simp only [wO,List.length_cons,zB a,RO.cnt];omega
theorem zB: ∀l:List RO,(vD l).length=Bi l
 |[]=>rfl
 |r::rs=>by simp only [vD,List.length_append,Ar r,zB rs,Bi]
end
theorem A1: ∀{l:List RO} {j:Nat} (h:j<l.length),vD (l.take (j+1))=vD (l.take j)++wO l[j]
 |r::rs,0,h=>by simp [vD]
 |r::rs,j+1,h=>by
  have:=A1 (l:=rs) (j:=j) (by simpa using h)
  simp only [List.take_succ_cons,vD,List.getElem_cons_succ,this,List.append_assoc]
theorem t64(N:Nat): ∀r:RO,r.wt<=N->N<2^40->DCalls Tryz.prog 173 [.agg (uy r)] (.slice 9 ((wO r).map yR)):=by
 induction N with
 |zero=>intro r h;have:=r.yr;omega
 |succ N u=>
  rintro ⟨k,⟨m,b,e,a,g⟩,f,n,l⟩ p E;refine dl2 mixed [.tmp 2] [.slice 9 _] Tryz.func173 M7 ?_;simp only [RO.wt,wO] at p ⊢;have x:=yc l
  repeat' ((conv=>whnf);first|refine aS ?_|fail)
  refine tT (α:=Nat×Nat) (fun q=>{sl:=[(1,.ptr 1 0),(3,.own q.1 39 9 ((RO.mk k (.mk m b e a g) f n l::vD (l.take q.2)).map yR)),(4,.t (I q.2))],bx:=[(1,.d 9 (uy (.mk k (.mk m b e a g) f n l)))]})
   (fun q=>q.2<=l.length) (fun q=>l.length - q.2) (6,0) (by simp) ?_ ?_
  ·repeat' (first|exact wJ|refine ug ?_|refine And.intro ?_ ?_)
   simp [vD,vO]
  rintro ⟨o,i⟩ v;dsimp only at v;rcases Nat.lt_or_ge i l.length with h|h
  ·have C:=xj h;have y:=xi (l:=l) (j:=i+1);have w:=u l[i] (by omega) (by omega);have D:=Ar l[i];have z:=zB (l.take i);have s:=A1 h;have B:=BM (l.take i);have A:=l[i].Dv
   repeat' ((conv=>whnf);first|(refine nv_ (.agg (uy l[i])) (by first|(simp [h,vO];done)|fail) ?_)|refine uc _ (w) ?_|refine aD1 ?_|(refine And.intro (by first|exact uG _|((simp only [List.length_map,List.length_cons];omega);done)|fail) ?_)|refine aS ?_|refine nT_ ?_)
   refine ⟨(21,i+1),by dsimp only;omega,by dsimp only;omega,?_⟩
   repeat' (first|exact wJ|refine ug ?_|refine And.intro ?_ ?_)
   simp [s]
  ·have:i=l.length:=by omega
   subst this;rw [List.take_length]
   repeat' ((conv=>whnf);first|exact trivial|refine aD0 ?_|refine aS ?_|refine nT_ ?_)
mutual
def RO.wy:RO->Nat
 |.mk k _ _ _ a=>wX a+(if k=5 then 1 else 0)
def wX:List RO->Nat
 |[]=>0
 |r::rs=>max r.wy (wX rs)
end
mutual
def RO.yz:RO->Nat
 |.mk k _ _ _ a=>yI a+(if k=2 then 1 else 0)
def yI:List RO->Nat
 |[]=>0
 |r::rs=>r.yz+yI rs
end
mutual
theorem RO.Ee: ∀r:RO,r.wy<=r.wt
 |.mk k p _ _ a=>by have:=zm a;have:=p.xd;simp only [RO.wy,RO.wt];split <;> omega
theorem zm: ∀l:List RO,wX l<=vC l
 |[]=>Nat.le_refl _
 |r::rs=>by have:=RO.Ee r;have:=zm rs;simp only [wX,vC];omega
end
mutual
theorem RO.EM: ∀r:RO,r.yz<=r.wt
 |.mk k p _ _ a=>by have:=Av a;have:=p.xd;simp only [RO.yz,RO.wt];split <;> omega
theorem Av: ∀l:List RO,yI l<=vC l
 |[]=>Nat.le_refl _
 |r::rs=>by have:=RO.EM r;have:=Av rs;simp only [yI,vC];omega
end
theorem BJ: ∀{l:List RO} {j:Nat} (h:j<l.length),wX (l.take (j+1))=max (wX (l.take j)) l[j].wy
 |r::rs,0,h=>by simp [wX]
 |r::rs,j+1,h=>by
  have:=BJ (l:=rs) (j:=j) (by simpa using h)
  simp only [List.take_succ_cons,wX,List.getElem_cons_succ];omega
theorem Cj: ∀{l:List RO} {j:Nat} (h:j<l.length),yI (l.take (j+1))=yI (l.take j)+l[j].yz
 |r::rs,0,h=>by simp [yI]
 |r::rs,j+1,h=>by
  have:=Cj (l:=rs) (j:=j) (by simpa using h)
  simp only [List.take_succ_cons,yI,List.getElem_cons_succ];omega
theorem t60(N:Nat): ∀r:RO,r.wt<=N->N<2^60->DCalls Tryz.prog 93 [.agg (uy r)] (I r.yz):=by
 induction N with
 |zero=>intro r h;have:=r.yr;omega
 |succ N m=>
  rintro ⟨k,⟨u,g,p,e,s⟩,f,n,l⟩ b B;refine dl2 mixed [.tmp 2] [.int _ _] Tryz.func93 l93 ?_;simp only [RO.wt,RO.yz] at b ⊢;have v:=yc l
  repeat' ((conv=>whnf);first|refine aS ?_|fail)
  refine tT (α:=Nat) (fun i=>{sl:=[(1,.ptr 1 0),(3,.t (I (yI (l.take i):Nat))),(4,.t (I i))],bx:=[(1,.d 9 (uy (.mk k (.mk u g p e s) f n l)))]})
   (fun i=>i<=l.length) (fun i=>l.length - i) 0 (by simp) ?_ ?_
  ·repeat' (first|exact wJ|refine And.intro ?_ ?_)
  rintro i y;rcases Nat.lt_or_ge i l.length with h|h
  ·have A:=xj h;have w:=xi (l:=l) (j:=i+1);have o:=m l[i] (by omega) (by omega);have q:=Av (l.take i);have x:=l[i].EM;have z:=Cj h
   repeat' ((conv=>whnf);first|(refine nv_ (.agg (uy l[i])) (by first|(simp [h,vO];done)|fail) ?_)|refine uc _ (o) ?_|refine aD1 ?_|(refine And.intro (by first|exact uG _) ?_)|refine aS ?_|refine nT_ ?_)
   refine ⟨i+1,by omega,by omega,?_⟩
   repeat' (first|exact wJ|refine And.intro ?_ ?_)
  ·have:i=l.length:=by omega
   subst this;rw [List.take_length];have q:=Av l
   by_cases a:k=2
   ·simp only [a,if_true]
    repeat' ((conv=>whnf);first|exact trivial|refine aE1 ?_|refine aD0 ?_|refine rix ?_|refine aS ?_|refine nT_ ?_)
   ·simp only [a,if_false]
    repeat' ((conv=>whnf);first|exact trivial|refine aE0 ?_|refine aD0 ?_|refine rix ?_|refine aS ?_|refine nT_ ?_)
theorem t59(N:Nat): ∀r:RO,r.wt<=N->N<2^60->DCalls Tryz.prog 39 [.agg (uy r)] (I r.wy):=by
 induction N with
 |zero=>intro r h;have:=r.yr;omega
 |succ N m=>
  rintro ⟨k,⟨w,g,q,e,v⟩,f,n,l⟩ b C;refine dl2 mixed [.tmp 2] [.int _ _] Tryz.func39 l39 ?_;simp only [RO.wt,RO.wy] at b ⊢;have x:=yc l
  repeat' ((conv=>whnf);first|refine aS ?_|fail)
  refine tT (α:=Nat) (fun i=>{sl:=[(1,.ptr 1 0),(3,.t (I (wX (l.take i):Nat))),(4,.t (I i))],bx:=[(1,.d 9 (uy (.mk k (.mk w g q e v) f n l)))]})
   (fun i=>i<=l.length) (fun i=>l.length - i) 0 (by simp) ?_ ?_
  ·repeat' (first|exact wJ|refine And.intro ?_ ?_)
  rintro i A;rcases Nat.lt_or_ge i l.length with h|h
  ·have B:=xj h;have y:=xi (l:=l) (j:=i+1);have o:=m l[i] (by omega) (by omega);have u:=zm (l.take i);have z:=l[i].Ee;have p:=BJ h;have s:((wX (l.take (i+1)):Nat):Int)=if ((l[i].wy:Nat):Int)>(wX (l.take i):Nat) then ((l[i].wy:Nat):Int) else (wX (l.take i):Nat):=by rw [p];split <;> omega
   repeat' ((conv=>whnf);first|(refine nv_ (.agg (uy l[i])) (by first|(simp [h,vO];done)|fail) ?_)|refine uc _ (o) ?_|refine aD1 ?_|(refine And.intro (by first|exact uG _) ?_)|refine aS ?_|refine nT_ ?_)
   refine ⟨i+1,by omega,by omega,?_⟩
   repeat' (first|(exact leI s)|exact wJ|refine And.intro ?_ ?_)
  ·have:i=l.length:=by omega
   subst this;rw [List.take_length];have u:=zm l
   by_cases a:k=5
   ·simp only [a,if_true]
    repeat' ((conv=>whnf);first|exact trivial|refine aE1 ?_|refine aD0 ?_|refine rix ?_|refine aS ?_|refine nT_ ?_)
   ·simp only [a,if_false]
    repeat' ((conv=>whnf);first|exact trivial|refine aE0 ?_|refine aD0 ?_|refine rix ?_|refine aS ?_|refine nT_ ?_)
def zL(n k:Nat):Bool:=(n==0)||((n==1)&&decide (k<=8))||((n==2)&&decide (k<=4))||((n==3)&&decide (k<=3))||((n==4)&&decide (k<=2))
theorem t38(r:RO)(b:r.wt<2^60):DCalls Tryz.prog 40 [.agg (uy r)] (.bool (zL r.wy r.yz)):=by
 refine dl2 mixed [.tmp 2] [.bool _] Tryz.func40 l40 ?_;have d:=t59 _ r (Nat.le_refl _) b;have e:=t60 _ r (Nat.le_refl _) b;generalize r.wy=n at *
 generalize r.yz=m at *
 unfold zL
 repeat' ((conv=>whnf);first|refine uc _ (d) ?_|refine uc _ (e) ?_|refine aE0 ?_|refine nE_ (fun a=>?_) (fun a=>?_)|refine nD_ (fun a=>?_) (fun a=>?_)|refine rb1 ?_|refine rb0 ?_|(refine And.intro (by first|exact uG _) ?_)|refine aS ?_|exact trivial)
end Go.MM
end
section
namespace Go.MM
open Go Go.DL Go.Proofs
def yS(l:List Fd):RP->Int
 |.mk k f n m _=>if k=3\/k=4\/k=5 then (match findF l f with
   |none=>4
   |some F=>if (if k=5 then m else n)>((2^F.w - 1:Nat):Int)\/(k=4/\m>F.w) then 1 else 0) else 0
theorem G1{l:List Fd}(a:LOk l){s:ByteArray}{F:Fd}(h:findF l s=some F):F.w<=16:=by
 have:=(a.find h).w2;omega
theorem t92(l:List Fd)(j:LOk l)(r:RP):DCalls Tryz.prog 191 [fds l,.agg (uW r)] (I (yS l r)):=by
 obtain ⟨k,f,n,m,a⟩:=r;refine dl2 mixed [.tmp 4] [.int _ _] Tryz.func191 Nf ?_;have b:=t51 l f j.len;simp only [yS]
 by_cases g:k=3\/k=4\/k=5
 ·rw [if_pos g];unfold yC at b;cases i:findF l f with
  |none=>
   rw [i] at b;simp only at b ⊢;rcases g with rfl|rfl|rfl <;> repeat' ((conv=>whnf);first|exact trivial|refine uc _ (b) ?_|refine aN1 ?_|refine aN0 ?_|refine rix ?_|refine aS ?_|refine nT_ ?_)
  |some F=>
   rw [i] at b;simp only at b ⊢;have o:=G1 j i;have e:=t66 F (j.find i);obtain ⟨s,fa,w⟩:=F;simp only at o e ⊢;generalize u:((2^w - 1:Nat):Int)=M at *
   rcases g with rfl|rfl|rfl
   ·by_cases c:n>M
    ·rw [if_pos (by simp;omega)];repeat' ((conv=>whnf);first|exact trivial|refine uc _ (b) ?_|refine uc _ (e) ?_|refine aE0 ?_|refine aN0 ?_|refine aD1 ?_|refine rix ?_|refine aS ?_|refine nT_ ?_)
    ·rw [if_neg (by simp;omega)];repeat' ((conv=>whnf);first|exact trivial|refine uc _ (b) ?_|refine uc _ (e) ?_|refine aE0 ?_|refine aN0 ?_|refine aD0 ?_|refine rix ?_|refine aS ?_|refine nT_ ?_)
   ·by_cases c:n>M
    ·rw [if_pos (by simp;omega)];repeat' ((conv=>whnf);first|exact trivial|refine uc _ (b) ?_|refine uc _ (e) ?_|refine aE0 ?_|refine aN1 ?_|refine aN0 ?_|refine aD1 ?_|refine rix ?_|refine aS ?_|refine nT_ ?_)
    ·by_cases d:m>(w:Int)
     ·rw [if_pos (by simp;omega)];repeat' ((conv=>whnf);first|exact trivial|refine uc _ (b) ?_|refine uc _ (e) ?_|refine aE1 ?_|refine aE0 ?_|refine aN1 ?_|refine aN0 ?_|refine aD1 ?_|refine aD0 ?_|refine rix ?_|refine aS ?_|refine nT_ ?_)
     ·rw [if_neg (by simp;omega)];repeat' ((conv=>whnf);first|exact trivial|refine uc _ (b) ?_|refine uc _ (e) ?_|refine aE1 ?_|refine aE0 ?_|refine aN1 ?_|refine aN0 ?_|refine aD0 ?_|refine rix ?_|refine aS ?_|refine nT_ ?_)
   ·by_cases c:m>M
    ·rw [if_pos (by simp;omega)];repeat' ((conv=>whnf);first|exact trivial|refine uc _ (b) ?_|refine uc _ (e) ?_|refine aE1 ?_|refine aN1 ?_|refine aN0 ?_|refine aD1 ?_|refine rix ?_|refine aS ?_|refine nT_ ?_)
    ·rw [if_neg (by simp;omega)];repeat' ((conv=>whnf);first|exact trivial|refine uc _ (b) ?_|refine uc _ (e) ?_|refine aE1 ?_|refine aE0 ?_|refine aN1 ?_|refine aN0 ?_|refine aD0 ?_|refine rix ?_|refine aS ?_|refine nT_ ?_)
 ·rw [if_neg g];have t:k≠3:=fun h=>g (.inl h)
  have q:k≠4:=fun h=>g (.inr (.inl h))
  have p:k≠5:=fun h=>g (.inr (.inr h))
  repeat' ((conv=>whnf);first|exact trivial|refine aN1 ?_|refine rix ?_|refine aS ?_|refine nT_ ?_)
def fitAll(l:List Fd)(r:RP):Int:=uT ((xg r).map (yS l))
theorem t65(l:List Fd)(p:LOk l)(r:RP)(o:r.nodes<2^40):DCalls Tryz.prog 174 [fds l,.agg (uW r)] (I (fitAll l r)):=by
 refine dl2 mixed [.tmp 4] [.int _ _] Tryz.func174 M8 ?_;have f:=t91 _ r (Nat.le_refl _) o;have m:=Aq r;unfold fitAll;generalize xg r=ps at *
 repeat' ((conv=>whnf);first|refine uc _ (f) ?_|(refine And.intro (by first|exact vZ _) ?_)|fail)
 refine tT (α:=Nat) (fun i=>{sl:=[(0,.t (fds l)),(5,.t (.slice 5 (ps.map zw))),(6,.t (I i))],bx:=[]})
  (fun i=>i<=ps.length/\ ∀j (h:j<ps.length),j<i->yS l ps[j]=0) (fun i=>ps.length - i) 0 (by simp) ?_ ?_
 ·repeat' (first|exact wJ|refine And.intro ?_ ?_)
 rintro i ⟨q,k⟩;rcases Nat.lt_or_ge i ps.length with h|h
 ·have a:=t92 l p ps[i]
  by_cases g:yS l ps[i]=0
  ·rw [g] at a
   repeat' ((conv=>whnf);first|(refine nv_ (.agg (uW ps[i])) (by first|(simp [h,wC];done)|fail) ?_)|refine uc _ (a) ?_|refine aN0 ?_|refine aD1 ?_|(refine And.intro (by first|exact vZ _) ?_)|refine aS ?_|refine nT_ ?_)
   refine ⟨i+1,⟨h,fun j b d=>?_⟩,by omega,?_⟩
   ·rcases Nat.lt_or_ge j i with n|n
    ·exact k j b n
    ·obtain rfl:j=i:=by omega
     exact g
   ·repeat' (first|exact wJ|refine And.intro ?_ ?_)
  ·have e:uT (ps.map (yS l))=yS l ps[i]:=by
    have:=yD (l:=ps.map (yS l)) (i:=i) (by simpa using h) (fun j b d=>by simpa using k j (by simpa using b) d) (by simpa using g)
    simpa using this
   rw [e];generalize yS l ps[i]=e at *
   repeat' ((conv=>whnf);first|exact trivial|(refine nv_ (.agg (uW ps[i])) (by first|(simp [h,wC];done)|fail) ?_)|refine uc _ (a) ?_|refine aN1 ?_|refine aD1 ?_|refine rix ?_|(refine And.intro (by first|exact vZ _) ?_)|refine aS ?_|refine nT_ ?_)
 ·rw [zg fun j b=>by simpa using k j (by simpa using b) (by simp at b;omega)]
  repeat' ((conv=>whnf);first|refine aD0 ?_|refine rix ?_|refine aS ?_|exact trivial)
def xD(l:List Fd):RO->Int
 |.mk k p f n _=>if k=1 then fitAll l p else if k=2 then (match findF l f with
   |none=>4
   |some F=>if n>((2^F.w - 1:Nat):Int) then 1 else 0) else 0
def FE(l:List Fd)(r:RO):Int:=if vQ r≠0 then vQ r else uT ((wO r).map (xD l))
mutual
theorem C2: ∀r:RO, ∀x∈wO r,x.wt<=r.wt
 |.mk k p f n a=>fun x b=>by
  simp only [wO,List.mem_cons] at b;rcases b with rfl|b
  ·exact Nat.le_refl _
  ·have:=Ch a x b;simp only [RO.wt];omega
theorem Ch: ∀l:List RO, ∀x∈vD l,x.wt<=vC l
 |[]=>fun x a=>by simp [vD] at a
 |r::rs=>fun x a=>by
  simp only [vD,List.mem_append] at a;simp only [vC];rcases a with a|a
  ·have:=C2 r x a;omega
  ·have:=Ch rs x a;omega
end
theorem t40(l:List Fd)(K:LOk l)(r:RO)(R:r.wt<2^40)(V:zb r):DCalls Tryz.prog 132 [fds l,.agg (uy r)] (I (FE l r)):=by
 refine dl2 mixed [.tmp 4] [.int _ _] Tryz.func132 MO ?_;have v:=t63 r (by omega) V;have J:=t64 _ r (Nat.le_refl _) R;have Q:=Ar r;have T:=C2 r;have S:=r.Dv;unfold FE;generalize wO r=ps at *
 by_cases u:vQ r≠0
 ·rw [if_pos u];generalize vQ r=e at *
  repeat' ((conv=>whnf);first|refine uc _ (v) ?_|refine aN1 ?_|refine rix ?_|(refine And.intro (by first|exact uG _) ?_)|refine aS ?_|exact trivial)
 rw [if_neg u];have u:vQ r=0:=Decidable.not_not.1 u;rw [u] at v
 repeat' ((conv=>whnf);first|refine uc _ (v) ?_|refine uc _ (J) ?_|refine aN0 ?_|(refine And.intro (by first|exact uG _) ?_)|refine aS ?_|fail)
 refine tT (α:=Nat) (fun i=>{sl:=[(0,.t (fds l)),(5,.t (I 0)),(6,.t (.slice 9 (ps.map yR))),(7,.t (I i))],bx:=[]})
  (fun i=>i<=ps.length/\ ∀j (h:j<ps.length),j<i->xD l ps[j]=0) (fun i=>ps.length - i) 0 (by simp) ?_ ?_
 ·repeat' (first|exact wJ|refine And.intro ?_ ?_)
 rintro i ⟨W,L⟩;rcases Nat.lt_or_ge i ps.length with h|h
 ·have s: ∀e,xD l ps[i]=e->e≠0->uT (ps.map (xD l))=e:=fun e P y=>by
   have:=yD (l:=ps.map (xD l)) (i:=i) (by simpa using h) (fun j z G=>by simpa using L j (by simpa using z) G) (by simpa [P] using y)
   rw [this];simpa using P
  have b:xD l ps[i]=0->i+1<=ps.length/\ ∀j (h:j<ps.length),j<i+1->xD l ps[j]=0:=fun y=>by
   refine ⟨h,fun j z G=>?_⟩;rcases Nat.lt_or_ge j i with O|O
   ·exact L j z O
   ·obtain rfl:j=i:=by omega
    exact y
  have N:=T _ (List.getElem_mem h);have B:(ps.map yR)[i]?.getD .nil= .agg (uy ps[i]):=by simp [h,vO]
  generalize ps[i]=x at *
  obtain ⟨k,⟨q,m,o,g,p⟩,f,n,a⟩:=x;have d:=t51 l f K.len
  by_cases C:k=1
  ·subst C;have D:=t65 l K (.mk q m o g p) (by simp only [RO.wt] at N;omega);have U:xD l (.mk 1 (.mk q m o g p) f n a)=fitAll l (.mk q m o g p):=by simp [xD]
   rw [U] at s b;generalize fitAll l (.mk q m o g p)=e at *
   by_cases y:e=0
   ·subst y
    repeat' ((conv=>whnf);first|(refine nv_ (.agg (uy (.mk 1 (.mk q m o g p) f n a))) (by first|exact B) ?_)|refine uc _ (D) ?_|(exact ⟨i+1,b rfl,by omega,by (repeat' (first|exact wJ|refine And.intro ?_ ?_));done⟩)|refine aE1 ?_|refine aE0 ?_|refine aN0 ?_|refine aD1 ?_|refine aS ?_|refine nT_ ?_)
   ·rw [s e rfl y]
    repeat' ((conv=>whnf);first|exact trivial|(refine nv_ (.agg (uy (.mk 1 (.mk q m o g p) f n a))) (by first|exact B) ?_)|refine uc _ (D) ?_|refine aE1 ?_|refine aE0 ?_|refine aN1 ?_|refine aD1 ?_|refine rix ?_|refine aS ?_|refine nT_ ?_)
  ·by_cases H:k=2
   ·subst H;unfold yC at d;cases A:findF l f with
    |none=>
     rw [A] at d;rw [s 4 (by simp [xD,A]) (by decide)];simp only at d
     repeat' ((conv=>whnf);first|exact trivial|(refine nv_ (.agg (uy (.mk 2 (.mk q m o g p) f n a))) (by first|exact B) ?_)|refine uc _ (d) ?_|refine aE1 ?_|refine aE0 ?_|refine aN1 ?_|refine aD1 ?_|refine rix ?_|refine aS ?_|refine nT_ ?_)
    |some F=>
     rw [A] at d;simp only at d;have E:=t66 F (K.find A)
     by_cases u:n>((2^F.w - 1:Nat):Int)
     ·rw [s 1 (by simp only [xD,A];rw [if_neg (by decide),if_pos trivial,if_pos u]) (by decide)];generalize ((2^F.w - 1:Nat):Int)=M at *
      repeat' ((conv=>whnf);first|exact trivial|(refine nv_ (.agg (uy (.mk 2 (.mk q m o g p) f n a))) (by first|exact B) ?_)|refine uc _ (d) ?_|refine uc _ (E) ?_|refine aE1 ?_|refine aE0 ?_|refine aN1 ?_|refine aD1 ?_|refine rix ?_|refine aS ?_|refine nT_ ?_)
     ·have b:=b (by simp only [xD,A];rw [if_neg (by decide),if_pos trivial,if_neg u]);generalize ((2^F.w - 1:Nat):Int)=M at *
      repeat' ((conv=>whnf);first|(refine nv_ (.agg (uy (.mk 2 (.mk q m o g p) f n a))) (by first|exact B) ?_)|refine uc _ (d) ?_|refine uc _ (E) ?_|(exact ⟨i+1,b,by omega,by (repeat' (first|exact wJ|refine And.intro ?_ ?_));done⟩)|refine aE1 ?_|refine aE0 ?_|refine aD1 ?_|refine aD0 ?_|refine aS ?_|refine nT_ ?_)
   ·have b:=b (by simp only [xD];rw [if_neg C,if_neg H])
    repeat' ((conv=>whnf);first|(refine nv_ (.agg (uy (.mk k (.mk q m o g p) f n a))) (by first|exact B) ?_)|(exact ⟨i+1,b,by omega,by (repeat' (first|exact wJ|refine And.intro ?_ ?_));done⟩)|refine aE0 ?_|refine aN0 ?_|refine aD1 ?_|refine aS ?_|refine nT_ ?_)
 ·rw [zg fun j z=>by simpa using L j (by simpa using z) (by simp at z;omega)]
  repeat' ((conv=>whnf);first|refine aD0 ?_|refine rix ?_|refine aS ?_|exact trivial)
def RF.fd(f:RF):Fd:=⟨f.name,f.a.toNat,f.w.toNat⟩
structure Checked (l:List RF):Prop where
 len:l.length<=16
 name: ∀f∈l,yf f.name=true
 port: ∀f∈l,uq f.name wF=false
 place: ∀f∈l,xz f=true
 uniq: ∀i j (hi:i<l.length) (hj:j<l.length),j<i->uq l[j].name l[i].name=false
 apart: ∀i j (hi:i<l.length) (hj:j<l.length),j<i->xq l[j] l[i]=false
theorem BC: ∀{l:List Int},uT l=0-> ∀x∈l,x=0
 |[],_,x,a=>by cases a
 |y::ys,h,x,a=>by
  simp only [uT] at h;split at h
  ·rename_i b;exact absurd h b
  ·rename_i b;rcases List.mem_cons.1 a with rfl|a
   ·exact Decidable.not_not.1 b
   ·exact BC h x a
theorem B4{l:List RF}(h:yN l=0):Checked l:=by
 unfold yN at h;split at h
 ·cases h
 rename_i m;have o: ∀i (a:i<l.length),vp l i l[i]=0:=fun i a=>BC h _ (List.mem_iff_getElem.2 ⟨i,by simpa using a,by simp⟩)
 have key: ∀i (a:i<l.length),(¬ (yf l[i].name=false\/uq l[i].name wF=true))/\(¬ ((l.take i).any fun g=>uq g.name l[i].name)=true)/\(¬ xz l[i]=false)/\ ¬((l.take i).any fun g=>xq g l[i])=true:=fun i a=>by
  have:=o i a
  unfold vp at this;split at this; ·cases this
  split at this; ·cases this
  split at this; ·cases this
  split at this; ·cases this
  rename_i n p q r;exact ⟨n,p,q,r⟩
 refine ⟨by omega,fun f d=>?_,fun f d=>?_,fun f d=>?_,fun i j a k b=>?_,fun i j a k b=>?_⟩
 ·obtain ⟨i,a,rfl⟩:=List.getElem_of_mem d
  have:=(key i a).1;simp at this;exact this.1
 ·obtain ⟨i,a,rfl⟩:=List.getElem_of_mem d
  have:=(key i a).1;simp at this;exact this.2
 ·obtain ⟨i,a,rfl⟩:=List.getElem_of_mem d
  have:=(key i a).2.2.1;simpa using this
 ·have:=(key i a).2.1
  rw [xS (by omega)] at this;cases e:uq l[j].name l[i].name with
  |false=>rfl
  |true=>exact absurd ⟨j,k,b,e⟩ this
 ·have:=(key i a).2.2.2
  rw [xS (by omega)] at this;cases e:xq l[j] l[i] with
  |false=>rfl
  |true=>exact absurd ⟨j,k,b,e⟩ this
theorem Checked.fds{l:List RF}(h:Checked l):yd l=MM.fds (l.map RF.fd):=by
 unfold yd MM.fds;rw [List.map_map]
 congr 1
 refine List.map_congr_left fun f b=>?_
 have:=h.place f b
 simp [xz] at this;obtain ⟨s,a,w⟩:=f;simp only at this;simp only [wQ,vY,Function.comp,MM.fd,RF.fd];rw [Int.toNat_of_nonneg (by omega),Int.toNat_of_nonneg (by omega)]
theorem Checked.ok{l:List RF}(h:Checked l):LOk (l.map RF.fd):=by
 refine ⟨by have:=h.len;simp;omega,fun f a=>?_⟩;obtain ⟨g,b,rfl⟩:=List.mem_map.1 a
 have:=h.place g b
 simp [xz] at this;exact ⟨by simp only [RF.fd];omega,by simp only [RF.fd];omega,by simp only [RF.fd];omega⟩
end Go.MM
end
section
namespace Go.TY
instance memBA (a : ByteArray) (l : List ByteArray) : Decidable (a ∈ l) := @List.instDecidableMemOfLawfulBEq ByteArray instBEqOfDecidableEq inferInstance a l
structure Lin {α:Type} (lt:α->α->Bool):Prop where
 irr: ∀a,lt a a=false
 tr: ∀a b c,lt a b=true->lt b c=true->lt a c=true
 tot: ∀a b,lt a b=false->lt b a=false->a=b
section
variable {α:Type}{lt:α->α->Bool}
theorem Lin.ne(h:Lin lt){a b:α}(d:lt a b=true):a≠b:=fun e=>by
 subst e;rw [h.irr] at d;cases d
theorem Lin.asym(h:Lin lt){a b:α}(d:lt a b=true):lt b a=false:=by
 cases e:lt b a with
 |false=>rfl
 |true=>have:=h.tr _ _ _ d e;rw [h.irr] at this;cases this
variable [DecidableEq α]
def put(lt:α->α->Bool):List α->α->List α
 |[],s=>[s]
 |x::xs,s=>if lt x s=true then x::put lt xs s else s::(x::xs).filter fun y=> !decide (y=s)
def Inc(lt:α->α->Bool)(l:List α):Prop:=l.Pairwise fun a b=>lt a b=true
theorem EH{l:List α}{s x:α}:x∈put lt l s↔x=s\/x∈l:=by
 induction l with
 |nil=>simp [put]
 |cons y e d=>
  unfold put
  by_cases b:lt y s=true
  ·rw [if_pos b,List.mem_cons,d,List.mem_cons];exact ⟨fun h=>by rcases h with h|h|h <;> simp [h],fun h=>by rcases h with h|h|h <;> simp [h]⟩
  ·rw [if_neg b,List.mem_cons,List.mem_filter]
   by_cases a:x=s
   ·simp [a]
   ·simp [a]
theorem Inc.put(h:Lin lt){l:List α}(j:Inc lt l)(s:α):Inc lt (put lt l s):=by
 induction l with
 |nil=>simp [TY.put,Inc]
 |cons y o m=>
  have g:=List.pairwise_cons.1 j;unfold TY.put
  by_cases a:lt y s=true
  ·rw [if_pos a];refine List.pairwise_cons.2 ⟨fun z b=>?_,m g.2⟩;rcases EH.1 b with rfl|b
   ·exact a
   ·exact g.1 z b
  ·rw [if_neg a];have k:lt y s=false:=by simpa using a
   refine List.pairwise_cons.2 ⟨fun z b=>?_,j.filter _⟩;obtain ⟨i,n⟩:=List.mem_filter.1 b;have f:z≠s:=by simpa using n
   cases e:lt s z with
   |true=>rfl
   |false=>
    exfalso;cases d:lt z s with
    |false=>exact f (h.tot _ _ d e)
    |true=>
     rcases List.mem_cons.1 i with rfl|i
     ·rw [k] at d;cases d
     ·have:=h.tr _ _ _ (g.1 z i) d
      rw [k] at this;cases this
theorem Inc.ext(h:Lin lt): ∀{a b:List α},Inc lt a->Inc lt b->(∀ x,x∈a↔x∈b)->a=b
 |[],[],_,_,_=>rfl
 |[],y::ys,_,_,hm=>by have:=(hm y).2 (by simp);simp at this
 |x::xs,[],_,_,hm=>by have:=(hm x).1 (by simp);simp at this
 |x::xs,y::ys,ha,hb,hm=>by
  have d:=List.pairwise_cons.1 ha;have g:=List.pairwise_cons.1 hb;have e:x=y:=by
   by_cases e:x=y
   ·exact e
   ·exfalso;have k:x∈ys:=by have:=(hm x).1 (by simp);simpa [e] using this
    have j:y∈xs:=by have:=(hm y).2 (by simp);simpa [show ¬y=x from fun h=>e h.symm] using this
    have l:=d.1 y j;have i:=g.1 x k;rw [h.asym l] at i;cases i
  subst e;rw [Inc.ext h d.2 g.2 fun z=>?_]
  have:=hm z
  simp only [List.mem_cons] at this
  by_cases e:z=x
  ·subst e;exact ⟨fun f=>absurd rfl (h.ne (d.1 z f)),fun f=>absurd rfl (h.ne (g.1 z f))⟩
  ·simpa [e] using this
def xh(lt:α->α->Bool)(l:List α):List α:=l.foldl (put lt) []
theorem Em{l:List α}: ∀{acc:List α} {x:α},x∈l.foldl (put lt) acc↔x∈acc\/x∈l:=by
 induction l with
 |nil=>simp
 |cons y b a=>
  intro acc x;rw [List.foldl_cons,a,EH,List.mem_cons];exact ⟨fun h=>by rcases h with (h|h)|h <;> simp [h],fun h=>by rcases h with h|h|h <;> simp [h]⟩
theorem Ah{l:List α}{x:α}:x∈xh lt l↔x∈l:=by simp [xh,Em]
theorem Ei(h:Lin lt){l:List α}: ∀{acc:List α},Inc lt acc->Inc lt (l.foldl (put lt) acc):=by
 induction l with
 |nil=>exact fun h=>h
 |cons y d b=>intro acc a;exact b (a.put h y)
theorem B9(h:Lin lt)(l:List α):Inc lt (xh lt l):=Ei h List.Pairwise.nil
theorem Gs(h:Lin lt){a b:List α}(d: ∀x,x∈a↔x∈b):xh lt a=xh lt b:=
 Inc.ext h (B9 h a) (B9 h b) fun x=>by rw [Ah,Ah,d]
theorem Db{a b:List α}:xh lt (a++b)=b.foldl (put lt) (xh lt a):=by simp [xh,List.foldl_append]
def once:List α->List α->List α
 |acc,[]=>acc
 |acc,x::xs=>once (if x∈acc then acc else acc++[x]) xs
theorem yZ: ∀{l acc:List α} {x:α},x∈once acc l↔x∈acc\/x∈l
 |[],acc,x=>by simp [once]
 |y::ys,acc,x=>by
  unfold once;rw [yZ,List.mem_cons]
  by_cases h:y∈acc
  ·rw [if_pos h];exact ⟨fun h=>by rcases h with h|h <;> simp [h],fun k=>by rcases k with k|rfl|k <;> simp [*]⟩
  ·rw [if_neg h];simp [or_assoc]
theorem Ak: ∀{l acc:List α},acc.Nodup->(once acc l).Nodup
 |[],_,h=>h
 |y::ys,acc,h=>by
  unfold once;refine Ak ?_
  by_cases d:y∈acc
  ·rw [if_pos d];exact h
  ·rw [if_neg d];refine List.nodup_append.2 ⟨h,by simp,fun a f b g e=>d ?_⟩;rw [List.mem_singleton.1 g] at e;subst e;exact f
end
def ltS(a b:ByteArray):Bool:=Op.bytesLess a.toList b.toList
theorem AK{a b:ByteArray}(h:a.toList=b.toList):a=b:=by
 rw [ByteArray.toList_eq,ByteArray.toList_eq] at h;exact ByteArray.ext (Array.ext' h)
theorem zy:Lin ltS where
 irr:=fun a=>by simp [ltS,Go.Proofs.bytesLess_eq]
 tr:=fun a b c h k=>by
  simp only [ltS,Go.Proofs.bytesLess_eq,decide_eq_true_eq] at *
  exact List.lt_trans h k
 tot:=fun a b h k=>by
  simp only [ltS,Go.Proofs.bytesLess_eq,decide_eq_false_iff_not,List.not_lt] at *
  exact AK (List.le_antisymm k h)
end Go.TY
end
section
namespace Go.TY
open Go Go.DL Go.MM
abbrev Fd:=Go.MM.Fd
structure RS where
 kind:Int
 var:ByteArray
 key:List ByteArray
 field:ByteArray
 n:Int
 m:Int
def ur(s:RS):List T:=[I s.kind,.str s.var,.slice 1 (s.key.map .str),.str s.field,I s.n,I s.m]
def vu(s:RS):T:=.agg (ur s)
structure RV where
 name:ByteArray
 fam:Int
 ws:List Int
 n:Int
 m:Int
 deriving DecidableEq
def uN(v:RV):List T:=[.str v.name,I v.fam,.slice 1 (v.ws.map I),I v.n,I v.m]
def wZ(v:RV):T:=.agg (uN v)
def RS.own(s:RS):Bool:=s.kind==4||s.kind==6
def vA(k:Int):Int:=if k=1 then 1 else if k=2\/k=3 then 2 else if k=4\/k=5 then 3 else 4
def uO(l:List Fd)(s:RS):List Int:=s.key.map fun k=>((fld l k).w:Int)
def vOf(l:List Fd)(s:RS):RV:=⟨s.var,vA s.kind,uO l s,if s.own then s.n else 0,if s.own then s.m else 0⟩
def wq(l:List Fd)(s t:RS):Bool:= !(s.own&&t.own&&((s.n !=t.n)||(s.m !=t.m)))&&((uO l s==uO l t)&&(vA s.kind==vA t.kind))
theorem vo{l:List Fd}{s t:RS}:wq l s t=true↔(s.own=true->t.own=true->s.n=t.n/\s.m=t.m)/\uO l s=uO l t/\vA s.kind=vA t.kind:=by
 unfold wq;cases a:s.own <;> cases b:t.own <;> simp
theorem Bx{l:List Fd}(s:RS):wq l s s=true:=by rw [vo];simp
theorem By{l:List Fd}{s t:RS}(h:wq l s t=true):wq l t s=true:=by
 rw [vo] at *
 exact ⟨fun a b=>⟨(h.1 b a).1.symm,(h.1 b a).2.symm⟩,h.2.1.symm,h.2.2.symm⟩
def PW(l:List Fd)(ss:List RS):Prop:=ss.Pairwise fun s t=>s.var=t.var->wq l s t=true
theorem PW.all{l:List Fd}{ss:List RS}(h:PW l ss): ∀s∈ss, ∀t∈ss,s.var=t.var->wq l s t=true:=by
 induction ss with
 |nil=>intro s f;simp at f
 |cons x xs k=>
  have d:=List.pairwise_cons.1 h;intro s f t j e;rcases List.mem_cons.1 f with i|b
  ·rcases List.mem_cons.1 j with g|a
   ·rw [i,g];exact Bx _
   ·subst i;exact d.1 t a e
  ·rcases List.mem_cons.1 j with g|a
   ·subst g;exact By (d.1 s b e.symm)
   ·exact k d.2 s b t a e
theorem PW.of{l:List Fd}{ss:List RS}(h: ∀s∈ss, ∀t∈ss,s.var=t.var->wq l s t=true):PW l ss:=by
 induction ss with
 |nil=>exact List.Pairwise.nil
 |cons x xs b=>exact List.pairwise_cons.2 ⟨fun t a e=>h x (by simp) t (by simp [a]) e,b fun s d t a=>h s (by simp [d]) t (by simp [a])⟩
theorem F2{l:List Fd}{ss:List RS}:PW l ss↔ ∀s∈ss, ∀t∈ss,s.var=t.var->wq l s t=true:=⟨PW.all,PW.of⟩
theorem Cr{l:List Fd}{ss:List RS}{t:RS}:PW l (ss++[t])↔PW l ss/\ ∀s∈ss,s.var=t.var->wq l s t=true:=by
 unfold PW;rw [List.pairwise_append];exact ⟨fun h=>⟨h.1,fun s f=>h.2.2 s f t (by simp)⟩,fun h=>⟨h.1,by simp,fun a d b e=>by rw [List.mem_singleton.1 e];exact h.2 a d⟩⟩
def uD(ss:List RS)(name:ByteArray):Option RS:=ss.find? fun s=>decide (s.var=name)&&s.own
def uY(l:List Fd)(ss:List RS)(name:ByteArray):Option RV:=match ss.find? fun s=>decide (s.var=name) with
 |none=>none
 |some s=>some ⟨name,vA s.kind,uO l s,((uD ss name).map (·.n)).getD 0,((uD ss name).map (·.m)).getD 0⟩
structure VS where
 all:List RV
 num:List (ByteArray×Bool)
def w9(all:List RV)(name:ByteArray):Option RV:=all.find? fun v=>decide (v.name=name)
def xZ(v:RV):List RV->List RV
 |[]=>[v]
 |x::xs=>if x.name=v.name then v::xs else x::xZ v xs
def xP(a:List (ByteArray×Bool))(name:ByteArray):Option Bool:=(a.find? fun p=>decide (p.1=name)).map (·.2)
def CC(name:ByteArray)(b:Bool):List (ByteArray×Bool)->List (ByteArray×Bool)
 |[]=>[(name,b)]
 |x::xs=>if x.1=name then (name,b)::xs else x::CC name b xs
theorem zi{v:RV}{all:List RV}{name:ByteArray}:w9 (xZ v all) name=if v.name=name then some v else w9 all name:=by
 induction all with
 |nil=>unfold xZ w9;by_cases h:v.name=name <;> simp [h]
 |cons x xs b=>
  unfold xZ
  by_cases a:x.name=v.name
  ·rw [if_pos a];unfold w9
   by_cases h:v.name=name
   ·simp [h]
   ·have: ¬x.name=name:=fun e=>h (a.symm.trans e)
    simp [h,this]
  ·rw [if_neg a];unfold w9 at b ⊢;rw [List.find?_cons,List.find?_cons,b]
   by_cases h:x.name=name
   ·have: ¬v.name=name:=fun e=>a (h.trans e.symm)
    simp [h,this]
   ·simp [h]
theorem Gi{n:ByteArray}{b:Bool}{a:List (ByteArray×Bool)}{name:ByteArray}:xP (CC n b a) name=if n=name then some b else xP a name:=by
 induction a with
 |nil=>unfold CC xP;by_cases h:n=name <;> simp [h]
 |cons x xs f=>
  unfold CC
  by_cases d:x.1=n
  ·rw [if_pos d];unfold xP
   by_cases h:n=name
   ·simp [h]
   ·have: ¬x.1=name:=fun e=>h (d.symm.trans e)
    simp [h,this]
  ·rw [if_neg d];unfold xP at f ⊢;rw [List.find?_cons,List.find?_cons]
   by_cases h:x.1=name
   ·have: ¬n=name:=fun e=>d (h.trans e.symm)
    simp [h,this]
   ·simp only [h,decide_false];exact f
theorem Ck{v:RV}{all:List RV}:(xZ v all).map (·.name)=if v.name∈all.map (·.name) then all.map (·.name) else all.map (·.name)++[v.name]:=by
 induction all with
 |nil=>simp [xZ]
 |cons x xs d=>
  unfold xZ
  by_cases a:x.name=v.name
  ·rw [if_pos a,if_pos (by rw [List.map_cons,a];exact List.mem_cons_self)];simp [a]
  ·rw [if_neg a,List.map_cons,d,List.map_cons]
   by_cases b:v.name∈xs.map (·.name)
   ·rw [if_pos b,if_pos (List.mem_cons_of_mem _ b)]
   ·rw [if_neg b,if_neg (fun h=>by
     rcases List.mem_cons.1 h with h|h
     ·exact a h.symm
     ·exact b h)]
    rfl
def Dl(l:List Fd)(st:VS)(s:RS):Option VS:=
 let b:=CC s.var (((xP st.num s.var).getD false)||s.own) st.num
 match w9 st.all s.var with
 |none=>some ⟨xZ (vOf l s) st.all,b⟩
 |some a=>if (a.fam !=vA s.kind)|| !(a.ws==uO l s)||(s.own&&((xP st.num s.var).getD false)&&((a.n !=s.n)||(a.m !=s.m))) then none
  else some ⟨if s.own then xZ (vOf l s) st.all else st.all,b⟩
def Bv(l:List Fd):VS->List RS->Option VS
 |st,[]=>some st
 |st,s::ss=>(Dl l st s).bind fun st=>Bv l st ss
structure AJ (l:List Fd) (ss:List RS) (st:VS):Prop where
 pw:PW l ss
 look: ∀name,w9 st.all name=uY l ss name
 num: ∀name,(xP st.num name).getD false=(uD ss name).isSome
 names:st.all.map (·.name)=once [] (ss.map (·.var))
theorem AZ{α:Type}[DecidableEq α]: ∀{xs acc:List α} {y:α},once acc (xs++[y])=(if y∈once acc xs then once acc xs else once acc xs++[y])
 |[],acc,y=>rfl
 |x::xs,acc,y=>by
  rw [List.cons_append];unfold once;exact AZ
theorem wm{α:Type}{p:α->Bool}{ss:List α}{t:α}:(ss++[t]).find? p=match ss.find? p with
  |some s=>some s
  |none=>if p t=true then some t else none:=by
 rw [List.find?_append];cases ss.find? p with
 |some s=>rfl
 |none=>simp [List.find?_cons];cases p t <;> rfl
theorem AJ.step{l:List Fd}{ss:List RS}{st:VS}(h:AJ l ss st)(t:RS):
  (PW l (ss++[t])-> ∃C,Dl l st t=some C/\AJ l (ss++[t]) C)/\(¬ PW l (ss++[t])->Dl l st t=none):=by
 have Q:=h.look t.var;have U:=h.num t.var;have X: ∀b,ss.find? (fun s=>decide (s.var=t.var))=some b->b∈ss/\b.var=t.var:=fun b o=>⟨List.mem_of_find?_eq_some o,by simpa using List.find?_some o⟩
 have R: ∀d,uD ss t.var=some d->d∈ss/\d.var=t.var/\d.own=true:=fun d k=>⟨List.mem_of_find?_eq_some k,by simpa using List.find?_some k⟩
 have r:=h.pw.all;have g: ∀(x:List RV) name, ¬t.var=name->w9 x name=w9 st.all name->w9 x name=uY l (ss++[t]) name:=fun x name a V=>by
  rw [V,h.look name];unfold uY uD;rw [wm,wm];simp only [a,decide_false,Bool.false_and];cases ss.find? fun s=>decide (s.var=name) with
  |none=>rfl
  |some s=>simp only;cases ss.find? fun s=>decide (s.var=name)&&s.own <;> rfl
 have p: ∀name,(xP (CC t.var (((xP st.num t.var).getD false)||t.own) st.num) name).getD false=(uD (ss++[t]) name).isSome:=fun name=>by
  rw [Gi];unfold uD;rw [wm]
  by_cases a:t.var=name
  ·subst a;rw [if_pos rfl,Option.getD_some,U];unfold uD;cases ss.find? fun s=>decide (s.var=t.var)&&s.own with
   |some s=>simp
   |none=>cases u:t.own <;> simp []
  ·rw [if_neg a,h.num name];unfold uD;simp only [a,decide_false,Bool.false_and];cases ss.find? fun s=>decide (s.var=name)&&s.own <;> rfl
 unfold Dl;dsimp only;cases v:ss.find? (fun s=>decide (s.var=t.var)) with
 |none=>
  have A: ∀s∈ss, ¬s.var=t.var:=fun s f=>by
   have:=List.find?_eq_none.1 v s f;simpa using this
  have j:w9 st.all t.var=none:=by rw [Q];unfold uY;rw [v]
  rw [j];have F:PW l (ss++[t]):=Cr.2 ⟨h.pw,fun s f e=>absurd e (A s f)⟩;refine ⟨fun _=>⟨_,rfl,F,fun name=>?_,p,?_⟩,fun w=>absurd F w⟩
  ·by_cases a:t.var=name
   ·subst a;rw [zi];have o:uD ss t.var=none:=by
     unfold uD;rw [List.find?_eq_none];intro s f;simp [A s f]
    unfold uY;rw [wm,v]
    have:(vOf l t).name=t.var:=rfl
    rw [if_pos this];simp only [decide_true,if_true];unfold uD at o ⊢;rw [wm,o];simp only [decide_true,Bool.true_and,vOf];cases t.own <;> rfl
   ·refine g _ name a ?_;rw [zi];exact if_neg a
  ·show (xZ (vOf l t) st.all).map (·.name)=_
   rw [Ck,h.names,List.map_append,List.map_cons,List.map_nil,AZ];rfl
 |some b=>
  obtain ⟨G,v0⟩:=X b v;have j:w9 st.all t.var=some ⟨t.var,vA b.kind,uO l b,((uD ss t.var).map (·.n)).getD 0,((uD ss t.var).map (·.m)).getD 0⟩:=by rw [Q];unfold uY;rw [v]
  rw [j];dsimp only;have key:PW l (ss++[t])↔(vA b.kind=vA t.kind/\uO l b=uO l t)/\(t.own=true-> ∀d,uD ss t.var=some d->d.n=t.n/\d.m=t.m):=by
   rw [Cr];constructor
   ·rintro ⟨_,T⟩;have o:=vo.1 (T b G v0);exact ⟨⟨o.2.2,o.2.1⟩,fun u d k=>by
     obtain ⟨k1,k2,E⟩:=R d k;exact (vo.1 (T d k1 k2)).1 E u⟩
   ·rintro ⟨⟨L,H⟩,K⟩;refine ⟨h.pw,fun s f e=>vo.2 ⟨fun D i=>?_,?_,?_⟩⟩
    ·have:(uD ss t.var).isSome=true:=by
      unfold uD;rw [List.find?_isSome];exact ⟨s,f,by simp [e,D]⟩
     obtain ⟨d,k⟩:=Option.isSome_iff_exists.1 this;obtain ⟨k1,k2,E⟩:=R d k;have P:=(vo.1 (r s f d k1 (e.trans k2.symm))).1 D E;have N:=K i d k;exact ⟨P.1.trans N.1,P.2.trans N.2⟩
    ·exact (vo.1 (r s f b G (e.trans v0.symm))).2.1.trans H
    ·exact (vo.1 (r s f b G (e.trans v0.symm))).2.2.trans L
  have q:((vA b.kind !=vA t.kind)|| !(uO l b==uO l t)||(t.own&&((xP st.num t.var).getD false)&&((((uD ss t.var).map (·.n)).getD 0 !=t.n)||(((uD ss t.var).map (·.m)).getD 0 !=t.m))))=true↔ ¬PW l (ss++[t]):=by
   rw [key,U];cases u:uD ss t.var with
   |none=>simp;exact ⟨fun h=>by rcases h with h|h <;> simp [h],fun h=>by
     by_cases e:vA b.kind=vA t.kind
     ·exact Or.inr (h e)
     ·exact Or.inl e⟩
   |some d=>
    simp only [Option.map_some,Option.getD_some,Option.isSome_some,Bool.and_true,Bool.or_eq_true,Bool.and_eq_true,bne_iff_ne,ne_eq,Bool.not_eq_true',beq_eq_false_iff_ne,Option.some.injEq];constructor
    ·rintro ((h|h)|⟨k,y⟩) ⟨⟨k1,k2⟩,E⟩
     ·exact h k1
     ·exact h k2
     ·have:=E k d rfl
      rcases y with y|y
      ·exact y this.1
      ·exact y this.2
    ·intro z
     by_cases M:vA b.kind=vA t.kind
     ·by_cases I:uO l b=uO l t
      ·by_cases O:t.own=true
       ·refine Or.inr ⟨O,?_⟩
        by_cases S:d.n=t.n
        ·refine Or.inr fun W=>z ⟨⟨M,I⟩,fun _ s h=>by rw [<- h];exact ⟨S,W⟩⟩
        ·exact Or.inl S
       ·exact absurd ⟨⟨M,I⟩,fun h=>absurd h O⟩ z
      ·exact Or.inl (Or.inr I)
     ·exact Or.inl (Or.inl M)
  constructor
  ·intro B;rw [if_neg (fun w=>q.1 w B)];obtain ⟨⟨L,H⟩,K⟩:=key.1 B;refine ⟨_,rfl,B,fun name=>?_,p,?_⟩
   ·by_cases a:t.var=name
    ·subst a;have f:uY l (ss++[t]) t.var=some ⟨t.var,vA b.kind,uO l b,((uD (ss++[t]) t.var).map (·.n)).getD 0,((uD (ss++[t]) t.var).map (·.m)).getD 0⟩:=by
      unfold uY;rw [wm,v]
     have u:uD (ss++[t]) t.var=match uD ss t.var with
       |some s=>some s
       |none=>if t.own=true then some t else none:=by
      unfold uD;rw [wm];simp only [decide_true,Bool.true_and];cases ss.find? fun s=>decide (s.var=t.var)&&s.own <;> rfl
     rw [f,u];show w9 (if t.own=true then xZ (vOf l t) st.all else st.all) t.var=_
     cases i:t.own with
     |false=>
      simp only [Bool.false_eq_true,if_false];rw [j];cases uD ss t.var <;> rfl
     |true=>
      simp only [if_true];rw [zi,if_pos (show (vOf l t).name=t.var from rfl)];unfold vOf;rw [i,L,H];cases J:uD ss t.var with
      |none=>rfl
      |some d=>
       obtain ⟨k1,k2⟩:=K i d J;simp [k1,k2]
    ·refine g _ name a ?_;show w9 (if t.own=true then xZ (vOf l t) st.all else st.all) name=_
     cases t.own with
     |false=>rfl
     |true=>
      simp only [if_true];rw [zi];exact if_neg a
   ·show (if t.own=true then xZ (vOf l t) st.all else st.all).map (·.name)=_
    have w:t.var∈once [] (ss.map (·.var)):=by
     rw [yZ];exact Or.inr (List.mem_map.2 ⟨b,G,v0⟩)
    rw [List.map_append,List.map_cons,List.map_nil,AZ,if_pos w];cases t.own with
    |false=>exact h.names
    |true=>
     simp only [if_true];rw [Ck,h.names];exact if_pos (show (vOf l t).name∈_ from w)
  ·intro B;rw [if_pos (q.2 B)]
theorem Cp{l:List Fd}: ∀{ts ss:List RS} {st:VS},AJ l ss st->(PW l (ss++ts)-> ∃a,Bv l st ts=some a/\AJ l (ss++ts) a)/\(¬ PW l (ss++ts)->Bv l st ts=none)
 |[],ss,st,h=>by
  rw [List.append_nil];exact ⟨fun _=>⟨st,rfl,h⟩,fun k=>absurd h.pw k⟩
 |t::ts,ss,st,h=>by
  have g:=h.step t;have e:ss++t::ts=(ss++[t])++ts:=by simp
  rw [e]
  by_cases f:PW l (ss++[t])
  ·obtain ⟨a,i,j⟩:=g.1 f
   have:=Cp (ts:=ts) j
   unfold Bv;rw [i,Option.bind_some];exact this
  ·have d: ¬PW l ((ss++[t])++ts):=fun b=>f (List.Pairwise.sublist (List.sublist_append_left _ _) b)
   refine ⟨fun b=>absurd b d,fun _=>?_⟩;unfold Bv;rw [g.2 f];rfl
theorem AJ.start{l:List Fd}:AJ l [] ⟨[],[]⟩:=⟨List.Pairwise.nil,fun _=>rfl,fun _=>rfl,rfl⟩
def uu(ss:List RS):List RS:=ss.filter fun s=>s.kind !=0
end Go.TY
end
section
namespace Go.ST
open Go Go.DL Go.MM Go.TY
structure Cmp {α:Type} (c:α->α->Int):Prop where
 r: ∀a b,c a b= -1\/c a b=0\/c a b=1
 s: ∀a b,c b a= - c a b
 t: ∀a b d,c a b= -1->c b d= -1->c a d= -1
 z: ∀a b,c a b=0-> ∀d,c a d=c b d
section
variable {α:Type}{c:α->α->Int}
theorem Cmp.refl(h:Cmp c)(a:α):c a a=0:=by have:=h.s a a;omega
theorem Cmp.z'(h:Cmp c){a b:α}(e:c a b=0)(d:α):c d a=c d b:=by rw [h.s a d,h.s b d,h.z a b e]
def lex(p:Int)(q:Int):Int:=if p≠0 then p else q
theorem IP{β o:Type}{f:α->β}{g:α->o}{k:β->β->Int}{p:o->o->Int}(e:Cmp k)(n:Cmp p):Cmp (fun x y:α=>lex (k (f x) (f y)) (p (g x) (g y))) where
 r:=fun a b=>by unfold lex;have:=e.r (f a) (f b);have:=n.r (g a) (g b);split <;> omega
 s:=fun a b=>by
  unfold lex;have l:=e.s (f a) (f b);have j:=n.s (g a) (g b);split <;> split <;> omega
 t:=fun a b d=>by
  unfold lex;intro l j;have q:=e.r (f a) (f b);have u:=e.r (f b) (f d)
  by_cases i:k (f a) (f b)=0
  ·rw [e.z _ _ i (f d)];simp only [i,ne_eq,not_true_eq_false,if_false] at l
   by_cases m:k (f b) (f d)=0
   ·simp only [m,ne_eq,not_true_eq_false,if_false] at j ⊢;exact n.t _ _ _ l j
   ·simp only [ne_eq,m,not_false_eq_true,if_true] at j ⊢;exact j
  ·simp only [ne_eq,i,not_false_eq_true,if_true] at l
   by_cases m:k (f b) (f d)=0
   ·rw [<- e.z' m (f a),l];exact if_pos (by decide)
   ·simp only [ne_eq,m,not_false_eq_true,if_true] at j;rw [e.t _ _ _ l j];exact if_pos (by decide)
 z:=fun a b=>by
  unfold lex;intro h d
  by_cases i:k (f a) (f b)=0
  ·simp only [i,ne_eq,not_true_eq_false,if_false] at h;rw [e.z _ _ i,n.z _ _ h]
  ·rw [if_pos i] at h;exact absurd h i
end
def xc(a b:Int):Int:=if a<b then -1 else if a>b then 1 else 0
theorem yP:Cmp xc where
 r:=fun a b=>by unfold xc;split <;> (try split) <;> omega
 s:=fun a b=>by unfold xc;split <;> split <;> (try split) <;> omega
 t:=fun a b d=>by
  unfold xc;intro h k
  have:a<b:=by by_cases e:a<b;exact e;rw [if_neg e] at h;split at h <;> omega
  have:b<d:=by by_cases e:b<d;exact e;rw [if_neg e] at k;split at k <;> omega
  rw [if_pos (by omega)]
 z:=fun a b h d=>by
  have:a=b:=by unfold xc at h;split at h;omega;split at h <;> omega
  rw [this]
theorem CP{a b:Int}:xc a b=0↔a=b:=by unfold xc;split;omega;split <;> omega
def xT(a b:ByteArray):Int:=if ltS a b then -1 else if ltS b a then 1 else 0
theorem CS{a b:ByteArray}:xT a b=0↔a=b:=by
 unfold xT;cases d:ltS a b with
 |true=>simp only [if_true];exact ⟨fun h=>by omega,fun h=>absurd h (zy.ne d)⟩
 |false=>
  cases e:ltS b a with
  |true=>simp only [if_true,Bool.false_eq_true,if_false];exact ⟨fun h=>by omega,fun h=>absurd h.symm (zy.ne e)⟩
  |false=>simp only [Bool.false_eq_true,if_false];exact ⟨fun _=>zy.tot _ _ d e,fun _=>trivial⟩
theorem Ip{a b:ByteArray}:xT a b= -1↔ltS a b=true:=by
 unfold xT;cases e:ltS a b with
 |true=>simp
 |false=>cases d:ltS b a <;> simp
theorem GX:Cmp xT where
 r:=fun a b=>by unfold xT;split;simp;split <;> simp
 s:=fun a b=>by
  unfold xT;cases e:ltS a b with
  |true=>rw [zy.asym e];rfl
  |false=>cases f:ltS b a <;> rfl
 t:=fun a b d h k=>by rw [Ip] at *;exact zy.tr _ _ _ h k
 z:=fun a b h d=>by rw [CS.1 h]
def u9:List Int->List Int->Int
 |[],[]=>0
 |[],_::_=> -1
 |_::_,[]=>1
 |a::l,b::m=>lex (xc a b) (u9 l m)
theorem wP: ∀{a b:List Int},u9 a b=0↔a=b
 |[],[]=>by simp [u9]
 |[],_::_=>by simp [u9]
 |_::_,[]=>by simp [u9]
 |a::l,b::m=>by
  unfold u9 lex;rw [List.cons.injEq]
  by_cases h:xc a b=0
  ·rw [if_neg (by simpa using h),wP (a:=l)];simp [CP.1 h]
  ·rw [if_pos h];exact ⟨fun e=>absurd e h,fun e=>absurd (CP.2 e.1) h⟩
theorem GW:Cmp u9 where
 r:=fun a=>by
  induction a with
  |nil=>intro b;cases b <;> simp [u9]
  |cons x xs e=>
   intro b;cases b with
   |nil=>simp [u9]
   |cons y g=>have:=e g;have:=yP.r x y;unfold u9 lex;split <;> omega
 s:=fun a=>by
  induction a with
  |nil=>intro b;cases b <;> simp [u9]
  |cons x xs e=>
   intro b;cases b with
   |nil=>simp [u9]
   |cons y g=>have:=e g;have:=yP.s x y;unfold u9 lex;split <;> split <;> omega
 t:=fun a=>by
  induction a with
  |nil=>intro b d h k;cases b <;> cases d <;> simp_all [u9]
  |cons x xs e=>
   intro b d h k;cases b with
   |nil=>simp [u9] at h
   |cons y g=>
    cases d with
    |nil=>simp [u9] at k
    |cons z j=>
     unfold u9 lex at h k ⊢
     by_cases i:xc x y=0
     ·rw [if_neg (by simp [i])] at h;rw [yP.z _ _ i]
      by_cases f:xc y z=0
      ·rw [if_neg (by simp [f])] at k ⊢;exact e _ _ h k
      ·rw [if_pos f] at k ⊢;exact k
     ·rw [if_pos i] at h
      by_cases f:xc y z=0
      ·rw [<- yP.z' f,h];exact if_pos (by decide)
      ·rw [if_pos f] at k;rw [yP.t _ _ _ h k];exact if_pos (by decide)
 z:=fun a b h d=>by rw [wP.1 h]
structure RE where
 var:ByteArray
 key:List Int
 n:Int
 at_:Int
 deriving DecidableEq
def uk(e:RE):List T:=[.str e.var,.slice 1 (e.key.map I),I e.n,I e.at_]
def um(e:RE):T:=.agg (uk e)
def ux(a b:RE):Int:=lex (xT a.var b.var) (u9 a.key b.key)
theorem uv:Cmp ux:=IP (f:=RE.var) (g:=RE.key) GX GW
theorem vF{a b:RE}:ux a b=0↔a.var=b.var/\a.key=b.key:=by
 unfold ux lex;rw [<- CS, <-wP]
 by_cases h:xT a.var b.var=0 <;> simp [h]
def uH(l:List RE):Prop:=l.Pairwise fun a b=>ux a b= -1
def xf:List RE->Bool
 |a::b::r=>decide (ux a b= -1)&&xf (b::r)
 |_=>true
theorem xY: ∀{l:List RE},xf l=true↔uH l
 |[]=>by simp [xf,uH]
 |[a]=>by simp [xf,uH]
 |a::b::r=>by
  have e:=xY (l:=b::r);unfold xf;rw [Bool.and_eq_true,e,decide_eq_true_eq];refine ⟨fun h=>List.pairwise_cons.2 ⟨fun x d=>?_,h.2⟩,fun h=>⟨(List.pairwise_cons.1 h).1 b (by simp),(List.pairwise_cons.1 h).2⟩⟩;rcases List.mem_cons.1 d with rfl|d
  ·exact h.1
  ·exact uv.t _ _ _ h.1 ((List.pairwise_cons.1 h.2).1 x d)
theorem uH.filter{l:List RE}(h:uH l)(p:RE->Bool):uH (l.filter p):=List.Pairwise.filter p h
theorem uH.uniq{l:List RE}(h:uH l){x y:RE}(j:x∈l)(g:y∈l)(e:ux x y=0):x=y:=by
 induction l with
 |nil=>simp at j
 |cons a r m=>
  obtain ⟨i,n⟩:=List.pairwise_cons.1 h;rcases List.mem_cons.1 j with k|d
  ·rcases List.mem_cons.1 g with f|b
   ·rw [k,f]
   ·have:=i y b;rw [<- k] at this;omega
  ·rcases List.mem_cons.1 g with f|b
   ·have:=i x d;rw [<- f] at this;have:=uv.s x y;omega
   ·exact m n d b
theorem uH.ext: ∀{a b:List RE},uH a->uH b->(∀ x,x∈a↔x∈b)->a=b
 |[],[],_,_,_=>rfl
 |[],b::bs,_,_,h=>by have:=(h b).2 (by simp);simp at this
 |a::l,[],_,_,h=>by have:=(h a).1 (by simp);simp at this
 |a::l,b::m,ha,hb,h=>by
  obtain ⟨i,k⟩:=List.pairwise_cons.1 ha;obtain ⟨j,n⟩:=List.pairwise_cons.1 hb;have e:a=b:=by
   rcases List.mem_cons.1 ((h a).1 (by simp)) with e|d
   ·exact e
   ·rcases List.mem_cons.1 ((h b).2 (by simp)) with e|g
    ·exact e.symm
    ·have:=j a d;have:=i b g;have:=uv.s a b;omega
  subst e
  congr 1
  refine uH.ext k n fun x=>⟨fun f=>?_,fun f=>?_⟩
  ·rcases List.mem_cons.1 ((h x).1 (by simp [f])) with rfl|d
   ·have:=i _ f;have:=uv.refl x;omega
   ·exact d
  ·rcases List.mem_cons.1 ((h x).2 (by simp [f])) with rfl|d
   ·have:=j _ f;have:=uv.refl x;omega
   ·exact d
def uP(st:List RE)(e:RE):Nat:=(st.takeWhile fun x=>decide (ux x e= -1)).length
theorem Bo(st:List RE)(e:RE):uP st e<=st.length:=List.Sublist.length_le (List.takeWhile_sublist _)
theorem C3(x:RE)(xs:List RE)(e:RE):uP (x::xs) e=if ux x e= -1 then uP xs e+1 else 0:=by
 unfold uP
 by_cases h:ux x e= -1 <;> simp [List.takeWhile,h]
theorem CB{st:List RE}(l:uH st){e:RE}: ∀{i:Nat} (h:i<st.length),ux st[i] e= -1↔i<uP st e:=by
 induction st with
 |nil=>intro i h;simp at h
 |cons x xs d=>
  obtain ⟨j,f⟩:=List.pairwise_cons.1 l;intro i h;rw [C3];cases i with
  |zero=>by_cases b:ux x e= -1 <;> simp [b]
  |succ i=>
   have g:i<xs.length:=by simpa using h
   rw [List.getElem_cons_succ,d f g]
   by_cases b:ux x e= -1
   ·rw [if_pos b];omega
   ·rw [if_neg b];refine ⟨fun a=>?_,fun a=>by omega⟩;have k:=(d f g).2 a;have m:=j xs[i] (by simp);exact absurd (uv.t _ _ _ m k) b
def uB(st:List RE)(v:ByteArray)(key:List Int):Option RE:=st.find? fun x=>decide (x.var=v)&&decide (x.key=key)
theorem vP{st:List RE}{v:ByteArray}{key:List Int}{x:RE}(h:uB st v key=some x):x∈st/\x.var=v/\x.key=key:=by
 have a:=List.find?_some h;simp only [Bool.and_eq_true,decide_eq_true_eq] at a;exact ⟨List.mem_of_find?_eq_some h,a⟩
theorem yB{st:List RE}{v:ByteArray}{key:List Int}:uB st v key=none↔ ∀x∈st, ¬(x.var=v/\x.key=key):=by
 unfold uB;rw [List.find?_eq_none];simp
theorem G2{st:List RE}(e:uH st){x:RE}(h:x∈st):uB st x.var x.key=some x:=by
 cases a:uB st x.var x.key with
 |none=>exact absurd ⟨rfl,rfl⟩ (yB.1 a x h)
 |some y=>
  obtain ⟨b,d,f⟩:=vP a;rw [e.uniq b h (vF.2 ⟨d,f⟩)]
theorem yo{st:List RE}(d:uH st)(e:RE):uB st e.var e.key=match st[uP st e]? with
  |some x=>if ux x e=0 then some x else none
  |none=>none:=by
 have p:=Bo st e;cases g:uB st e.var e.key with
 |some y=>
  obtain ⟨l,m,n⟩:=vP g;obtain ⟨i,b,rfl⟩:=List.getElem_of_mem l;have f:ux st[i] e=0:=vF.2 ⟨m,n⟩;have r: ¬i<uP st e:=fun h=>by have:=(CB d b).2 h;omega
  have s: ¬uP st e<i:=fun h=>by
   have a:uP st e<st.length:=by omega
   have k:=List.pairwise_iff_getElem.1 d (uP st e) i a b h;have j:ux st[uP st e] e= -1:=by rw [<- uv.z' f];exact k
   exact absurd ((CB d a).1 j) (by omega)
  have q:uP st e=i:=by omega
  rw [q,ggZ b];dsimp only;rw [if_pos f]
 |none=>
  have:=yB.1 g
  cases o:st[uP st e]? with
  |none=>rfl
  |some x=>
   dsimp only;rw [if_neg fun h=>this x (List.mem_of_getElem? o) (vF.1 h)]
def uK(e:RE):List RE->List RE
 |[]=>[e]
 |x::xs=>if ux x e= -1 then x::uK e xs else if ux x e=0 then e::xs else e::x::xs
theorem Iu{α:Type}(b:Bool)(k:Nat)(x:α)(xs:List α):xs.drop (if b=true then k+1 else k)=(x::xs).drop (if b=true then k+1+1 else k+1):=by cases b <;> rfl
theorem DZ{st:List RE}(a:uH st)(e:RE):uK e st=st.take (uP st e)++e::st.drop (if (uB st e.var e.key).isSome then uP st e+1 else uP st e):=by
 rw [yo a];clear a
 induction st with
 |nil=>rfl
 |cons x xs b=>
  rw [C3];unfold uK
  by_cases h:ux x e= -1
  ·rw [if_pos h,if_pos h,b];simp only [List.getElem?_cons_succ,List.take_succ_cons,List.cons_append];exact congrArg (x:: ·) (congrArg (_++ ·) (congrArg (e:: ·) (Iu _ _ _ _)))
  ·rw [if_neg h,if_neg h];simp only [List.getElem?_cons_zero,List.take_zero,List.nil_append]
   by_cases d:ux x e=0 <;> simp [d]
theorem vj{st:List RE}(o:uH st){e x:RE}:x∈uK e st↔x=e\/(x∈st/\ux x e≠0):=by
 induction st with
 |nil=>simp [uK]
 |cons y k l=>
  obtain ⟨m,n⟩:=List.pairwise_cons.1 o;unfold uK
  by_cases h:ux y e= -1
  ·rw [if_pos h,List.mem_cons,l n,List.mem_cons];constructor
   ·rintro (rfl|a|a)
    ·exact Or.inr ⟨Or.inl rfl,by omega⟩
    ·exact Or.inl a
    ·exact Or.inr ⟨Or.inr a.1,a.2⟩
   ·rintro (a|⟨rfl|a,d⟩)
    ·exact Or.inr (Or.inl a)
    ·exact Or.inl rfl
    ·exact Or.inr (Or.inr ⟨a,d⟩)
  ·have b: ∀z∈k,ux z e≠0/\ux z e≠ -1:=fun z j=>by
    have a:=m z j;have p:=uv.r y e;refine ⟨fun g=>?_,fun i=>h (uv.t _ _ _ a i)⟩;rw [uv.z' g] at a;omega
   rw [if_neg h]
   by_cases f:ux y e=0
   ·rw [if_pos f,List.mem_cons,List.mem_cons];constructor
    ·rintro (a|a)
     ·exact Or.inl a
     ·exact Or.inr ⟨Or.inr a,(b x a).1⟩
    ·rintro (a|⟨rfl|a,d⟩)
     ·exact Or.inl a
     ·exact absurd f d
     ·exact Or.inr a
   ·rw [if_neg f,List.mem_cons,List.mem_cons];constructor
    ·rintro (a|rfl|a)
     ·exact Or.inl a
     ·exact Or.inr ⟨Or.inl rfl,f⟩
     ·exact Or.inr ⟨Or.inr a,(b x a).1⟩
    ·rintro (a|⟨rfl|a,d⟩)
     ·exact Or.inl a
     ·exact Or.inr (Or.inl rfl)
     ·exact Or.inr (Or.inr a)
theorem uH.put{st:List RE}(i:uH st)(e:RE):uH (uK e st):=by
 induction st with
 |nil=>simp [uK,uH]
 |cons y m j=>
  obtain ⟨b,d⟩:=List.pairwise_cons.1 i;unfold uK
  by_cases h:ux y e= -1
  ·rw [if_pos h];refine List.pairwise_cons.2 ⟨fun z a=>?_,j d⟩;rcases (vj d).1 a with rfl|⟨a,_⟩
   ·exact h
   ·exact b z a
  ·rw [if_neg h];have l:=uv.r y e;have k:=uv.s y e
   by_cases f:ux y e=0
   ·rw [if_pos f];exact List.pairwise_cons.2 ⟨fun z a=>by rw [<- uv.z _ _ f];exact b z a,d⟩
   ·rw [if_neg f];have g:ux e y= -1:=by omega
    refine List.pairwise_cons.2 ⟨fun z a=>?_,i⟩;rcases List.mem_cons.1 a with rfl|a
    ·exact g
    ·exact uv.t _ _ _ g (b z a)
def uF(e:RE):Bool->List RE->List RE
 |d,[]=>if d then [] else [e]
 |d,x::xs=>(if ux x e≠ -1/\d=false then [e] else [])++((if ux x e≠0 then [x] else [])++uF e (d||decide (ux x e≠ -1)) xs)
theorem BI{e:RE}: ∀{l:List RE},(∀ x∈l,ux x e≠0)->uF e true l=l
 |[],_=>rfl
 |x::xs,h=>by
  unfold uF;rw [if_neg (by simp),if_pos (h x (by simp)),Bool.true_or,BI fun y a=>h y (by simp [a])];rfl
theorem GB{st:List RE}(l:uH st)(e:RE):uF e false st=uK e st:=by
 induction st with
 |nil=>rfl
 |cons y m g=>
  obtain ⟨i,k⟩:=List.pairwise_cons.1 l;unfold uF uK
  by_cases h:ux y e= -1
  ·rw [if_pos h,if_neg (by simp [h]),if_pos (by omega)]
   have:(false||decide (ux y e≠ -1))=false:=by simp [h]
   rw [this,g k];rfl
  ·have b: ∀z∈m,ux z e≠0:=fun z j d=>by
    have f:=i z j;rw [uv.z' d] at f;exact h f
   have:(false||decide (ux y e≠ -1))=true:=by simp [h]
   rw [if_neg h,if_pos ⟨h,rfl⟩,this,BI b]
   by_cases a:ux y e=0
   ·rw [if_pos a,if_neg (by simp [a])];rfl
   ·rw [if_neg a,if_pos a];rfl
def ofE(st:List RE)(v:ByteArray):List RE:=st.filter fun e=>decide (e.var=v)
def wx(st:List RE)(v:ByteArray):List RE:=st.filter fun e=> !decide (e.var=v)
def uC(st:List RE)(v:ByteArray):Nat:=(ofE st v).length
def Ca(a b:List RE):Option (List RE):=if b.any fun x=>(uB a x.var x.key).isSome then none else some (b.foldl (fun acc x=>uK x acc) a)
theorem Ge{b:List RE}: ∀{a:List RE},uH a->uH (b.foldl (fun acc x=>uK x acc) a):=by
 induction b with
 |nil=>exact fun h=>h
 |cons x xs d=>exact fun h=>d (h.put x)
theorem Gj{b:List RE}(g:b.Pairwise fun x y=>ux x y≠0): ∀{a:List RE},uH a->(∀ x∈b, ∀y∈a,ux y x≠0)-> ∀{z:RE},z∈b.foldl (fun acc x=>uK x acc) a↔z∈a\/z∈b:=by
 induction b with
 |nil=>simp
 |cons x xs i=>
  intro a d hd z;obtain ⟨j,k⟩:=List.pairwise_cons.1 g;rw [List.foldl_cons,i k (d.put x) (fun w f y e=>?_),vj d,List.mem_cons]
  ·constructor
   ·rintro ((h|h)|h)
    ·exact Or.inr (Or.inl h)
    ·exact Or.inl h.1
    ·exact Or.inr (Or.inr h)
   ·rintro (h|h|h)
    ·exact Or.inl (Or.inr ⟨h,hd x (by simp) z h⟩)
    ·exact Or.inl (Or.inl h)
    ·exact Or.inr h
  ·rcases (vj d).1 e with rfl|⟨e,_⟩
   ·exact j w f
   ·exact hd w (by simp [f]) y e
theorem Ej{a b d:List RE}(p:uH a)(t:uH b)(j:d.Perm (a++b))(A:d.Pairwise fun x y=>ux y x≠ -1):Ca a b=if xf d then some d else none:=by
 unfold Ca
 by_cases i:b.any (fun x=>(uB a x.var x.key).isSome)=true
 ·rw [if_pos i]
  have:xf d=false:=by
   cases u:xf d with
   |false=>rfl
   |true=>
    exfalso;have g:=xY.1 u;rw [List.any_eq_true] at i;obtain ⟨x,f,n⟩:=i;obtain ⟨y,k⟩:=Option.isSome_iff_exists.1 n;obtain ⟨q,w,B⟩:=vP k;have C:(a++b).Nodup:=j.nodup_iff.1 (g.imp fun {x y} h e=>by subst e;have:=uv.refl x;omega);have l:x∈d:=j.mem_iff.2 (by simp [f]);have o:y∈d:=j.mem_iff.2 (by simp [q]);have e:=g.uniq o l (vF.2 ⟨w,B⟩);subst e;exact (List.nodup_append.1 C).2.2 y q y f rfl
  rw [this];rfl
 ·rw [if_neg i];have hd: ∀x∈b, ∀y∈a,ux y x≠0:=fun x f y k v=>by
   refine i (List.any_eq_true.2 ⟨x,f,?_⟩);cases n:uB a x.var x.key with
   |some _=>rfl
   |none=>exact absurd (vF.1 v) (yB.1 n y k)
  have m:(a++b).Pairwise fun x y=>ux x y≠0:=List.pairwise_append.2 ⟨p.imp fun h=>by omega,t.imp fun h=>by omega,fun x f y k=>hd y k x f⟩
  have z:d.Pairwise fun x y=>ux x y≠0:=(j.pairwise_iff (fun {x y} h=>by have:=uv.s x y;omega)).2 m
  have g:uH d:=(A.and z).imp fun {x y} h=>by have:=uv.s x y;have:=uv.r x y;omega
  rw [xY.2 g,if_pos rfl]
  congr 1
  refine uH.ext (Ge p) g fun x=>?_
  rw [Gj (t.imp fun h=>by omega) p hd,j.mem_iff,List.mem_append]
end Go.ST
end
section
namespace Go.ST
open Go Go.DL Go.MM Go.TY
def vI:List Int->List Int->Bool
 |[],[]=>true
 |k::ks,w::ws=>decide (0<=k)&&decide (k<2^w.toNat)&&vI ks ws
 |_,_=>false
def AP(v:RV)(e:RE)(a:List RE):Bool:=
 if v.fam=2 then decide (e.n=0)
 else if v.fam=3 then decide (v.n<=e.n)&&decide (e.n<=v.m)&& !(a.any fun x=>decide (x.var=e.var)&&decide (x.n=e.n))
 else if v.fam=4 then decide (v.n=0)||decide (e.n<=v.n)
 else true
def Ao(e:RE):Bool:=decide (0<=e.n)&&decide (e.n<=65535)&&decide (0<=e.at_)&&decide (e.at_<=1073741824)
def xy(v:RV)(e:RE)(a:List RE):Bool:=Ao e&&vI e.key v.ws&&AP v e a
def varOf(vars:List RV)(name:ByteArray):Option RV:=vars.find? fun v=>decide (v.name=name)
def yH(a:List RE)(e:RE):Bool:=match a.getLast? with
 |some x=>decide (ux x e≠ -1)
 |none=>false
def zq(vars:List RV)(a:List RE)(e:RE):Int:=match varOf vars e.var with
 |none=>4
 |some v=>if xy v e a=false then 1 else if yH a e=true then 10 else if 100<=uC a e.var then 2 else 0
def zU(vars:List RV):List RE->List RE->Int
 |_,[]=>0
 |before,e::es=>if zq vars before e=0 then zU vars (before++[e]) es else zq vars before e
def zr(vars:List RV)(st:List RE):Int:=zU vars [] st
theorem Ab: ∀{k w:List Int},vI k w=true->k.length=w.length
 |[],[],_=>rfl
 |[],_::_,h=>by cases h
 |_::_,[],h=>by cases h
 |k::ks,w::ws,h=>by
  simp only [vI,Bool.and_eq_true] at h;simp [Ab h.2]
theorem BO: ∀{k w:List Int},vI k w=true↔k.length=w.length/\ ∀(i:Nat) (a b:Int),k[i]? =some a->w[i]? =some b->0<=a/\a<2^b.toNat
 |[],[]=>by simp [vI]
 |[],_::_=>by simp [vI]
 |_::_,[]=>by simp [vI]
 |k::ks,w::ws=>by
  rw [vI,Bool.and_eq_true,Bool.and_eq_true,decide_eq_true_eq,decide_eq_true_eq,BO,List.length_cons,List.length_cons];constructor
  ·rintro ⟨⟨g,f⟩,j,h⟩;refine ⟨by omega,fun i a b d e=>?_⟩;cases i with
   |zero=>simp only [List.getElem?_cons_zero,Option.some.injEq] at d e;subst d;subst e;exact ⟨g,f⟩
   |succ i=>exact h i a b (by simpa using d) (by simpa using e)
  ·rintro ⟨g,f⟩;exact ⟨f 0 k w rfl rfl,by omega,fun i a b d e=>f (i+1) a b (by simpa using d) (by simpa using e)⟩
structure Jm (vars:List RV) (e:RE):Prop where
 ex: ∃v,varOf vars e.var=some v/\vI e.key v.ws=true/\(v.fam=2->e.n=0)/\(v.fam=3->v.n<=e.n/\e.n<=v.m)/\(v.fam=4->v.n=0\/e.n<=v.n)
 n0:0<=e.n
 n1:e.n<=65535
 a0:0<=e.at_
 a1:e.at_<=1073741824
def JJ(vars:List RV)(name:ByteArray):Prop:= ∃v,varOf vars name=some v/\v.fam=3
def B0(vars:List RV)(x y:RE):Prop:=x.var=y.var->JJ vars x.var->x.n≠y.n
structure OkS (vars:List RV) (st:List RE):Prop where
 inc:uH st
 fit: ∀e∈st,Jm vars e
 tr:st.Pairwise (B0 vars)
 few: ∀v,uC st v<=100
theorem zt{st:List RE}{e:RE}{v:ByteArray}:uC (st++[e]) v=uC st v+if e.var=v then 1 else 0:=by
 unfold uC ofE;rw [List.filter_append,List.length_append]
 by_cases h:e.var=v <;> simp [h]
theorem Gd{st:List RE}{e:RE}:uH (st++[e])↔uH st/\ ∀x,st.getLast? =some x->ux x e= -1:=by
 unfold uH;rw [List.pairwise_append];constructor
 ·rintro ⟨f,_,n⟩;exact ⟨f,fun x g=>n x (List.mem_of_getLast? g) e (by simp)⟩
 ·rintro ⟨f,m⟩;refine ⟨f,by simp,fun a i b l=>?_⟩;rw [List.mem_singleton.1 l];obtain ⟨x,g⟩: ∃x,st.getLast? =some x:=by
   cases j:st.getLast? with
   |none=>rw [List.getLast?_eq_none_iff] at j;subst j;simp at i
   |some x=>exact ⟨x,rfl⟩
  have d:=m x g;obtain ⟨k,rfl⟩: ∃k,st=k++[x]:=List.getLast?_eq_some_iff.1 g;rcases List.mem_append.1 i with h|h
  ·exact uv.t _ _ _ ((List.pairwise_append.1 f).2.2 a h x (by simp)) d
  ·rw [List.mem_singleton.1 h];exact d
theorem Il{vars:List RV}{a:List RE}{e:RE}(n:OkS vars a):zq vars a e=0↔OkS vars (a++[e]):=by
 have u:=Gd (st:=a) (e:=e);constructor
 ·intro h;unfold zq at h;cases j:varOf vars e.var with
  |none=>rw [j] at h;simp at h
  |some v=>
   rw [j] at h;dsimp only at h;have k:xy v e a=true:=by
    cases i:xy v e a with
    |true=>rfl
    |false=>rw [if_pos i] at h;omega
   rw [if_neg (by simp [k])] at h;have o: ∀x,a.getLast? =some x->ux x e= -1:=fun x g=>by
    by_cases z:ux x e= -1
    ·exact z
    ·have:yH a e=true:=by unfold yH;rw [g];simp [z]
     rw [if_pos this] at h;omega
   have B:uC a e.var<100:=by
    split at h
    ·omega
    ·split at h <;> omega
   unfold xy Ao at k;simp only [Bool.and_eq_true,decide_eq_true_eq] at k;obtain ⟨⟨⟨⟨⟨K,L⟩,C⟩,D⟩,s⟩,b⟩:=k;refine ⟨u.2 ⟨n.inc,o⟩,fun x g=>?_,?_,fun w=>?_⟩
   ·rcases List.mem_append.1 g with g|g
    ·exact n.fit x g
    ·rw [List.mem_singleton.1 g];refine ⟨⟨v,j,s,fun i=>?_,fun i=>?_,fun i=>?_⟩,K,L,C,D⟩
     ·simpa [AP,i] using b
     ·unfold AP at b;rw [if_neg (by omega),if_pos i] at b;simp only [Bool.and_eq_true,decide_eq_true_eq] at b;exact b.1
     ·unfold AP at b;rw [if_neg (by omega),if_neg (by omega),if_pos i] at b;simpa using b
   ·refine List.pairwise_append.2 ⟨n.tr,by simp,fun x g y I=>?_⟩;rw [List.mem_singleton.1 I];rintro d ⟨M,l,q⟩ t;rw [d,j] at l;cases l;unfold AP at b;rw [if_neg (by omega),if_pos q] at b;simp only [Bool.and_eq_true,Bool.not_eq_true',List.any_eq_false,Bool.and_eq_true,decide_eq_true_eq,not_and] at b;exact b.2 x g d t
   ·rw [zt]
    have:=n.few w
    by_cases A:e.var=w
    ·subst A;simp;omega
    ·simp [A,this]
 ·intro h;have f:=h.fit e (by simp);obtain ⟨v,j,s,H,J,F⟩:=f.ex;unfold zq;rw [j];dsimp only;have k:xy v e a=true:=by
   unfold xy Ao;simp only [Bool.and_eq_true,decide_eq_true_eq];refine ⟨⟨⟨⟨⟨f.n0,f.n1⟩,f.a0⟩,f.a1⟩,s⟩,?_⟩;unfold AP
   by_cases p:v.fam=2
   ·rw [if_pos p];simpa using H p
   ·rw [if_neg p]
    by_cases m:v.fam=3
    ·rw [if_pos m];simp only [Bool.and_eq_true,Bool.not_eq_true',List.any_eq_false,decide_eq_true_eq,not_and];refine ⟨J m,fun x g d t=>?_⟩;exact (List.pairwise_append.1 h.tr).2.2 x g e (by simp) d ⟨v,by rw [d];exact j,m⟩ t
    ·rw [if_neg m]
     by_cases r:v.fam=4
     ·rw [if_pos r];simpa using F r
     ·rw [if_neg r]
  rw [if_neg (by simp [k])];have o:=(u.1 h.inc).2;have B:=h.few e.var;rw [zt,if_pos rfl] at B;rw [if_neg (show ¬100<=uC a e.var by omega)];have G:yH a e=false:=by
   unfold yH;cases E:a.getLast? with
   |none=>rfl
   |some x=>simp [o x E]
  rw [if_neg (by simp [G])]
theorem OkS.nil{vars:List RV}:OkS vars []:=⟨List.Pairwise.nil,by simp,List.Pairwise.nil,fun _=>by simp [uC,ofE]⟩
theorem OkS.take{vars:List RV}{a b:List RE}(h:OkS vars (a++b)):OkS vars a:=
 ⟨(List.pairwise_append.1 h.inc).1,fun e d=>h.fit e (by simp [d]),(List.pairwise_append.1 h.tr).1,fun v=>by
  have:=h.few v
  unfold uC ofE at *
  rw [List.filter_append,List.length_append] at this
  omega⟩
theorem Ew{vars:List RV}: ∀{d a:List RE},OkS vars a->(zU vars a d=0↔OkS vars (a++d))
 |[],a,h=>by simp [zU,h]
 |e::d,a,h=>by
  unfold zU;have f:=Il (e:=e) h
  by_cases b:zq vars a e=0
  ·rw [if_pos b,Ew (f.1 b),List.append_assoc];rfl
  ·rw [if_neg b];refine ⟨fun h=>absurd h b,fun g=>absurd (f.2 ?_) b⟩;rw [show a++e::d=a++[e]++d by simp] at g;exact g.take
theorem Im{vars:List RV}{st:List RE}:zr vars st=0↔OkS vars st:=by
 unfold zr;rw [Ew OkS.nil];rfl
theorem yj{st:List RE}{v:ByteArray}:uC st v<=st.length:=List.length_filter_le _ _
theorem CA{st:List RE}(d:uH st){e:RE}{v:ByteArray}:ofE (uK e st) v=if e.var=v then uK e (ofE st v) else ofE st v:=by
 refine uH.ext ((d.put e).filter _) (by split;exact (d.filter _).put e;exact d.filter _) fun x=>?_
 unfold ofE;rw [List.mem_filter,vj d,decide_eq_true_eq]
 by_cases h:e.var=v
 ·rw [if_pos h,vj (d.filter _),List.mem_filter,decide_eq_true_eq];constructor
  ·rintro ⟨rfl|a,b⟩
   ·exact Or.inl rfl
   ·exact Or.inr ⟨⟨a.1,b⟩,a.2⟩
  ·rintro (rfl|a)
   ·exact ⟨Or.inl rfl,h⟩
   ·exact ⟨Or.inr ⟨a.1.1,a.2⟩,a.1.2⟩
 ·rw [if_neg h,List.mem_filter,decide_eq_true_eq];constructor
  ·rintro ⟨rfl|a,b⟩
   ·exact absurd b h
   ·exact ⟨a.1,b⟩
  ·rintro ⟨a,b⟩;exact ⟨Or.inr ⟨a,fun f=>h ((vF.1 f).1.symm.trans b)⟩,b⟩
theorem Eg{st:List RE}(d:uH st){e:RE}{v:ByteArray}(h:e.var=v):wx (uK e st) v=wx st v:=by
 refine uH.ext ((d.put e).filter _) (d.filter _) fun x=>?_
 unfold wx;rw [List.mem_filter,List.mem_filter,vj d];simp only [Bool.not_eq_true',decide_eq_false_iff_not];constructor
 ·rintro ⟨rfl|b,a⟩
  ·exact absurd h a
  ·exact ⟨b.1,a⟩
 ·rintro ⟨b,a⟩;exact ⟨Or.inr ⟨b,fun f=>a ((vF.1 f).1.trans h)⟩,a⟩
theorem DY{st:List RE}(b:uH st)(e:RE):(uK e st).length=if (uB st e.var e.key).isSome then st.length else st.length+1:=by
 rw [DZ b];have g:=Bo st e;cases f:uB st e.var e.key with
 |none=>simp;omega
 |some x=>
  have a:=yo b e;rw [f] at a;cases d:st[uP st e]? with
  |none=>rw [d] at a;cases a
  |some y=>
   have:=(gsZ d).1
   simp;omega
theorem DC{st:List RE}{v:ByteArray}{key:List Int}:uB (ofE st v) v key=uB st v key:=by
 unfold uB ofE;rw [List.find?_filter]
 congr 1
 funext x
 by_cases h:x.var=v <;> simp [h]
theorem OkS.put{vars:List RV}{st:List RE}(h:OkS vars st){e:RE}(G:Jm vars e)(o:(uB st e.var e.key).isSome=true\/uC st e.var<100)
  (F:JJ vars e.var-> ∀x∈st,x.var=e.var->ux x e≠0->x.n≠e.n):OkS vars (uK e st):=by
 refine ⟨h.inc.put e,fun x g=>?_,?_,fun v=>?_⟩
 ·rcases (vj h.inc).1 g with rfl|⟨g,_⟩
  ·exact G
  ·exact h.fit x g
 ·
  have L: ∀x∈uK e st, ∀y∈uK e st,ux x y≠0->B0 vars x y:=by
   have w: ∀x∈st, ∀y∈st,ux x y≠0->B0 vars x y:=by
    have key: ∀(l:List RE),l.Pairwise (B0 vars)-> ∀x∈l, ∀y∈l,ux x y≠0->B0 vars x y:=by
     intro l H
     induction l with
     |nil=>intro x g;simp at g
     |cons a r I=>
      obtain ⟨C,J⟩:=List.pairwise_cons.1 H;intro x g y q b;rcases List.mem_cons.1 g with m|f
      ·rcases List.mem_cons.1 q with k|d
       ·rw [m,k] at b;exact absurd (uv.refl _) b
       ·rw [m];exact C y d
      ·rcases List.mem_cons.1 q with k|d
       ·rw [k];exact fun p t K=>C x f p.symm (by rw [<- p];exact t) K.symm
       ·exact I J x f y d b
    exact key st h.tr
   intro x g y q b;rcases (vj h.inc).1 g with p|⟨f,z⟩
   ·rcases (vj h.inc).1 q with t|⟨d,s⟩
    ·rw [p,t] at b;exact absurd (uv.refl _) b
    ·rw [p];exact fun m k u=>F k y d m.symm s u.symm
   ·rcases (vj h.inc).1 q with t|⟨d,s⟩
    ·rw [t];exact fun m k u=>F (by rw [<- m];exact k) x f m z u
    ·exact w x f y d b
  exact (List.pairwise_iff_getElem.2 fun i j E D B=>L _ (List.getElem_mem E) _ (List.getElem_mem D) (by
   have:=List.pairwise_iff_getElem.1 (h.inc.put e) i j E D B
   omega))
 ·unfold uC;rw [CA h.inc]
  by_cases A:e.var=v
  ·rw [if_pos A,DY (show uH (ofE st v) from h.inc.filter _)];subst A;rw [DC]
   have:=h.few e.var
   unfold uC at this o;rcases o with o|o
   ·rw [if_pos o];exact this
   ·split <;> omega
  ·rw [if_neg A];exact h.few v
end Go.ST
end
section
namespace Go.ST
open Go Go.DL Go.MM
open Go.TY hiding Fd
abbrev Fd:=Go.MM.Fd
def uA(l:List Fd)(s:ByteArray):Bool:=(findF l s).isSome
def wrF(l:List Fd)(h:List Int)(name:ByteArray)(n:Int):List Int:=
 if uA l name then yA (fld l name) h (min n ((2^(fld l name).w - 1:Nat):Int)).toNat else h
def wT(l:List Fd):List ByteArray->List Int->List Int->List Int
 |k::ks,v::vs,h=>wT l ks vs (wrF l h k v)
 |[],_,h=>h
 |_::_,[],h=>h
def keyOf(l:List Fd)(a:List ByteArray)(h:List Int):List Int:=a.map fun k=>(vk (fld l k) h:Int)
def uS(l:List RE)(n:Int):Bool:=l.any fun e=>decide (e.n=n)
def vz(l:List RE):Nat->Int->Int
 |0,n=>n
 |k+1,n=>if uS l n then vz l k (n+1) else n
theorem xL(l:List RE): ∀(k:Nat) (n:Int),n<=vz l k n/\vz l k n<=n+k/\ ∀m,n<=m->m<vz l k n->uS l m=true
 |0,n=>⟨by simp [vz],by simp [vz],fun m b a=>by simp [vz] at a;omega⟩
 |k+1,n=>by
  unfold vz
  by_cases h:uS l n=true
  ·rw [if_pos h];obtain ⟨b,a,f⟩:=xL l k (n+1);refine ⟨by omega,by omega,fun m g d=>?_⟩
   by_cases e:m=n
   ·rw [e];exact h
   ·exact f m (by omega) d
  ·rw [if_neg h];exact ⟨by omega,by omega,fun m b a=>by omega⟩
theorem Fc{l:List RE}{e:RE}{m:Int}(h:m≠e.n):uS (l.erase e) m=uS l m:=by
 induction l with
 |nil=>rfl
 |cons a r d=>
  rw [List.erase_cons]
  by_cases b:(a==e)=true
  ·rw [if_pos b]
   have:a=e:=by simpa using b
   subst this;unfold uS;rw [List.any_cons]
   have:decide (a.n=m)=false:=by simpa using fun e=>h e.symm
   rw [this];rfl
  ·rw [if_neg b];unfold uS at d ⊢;rw [List.any_cons,List.any_cons,d]
theorem pd: ∀(k:Nat) (l:List RE) (n:Int),l.length<k-> ∃m,n<=m/\m<n+k/\uS l m=false
 |0,l,n,h=>by omega
 |k+1,l,n,h=>by
  cases b:uS l n with
  |false=>exact ⟨n,by omega,by omega,b⟩
  |true=>
   unfold uS at b;obtain ⟨e,d,a⟩:=List.any_eq_true.1 b;have a:e.n=n:=by simpa using a
   obtain ⟨m,g,i,f⟩:=pd k (l.erase e) (n+1) (by rw [List.length_erase_of_mem d];have:=List.length_pos_of_mem d;omega);exact ⟨m,by omega,by omega,by rw [<- f,Fc (by omega)]⟩
theorem Ae(l:List RE)(n:Int):uS l (vz l l.length n)=false:=by
 have key: ∀(k:Nat) (n:Int),(∃ m,n<=m/\m<n+(k+1:Nat)/\uS l m=false)->uS l (vz l k n)=false:=by
  intro k
  induction k with
  |zero=>
   rintro n ⟨m,d,f,a⟩
   have:m=n:=by omega
   rw [<- this];exact a
  |succ k e=>
   rintro n ⟨m,d,f,a⟩;unfold vz;cases b:uS l n with
   |false=>simpa using b
   |true=>
    rw [if_pos rfl];refine e (n+1) ⟨m,?_,by omega,a⟩;rcases Int.lt_or_eq_of_le d with h|h
    ·omega
    ·subst h;rw [a] at b;cases b
 exact key l.length n (pd _ l n (by omega))
def wh(s:RS)(e:RE)(tick:Int):RE:=
 let k:Int:=if tick>e.at_ then (tick - e.at_).tdiv s.m else 0
 if e.n+k>=s.n then ⟨e.var,e.key,s.n,tick⟩ else ⟨e.var,e.key,e.n+k,e.at_+k * s.m⟩
abbrev Res:=List Int×Bool×Option RE
def uX(f:Option RE)(o:List RE):Bool:=f.isNone&&decide (100<=o.length)
def do1(l:List Fd)(s:RS)(f:Option RE)(o:List RE)(h:List Int)(tick:Int)(key:List Int):Res:=
 if uX f o then (h,false,none)
 else (wrF l h s.field (min (((f.map (·.n)).getD 0)+1) 65535),true,some ⟨s.var,key,min (((f.map (·.n)).getD 0)+1) 65535,tick⟩)
def do2(s:RS)(f:Option RE)(o:List RE)(h:List Int)(tick:Int)(key:List Int):Res:=
 if uX f o then (h,false,none) else (h,true,some ⟨s.var,key,(f.map (·.n)).getD 0,tick⟩)
def do3(s:RS)(f:Option RE)(h:List Int)(tick:Int):Res:=(h,(match f with
 |some e=>decide (e.at_>=tick - s.n)
 |none=>false),none)
def wA(s:RS)(f:Option RE)(o:List RE):Int:=match f with
 |some e=>e.n
 |none=>vz o o.length s.n
def do4(l:List Fd)(s:RS)(f:Option RE)(o:List RE)(h:List Int)(tick:Int)(key:List Int):Res:=
 if uX f o||(f.isNone&&decide (wA s f o>s.m)) then (h,false,none)
 else (wrF l h s.field (wA s f o),true,some ⟨s.var,key,wA s f o,tick⟩)
def do5(l:List Fd)(s:RS)(o:List RE)(h:List Int):Res:=match o.find? fun e=>decide (e.n=(vk (fld l s.field) h:Int)) with
 |some e=>(wT l s.key e.key h,true,none)
 |none=>(h,false,none)
def xI(s:RS)(f:Option RE)(key:List Int)(tick:Int):RE:=wh s (f.getD ⟨s.var,key,s.n,tick⟩) tick
def do6(s:RS)(f:Option RE)(o:List RE)(h:List Int)(tick:Int)(key:List Int):Res:=
 if uX f o then (h,false,none)
 else if (xI s f key tick).n>0 then (h,true,some ⟨s.var,key,(xI s f key tick).n - 1,(xI s f key tick).at_⟩) else (h,false,some ⟨s.var,key,(xI s f key tick).n,(xI s f key tick).at_⟩)
def doR(l:List Fd)(s:RS)(f:Option RE)(o:List RE)(h:List Int)(tick:Int):Res:=
 if s.kind=0 then (h,true,none)
 else if s.kind=1 then do1 l s f o h tick (keyOf l s.key h)
 else if s.kind=2 then do2 s f o h tick (keyOf l s.key h)
 else if s.kind=3 then do3 s f h tick
 else if s.kind=4 then do4 l s f o h tick (keyOf l s.key h)
 else if s.kind=5 then do5 l s o h
 else do6 s f o h tick (keyOf l s.key h)
def cN:Option RE->List RE->List RE
 |none,st=>st
 |some e,st=>uK e st
structure Dn where
 h:List Int
 pass:Bool
 st:List RE
def we(l:List Fd)(s:RS)(st:List RE)(h:List Int)(tick:Int):Res:=doR l s (uB st s.var (keyOf l s.key h)) (ofE st s.var) h tick
def doE(l:List Fd)(s:RS)(st:List RE)(h:List Int)(tick:Int):Dn:=⟨(we l s st h tick).1,(we l s st h tick).2.1,cN (we l s st h tick).2.2 st⟩
structure B1 (l:List Fd) (s:RS) (st:List RE) (h:List Int) (tick:Int):Prop where
 lok:LOk l
 no:uA l ⟨#[]⟩=false
 hok:HOk h
 inc:uH st
 len:st.length<=1000000
 num: ∀e∈st,0<=e.n/\e.n<=65535/\0<=e.at_/\e.at_<=1073741824
 t0:0<=tick
 t1:tick<=1073741824
 k0:0<=s.kind
 k1:s.kind<=6
 keys: ∀k∈s.key,uA l k=true
 klen:s.key.length<=1000
 k3:s.kind=3->0<=s.n/\s.n<=1073741824
 k4:s.kind=4->0<=s.n/\s.n<=65535/\s.n<=s.m/\s.m<=65535
 k5:s.kind=5->uA l s.field=true/\ ∀e∈st,e.var=s.var->e.key.length=s.key.length/\ ∀x∈e.key,0<=x
 k6:s.kind=6->1<=s.n/\s.n<=65535/\1<=s.m/\s.m<=1073741824
end Go.ST
end
noncomputable section
namespace Go.ST
open Go Go.DL Go.Proofs
def c29:aV:=(sr [oo 2 (.box 4 (tm 0)),oo 3 (.box 4 (tm 1)),oo 4 (.mov (Kc 0))] (sr [fa 5 0 2,ld 6 5,fa 7 0 3,ld 8 7,oo 9 (.call 80 [(tm 6),(tm 8)]),fa 10 1 2,ld 11 10,fa 12 1 3,ld 13 12,oo 14 (.call 81 [(tm 11),(tm 13)]),oo 15 (.buildT 1 2 [Z0] [(0,(tm 9)),(1,(tm 14))]),oo 16 (.call 79 [tm 15]),mv 4 16] .ret))
theorem l29:(Tryz.f29.body.bind (bt Tryz.prog 17 []))=some c29:=by kernel_rfl
def c81:aV:=(sr [oo 4 (.mov (Kc 0))] (.seq (sr [mv 9 0,ln 10 9,oo 11 (.mov (Kc 0))] (.block 0 (.loop (sr [oo 12 (.bin .lss (tm 11) (tm 10))] (.seq (.cond (tm 12) .skip (.exit 0)) (.seq (.block 1 (sr [mv 13 11,ix 14 1 9 11,ld 15 14,mv 5 13,mv 6 15] (.seq (sr [mv 16 5,mv 17 1,ln 18 17,oo 19 (.bin .geq (tm 16) (tm 18))] (.cond (tm 19) (sr [oo 4 (.mov (Kc 1))] .ret) .skip)) (sr [mv 20 1,mv 21 5,ix 22 1 20 21,ld 23 22,mv 7 23] (sr [mv 24 6,mv 25 7,oo 26 (.call 123 [(tm 24),(tm 25)]),mv 8 26] (sr [mv 27 8,oo 28 (.bin .neq (tm 27) (Kc 0))] (.cond (tm 28) (sr [mv 29 8,mv 4 29] .ret) .skip))))))) (rg [oo 30 (.bin .add (tm 11) (Kc 1)),mv 11 30]))))))) (.seq (sr [mv 31 0,ln 32 31,mv 33 1,ln 34 33,oo 35 (.bin .lss (tm 32) (tm 34))] (.cond (tm 35) (sr [oo 4 (.mov (.const (.int .i64 (-1))))] .ret) .skip)) (sr [oo 4 (.mov (Kc 0))] .ret))))
theorem l81:(Tryz.f81.body.bind (bt Tryz.prog 36 []))=some c81:=by kernel_rfl
def c79:aV:=(sr [oo 2 (.mov (Kc 0))] (sr [oo 3 (.mov (Kc 0))] (.seq (sr [mv 6 0,ln 7 6,oo 8 (.mov (Kc 0))] (.block 0 (.loop (sr [oo 9 (.bin .lss (tm 8) (tm 7))] (.seq (.cond (tm 9) .skip (.exit 0)) (.seq (.block 1 (sr [ix 10 1 6 8,ld 11 10,mv 5 11] (sr [mv 12 5,mv 13 3,oo 14 (.bin .neq (tm 12) (tm 13))] (.cond (tm 14) (sr [mv 15 5,mv 2 15] .ret) .skip)))) (rg [oo 16 (.bin .add (tm 8) (Kc 1)),mv 8 16]))))))) (sr [mv 17 3,mv 2 17] .ret))))
theorem l79:(Tryz.f79.body.bind (bt Tryz.prog 18 []))=some c79:=by kernel_rfl
def c80:aV:=(sr [oo 4 (.mov (Kc 0))] (sr [mv 7 0,oo 8 (.call 122 [tm 7]),mv 5 8] (sr [mv 9 1,oo 10 (.call 122 [tm 9]),mv 6 10] (.seq (sr [mv 11 5] (.cond (tm 11) (.seq (sr [mv 12 6] (.cond (tm 12) (sr [oo 4 (.mov (Kc 0))] .ret) .skip)) (sr [oo 4 (.mov (.const (.int .i64 (-1))))] .ret)) .skip)) (.seq (sr [mv 13 6] (.cond (tm 13) (sr [oo 4 (.mov (Kc 1))] .ret) .skip)) (.seq (sr [mv 14 0,mv 15 1,oo 16 (.bin .lss (tm 14) (tm 15))] (.cond (tm 16) (sr [oo 4 (.mov (.const (.int .i64 (-1))))] .ret) .skip)) (.seq (sr [mv 17 0,mv 18 1,oo 19 (.bin .gtr (tm 17) (tm 18))] (.cond (tm 19) (sr [oo 4 (.mov (Kc 1))] .ret) .skip)) (sr [oo 4 (.mov (Kc 0))] .ret))))))))
theorem l80:(Tryz.f80.body.bind (bt Tryz.prog 20 []))=some c80:=by kernel_rfl
def Ls:aV:=(sr [oo 2 (.mov kF)] (sr [mv 3 0,mv 4 0,oo 5 (.bin .neq (tm 3) (tm 4)),mv 2 5] .ret))
theorem MK:(Tryz.f122.body.bind (bt Tryz.prog 6 []))=some Ls:=by kernel_rfl
def c75:aV:=(sr [oo 3 (.box 5 (tm 0)),oo 4 (.box 4 (tm 1)),oo 6 (.mov kF)] (.seq (sr [fa 9 1 4,ld 10 9,ln 11 10,fa 12 2 3,ld 13 12,ln 14 13,oo 15 (.bin .neq (tm 11) (tm 14)),mv 16 15,oF 17 16 (.offA 2 (tm 4)),oF 18 16 (.load 1 false (tm 17)),oF 19 16 (.bin .lss (tm 18) (Kc 0)),oo 20 (.pick (tm 16) kT (tm 19)),mv 21 20,oF 22 21 (.offA 2 (tm 4)),oF 23 21 (.load 1 false (tm 22)),oF 24 21 (.bin .gtr (tm 23) (Kc 65535)),oo 25 (.pick (tm 21) kT (tm 24)),mv 26 25,oF 27 26 (.offA 3 (tm 4)),oF 28 26 (.load 1 false (tm 27)),oF 29 26 (.bin .lss (tm 28) (Kc 0)),oo 30 (.pick (tm 26) kT (tm 29)),mv 31 30,oF 32 31 (.offA 3 (tm 4)),oF 33 31 (.load 1 false (tm 32)),oF 34 31 (.bin .gtr (tm 33) (Kc 1073741824)),oo 35 (.pick (tm 31) kT (tm 34))] (.cond (tm 35) (sr [oo 6 (.mov kF)] .ret) .skip)) (.seq (sr [fa 36 1 4,ld 37 36,ln 38 37,oo 39 (.mov (Kc 0))] (.block 0 (.loop (sr [oo 40 (.bin .lss (tm 39) (tm 38))] (.seq (.cond (tm 40) .skip (.exit 0)) (.seq (.block 1 (sr [mv 41 39,ix 42 1 37 39,ld 43 42,mv 7 41,mv 8 43] (sr [mv 44 8,oo 45 (.bin .lss (tm 44) (Kc 0)),mv 46 45,mF 47 8 46,oF 48 46 (.offA 2 (tm 3)),oF 49 46 (.load 1 false (tm 48)),mF 50 7 46,oF 51 46 (.idxL 1 (tm 49) (tm 50)),oF 52 46 (.load 1 false (tm 51)),oF 53 46 (.bin .shl (Kc 1) (tm 52)),oF 54 46 (.bin .geq (tm 47) (tm 53)),oo 55 (.pick (tm 46) kT (tm 54))] (.cond (tm 55) (sr [oo 6 (.mov kF)] .ret) .skip)))) (rg [oo 56 (.bin .add (tm 39) (Kc 1)),mv 39 56]))))))) (.seq (sr [fa 57 1 3,ld 58 57] (.block 2 (sr [oo 60 (.bin .eql (tm 58) (Kc 2)),mv 59 60] (.cond (tm 59) (sr [fa 61 2 4,ld 62 61,oo 63 (.bin .eql (tm 62) (Kc 0)),mv 6 63] .ret) (sr [oo 65 (.bin .eql (tm 58) (Kc 3)),mv 64 65] (.cond (tm 64) (sr [fa 66 2 4,ld 67 66,fa 68 3 3,ld 69 68,oo 70 (.bin .geq (tm 67) (tm 69)),mv 71 70,oT 72 71 (.offA 2 (tm 4)),oT 73 71 (.load 1 false (tm 72)),oT 74 71 (.offA 4 (tm 3)),oT 75 71 (.load 1 false (tm 74)),oT 76 71 (.bin .leq (tm 73) (tm 75)),oo 77 (.pick (tm 71) (tm 76) kF),mv 78 77,mT 79 2 78,oT 80 78 (.mkfn 117 [tm 4]),oT 81 78 (.call 116 [(tm 79),(tm 80)]),oT 82 78 (.not (tm 81)),oo 83 (.pick (tm 78) (tm 82) kF),mv 6 83] .ret) (sr [oo 85 (.bin .eql (tm 58) (Kc 4)),mv 84 85] (.cond (tm 84) (sr [fa 86 3 3,ld 87 86,oo 88 (.bin .eql (tm 87) (Kc 0)),mv 89 88,oF 90 89 (.offA 2 (tm 4)),oF 91 89 (.load 1 false (tm 90)),oF 92 89 (.offA 3 (tm 3)),oF 93 89 (.load 1 false (tm 92)),oF 94 89 (.bin .leq (tm 91) (tm 93)),oo 95 (.pick (tm 89) kT (tm 94)),mv 6 95] .ret) .skip)))))))) (sr [oo 6 (.mov kT)] .ret)))))
theorem l75:(Tryz.f75.body.bind (bt Tryz.prog 96 []))=some c75:=by kernel_rfl
def Lq:aV:=(sr [oo 2 (.box 4 (tm 0)),oo 3 (.mov kF)] (sr [fa 4 0 2,ld 5 4,fa 6 0 1,ld 7 6,oo 8 (.bin .eql (tm 5) (tm 7)),mv 9 8,oT 10 9 (.offA 2 (tm 2)),oT 11 9 (.load 1 false (tm 10)),oT 12 9 (.offA 2 (tm 1)),oT 13 9 (.load 1 false (tm 12)),oT 14 9 (.bin .eql (tm 11) (tm 13)),oo 15 (.pick (tm 9) (tm 14) kF),mv 3 15] .ret))
theorem MI:(Tryz.f117.body.bind (bt Tryz.prog 16 []))=some Lq:=by kernel_rfl
def Lp:aV:=(sr [oo 4 (.mov kF)] (sr [mv 5 0,mv 6 1,oo 7 (.call 109 [(tm 5),(tm 6)]),oo 8 (.bin .geq (tm 7) (Kc 0)),mv 4 8] .ret))
theorem MH:(Tryz.f116.body.bind (bt Tryz.prog 9 []))=some Lp:=by kernel_rfl
def Lj:aV:=(sr [oo 4 (.mov (Kc 0))] (.seq (sr [mv 6 0,ln 7 6,oo 8 (.mov (Kc 0))] (.block 0 (.loop (sr [oo 9 (.bin .lss (tm 8) (tm 7))] (.seq (.cond (tm 9) .skip (.exit 0)) (.seq (.block 1 (sr [mv 10 8,mv 5 10] (sr [mv 11 1,mv 12 0,mv 13 5,ix 14 4 12 13,lA 15 4 14,oo 16 (.bY (tm 11) [tm 15])] (.cond (tm 16) (sr [mv 17 5,mv 4 17] .ret) .skip)))) (rg [oo 18 (.bin .add (tm 8) (Kc 1)),mv 8 18]))))))) (sr [oo 4 (.mov (.const (.int .i64 (-1))))] .ret)))
theorem JO:(Tryz.f109.body.bind (bt Tryz.prog 19 []))=some Lj:=by kernel_rfl
def c73:aV:=(sr [oo 4 (.mov (Kc 0))] (.seq (sr [mv 6 0,ln 7 6,oo 8 (.mov (Kc 0))] (.block 0 (.loop (sr [oo 9 (.bin .lss (tm 8) (tm 7))] (.seq (.cond (tm 9) .skip (.exit 0)) (.seq (.block 1 (sr [mv 10 8,mv 5 10] (sr [mv 11 1,mv 12 0,mv 13 5,ix 14 5 12 13,lA 15 5 14,oo 16 (.bY (tm 11) [tm 15])] (.cond (tm 16) (sr [mv 17 5,mv 4 17] .ret) .skip)))) (rg [oo 18 (.bin .add (tm 8) (Kc 1)),mv 8 18]))))))) (sr [oo 4 (.mov (.const (.int .i64 (-1))))] .ret)))
theorem l73:(Tryz.f73.body.bind (bt Tryz.prog 19 []))=some c73:=by kernel_rfl
def c23:aV:=(sr [oo 4 (.mov (Kc 0))] (sr [oo 9 (.mkmap false [.str]),mv 5 9] (.seq (sr [mv 10 1,ln 11 10,oo 12 (.mov (Kc 0))] (.block 0 (.loop (sr [oo 13 (.bin .lss (tm 12) (tm 11))] (.seq (.cond (tm 13) .skip (.exit 0)) (.seq (.block 1 (sr [mv 14 12,ix 15 4 10 12,lA 16 4 15,⟨some 7,.alloc [S0,.nil,Z0,Z0],none,[]⟩,mv 6 14,o0 (.store 4 (tm 7) (tm 16))] (sr [mv 17 0,oo 18 (.mkfn 74 [tm 7]),oo 19 (.call 73 [(tm 17),(tm 18)]),mv 8 19] (.seq (.block 2 (sr [mv 21 8,oo 22 (.bin .lss (tm 21) (Kc 0)),mv 20 22] (.cond (tm 20) (sr [oo 4 (.mov (Kc 4))] .ret) (sr [mv 24 0,mv 25 8,ix 26 5 24 25,lA 27 5 26,lA 28 4 7,mv 29 1,mv 30 6,oo 31 (.slice 4 (tm 29) none (some (tm 30))),oo 32 (.call 75 [(tm 27),(tm 28),(tm 31)]),oo 33 (.not (tm 32)),mv 23 33] (.cond (tm 23) (sr [oo 4 (.mov (Kc 1))] .ret) (sr [mv 35 6,oo 36 (.bin .gtr (tm 35) (Kc 0)),mv 37 36,mT 38 1 37,mT 39 6 37,oT 40 37 (.bin .sub (tm 39) (Kc 1)),oT 41 37 (.idxL 4 (tm 38) (tm 40)),oT 42 37 (.load 4 true (tm 41)),oT 43 37 (.load 4 true (tm 7)),oT 44 37 (.call 29 [(tm 42),(tm 43)]),oT 45 37 (.bin .geq (tm 44) (Kc 0)),oo 46 (.pick (tm 37) (tm 45) kF),mv 34 46] (.cond (tm 34) (sr [oo 4 (.mov (Kc 10))] .ret) (sr [mv 48 5,fa 49 0 7,ld 50 49,oo 51 (.mlook false [.str] Z0 false (tm 48) (tm 50)),oo 52 (.bin .geq (tm 51) (Kc 100)),mv 47 52] (.cond (tm 47) (sr [oo 4 (.mov (Kc 2))] .ret) .skip))))))))) (rg [mv 53 5,fa 54 0 7,ld 55 54,oo 56 (.mlook false [.str] Z0 false (tm 53) (tm 55)),oo 57 (.bin .add (tm 56) (Kc 1)),o0 (.bC false [.str] (tm 53) (tm 55) (tm 57))]))))) (rg [oo 58 (.bin .add (tm 12) (Kc 1)),mv 12 58]))))))) (sr [oo 4 (.mov (Kc 0))] .ret))))
theorem l23:(Tryz.f23.body.bind (bt Tryz.prog 59 []))=some c23:=by kernel_rfl
def c74:aV:=(sr [oo 2 (.box 5 (tm 0)),oo 3 (.mov kF)] (sr [fa 4 0 2,ld 5 4,fa 6 0 1,ld 7 6,oo 8 (.bin .eql (tm 5) (tm 7)),mv 3 8] .ret))
theorem l74:(Tryz.f74.body.bind (bt Tryz.prog 9 []))=some c74:=by kernel_rfl
def c76:aV:=(sr [oo 4 (.box 4 (tm 1)),oo 6 (.mov (Kc 0)),oo 7 (.mov kF)] (sr [mv 8 0,lA 9 4 4,mv 10 2,oo 11 (.call 118 [(tm 8),(tm 9),(tm 10)]),oo 12 (.ext (tm 11) 0),oo 13 (.ext (tm 11) 1),mv 6 12,mv 7 13] .ret))
theorem l76:(Tryz.f76.body.bind (bt Tryz.prog 14 []))=some c76:=by kernel_rfl
def Lr:aV:=(sr [oo 4 (.box 4 (tm 1)),oo 6 (.mov (Kc 0)),oo 7 (.mov kF)] (sr [mv 12 0,ln 13 12,mv 8 13] (sr [mv 14 8,oo 9 (.mov (Kc 0)),mv 10 14] (.seq (.block 0 (.loop (.seq (sr [mv 15 9,mv 16 10,oo 17 (.bin .lss (tm 15) (tm 16))] (.cond (tm 17) .skip (.exit 0))) (.block 1 (sr [mv 18 9,mv 19 10,oo 20 (.bin .add (tm 18) (tm 19)),oo 21 (.conv .u64 (tm 20)),oo 22 (.bin .shr (tm 21) (.const (.int .u64 1))),oo 23 (.conv .i64 (tm 22)),mv 11 23] (sr [mv 24 2,mv 25 0,mv 26 11,ix 27 4 25 26,lA 28 4 27,lA 29 4 4,oo 30 (.bY (tm 24) [(tm 28),(tm 29)]),oo 31 (.bin .lss (tm 30) (Kc 0))] (.cond (tm 31) (rg [mv 32 11,oo 33 (.bin .add (tm 32) (Kc 1)),mv 9 33]) (rg [mv 34 11,mv 10 34])))))))) (sr [mv 35 9,mv 36 9,mv 37 8,oo 38 (.bin .lss (tm 36) (tm 37)),mv 39 38,mT 40 2 39,mT 41 0 39,mT 42 9 39,oT 43 39 (.idxL 4 (tm 41) (tm 42)),oT 44 39 (.load 4 true (tm 43)),oT 45 39 (.load 4 true (tm 4)),oT 46 39 (.bY (tm 40) [(tm 44),(tm 45)]),oT 47 39 (.bin .eql (tm 46) (Kc 0)),oo 48 (.pick (tm 39) (tm 47) kF),mv 6 35,mv 7 48] .ret)))))
theorem MJ:(Tryz.f118.body.bind (bt Tryz.prog 49 []))=some Lr:=by kernel_rfl
def c25:aV:=(sr [⟨some 6,.alloc [S0,.nil,Z0,Z0],none,[]⟩,oo 7 (.mov kF)] (sr [mv 11 0,mv 12 1,mv 13 2,⟨some 14,.build [S0,.nil,Z0,Z0] [(0,1,(tm 12)),(1,1,(tm 13))],none,[]⟩,oo 15 (.call 76 [(tm 11),(tm 14),(.const (.clos 29 []))]),mv 10 15,oo 16 (.ext (tm 10) 0),oo 17 (.ext (tm 10) 1),mv 8 16,mv 9 17] (.seq (sr [mv 18 9,oo 19 (.not (tm 18))] (.cond (tm 19) (sr [⟨some 20,.build [S0,.nil,Z0,Z0] [],none,[]⟩,o0 (.store 4 (tm 6) (tm 20)),oo 7 (.mov kF)] .ret) .skip)) (sr [mv 21 0,mv 22 8,ix 23 4 21 22,lA 24 4 23,o0 (.store 4 (tm 6) (tm 24)),oo 7 (.mov kT)] .ret))))
theorem l25:(Tryz.f25.body.bind (bt Tryz.prog 25 []))=some c25:=by kernel_rfl
def Ln:aV:=(sr [oo 2 (.mov (.const .nil))] (.seq (sr [mv 3 0,oo 4 (.isnil 1 false (tm 3))] (.cond (tm 4) (sr [oo 2 (.mov (.const .nil))] .ret) .skip)) (sr [⟨some 5,.buildF 4 0 [S0,.nil,Z0,Z0] [],none,[]⟩,mv 6 0,oo 7 (.appV 4 56 (tm 5) (tm 6)),mv 2 7] .ret)))
theorem MF:(Tryz.f114.body.bind (bt Tryz.prog 8 [8000005,9000005]))=some Ln:=by kernel_rfl
def c71:aV:=(sr [oo 3 (.box 1 (tm 1)),oo 4 (.mov (.const .nil))] (sr [mv 5 0,oo 6 (.inl 114 [tm 5]),oo 7 (.mkfn 115 [tm 3]),oo 8 (.inl 113 [(tm 6),(tm 7)]),mv 4 8] .ret))
theorem l71:(Tryz.f71.body.bind (bt Tryz.prog 9 [114,113]))=some c71:=by kernel_rfl
def Lo:aV:=(sr [oo 2 (.box 4 (tm 0)),oo 3 (.mov kF)] (sr [ld 4 1,lA 5 4 2,oo 6 (.bY (tm 4) [tm 5]),oo 7 (.not (tm 6)),mv 3 7] .ret))
theorem MG:(Tryz.f115.body.bind (bt Tryz.prog 8 []))=some Lo:=by kernel_rfl
def GU:aV:=(sr [oo 4 (.mov (.const .nil))] (sr [mv 8 0,mv 9 1,oo 10 (.call 109 [(tm 8),(tm 9)]),mv 5 10] (.seq (sr [mv 11 5,oo 12 (.bin .eql (tm 11) (.const (.int .i64 (-1))))] (.cond (tm 12) (sr [mv 13 0,mv 4 13] .ret) .skip)) (.seq (sr [mv 14 5,oo 15 (.bin .add (tm 14) (Kc 1)),mv 6 15] (.block 0 (.loop (.seq (sr [mv 16 6,mv 17 0,ln 18 17,oo 19 (.bin .lss (tm 16) (tm 18))] (.cond (tm 19) .skip (.exit 0))) (.seq (.block 1 (sr [mv 22 0,mv 23 6,ix 24 4 22 23,lA 25 4 24,⟨some 7,.alloc [S0,.nil,Z0,Z0],none,[]⟩,o0 (.store 4 (tm 7) (tm 25))] (sr [mv 26 1,lA 27 4 7,oo 28 (.bY (tm 26) [tm 27]),oo 29 (.not (tm 28))] (.cond (tm 29) (sr [mv 30 0,mv 31 5,lA 32 4 7,ix 33 4 30 31,o0 (.store 4 (tm 33) (tm 32))] (rg [mv 34 5,oo 35 (.bin .add (tm 34) (Kc 1)),mv 5 35])) .skip)))) (rg [mv 20 6,oo 21 (.bin .add (tm 20) (Kc 1)),mv 6 21])))))) (sr [mv 36 0,mv 37 5,oo 38 (.slice 4 (tm 36) (some (tm 37)) none),⟨none,.clr 4 [S0,.nil,Z0,Z0] (tm 38),none,[]⟩] (sr [mv 39 0,mv 40 5,oo 41 (.slice 4 (tm 39) none (some (tm 40))),mv 4 41] .ret))))))
theorem Hh:(Tryz.f113.body.bind (bt Tryz.prog 42 []))=some GU:=by kernel_rfl
def c72:aV:=(sr [oo 2 (.box 4 (tm 0)),oo 3 (.mov kF)] (sr [fa 4 0 2,ld 5 4,ld 6 1,oo 7 (.bin .eql (tm 5) (tm 6)),mv 3 7] .ret))
theorem l72:(Tryz.f72.body.bind (bt Tryz.prog 8 []))=some c72:=by kernel_rfl
def c21:aV:=(sr [oo 4 (.mov (Kc 0))] (.seq (sr [oo 5 (.mov (Kc 0))] (.block 0 (.loop (.seq (sr [mv 6 5,mv 7 0,ln 8 7,oo 9 (.bin .lss (tm 6) (tm 8)),mv 10 9,mT 11 5 10,mT 12 1 10,oT 13 10 (.len (tm 12)),oT 14 10 (.bin .lss (tm 11) (tm 13)),oo 15 (.pick (tm 10) (tm 14) kF)] (.cond (tm 15) .skip (.exit 0))) (.seq (.block 1 (.seq (sr [mv 18 0,mv 19 5,ix 20 1 18 19,ld 21 20,mv 22 1,mv 23 5,ix 24 1 22 23,ld 25 24,oo 26 (.bin .lss (tm 21) (tm 25))] (.cond (tm 26) (sr [oo 4 (.mov (.const (.int .i64 (-1))))] .ret) .skip)) (sr [mv 27 0,mv 28 5,ix 29 1 27 28,ld 30 29,mv 31 1,mv 32 5,ix 33 1 31 32,ld 34 33,oo 35 (.bin .gtr (tm 30) (tm 34))] (.cond (tm 35) (sr [oo 4 (.mov (Kc 1))] .ret) .skip)))) (rg [mv 16 5,oo 17 (.bin .add (tm 16) (Kc 1)),mv 5 17])))))) (.seq (sr [mv 36 0,ln 37 36,mv 38 1,ln 39 38,oo 40 (.bin .lss (tm 37) (tm 39))] (.cond (tm 40) (sr [oo 4 (.mov (.const (.int .i64 (-1))))] .ret) .skip)) (.seq (sr [mv 41 0,ln 42 41,mv 43 1,ln 44 43,oo 45 (.bin .gtr (tm 42) (tm 44))] (.cond (tm 45) (sr [oo 4 (.mov (Kc 1))] .ret) .skip)) (sr [oo 4 (.mov (Kc 0))] .ret)))))
theorem l21:(Tryz.f21.body.bind (bt Tryz.prog 46 []))=some c21:=by kernel_rfl
def c67:aV:=(sr [oo 2 (.box 4 (tm 0)),oo 3 (.box 4 (tm 1)),oo 4 (.mov (Kc 0))] (.seq (sr [fa 5 0 2,ld 6 5,fa 7 0 3,ld 8 7,oo 9 (.bin .lss (tm 6) (tm 8))] (.cond (tm 9) (sr [oo 4 (.mov (.const (.int .i64 (-1))))] .ret) .skip)) (.seq (sr [fa 10 0 2,ld 11 10,fa 12 0 3,ld 13 12,oo 14 (.bin .gtr (tm 11) (tm 13))] (.cond (tm 14) (sr [oo 4 (.mov (Kc 1))] .ret) .skip)) (sr [fa 15 1 2,ld 16 15,fa 17 1 3,ld 18 17,oo 19 (.call 21 [(tm 16),(tm 18)]),mv 4 19] .ret))))
theorem l67:(Tryz.f67.body.bind (bt Tryz.prog 20 []))=some c67:=by kernel_rfl
def Lm:aV:=(sr [oo 2 (.mov (Kc 0))] (sr [oo 3 (.mov (Kc 1))] (.seq (sr [oo 4 (.mov (Kc 0))] (.block 0 (.loop (.seq (sr [mv 5 4,mv 6 0,oo 7 (.bin .lss (tm 5) (tm 6))] (.cond (tm 7) .skip (.exit 0))) (.seq (.block 1 (rg [mv 10 3,oo 11 (.bin .mul (tm 10) (Kc 2)),mv 3 11])) (rg [mv 8 4,oo 9 (.bin .add (tm 8) (Kc 1)),mv 4 9])))))) (sr [mv 12 3,mv 2 12] .ret))))
theorem ME:(Tryz.f112.body.bind (bt Tryz.prog 13 []))=some Lm:=by kernel_rfl
def c65:aV:=(sr [oo 4 (.mov (Kc 0))] (.seq (sr [oo 5 (.mov (Kc 0))] (.block 0 (.loop (.seq (sr [mv 6 5,mv 7 0,ln 8 7,oo 9 (.bin .lss (tm 6) (tm 8))] (.cond (tm 9) .skip (.exit 0))) (.seq (.block 1 (sr [mv 12 0,mv 13 5,ix 14 5 12 13,fa 15 0 14,ld 16 15,mv 17 1,oo 18 (.bin .eql (tm 16) (tm 17))] (.cond (tm 18) (sr [mv 19 5,mv 4 19] .ret) .skip))) (rg [mv 10 5,oo 11 (.bin .add (tm 10) (Kc 1)),mv 5 11])))))) (sr [oo 4 (.mov (.const (.int .i64 (-1))))] .ret)))
theorem l65:(Tryz.f65.body.bind (bt Tryz.prog 20 []))=some c65:=by kernel_rfl
def c66:aV:=(sr [oo 3 (.box 5 (tm 0)),oo 4 (.box 4 (tm 1)),oo 6 (.mov kF)] (.seq (sr [fa 9 1 4,ld 10 9,ln 11 10,fa 12 2 3,ld 13 12,ln 14 13,oo 15 (.bin .neq (tm 11) (tm 14)),mv 16 15,oF 17 16 (.offA 2 (tm 4)),oF 18 16 (.load 1 false (tm 17)),oF 19 16 (.bin .lss (tm 18) (Kc 0)),oo 20 (.pick (tm 16) kT (tm 19)),mv 21 20,oF 22 21 (.offA 2 (tm 4)),oF 23 21 (.load 1 false (tm 22)),oF 24 21 (.bin .gtr (tm 23) (Kc 65535)),oo 25 (.pick (tm 21) kT (tm 24)),mv 26 25,oF 27 26 (.offA 3 (tm 4)),oF 28 26 (.load 1 false (tm 27)),oF 29 26 (.bin .lss (tm 28) (Kc 0)),oo 30 (.pick (tm 26) kT (tm 29)),mv 31 30,oF 32 31 (.offA 3 (tm 4)),oF 33 31 (.load 1 false (tm 32)),oF 34 31 (.bin .gtr (tm 33) (Kc 1073741824)),oo 35 (.pick (tm 31) kT (tm 34))] (.cond (tm 35) (sr [oo 6 (.mov kF)] .ret) .skip)) (.seq (sr [oo 7 (.mov (Kc 0))] (.block 0 (.loop (.seq (sr [mv 36 7,fa 37 1 4,ld 38 37,ln 39 38,oo 40 (.bin .lss (tm 36) (tm 39))] (.cond (tm 40) .skip (.exit 0))) (.seq (.block 1 (sr [fa 43 1 4,ld 44 43,mv 45 7,ix 46 1 44 45,ld 47 46,oo 48 (.bin .lss (tm 47) (Kc 0)),mv 49 48,oF 50 49 (.offA 1 (tm 4)),oF 51 49 (.load 1 false (tm 50)),mF 52 7 49,oF 53 49 (.idxL 1 (tm 51) (tm 52)),oF 54 49 (.load 1 false (tm 53)),oF 55 49 (.offA 2 (tm 3)),oF 56 49 (.load 1 false (tm 55)),mF 57 7 49,oF 58 49 (.idxL 1 (tm 56) (tm 57)),oF 59 49 (.load 1 false (tm 58)),oF 60 49 (.call 112 [tm 59]),oF 61 49 (.bin .geq (tm 54) (tm 60)),oo 62 (.pick (tm 49) kT (tm 61))] (.cond (tm 62) (sr [oo 6 (.mov kF)] .ret) .skip))) (rg [mv 41 7,oo 42 (.bin .add (tm 41) (Kc 1)),mv 7 42])))))) (.seq (sr [fa 63 1 3,ld 64 63] (.block 2 (sr [oo 66 (.bin .eql (tm 64) (Kc 2)),mv 65 66] (.cond (tm 65) (sr [fa 67 2 4,ld 68 67,oo 69 (.bin .eql (tm 68) (Kc 0)),mv 6 69] .ret) (sr [oo 71 (.bin .eql (tm 64) (Kc 3)),mv 70 71] (.cond (tm 70) (.seq (sr [oo 8 (.mov (Kc 0))] (.block 3 (.loop (.seq (sr [mv 72 8,mv 73 2,ln 74 73,oo 75 (.bin .lss (tm 72) (tm 74))] (.cond (tm 75) .skip (.exit 3))) (.seq (.block 4 (sr [mv 78 2,mv 79 8,ix 80 4 78 79,fa 81 0 80,ld 82 81,fa 83 0 4,ld 84 83,oo 85 (.bin .eql (tm 82) (tm 84)),mv 86 85,mT 87 2 86,mT 88 8 86,oT 89 86 (.idxL 4 (tm 87) (tm 88)),oT 90 86 (.offA 2 (tm 89)),oT 91 86 (.load 1 false (tm 90)),oT 92 86 (.offA 2 (tm 4)),oT 93 86 (.load 1 false (tm 92)),oT 94 86 (.bin .eql (tm 91) (tm 93)),oo 95 (.pick (tm 86) (tm 94) kF)] (.cond (tm 95) (sr [oo 6 (.mov kF)] .ret) .skip))) (rg [mv 76 8,oo 77 (.bin .add (tm 76) (Kc 1)),mv 8 77])))))) (sr [fa 96 2 4,ld 97 96,fa 98 3 3,ld 99 98,oo 100 (.bin .geq (tm 97) (tm 99)),mv 101 100,oT 102 101 (.offA 2 (tm 4)),oT 103 101 (.load 1 false (tm 102)),oT 104 101 (.offA 4 (tm 3)),oT 105 101 (.load 1 false (tm 104)),oT 106 101 (.bin .leq (tm 103) (tm 105)),oo 107 (.pick (tm 101) (tm 106) kF),mv 6 107] .ret)) (sr [oo 109 (.bin .eql (tm 64) (Kc 4)),mv 108 109] (.cond (tm 108) (sr [fa 110 3 3,ld 111 110,oo 112 (.bin .eql (tm 111) (Kc 0)),mv 113 112,oF 114 113 (.offA 2 (tm 4)),oF 115 113 (.load 1 false (tm 114)),oF 116 113 (.offA 3 (tm 3)),oF 117 113 (.load 1 false (tm 116)),oF 118 113 (.bin .leq (tm 115) (tm 117)),oo 119 (.pick (tm 113) kT (tm 118)),mv 6 119] .ret) .skip)))))))) (sr [oo 6 (.mov kT)] .ret)))))
theorem l66:(Tryz.f66.body.bind (bt Tryz.prog 120 []))=some c66:=by kernel_rfl
def c60:aV:=(sr [oo 4 (.mov (Kc 0))] (sr [oo 5 (.mov (Kc 0))] (.seq (sr [oo 6 (.mov (Kc 0))] (.block 0 (.loop (.seq (sr [mv 7 6,mv 8 0,ln 9 8,oo 10 (.bin .lss (tm 7) (tm 9))] (.cond (tm 10) .skip (.exit 0))) (.seq (.block 1 (sr [mv 13 0,mv 14 6,ix 15 4 13 14,fa 16 0 15,ld 17 16,mv 18 1,oo 19 (.bin .eql (tm 17) (tm 18))] (.cond (tm 19) (rg [mv 20 5,oo 21 (.bin .add (tm 20) (Kc 1)),mv 5 21]) .skip))) (rg [mv 11 6,oo 12 (.bin .add (tm 11) (Kc 1)),mv 6 12])))))) (sr [mv 22 5,mv 4 22] .ret))))
theorem l60:(Tryz.f60.body.bind (bt Tryz.prog 23 []))=some c60:=by kernel_rfl
def c14:aV:=(sr [oo 4 (.mov (Kc 0))] (.seq (sr [oo 5 (.mov (Kc 0))] (.block 0 (.loop (.seq (sr [mv 8 5,mv 9 1,ln 10 9,oo 11 (.bin .lss (tm 8) (tm 10))] (.cond (tm 11) .skip (.exit 0))) (.seq (.block 1 (sr [mv 14 0,mv 15 1,mv 16 5,ix 17 4 15 16,fa 18 0 17,ld 19 18,oo 20 (.call 65 [(tm 14),(tm 19)]),mv 6 20] (.seq (sr [mv 21 6,oo 22 (.bin .lss (tm 21) (Kc 0))] (.cond (tm 22) (sr [oo 4 (.mov (Kc 4))] .ret) .skip)) (sr [mv 23 0,mv 24 6,ix 25 5 23 24,lA 26 5 25,mv 27 1,mv 28 5,ix 29 4 27 28,lA 30 4 29,mv 31 1,mv 32 5,oo 33 (.slice 4 (tm 31) none (some (tm 32))),oo 34 (.call 66 [(tm 26),(tm 30),(tm 33)]),mv 7 34] (.seq (sr [mv 35 7,oo 36 (.not (tm 35))] (.cond (tm 36) (sr [oo 4 (.mov (Kc 1))] .ret) .skip)) (.seq (sr [mv 37 5,oo 38 (.bin .gtr (tm 37) (Kc 0)),mv 39 38,mT 40 1 39,mT 41 5 39,oT 42 39 (.bin .sub (tm 41) (Kc 1)),oT 43 39 (.idxL 4 (tm 40) (tm 42)),oT 44 39 (.load 4 true (tm 43)),mT 45 1 39,mT 46 5 39,oT 47 39 (.idxL 4 (tm 45) (tm 46)),oT 48 39 (.load 4 true (tm 47)),oT 49 39 (.call 67 [(tm 44),(tm 48)]),oT 50 39 (.bin .geq (tm 49) (Kc 0)),oo 51 (.pick (tm 39) (tm 50) kF)] (.cond (tm 51) (sr [oo 4 (.mov (Kc 10))] .ret) .skip)) (sr [mv 52 1,mv 53 5,oo 54 (.slice 4 (tm 52) none (some (tm 53))),mv 55 1,mv 56 5,ix 57 4 55 56,fa 58 0 57,ld 59 58,oo 60 (.call 60 [(tm 54),(tm 59)]),oo 61 (.bin .geq (tm 60) (Kc 100))] (.cond (tm 61) (sr [oo 4 (.mov (Kc 2))] .ret) .skip)))))))) (rg [mv 12 5,oo 13 (.bin .add (tm 12) (Kc 1)),mv 5 13])))))) (sr [oo 4 (.mov (Kc 0))] .ret)))
theorem l14:(Tryz.f14.body.bind (bt Tryz.prog 62 []))=some c14:=by kernel_rfl
def c26:aV:=(sr [⟨some 6,.alloc [S0,.nil,Z0,Z0],none,[]⟩,oo 7 (.mov kF)] (.seq (sr [oo 8 (.mov (Kc 0))] (.block 0 (.loop (.seq (sr [mv 9 8,mv 10 0,ln 11 10,oo 12 (.bin .lss (tm 9) (tm 11))] (.cond (tm 12) .skip (.exit 0))) (.seq (.block 1 (sr [mv 15 0,mv 16 8,ix 17 4 15 16,fa 18 0 17,ld 19 18,mv 20 1,oo 21 (.bin .eql (tm 19) (tm 20)),mv 22 21,mT 23 0 22,mT 24 8 22,oT 25 22 (.idxL 4 (tm 23) (tm 24)),oT 26 22 (.offA 1 (tm 25)),oT 27 22 (.load 1 false (tm 26)),mT 28 2 22,oT 29 22 (.call 21 [(tm 27),(tm 28)]),oT 30 22 (.bin .eql (tm 29) (Kc 0)),oo 31 (.pick (tm 22) (tm 30) kF)] (.cond (tm 31) (sr [mv 32 0,mv 33 8,ix 34 4 32 33,lA 35 4 34,o0 (.store 4 (tm 6) (tm 35)),oo 7 (.mov kT)] .ret) .skip))) (rg [mv 13 8,oo 14 (.bin .add (tm 13) (Kc 1)),mv 8 14])))))) (sr [⟨some 36,.build [S0,.nil,Z0,Z0] [],none,[]⟩,o0 (.store 4 (tm 6) (tm 36)),oo 7 (.mov kF)] .ret)))
theorem l26:(Tryz.f26.body.bind (bt Tryz.prog 37 []))=some c26:=by kernel_rfl
def c62:aV:=(sr [oo 3 (.box 4 (tm 1)),oo 4 (.mov (.const .nil))] (sr [oo 5 (.mov (.const .nil))] (sr [oo 6 (.mov kF)] (.seq (sr [oo 7 (.mov (Kc 0))] (.block 0 (.loop (.seq (sr [mv 9 7,mv 10 0,ln 11 10,oo 12 (.bin .lss (tm 9) (tm 11))] (.cond (tm 12) .skip (.exit 0))) (.seq (.block 1 (.seq (.cut (rg [mv 15 0,mv 16 7,ix 17 4 15 16,lA 18 4 17,lA 19 4 3,oo 20 (.call 67 [(tm 18),(tm 19)]),mv 8 20])) (.seq (.cut (sr [mv 21 8,oo 22 (.bin .geq (tm 21) (Kc 0)),mv 23 22,mT 24 6 23,oT 25 23 (.not (tm 24)),oo 26 (.pick (tm 23) (tm 25) kF)] (.cond (tm 26) (sr [mv 27 5,lA 28 4 3,⟨some 29,.buildF 4 1 [S0,.nil,Z0,Z0] [(0,(tm 28))],none,[]⟩,oo 30 (.append 25 64 4 56 (tm 27) (tm 29)),mv 5 30] (rg [oo 6 (.mov kT)])) .skip))) (sr [mv 31 8,oo 32 (.bin .neq (tm 31) (Kc 0))] (.cond (tm 32) (rg [mv 33 5,mv 34 0,mv 35 7,ix 36 4 34 35,lA 37 4 36,⟨some 38,.buildF 4 1 [S0,.nil,Z0,Z0] [(0,(tm 37))],none,[]⟩,oo 39 (.append 25 64 4 56 (tm 33) (tm 38)),mv 5 39]) .skip))))) (rg [mv 13 7,oo 14 (.bin .add (tm 13) (Kc 1)),mv 7 14])))))) (.seq (sr [mv 40 6,oo 41 (.not (tm 40))] (.cond (tm 41) (rg [mv 42 5,lA 43 4 3,⟨some 44,.buildF 4 1 [S0,.nil,Z0,Z0] [(0,(tm 43))],none,[]⟩,oo 45 (.append 25 64 4 56 (tm 42) (tm 44)),mv 5 45]) .skip)) (sr [mv 46 5,mv 4 46] .ret))))))
theorem l62:(Tryz.f62.body.bind (bt Tryz.prog 47 [6000006,5000007,8000029,8000038,8000044]))=some c62:=by kernel_rfl
def c31:aV:=(sr [oo 4 (.mov (.const .nil))] (sr [oo 5 (.mov (.const .nil))] (.seq (sr [oo 6 (.mov (Kc 0))] (.block 0 (.loop (.seq (sr [mv 7 6,mv 8 0,ln 9 8,oo 10 (.bin .lss (tm 7) (tm 9))] (.cond (tm 10) .skip (.exit 0))) (.seq (.block 1 (sr [mv 13 0,mv 14 6,ix 15 4 13 14,fa 16 0 15,ld 17 16,mv 18 1,oo 19 (.bin .eql (tm 17) (tm 18))] (.cond (tm 19) (rg [mv 20 5,mv 21 0,mv 22 6,ix 23 4 21 22,lA 24 4 23,⟨some 25,.buildF 4 1 [S0,.nil,Z0,Z0] [(0,(tm 24))],none,[]⟩,oo 26 (.append 25 64 4 56 (tm 20) (tm 25)),mv 5 26]) .skip))) (rg [mv 11 6,oo 12 (.bin .add (tm 11) (Kc 1)),mv 6 12])))))) (sr [mv 27 5,mv 4 27] .ret))))
theorem l31:(Tryz.f31.body.bind (bt Tryz.prog 28 [8000025]))=some c31:=by kernel_rfl
end Go.ST
end
section
namespace Go.ST
open Go Go.DL Go.MM Go.Proofs
open Go.TY hiding Fd
theorem BW(s:ByteArray):DCalls Tryz.prog 122 [.str s] (.bool false):=by
 refine dl2 mixed [.tmp 2] [.bool false] Tryz.func122 MK ?_;have h:(!(s.toList==s.toList))=false:=by simp
 repeat' ((conv=>whnf);first|refine nb_ _ h ?_|refine rb0 ?_|refine aS ?_|exact trivial)
theorem HJ(x:Int):DCalls Tryz.prog 156 [I x] (.bool false):=by
 refine dl2 mixed [.tmp 2] [.bool _] Tryz.func156 M0 ?_
 repeat' ((conv=>whnf);first|refine aN0 ?_|refine rb0 ?_|refine aS ?_|exact trivial)
theorem J8(x y:Int):DCalls Tryz.prog 123 [I x,I y] (I (xc x y)):=by
 refine dl2 mixed [.tmp 4] [I _] Tryz.func123 ML ?_;unfold xc
 repeat' ((conv=>whnf);first|refine uc _ (HJ _) ?_|refine nD_ (fun a=>?_) (fun a=>?_)|refine rix ?_|refine aS ?_|exact trivial)
 all_goals (refine ri ?_ trivial;split <;> (try split) <;> first|rfl|omega)
theorem gtS(a b:ByteArray):(!(Op.bytesLess a.toList b.toList||a.toList==b.toList))=ltS b a:=by
 cases d:ltS a b with
 |true=>
  have g:=zy.asym d;unfold ltS at d;rw [d,g];rfl
 |false=>
  have f:=d;unfold ltS at f;rw [f,Bool.false_or];cases g:ltS b a with
  |true=>
   have: ¬a.toList=b.toList:=fun e=>zy.ne g (AK e).symm
   simpa using this
  |false=>
   have:a=b:=zy.tot _ _ d g
   simp [this]
theorem Ka(x y:ByteArray):DCalls Tryz.prog 80 [.str x,.str y] (I (xT x y)):=by
 refine dl2 mixed [.tmp 4] [I _] Tryz.func80 l80 ?_;unfold xT;have b:=gtS x y;have a:Op.bytesLess x.toList y.toList=ltS x y:=rfl;cases d:ltS x y with
 |true=>
  rw [d] at a
  repeat' ((conv=>whnf);first|refine uc _ (BW _) ?_|refine nb_ _ a ?_|refine rix ?_|refine aS ?_|exact trivial)
 |false=>
  rw [d] at a;cases e:ltS y x with
  |true=>
   rw [e] at b
   repeat' ((conv=>whnf);first|refine uc _ (BW _) ?_|refine nb_ _ a ?_|refine nb_ _ b ?_|refine rix ?_|refine aS ?_|exact trivial)
  |false=>
   rw [e] at b
   repeat' ((conv=>whnf);first|refine uc _ (BW _) ?_|refine nb_ _ a ?_|refine nb_ _ b ?_|refine rix ?_|refine aS ?_|exact trivial)
theorem KZ(x y:Int):DCalls Tryz.prog 79 [.slice 1 [I x,I y]] (I (lex x y)):=by
 refine dl2 mixed [.tmp 2] [I _] Tryz.func79 l79 ?_;unfold lex
 skip
 refine tx 0 (α:=Nat) (β:=Unit) (fun i=>{sl:=[(3,.t (I 0)),(6,.t (.slice 1 [I x,I y])),(7,.t (I 2)),(8,.t (I i))],bx:=[]})
  (fun i=>i<=2/\(1<=i->x=0)/\(2<=i->y=0)) (fun i=>2 - i) (fun _=>{sl:=[(3,.t (I 0))],bx:=[]}) (fun _=>x=0/\y=0) 0 ⟨by omega,by omega,by omega⟩ ?_ ?_ ?_
 ·repeat' (first|exact wJ|refine And.intro ?_ ?_)
 ·rintro i ⟨d,a,b⟩
  match i,d with
  |0,_=>
   by_cases h:x=0
   ·repeat' ((conv=>whnf);first|refine sF h ?_|refine aD1 ?_|refine aS ?_|refine nT_ ?_)
    exact ⟨1,⟨by omega,fun _=>h,by omega⟩,by omega,by repeat' (first|exact wJ|refine And.intro ?_ ?_)⟩
   ·rw [if_pos h]
    repeat' ((conv=>whnf);first|exact trivial|refine sG h ?_|refine aD1 ?_|refine rix ?_|refine aS ?_|refine nT_ ?_)
  |1,_=>
   rw [if_neg (by simp [a (by omega)])]
   by_cases h:y=0
   ·repeat' ((conv=>whnf);first|refine sF h ?_|refine aD1 ?_|refine aS ?_|refine nT_ ?_)
    exact ⟨2,⟨by omega,fun _=>a (by omega),fun _=>h⟩,by omega,by repeat' (first|exact wJ|refine And.intro ?_ ?_)⟩
   ·repeat' ((conv=>whnf);first|exact trivial|refine sG h ?_|refine aD1 ?_|refine rix ?_|refine aS ?_|refine nT_ ?_)
  |2,_=>
   repeat' ((conv=>whnf);first|refine aD0 ?_|refine aS ?_|fail)
   exact ⟨(),⟨a (by omega),b (by omega)⟩,by repeat' (first|exact wJ|refine And.intro ?_ ?_)⟩
  |i+3,h=>omega
 rintro - ⟨a,b⟩;rw [a,b]
 repeat' ((conv=>whnf);first|refine rix ?_|exact trivial)
theorem CQ{a b:List Int}{i:Nat}(e:i<a.length)(d:i<b.length):u9 (a.drop i) (b.drop i)=lex (xc a[i] b[i]) (u9 (a.drop (i+1)) (b.drop (i+1))):=by
 rw [List.drop_eq_getElem_cons e,List.drop_eq_getElem_cons d];rfl
theorem BL{a b:List Int}{i:Nat}(d:a.length<=i)(e:i<=b.length):u9 (a.drop i) (b.drop i)=if i<b.length then -1 else 0:=by
 rw [List.drop_eq_nil_of_le d]
 by_cases h:i<b.length
 ·rw [List.drop_eq_getElem_cons h,if_pos h];rfl
 ·rw [List.drop_eq_nil_of_le (by omega),if_neg h];rfl
theorem CR{a b:List Int}{i:Nat}(e:i<a.length)(d:b.length<=i):u9 (a.drop i) (b.drop i)=1:=by
 rw [List.drop_eq_nil_of_le d,List.drop_eq_getElem_cons e];rfl
theorem J9(a b:List Int)(q:a.length<2^60)(o:b.length<2^60):DCalls Tryz.prog 81 [.slice 1 (a.map I),.slice 1 (b.map I)] (I (u9 a b)):=by
 refine dl2 mixed [.tmp 4] [I _] Tryz.func81 l81 ?_;have m:((a.map I).length:Int)=a.length:=by rw [List.length_map]
 have n:((b.map I).length:Int)=b.length:=by rw [List.length_map]
 skip
 refine tx 0 (α:=Nat) (β:=Unit) (fun i=>{sl:=[(0,.t (.slice 1 (a.map I))),(1,.t (.slice 1 (b.map I))),(9,.t (.slice 1 (a.map I))),(10,.t (I (a.map I).length)),(11,.t (I i))],bx:=[]})
  (fun i=>i<=a.length/\i<=b.length/\u9 (a.drop i) (b.drop i)=u9 a b) (fun i=>a.length - i) (fun _=>{sl:=[(0,.t (.slice 1 (a.map I))),(1,.t (.slice 1 (b.map I)))],bx:=[]}) (fun _=>a.length<=b.length/\u9 (a.drop a.length) (b.drop a.length)=u9 a b) 0 ⟨by omega,by omega,rfl⟩ ?_ ?_ ?_
 ·repeat' (first|exact wJ|refine And.intro ?_ ?_)
 ·rintro i ⟨p,k,e⟩;rcases Nat.lt_or_ge i a.length with h|h
  ·have d:(i:Int)<((a.map I).length:Int):=by omega
   rcases Nat.lt_or_ge i b.length with g|g
   ·have f: ¬(i:Int)>=((b.map I).length:Int):=by omega
    rw [CQ h g] at e;unfold lex at e;have l:=J8 a[i] b[i];generalize r:xc a[i] b[i]=c at *
    by_cases j:c=0
    ·rw [if_neg (by simpa using j)] at e
     repeat' ((conv=>whnf);first|refine sC d ?_|(refine nv_ (I a[i]) (by first|(simp [h];done)|fail) ?_)|refine su f ?_|(refine nv_ (I b[i]) (by first|(simp [g];done)|fail) ?_)|refine uc _ (l) ?_|refine sF j ?_|refine aS ?_|refine nT_ ?_)
     exact ⟨i+1,⟨h,g,e⟩,by omega,by repeat' (first|exact wJ|refine And.intro ?_ ?_)⟩
    ·rw [if_pos j] at e;rw [<- e]
     repeat' ((conv=>whnf);first|exact trivial|refine sC d ?_|(refine nv_ (I a[i]) (by first|(simp [h];done)|fail) ?_)|refine su f ?_|(refine nv_ (I b[i]) (by first|(simp [g];done)|fail) ?_)|refine uc _ (l) ?_|refine sG j ?_|refine rix ?_|refine aS ?_|refine nT_ ?_)
   ·have f:(i:Int)>=((b.map I).length:Int):=by omega
    rw [CR h g] at e;rw [<- e]
    repeat' ((conv=>whnf);first|exact trivial|refine sC d ?_|(refine nv_ (I a[i]) (by first|(simp [h];done)|fail) ?_)|refine sC f ?_|refine rix ?_|refine aS ?_|refine nT_ ?_)
  ·have d: ¬(i:Int)<((a.map I).length:Int):=by omega
   obtain rfl:i=a.length:=by omega
   repeat' ((conv=>whnf);first|refine su d ?_|refine aS ?_|fail)
   exact ⟨(),⟨k,e⟩,by repeat' (first|exact wJ|refine And.intro ?_ ?_)⟩
 rintro - ⟨k,e⟩;rw [BL (Nat.le_refl _) k] at e;rw [<- e]
 by_cases h:a.length<b.length
 ·have d:((a.map I).length:Int)<((b.map I).length:Int):=by omega
  rw [if_pos h]
  repeat' ((conv=>whnf);first|refine sC d ?_|refine rix ?_|refine aS ?_|exact trivial)
 ·have d: ¬((a.map I).length:Int)<((b.map I).length:Int):=by omega
  rw [if_neg h]
  repeat' ((conv=>whnf);first|refine su d ?_|refine rix ?_|refine aS ?_|exact trivial)
theorem A5(a b:List Int)(s:a.length<2^60)(r:b.length<2^60):DCalls Tryz.prog 21 [.slice 1 (a.map I),.slice 1 (b.map I)] (I (u9 a b)):=by
 refine dl2 mixed [.tmp 4] [I _] Tryz.func21 l21 ?_;have o:((a.map I).length:Int)=a.length:=by rw [List.length_map]
 have p:((b.map I).length:Int)=b.length:=by rw [List.length_map]
 skip
 refine tx 0 (α:=Nat) (β:=Nat) (fun i=>{sl:=[(0,.t (.slice 1 (a.map I))),(1,.t (.slice 1 (b.map I))),(5,.t (I i))],bx:=[]})
  (fun i=>i<=a.length/\i<=b.length/\u9 (a.drop i) (b.drop i)=u9 a b) (fun i=>a.length - i) (fun _=>{sl:=[(0,.t (.slice 1 (a.map I))),(1,.t (.slice 1 (b.map I)))],bx:=[]}) (fun i=>(i=a.length\/i=b.length)/\i<=a.length/\i<=b.length/\u9 (a.drop i) (b.drop i)=u9 a b) 0 ⟨by omega,by omega,rfl⟩ ?_ ?_ ?_
 ·repeat' (first|exact wJ|refine And.intro ?_ ?_)
 ·rintro i ⟨n,l,e⟩;rcases Nat.lt_or_ge i a.length with h|h
  ·have d:(i:Int)<((a.map I).length:Int):=by omega
   rcases Nat.lt_or_ge i b.length with g|g
   ·have k:(i:Int)<((b.map I).length:Int):=by omega
    rw [CQ h g] at e;unfold lex xc at e
    by_cases j:a[i]<b[i]
    ·rw [if_pos j,if_pos (by decide)] at e;rw [<- e]
     repeat' ((conv=>whnf);first|exact trivial|refine sC d ?_|refine sC k ?_|(refine nv_ (I a[i]) (by first|(simp [h];done)|fail) ?_)|(refine nv_ (I b[i]) (by first|(simp [g];done)|fail) ?_)|refine sC j ?_|refine rix ?_|refine aS ?_|refine nT_ ?_)
    ·by_cases m:a[i]>b[i]
     ·rw [if_neg j,if_pos m,if_pos (by decide)] at e;rw [<- e]
      repeat' ((conv=>whnf);first|exact trivial|refine sC d ?_|refine sC k ?_|(refine nv_ (I a[i]) (by first|(simp [h];done)|fail) ?_)|(refine nv_ (I b[i]) (by first|(simp [g];done)|fail) ?_)|refine su j ?_|refine sC m ?_|refine rix ?_|refine aS ?_|refine nT_ ?_)
     ·rw [if_neg j,if_neg m,if_neg (by decide)] at e
      repeat' ((conv=>whnf);first|refine sC d ?_|refine sC k ?_|(refine nv_ (I a[i]) (by first|(simp [h];done)|fail) ?_)|(refine nv_ (I b[i]) (by first|(simp [g];done)|fail) ?_)|refine su j ?_|refine su m ?_|refine aS ?_|refine nT_ ?_)
      exact ⟨i+1,⟨h,g,e⟩,by omega,by repeat' (first|exact wJ|refine And.intro ?_ ?_)⟩
   ·have k: ¬(i:Int)<((b.map I).length:Int):=by omega
    repeat' ((conv=>whnf);first|refine sC d ?_|refine su k ?_|refine aS ?_|fail)
    exact ⟨i,⟨Or.inr (by omega),n,l,e⟩,by repeat' (first|exact wJ|refine And.intro ?_ ?_)⟩
  ·have d: ¬(i:Int)<((a.map I).length:Int):=by omega
   repeat' ((conv=>whnf);first|refine su d ?_|refine aS ?_|fail)
   exact ⟨i,⟨Or.inl (by omega),n,l,e⟩,by repeat' (first|exact wJ|refine And.intro ?_ ?_)⟩
 rintro i ⟨q,n,l,e⟩;rcases Nat.lt_trichotomy a.length b.length with h|h|h
 ·have d:((a.map I).length:Int)<((b.map I).length:Int):=by omega
  rw [BL (by omega) l,if_pos (by omega)] at e;rw [<- e]
  repeat' ((conv=>whnf);first|refine sC d ?_|refine rix ?_|refine aS ?_|exact trivial)
 ·have d: ¬((a.map I).length:Int)<((b.map I).length:Int):=by omega
  have f: ¬((a.map I).length:Int)>((b.map I).length:Int):=by omega
  rw [BL (by omega) l,if_neg (by omega)] at e;rw [<- e]
  repeat' ((conv=>whnf);first|refine su d ?_|refine su f ?_|refine rix ?_|refine aS ?_|exact trivial)
 ·have d: ¬((a.map I).length:Int)<((b.map I).length:Int):=by omega
  have f:((a.map I).length:Int)>((b.map I).length:Int):=by omega
  rw [CR (by omega) (by omega)] at e;rw [<- e]
  repeat' ((conv=>whnf);first|refine su d ?_|refine sC f ?_|refine rix ?_|refine aS ?_|exact trivial)
abbrev kOk(e:RE):Prop:=e.key.length<2^60
theorem xK(a b:RE)(d:kOk a)(e:kOk b):DCalls Tryz.prog 29 [um a,um b] (I (ux a b)):=by
 refine dl2 mixed [.tmp 4] [I _] Tryz.func29 l29 ?_;have f:=Ka a.var b.var;have g:=J9 a.key b.key d e;have h:=KZ (xT a.var b.var) (u9 a.key b.key);unfold ux
 repeat' ((conv=>whnf);first|exact trivial|refine uc _ (f) ?_|refine uc _ (g) ?_|refine uc _ (h) ?_|refine rix ?_|refine aS ?_|refine nT_ ?_)
theorem C4(a b:RE)(h:kOk a)(i:kOk b):DCalls Tryz.prog 67 [um a,um b] (I (ux a b)):=by
 refine dl2 mixed [.tmp 4] [I _] Tryz.func67 l67 ?_;have j:=A5 a.key b.key h i;have e:=gtS a.var b.var;have d:Op.bytesLess a.var.toList b.var.toList=ltS a.var b.var:=rfl;unfold ux lex xT;cases f:ltS a.var b.var with
 |true=>
  rw [f] at d
  repeat' ((conv=>whnf);first|exact trivial|refine nb_ _ d ?_|refine rix ?_|refine aS ?_|refine nT_ ?_)
 |false=>
  rw [f] at d;cases g:ltS b.var a.var with
  |true=>
   rw [g] at e
   repeat' ((conv=>whnf);first|exact trivial|refine nb_ _ d ?_|refine nb_ _ e ?_|refine rix ?_|refine aS ?_|refine nT_ ?_)
  |false=>
   rw [g] at e
   repeat' ((conv=>whnf);first|exact trivial|refine nb_ _ d ?_|refine nb_ _ e ?_|refine uc _ (j) ?_|refine rix ?_|refine aS ?_|refine nT_ ?_)
theorem eqS(a b:ByteArray):(a.toList==b.toList)=decide (a=b):=by
 by_cases h:a=b
 ·simp [h]
 ·have: ¬a.toList=b.toList:=fun e=>h (AK e)
  simp [h,this]
theorem uo(e:RE):(uk e).length=4:=rfl
abbrev esT(st:List RE):T:=.slice 4 (st.map um)
theorem uQ{st:List RE}{i:Nat}(h:i<st.length):(st.map um)[i]?.getD .nil= .agg (uk st[i]):=by simp [h,um]
def wv{α:Type}(p:α->Bool)(xs:List α):Int:=match xs.findIdx? p with
 |some i=>(i:Int)
 |none=> -1
theorem Bk{α:Type}{p:α->Bool}{xs:List α}{i:Nat}(h:i<xs.length)(a:p xs[i]=true)(d: ∀j (h:j<xs.length),j<i->p xs[j]=false):wv p xs=i:=by
 unfold wv
 have:xs.findIdx? p=some i:=List.findIdx?_eq_some_iff_getElem.2 ⟨h,a,fun j b=>by simp [d j (by omega) b]⟩
 rw [this]
theorem Bl{α:Type}{p:α->Bool}{xs:List α}(d: ∀j (h:j<xs.length),p xs[j]=false):wv p xs= -1:=by
 unfold wv
 have:xs.findIdx? p=none:=List.findIdx?_eq_none_iff.2 fun x b=>by
  obtain ⟨j,a,rfl⟩:=List.getElem_of_mem b;exact d j a
 rw [this]
theorem AV{α:Type}(p:α->Bool)(xs:List α):(wv p xs= -1/\xs.find? p=none)\/ ∃(i:Nat) (h:i<xs.length),wv p xs=i/\xs.find? p=some xs[i]:=by
 unfold wv;cases h:xs.findIdx? p with
 |none=>
  refine Or.inl ⟨rfl,?_⟩;rw [List.find?_eq_none];intro x f;simpa using List.findIdx?_eq_none_iff.1 h x f
 |some i=>
  obtain ⟨a,b,d⟩:=List.findIdx?_eq_some_iff_getElem.1 h;refine Or.inr ⟨i,a,rfl,?_⟩;rw [List.find?_eq_some_iff_getElem];exact ⟨b,i,a,rfl,fun j e=>by simpa using d j e⟩
theorem He{α:Type}(p:α->Bool)(xs:List α):xs.any p=decide (wv p xs>=0):=by
 unfold wv;cases h:xs.findIdx? p with
 |none=>
  have:=List.findIdx?_eq_none_iff.1 h
  simpa using this
 |some i=>
  obtain ⟨a,b,_⟩:=List.findIdx?_eq_some_iff_getElem.1 h
  have:xs.any p=true:=List.any_eq_true.2 ⟨xs[i],List.getElem_mem a,b⟩
  rw [this];simp
theorem BK(xs:List RE)(f:FuncId)(c:T)(p:RE->Bool)(n:xs.length<2^60)(k: ∀(i:Nat) (h:i<xs.length),DCalls Tryz.prog f [.agg (uk xs[i]),c] (.bool (p xs[i]))):
  DCalls Tryz.prog 109 [esT xs,.clos f [c]] (I (wv p xs)):=by
 refine dl2 mixed [.tmp 4] [.int _ _] Tryz.func109 JO ?_
 skip
 refine tT (α:=Nat) (fun i=>{sl:=[(0,.t (esT xs)),(1,.t (.clos f [c])),(6,.t (esT xs)),(7,.t (I xs.length)),(8,.t (I i))],bx:=[]})
  (fun i=>i<=xs.length/\ ∀j (h:j<xs.length),j<i->p xs[j]=false) (fun i=>xs.length - i) 0 (by simp) ?_ ?_
 ·repeat' (first|(exact leI (by simp))|exact wJ|refine And.intro ?_ ?_)
 rintro i ⟨m,e⟩;rcases Nat.lt_or_ge i xs.length with h|h
 ·have b:=k i h;cases a:p xs[i] with
  |true=>
   rw [a] at b;rw [Bk h a e]
   repeat' ((conv=>whnf);first|exact trivial|(refine nv_ (.agg (uk xs[i])) (by first|exact uQ h) ?_)|refine uc _ (b) ?_|refine aD1 ?_|refine rix ?_|(refine And.intro (by first|exact uo _) ?_)|refine aS ?_|refine nT_ ?_)
  |false=>
   rw [a] at b
   repeat' ((conv=>whnf);first|(refine nv_ (.agg (uk xs[i])) (by first|exact uQ h) ?_)|refine uc _ (b) ?_|refine aD1 ?_|(refine And.intro (by first|exact uo _) ?_)|refine aS ?_|refine nT_ ?_)
   refine ⟨i+1,⟨h,fun j d l=>?_⟩,by omega,?_⟩
   ·rcases Nat.lt_or_ge j i with g|g
    ·exact e j d g
    ·obtain rfl:j=i:=by omega
     exact a
   ·repeat' (first|exact wJ|refine And.intro ?_ ?_)
 ·rw [Bl fun j d=>e j d (by omega)]
  repeat' ((conv=>whnf);first|refine aD0 ?_|refine rix ?_|refine aS ?_|exact trivial)
theorem Es(xs:List RE)(f:FuncId)(c:T)(p:RE->Bool)(e:xs.length<2^60)(d: ∀(i:Nat) (h:i<xs.length),DCalls Tryz.prog f [.agg (uk xs[i]),c] (.bool (p xs[i]))):
  DCalls Tryz.prog 116 [esT xs,.clos f [c]] (.bool (xs.any p)):=by
 refine dl2 mixed [.tmp 4] [.bool _] Tryz.func116 MH ?_;have b:=BK xs f c p e d;rw [He p xs];generalize wv p xs=k at *
 repeat' ((conv=>whnf);first|refine uc _ (b) ?_|refine nD_ (fun a=>?_) (fun a=>?_)|refine rb1 ?_|refine rb0 ?_|refine aS ?_|exact trivial)
abbrev vsT(vars:List RV):T:=.slice 5 (vars.map wZ)
theorem uJ(v:RV):(uN v).length=5:=rfl
theorem xE{vars:List RV}{i:Nat}(h:i<vars.length):(vars.map wZ)[i]?.getD .nil= .agg (uN vars[i]):=by simp [h,wZ]
abbrev Ai(name:ByteArray):RV->Bool:=fun v=>decide (v.name=name)
theorem HH(v:RV)(e:RE):DCalls Tryz.prog 74 [.agg (uN v),.cptr (uk e) 0] (.bool (decide (v.name=e.var))):=by
 refine dl2 mixed [.tmp 3] [.bool _] Tryz.func74 l74 ?_;have h:=eqS v.name e.var
 repeat' ((conv=>whnf);first|exact trivial|refine nb_ _ h ?_|refine rbx ?_|(refine And.intro (by first|exact uJ _|exact uo _) ?_)|refine aS ?_|refine nT_ ?_)
theorem GL(vars:List RV)(e:RE)(m:vars.length<2^60):DCalls Tryz.prog 73 [vsT vars,.clos 74 [.cptr (uk e) 0]] (I (wv (Ai e.var) vars)):=by
 refine dl2 mixed [.tmp 4] [.int _ _] Tryz.func73 l73 ?_
 skip
 refine tT (α:=Nat) (fun i=>{sl:=[(0,.t (vsT vars)),(1,.t (.clos 74 [.cptr (uk e) 0])),(6,.t (vsT vars)),(7,.t (I vars.length)),(8,.t (I i))],bx:=[]})
  (fun i=>i<=vars.length/\ ∀j (h:j<vars.length),j<i->Ai e.var vars[j]=false) (fun i=>vars.length - i) 0 (by simp) ?_ ?_
 ·repeat' (first|(exact leI (by simp))|exact wJ|refine And.intro ?_ ?_)
 rintro i ⟨l,f⟩;rcases Nat.lt_or_ge i vars.length with h|h
 ·have b:=HH vars[i] e;cases a:decide (vars[i].name=e.var) with
  |true=>
   rw [a] at b;rw [Bk h a f]
   repeat' ((conv=>whnf);first|exact trivial|(refine nv_ (.agg (uN vars[i])) (by first|exact xE h) ?_)|refine uc _ (b) ?_|refine aD1 ?_|refine rix ?_|(refine And.intro (by first|exact uJ _) ?_)|refine aS ?_|refine nT_ ?_)
  |false=>
   rw [a] at b
   repeat' ((conv=>whnf);first|(refine nv_ (.agg (uN vars[i])) (by first|exact xE h) ?_)|refine uc _ (b) ?_|refine aD1 ?_|(refine And.intro (by first|exact uJ _) ?_)|refine aS ?_|refine nT_ ?_)
   refine ⟨i+1,⟨h,fun j d k=>?_⟩,by omega,?_⟩
   ·rcases Nat.lt_or_ge j i with g|g
    ·exact f j d g
    ·obtain rfl:j=i:=by omega
     exact a
   ·repeat' (first|exact wJ|refine And.intro ?_ ?_)
 ·rw [Bl fun j d=>f j d (by omega)]
  repeat' ((conv=>whnf);first|refine aD0 ?_|refine rix ?_|refine aS ?_|exact trivial)
theorem FK(vars:List RV)(name:ByteArray)(l:vars.length<2^60):DCalls Tryz.prog 65 [vsT vars,.str name] (I (wv (Ai name) vars)):=by
 refine dl2 mixed [.tmp 4] [.int _ _] Tryz.func65 l65 ?_;have m:((vars.map wZ).length:Int)=vars.length:=by rw [List.length_map]
 skip
 refine tT (α:=Nat) (fun i=>{sl:=[(0,.t (vsT vars)),(1,.t (.str name)),(5,.t (I i))],bx:=[]})
  (fun i=>i<=vars.length/\ ∀j (h:j<vars.length),j<i->Ai name vars[j]=false) (fun i=>vars.length - i) 0 (by simp) ?_ ?_
 ·repeat' (first|exact wJ|refine And.intro ?_ ?_)
 rintro i ⟨k,f⟩;rcases Nat.lt_or_ge i vars.length with h|h
 ·have d:=eqS vars[i].name name;have a:(i:Int)<((vars.map wZ).length:Int):=by omega
  have n:(vars.map wZ)[i]?.getD .nil= .agg (uN vars[i]):=xE h;cases b:decide (vars[i].name=name) with
  |true=>
   rw [b] at d;rw [Bk h b f]
   repeat' ((conv=>whnf);first|exact trivial|refine sC a ?_|(refine nv_ (.agg (uN vars[i])) (by first|exact xE h) ?_)|refine nb_ _ d ?_|refine rix ?_|refine aS ?_|refine nT_ ?_)
  |false=>
   rw [b] at d
   repeat' ((conv=>whnf);first|refine sC a ?_|(refine nv_ (.agg (uN vars[i])) (by first|exact xE h) ?_)|refine nb_ _ d ?_|refine aS ?_|refine nT_ ?_)
   refine ⟨i+1,⟨h,fun j e a=>?_⟩,by omega,?_⟩
   ·rcases Nat.lt_or_ge j i with g|g
    ·exact f j e g
    ·obtain rfl:j=i:=by omega
     exact b
   ·repeat' (first|exact wJ|refine And.intro ?_ ?_)
 ·have a: ¬(i:Int)<((vars.map wZ).length:Int):=by omega
  rw [Bl fun j e=>f j e (by omega)]
  repeat' ((conv=>whnf);first|refine su a ?_|refine rix ?_|refine aS ?_|exact trivial)
theorem Gx(n:Nat)(d:n<=60):DCalls Tryz.prog 112 [I n] (I (2^n:Nat)):=by
 refine dl2 mixed [.tmp 2] [I _] Tryz.func112 ME ?_
 skip
 refine tT (α:=Nat) (fun i=>{sl:=[(0,.t (I n)),(3,.t (I (2^i:Nat))),(4,.t (I i))],bx:=[]})
  (fun i=>i<=n) (fun i=>n - i) 0 (by simp) ?_ ?_
 ·repeat' (first|exact wJ|refine And.intro ?_ ?_)
 rintro i b;rcases Nat.lt_or_ge i n with h|h
 ·have a:(2:Nat)^(i+1)<=2^60:=Nat.pow_le_pow_right (by decide) (by omega);have e:((2^i:Nat):Int) * 2=((2^(i+1):Nat):Int):=by rw [Nat.pow_succ];push_cast;rfl
  repeat' ((conv=>whnf);first|refine aD1 ?_|refine aS ?_|fail)
  refine ⟨i+1,h,by omega,?_⟩
  repeat' (first|(exact leI (by rw [e,yi (by omega)]))|exact wJ|refine And.intro ?_ ?_)
 ·obtain rfl:i=n:=by omega
  repeat' ((conv=>whnf);first|refine aD0 ?_|refine rix ?_|refine aS ?_|exact trivial)
theorem Bz{st:List RE}{v:ByteArray}{i:Nat}(h:i<st.length):uC (st.take (i+1)) v=uC (st.take i) v+if st[i].var=v then 1 else 0:=by
 rw [List.take_succ_eq_append_getElem h,zt]
theorem CF(st:List RE)(v:ByteArray)(j:st.length<2^60):DCalls Tryz.prog 60 [esT st,.str v] (I (uC st v)):=by
 refine dl2 mixed [.tmp 4] [I _] Tryz.func60 l60 ?_;have k:((st.map um).length:Int)=st.length:=by rw [List.length_map]
 skip
 refine tT (α:=Nat) (fun i=>{sl:=[(0,.t (esT st)),(1,.t (.str v)),(5,.t (I (uC (st.take i) v))),(6,.t (I i))],bx:=[]})
  (fun i=>i<=st.length) (fun i=>st.length - i) 0 (by simp) ?_ ?_
 ·repeat' (first|exact wJ|refine And.intro ?_ ?_)
 rintro i g;rcases Nat.lt_or_ge i st.length with h|h
 ·have a:(i:Int)<((st.map um).length:Int):=by omega
  have e:=eqS st[i].var v;have d:=Bz (v:=v) h;have f:=yj (st:=st.take i) (v:=v);rw [List.length_take] at f
  by_cases b:st[i].var=v
  ·rw [decide_eq_true b] at e;rw [if_pos b] at d
   repeat' ((conv=>whnf);first|refine sC a ?_|(refine nv_ (.agg (uk st[i])) (by first|exact uQ h) ?_)|refine nb_ _ e ?_|refine aS ?_|refine nT_ ?_)
   exact ⟨i+1,h,by omega,by repeat' (first|(exact leI (by rw [d,nW] <;> omega))|exact wJ|refine And.intro ?_ ?_)⟩
  ·rw [decide_eq_false b] at e;rw [if_neg b,Nat.add_zero] at d
   repeat' ((conv=>whnf);first|refine sC a ?_|(refine nv_ (.agg (uk st[i])) (by first|exact uQ h) ?_)|refine nb_ _ e ?_|refine aS ?_|refine nT_ ?_)
   exact ⟨i+1,h,by omega,by repeat' (first|(exact leI (by rw [d];rfl))|exact wJ|refine And.intro ?_ ?_)⟩
 ·have a: ¬(i:Int)<((st.map um).length:Int):=by omega
  obtain rfl:i=st.length:=by omega
  rw [List.take_length]
  repeat' ((conv=>whnf);first|refine su a ?_|refine rix ?_|refine aS ?_|exact trivial)
theorem Ji(x e:RE):DCalls Tryz.prog 117 [.agg (uk x),.cptr (uk e) 0] (.bool (decide (x.var=e.var)&&decide (x.n=e.n))):=by
 refine dl2 mixed [.tmp 3] [.bool _] Tryz.func117 MI ?_;have h:=eqS x.var e.var
 by_cases a:x.var=e.var
 ·rw [decide_eq_true a] at h;rw [decide_eq_true a,Bool.true_and]
  by_cases b:x.n=e.n
  ·rw [decide_eq_true b]
   repeat' ((conv=>whnf);first|exact trivial|refine nb_ _ h ?_|refine sE b ?_|refine rb1 ?_|(refine And.intro (by first|exact uo _) ?_)|refine aS ?_|refine nT_ ?_)
  ·rw [decide_eq_false b]
   repeat' ((conv=>whnf);first|exact trivial|refine nb_ _ h ?_|refine sD b ?_|refine rb0 ?_|(refine And.intro (by first|exact uo _) ?_)|refine aS ?_|refine nT_ ?_)
 ·rw [decide_eq_false a] at h;rw [decide_eq_false a,Bool.false_and]
  repeat' ((conv=>whnf);first|exact trivial|refine nb_ _ h ?_|refine rb0 ?_|(refine And.intro (by first|exact uo _) ?_)|refine aS ?_|refine nT_ ?_)
structure VOk (v:RV):Prop where
 len:v.ws.length<2^40
 w: ∀w∈v.ws,1<=w/\w<=60
theorem CX{k w:List Int}{i:Nat}(b:i<k.length)(a:i<w.length):vI (k.drop i) (w.drop i)=(decide (0<=k[i])&&decide (k[i]<2^w[i].toNat)&&vI (k.drop (i+1)) (w.drop (i+1))):=by
 rw [List.drop_eq_getElem_cons b,List.drop_eq_getElem_cons a];rfl
theorem NG{w:Int}(b:1<=w)(d:w<=60):IntKind.wrap .i64 (1 * 2^(min w.toNat (IntKind.bits .i64)))=2^w.toNat:=by
 have a:IntKind.bits .i64=64:=rfl;rw [a,Nat.min_eq_left (by omega),Int.one_mul];have f:(2:Int)^w.toNat<=2^60:=by exact_mod_cast Nat.pow_le_pow_right (by decide) (show w.toNat<=60 by omega)
 have e:(0:Int)<2^w.toNat:=Int.pow_pos (by decide);rw [nW] <;> omega
theorem Ap{e:RE}:Ao e=false↔(e.n<0\/e.n>65535\/e.at_<0\/e.at_>1073741824):=by
 unfold Ao;rw [<- Bool.not_eq_true];simp only [Bool.and_eq_true,decide_eq_true_eq];omega
theorem Kb(v:RV)(F:VOk v)(e:RE)(_:kOk e)(a:List RE)(O:a.length<2^60):DCalls Tryz.prog 75 [.agg (uN v),.agg (uk e),esT a] (.bool (xy v e a)):=by
 refine dl2 mixed [.tmp 6] [.bool _] Tryz.func75 l75 ?_;have L:((e.key.map I).length:Int)=e.key.length:=by rw [List.length_map]
 have R:((v.ws.map I).length:Int)=v.ws.length:=by rw [List.length_map]
 have K:=F.len;unfold xy
 by_cases J:e.key.length=v.ws.length
 case neg=>
  have g:vI e.key v.ws=false:=by
   cases N:vI e.key v.ws with
   |false=>rfl
   |true=>exact absurd (Ab N) J
  have o:((e.key.map I).length:Int)≠((v.ws.map I).length:Int):=by omega
  rw [g,Bool.and_false,Bool.false_and]
  repeat' ((conv=>whnf);first|exact trivial|refine sG o ?_|refine rb0 ?_|(refine And.intro (by first|exact uJ _|exact uo _) ?_)|refine aS ?_|refine nT_ ?_)
 have o:((e.key.map I).length:Int)=((v.ws.map I).length:Int):=by omega
 cases D:Ao e with
 |false=>
  rcases Ap.1 D with h|h|h|h
  ·rw [Bool.false_and,Bool.false_and]
   repeat' ((conv=>whnf);first|exact trivial|refine sF o ?_|refine sC h ?_|refine rb0 ?_|(refine And.intro (by first|exact uJ _|exact uo _) ?_)|refine aS ?_|refine nT_ ?_)
  ·rw [Bool.false_and,Bool.false_and];have j: ¬e.n<0:=by omega
   repeat' ((conv=>whnf);first|exact trivial|refine sF o ?_|refine su j ?_|refine sC h ?_|refine rb0 ?_|(refine And.intro (by first|exact uJ _|exact uo _) ?_)|refine aS ?_|refine nT_ ?_)
  ·rw [Bool.false_and,Bool.false_and]
   by_cases j:e.n<0
   ·repeat' ((conv=>whnf);first|exact trivial|refine sF o ?_|refine sC j ?_|refine rb0 ?_|(refine And.intro (by first|exact uJ _|exact uo _) ?_)|refine aS ?_|refine nT_ ?_)
   by_cases s:e.n>65535
   ·repeat' ((conv=>whnf);first|exact trivial|refine sF o ?_|refine su j ?_|refine sC s ?_|refine rb0 ?_|(refine And.intro (by first|exact uJ _|exact uo _) ?_)|refine aS ?_|refine nT_ ?_)
   repeat' ((conv=>whnf);first|exact trivial|refine sF o ?_|refine su j ?_|refine su s ?_|refine sC h ?_|refine rb0 ?_|(refine And.intro (by first|exact uJ _|exact uo _) ?_)|refine aS ?_|refine nT_ ?_)
  ·rw [Bool.false_and,Bool.false_and]
   by_cases j:e.n<0
   ·repeat' ((conv=>whnf);first|exact trivial|refine sF o ?_|refine sC j ?_|refine rb0 ?_|(refine And.intro (by first|exact uJ _|exact uo _) ?_)|refine aS ?_|refine nT_ ?_)
   by_cases s:e.n>65535
   ·repeat' ((conv=>whnf);first|exact trivial|refine sF o ?_|refine su j ?_|refine sC s ?_|refine rb0 ?_|(refine And.intro (by first|exact uJ _|exact uo _) ?_)|refine aS ?_|refine nT_ ?_)
   have C: ¬e.at_<0:=by omega
   repeat' ((conv=>whnf);first|exact trivial|refine sF o ?_|refine su j ?_|refine su s ?_|refine su C ?_|refine sC h ?_|refine rb0 ?_|(refine And.intro (by first|exact uJ _|exact uo _) ?_)|refine aS ?_|refine nT_ ?_)
 |true=>
 have M: ¬(e.n<0\/e.n>65535\/e.at_<0\/e.at_>1073741824):=fun h=>by rw [Ap.2 h] at D;cases D
 have j: ¬e.n<0:=by omega
 have s: ¬e.n>65535:=by omega
 have C: ¬e.at_<0:=by omega
 have P: ¬e.at_>1073741824:=by omega
 rw [Bool.true_and]
 repeat' ((conv=>whnf);first|refine sF o ?_|refine su j ?_|refine su s ?_|refine su C ?_|refine su P ?_|(refine And.intro (by first|exact uJ _|exact uo _) ?_)|refine aS ?_|refine nT_ ?_)
 refine tx 0 (α:=Nat) (β:=Unit) (fun i=>{sl:=[(2,.t (esT a)),(3,.ptr 3 0),(4,.ptr 4 0),(37,.t (.slice 1 (e.key.map I))),(38,.t (I e.key.length)),(39,.t (I i))],bx:=[(3,.d 5 (uN v)),(4,.d 4 (uk e))]})
  (fun i=>i<=e.key.length/\vI (e.key.drop i) (v.ws.drop i)=vI e.key v.ws) (fun i=>e.key.length - i) (fun _=>{sl:=[(2,.t (esT a)),(3,.ptr 3 0),(4,.ptr 4 0)],bx:=[(3,.d 5 (uN v)),(4,.d 4 (uk e))]}) (fun _=>vI e.key v.ws=true) 0 ⟨by omega,rfl⟩ ?_ ?_ ?_
 ·repeat' (first|(exact leI (by simp))|exact wJ|refine And.intro ?_ ?_)
 ·rintro i ⟨V,g⟩;rcases Nat.lt_or_ge i e.key.length with h|h
  ·have E:i<v.ws.length:=by omega
   rw [CX h E] at g;obtain ⟨S,Q⟩:=F.w v.ws[i] (List.getElem_mem E);have G:=NG S Q;have u:(e.key.map I)[i]?.getD .nil=I e.key[i]:=by simp [h]
   have z:(v.ws.map I)[i]?.getD .nil=I v.ws[i]:=by simp [E]
   generalize v.ws[i]=w at *
   generalize e.key[i]=k at *
   by_cases B:k<0
   ·rw [show decide (0<=k)=false by simp;omega,Bool.false_and,Bool.false_and] at g;rw [<- g,Bool.false_and]
    repeat' ((conv=>whnf);first|exact trivial|(refine nv_ (I k) (by first|exact u) ?_)|refine sC B ?_|refine aD1 ?_|refine rb0 ?_|refine aS ?_|refine nT_ ?_)
   ·rw [show decide (0<=k)=true by simp;omega,Bool.true_and] at g
    by_cases f:k<2^w.toNat
    ·rw [decide_eq_true f,Bool.true_and] at g;have r: ¬k>=IntKind.wrap .i64 (1 * 2^(min w.toNat (IntKind.bits .i64))):=by rw [G];omega
     repeat' ((conv=>whnf);first|(refine nv_ (I k) (by first|exact u) ?_)|(refine nv_ (I w) (by first|exact z) ?_)|refine su B ?_|refine su r ?_|refine aD1 ?_|(refine And.intro (by first|exact uJ _|exact uo _|(omega;done)|fail) ?_)|refine aS ?_|refine nT_ ?_)
     exact ⟨i+1,⟨h,g⟩,by omega,by repeat' (first|exact wJ|refine And.intro ?_ ?_)⟩
    ·rw [decide_eq_false f,Bool.false_and] at g;have r:k>=IntKind.wrap .i64 (1 * 2^(min w.toNat (IntKind.bits .i64))):=by rw [G];omega
     rw [<- g,Bool.false_and]
     repeat' ((conv=>whnf);first|exact trivial|(refine nv_ (I k) (by first|exact u) ?_)|(refine nv_ (I w) (by first|exact z) ?_)|refine su B ?_|refine sC r ?_|refine aD1 ?_|refine rb0 ?_|(refine And.intro (by first|exact uJ _|exact uo _|(omega;done)|fail) ?_)|refine aS ?_|refine nT_ ?_)
  ·have T:vI e.key v.ws=true:=by
    rw [<- g,List.drop_eq_nil_of_le h,List.drop_eq_nil_of_le (by omega)];rfl
   repeat' ((conv=>whnf);first|refine aD0 ?_|refine aS ?_|fail)
   exact ⟨(),T,by repeat' (first|exact wJ|refine And.intro ?_ ?_)⟩
 rintro - g;rw [g,Bool.true_and];unfold AP;have H:=Es a 117 (.cptr (uk e) 0) (fun x=>decide (x.var=e.var)&&decide (x.n=e.n)) O fun i h=>Ji a[i] e
 generalize (a.any fun x=>decide (x.var=e.var)&&decide (x.n=e.n))=b at *
 by_cases l:v.fam=2
 ·rw [if_pos l]
  by_cases A:e.n=0
  ·rw [decide_eq_true A]
   repeat' ((conv=>whnf);first|exact trivial|refine sE l ?_|refine sE A ?_|refine rb1 ?_|refine aS ?_|refine nT_ ?_)
  ·rw [decide_eq_false A]
   repeat' ((conv=>whnf);first|exact trivial|refine sE l ?_|refine sD A ?_|refine rb0 ?_|refine aS ?_|refine nT_ ?_)
 rw [if_neg l]
 by_cases p:v.fam=3
 ·rw [if_pos p]
  by_cases f:e.n>=v.n
  ·rw [show decide (v.n<=e.n)=true by simpa using f,Bool.true_and]
   by_cases q:e.n<=v.m
   ·rw [decide_eq_true q,Bool.true_and]
    repeat' ((conv=>whnf);first|exact trivial|refine sD l ?_|refine sE p ?_|refine sC f ?_|refine sC q ?_|refine uc _ (H) ?_|refine rbx ?_|refine aS ?_|refine nT_ ?_)
   ·rw [decide_eq_false q,Bool.false_and]
    repeat' ((conv=>whnf);first|exact trivial|refine sD l ?_|refine sE p ?_|refine sC f ?_|refine su q ?_|refine rb0 ?_|refine aS ?_|refine nT_ ?_)
  ·rw [show decide (v.n<=e.n)=false by simp;omega,Bool.false_and,Bool.false_and]
   repeat' ((conv=>whnf);first|exact trivial|refine sD l ?_|refine sE p ?_|refine su f ?_|refine rb0 ?_|refine aS ?_|refine nT_ ?_)
 rw [if_neg p]
 by_cases y:v.fam=4
 ·rw [if_pos y]
  by_cases f:v.n=0
  ·rw [decide_eq_true f,Bool.true_or]
   repeat' ((conv=>whnf);first|exact trivial|refine sD l ?_|refine sD p ?_|refine sE y ?_|refine sE f ?_|refine rb1 ?_|refine aS ?_|refine nT_ ?_)
  ·rw [decide_eq_false f,Bool.false_or]
   by_cases q:e.n<=v.n
   ·rw [decide_eq_true q]
    repeat' ((conv=>whnf);first|exact trivial|refine sD l ?_|refine sD p ?_|refine sE y ?_|refine sD f ?_|refine sC q ?_|refine rb1 ?_|refine aS ?_|refine nT_ ?_)
   ·rw [decide_eq_false q]
    repeat' ((conv=>whnf);first|exact trivial|refine sD l ?_|refine sD p ?_|refine sE y ?_|refine sD f ?_|refine su q ?_|refine rb0 ?_|refine aS ?_|refine nT_ ?_)
 rw [if_neg y]
 repeat' ((conv=>whnf);first|exact trivial|refine sD l ?_|refine sD p ?_|refine sD y ?_|refine rb1 ?_|refine aS ?_|refine nT_ ?_)
theorem JY(v:RV)(P:VOk v)(e:RE)(_:kOk e)(a:List RE)(hb:a.length<2^60):DCalls Tryz.prog 66 [.agg (uN v),.agg (uk e),esT a] (.bool (xy v e a)):=by
 refine dl2 mixed [.tmp 6] [.bool _] Tryz.func66 l66 ?_;have T:((e.key.map I).length:Int)=e.key.length:=by rw [List.length_map]
 have Z:((v.ws.map I).length:Int)=v.ws.length:=by rw [List.length_map]
 have S:=P.len;unfold xy
 by_cases R:e.key.length=v.ws.length
 case neg=>
  have o:vI e.key v.ws=false:=by
   cases X:vI e.key v.ws with
   |false=>rfl
   |true=>exact absurd (Ab X) R
  have u:((e.key.map I).length:Int)≠((v.ws.map I).length:Int):=by omega
  rw [o,Bool.and_false,Bool.false_and]
  repeat' ((conv=>whnf);first|exact trivial|refine sG u ?_|refine rb0 ?_|(refine And.intro (by first|exact uJ _|exact uo _) ?_)|refine aS ?_|refine nT_ ?_)
 have u:((e.key.map I).length:Int)=((v.ws.map I).length:Int):=by omega
 cases K:Ao e with
 |false=>
  rw [Bool.false_and,Bool.false_and];have Y:=Ap.1 K
  by_cases y:e.n<0
  ·repeat' ((conv=>whnf);first|exact trivial|refine sF u ?_|refine sC y ?_|refine rb0 ?_|(refine And.intro (by first|exact uJ _|exact uo _) ?_)|refine aS ?_|refine nT_ ?_)
  by_cases C:e.n>65535
  ·repeat' ((conv=>whnf);first|exact trivial|refine sF u ?_|refine su y ?_|refine sC C ?_|refine rb0 ?_|(refine And.intro (by first|exact uJ _|exact uo _) ?_)|refine aS ?_|refine nT_ ?_)
  by_cases G:e.at_<0
  ·repeat' ((conv=>whnf);first|exact trivial|refine sF u ?_|refine su y ?_|refine su C ?_|refine sC G ?_|refine rb0 ?_|(refine And.intro (by first|exact uJ _|exact uo _) ?_)|refine aS ?_|refine nT_ ?_)
  have L:e.at_>1073741824:=by omega
  repeat' ((conv=>whnf);first|exact trivial|refine sF u ?_|refine su y ?_|refine su C ?_|refine su G ?_|refine sC L ?_|refine rb0 ?_|(refine And.intro (by first|exact uJ _|exact uo _) ?_)|refine aS ?_|refine nT_ ?_)
 |true=>
 have W: ¬(e.n<0\/e.n>65535\/e.at_<0\/e.at_>1073741824):=fun h=>by rw [Ap.2 h] at K;cases K
 have y: ¬e.n<0:=by omega
 have C: ¬e.n>65535:=by omega
 have G: ¬e.at_<0:=by omega
 have L: ¬e.at_>1073741824:=by omega
 rw [Bool.true_and]
 repeat' ((conv=>whnf);first|refine sF u ?_|refine su y ?_|refine su C ?_|refine su G ?_|refine su L ?_|(refine And.intro (by first|exact uJ _|exact uo _) ?_)|refine aS ?_|refine nT_ ?_)
 refine tx 0 (α:=Nat) (β:=Unit) (fun i=>{sl:=[(2,.t (esT a)),(3,.ptr 3 0),(4,.ptr 4 0),(7,.t (I i))],bx:=[(3,.d 5 (uN v)),(4,.d 4 (uk e))]})
  (fun i=>i<=e.key.length/\vI (e.key.drop i) (v.ws.drop i)=vI e.key v.ws) (fun i=>e.key.length - i) (fun _=>{sl:=[(2,.t (esT a)),(3,.ptr 3 0),(4,.ptr 4 0)],bx:=[(3,.d 5 (uN v)),(4,.d 4 (uk e))]}) (fun _=>vI e.key v.ws=true) 0 ⟨by omega,rfl⟩ ?_ ?_ ?_
 ·repeat' (first|exact wJ|refine And.intro ?_ ?_)
 ·rintro i ⟨U,o⟩;rcases Nat.lt_or_ge i e.key.length with h|h
  ·have N:i<v.ws.length:=by omega
   have b:(i:Int)<((e.key.map I).length:Int):=by omega
   rw [CX h N] at o;obtain ⟨w1,w2⟩:=P.w v.ws[i] (List.getElem_mem N);have r:(e.key.map I)[i]?.getD .nil=I e.key[i]:=by simp [h]
   have E:(v.ws.map I)[i]?.getD .nil=I (v.ws[i].toNat:Nat):=by
    rw [show ((v.ws[i].toNat:Nat):Int)=v.ws[i] by omega];simp [N]
   have D:=Gx v.ws[i].toNat (by omega);have ep:((2^v.ws[i].toNat:Nat):Int)=2^v.ws[i].toNat:=by simp
   generalize v.ws[i].toNat=w at *
   generalize e.key[i]=k at *
   by_cases J:k<0
   ·rw [show decide (0<=k)=false by simp;omega,Bool.false_and,Bool.false_and] at o;rw [<- o,Bool.false_and]
    repeat' ((conv=>whnf);first|exact trivial|refine sC b ?_|(refine nv_ (I k) (by first|exact r) ?_)|refine sC J ?_|refine rb0 ?_|refine aS ?_|refine nT_ ?_)
   ·rw [show decide (0<=k)=true by simp;omega,Bool.true_and] at o
    by_cases g:k<2^w
    ·rw [decide_eq_true g,Bool.true_and] at o;have q: ¬k>=((2^w:Nat):Int):=by omega
     repeat' ((conv=>whnf);first|refine sC b ?_|(refine nv_ (I k) (by first|exact r) ?_)|(refine nv_ (I (w:Nat)) (by first|exact E) ?_)|refine uc _ (D) ?_|refine su J ?_|refine su q ?_|refine aS ?_|refine nT_ ?_)
     exact ⟨i+1,⟨h,o⟩,by omega,by repeat' (first|exact wJ|refine And.intro ?_ ?_)⟩
    ·rw [decide_eq_false g,Bool.false_and] at o;have q:k>=((2^w:Nat):Int):=by omega
     rw [<- o,Bool.false_and]
     repeat' ((conv=>whnf);first|exact trivial|refine sC b ?_|(refine nv_ (I k) (by first|exact r) ?_)|(refine nv_ (I (w:Nat)) (by first|exact E) ?_)|refine uc _ (D) ?_|refine su J ?_|refine sC q ?_|refine rb0 ?_|refine aS ?_|refine nT_ ?_)
  ·have e1:vI e.key v.ws=true:=by
    rw [<- o,List.drop_eq_nil_of_le h,List.drop_eq_nil_of_le (by omega)];rfl
   have b: ¬(i:Int)<((e.key.map I).length:Int):=by omega
   repeat' ((conv=>whnf);first|refine su b ?_|refine aS ?_|refine nT_ ?_)
   exact ⟨(),e1,by repeat' (first|exact wJ|refine And.intro ?_ ?_)⟩
 rintro - o;rw [o,Bool.true_and];unfold AP
 by_cases p:v.fam=2
 ·rw [if_pos p]
  by_cases F:e.n=0
  ·rw [decide_eq_true F]
   repeat' ((conv=>whnf);first|exact trivial|refine sE p ?_|refine sE F ?_|refine rb1 ?_|refine aS ?_|refine nT_ ?_)
  ·rw [decide_eq_false F]
   repeat' ((conv=>whnf);first|exact trivial|refine sE p ?_|refine sD F ?_|refine rb0 ?_|refine aS ?_|refine nT_ ?_)
 rw [if_neg p]
 by_cases s:v.fam=3
 ·rw [if_pos s]
  repeat' ((conv=>whnf);first|refine sD p ?_|refine sE s ?_|refine aS ?_|refine nT_ ?_)
  have Q:((a.map um).length:Int)=a.length:=by rw [List.length_map]
  refine tx 3 (α:=Nat) (β:=Unit) (fun i=>{sl:=[(2,.t (esT a)),(3,.ptr 3 0),(4,.ptr 4 0),(8,.t (I i))],bx:=[(3,.d 5 (uN v)),(4,.d 4 (uk e))]})
   (fun i=>i<=a.length/\ ∀j (h:j<a.length),j<i->(decide (a[j].var=e.var)&&decide (a[j].n=e.n))=false) (fun i=>a.length - i) (fun _=>{sl:=[(3,.ptr 3 0),(4,.ptr 4 0)],bx:=[(3,.d 5 (uN v)),(4,.d 4 (uk e))]}) (fun _=>(a.any fun x=>decide (x.var=e.var)&&decide (x.n=e.n))=false) 0 ⟨by omega,fun j h H=>by omega⟩ ?_ ?_ ?_
  ·repeat' (first|exact wJ|refine And.intro ?_ ?_)
  ·rintro i ⟨U,D⟩;rcases Nat.lt_or_ge i a.length with h|h
   ·have b:(i:Int)<((a.map um).length:Int):=by omega
    have A:=eqS a[i].var e.var;have B:(decide (a[i].var=e.var)&&decide (a[i].n=e.n))=true->(decide (v.n<=e.n)&&decide (e.n<=v.m)&& !(a.any fun x=>decide (x.var=e.var)&&decide (x.n=e.n)))=false:=fun M=>by
     have:(a.any fun x=>decide (x.var=e.var)&&decide (x.n=e.n))=true:=List.any_eq_true.2 ⟨a[i],List.getElem_mem h,M⟩
     rw [this];simp
    have f:(decide (a[i].var=e.var)&&decide (a[i].n=e.n))=false->i+1<=a.length/\ ∀j (h:j<a.length),j<i+1->(decide (a[j].var=e.var)&&decide (a[j].n=e.n))=false:=fun M=>by
     refine ⟨h,fun j H b=>?_⟩;rcases Nat.lt_or_ge j i with O|O
     ·exact D j H O
     ·obtain rfl:j=i:=by omega
      exact M
    by_cases g:a[i].var=e.var
    ·rw [decide_eq_true g] at A B f
     by_cases l:a[i].n=e.n
     ·rw [decide_eq_true l] at B;rw [B rfl]
      repeat' ((conv=>whnf);first|exact trivial|refine sC b ?_|(refine nv_ (.agg (uk a[i])) (by first|exact uQ h) ?_)|refine nb_ _ A ?_|refine sE l ?_|refine rb0 ?_|refine aS ?_|refine nT_ ?_)
     ·rw [decide_eq_false l] at f
      repeat' ((conv=>whnf);first|refine sC b ?_|(refine nv_ (.agg (uk a[i])) (by first|exact uQ h) ?_)|refine nb_ _ A ?_|refine sD l ?_|refine aS ?_|refine nT_ ?_)
      exact ⟨i+1,f rfl,by omega,by repeat' (first|exact wJ|refine And.intro ?_ ?_)⟩
    ·rw [decide_eq_false g] at A f
     repeat' ((conv=>whnf);first|refine sC b ?_|(refine nv_ (.agg (uk a[i])) (by first|exact uQ h) ?_)|refine nb_ _ A ?_|refine aS ?_|refine nT_ ?_)
     exact ⟨i+1,f rfl,by omega,by repeat' (first|exact wJ|refine And.intro ?_ ?_)⟩
   ·have b: ¬(i:Int)<((a.map um).length:Int):=by omega
    repeat' ((conv=>whnf);first|refine su b ?_|refine aS ?_|fail)
    refine ⟨(),?_,by repeat' (first|exact wJ|refine And.intro ?_ ?_)⟩;rw [List.any_eq_false];intro x V;obtain ⟨j,H,rfl⟩:=List.getElem_of_mem V;simpa using D j H (by omega)
  rintro - B;rw [B]
  by_cases g:e.n>=v.n
  ·rw [show decide (v.n<=e.n)=true by simpa using g,Bool.true_and]
   by_cases l:e.n<=v.m
   ·rw [decide_eq_true l]
    repeat' ((conv=>whnf);first|exact trivial|refine sC g ?_|refine sC l ?_|refine rb1 ?_|refine aS ?_|refine nT_ ?_)
   ·rw [decide_eq_false l]
    repeat' ((conv=>whnf);first|exact trivial|refine sC g ?_|refine su l ?_|refine rb0 ?_|refine aS ?_|refine nT_ ?_)
  ·rw [show decide (v.n<=e.n)=false by simp;omega]
   repeat' ((conv=>whnf);first|exact trivial|refine su g ?_|refine rb0 ?_|refine aS ?_|refine nT_ ?_)
 rw [if_neg s]
 by_cases z:v.fam=4
 ·rw [if_pos z]
  by_cases g:v.n=0
  ·rw [decide_eq_true g,Bool.true_or]
   repeat' ((conv=>whnf);first|exact trivial|refine sD p ?_|refine sD s ?_|refine sE z ?_|refine sE g ?_|refine rb1 ?_|refine aS ?_|refine nT_ ?_)
  ·rw [decide_eq_false g,Bool.false_or]
   by_cases l:e.n<=v.n
   ·rw [decide_eq_true l]
    repeat' ((conv=>whnf);first|exact trivial|refine sD p ?_|refine sD s ?_|refine sE z ?_|refine sD g ?_|refine sC l ?_|refine rb1 ?_|refine aS ?_|refine nT_ ?_)
   ·rw [decide_eq_false l]
    repeat' ((conv=>whnf);first|exact trivial|refine sD p ?_|refine sD s ?_|refine sE z ?_|refine sD g ?_|refine su l ?_|refine rb0 ?_|refine aS ?_|refine nT_ ?_)
 rw [if_neg z]
 repeat' ((conv=>whnf);first|exact trivial|refine sD p ?_|refine sD s ?_|refine sD z ?_|refine rb1 ?_|refine aS ?_|refine nT_ ?_)
theorem DS(vars:List RV)(name:ByteArray):(wv (Ai name) vars= -1/\varOf vars name=none)\/ ∃(i:Nat) (h:i<vars.length),wv (Ai name) vars=i/\varOf vars name=some vars[i]:=AV (Ai name) vars
theorem CN{vars:List RV}{st:List RE}{i:Nat}(h:i<st.length):zU vars (st.take i) (st.drop i)=if zq vars (st.take i) st[i]=0 then zU vars (st.take (i+1)) (st.drop (i+1)) else zq vars (st.take i) st[i]:=by
 rw [List.drop_eq_getElem_cons h,List.take_succ_eq_append_getElem h];rfl
theorem Cc{st:List RE}{i:Nat}(h:i<st.length):yH (st.take i) st[i]=(decide (0<i)&&decide (ux (st[i - 1]'(by omega)) st[i]≠ -1)):=by
 unfold yH;cases i with
 |zero=>simp
 |succ i=>
  have:(st.take (i+1)).getLast? =some (st[i]'(by omega)):=by rw [List.take_succ_eq_append_getElem (by omega),List.getLast?_append];simp
  rw [this];simp
theorem yh{st:List RE}{i:Nat}:T.slice 4 (((st.map um).take i).drop 0)=esT (st.take i):=by rw [List.drop_zero, <-List.map_take]
theorem IY(vars:List RV)(B:vars.length<2^60)(H: ∀v∈vars,VOk v)(st:List RE)(O:st.length<2^60)(G: ∀e∈st,kOk e):DCalls Tryz.prog 14 [vsT vars,esT st] (I (zr vars st)):=by
 refine dl2 mixed [.tmp 4] [I _] Tryz.func14 l14 ?_;have Q:((st.map um).length:Int)=st.length:=by rw [List.length_map]
 skip
 refine tT (α:=Nat) (fun i=>{sl:=[(0,.t (vsT vars)),(1,.t (esT st)),(5,.t (I i))],bx:=[]})
  (fun i=>i<=st.length/\zU vars (st.take i) (st.drop i)=zr vars st) (fun i=>st.length - i) 0 ⟨by omega,rfl⟩ ?_ ?_
 ·repeat' (first|exact wJ|refine And.intro ?_ ?_)
 rintro i ⟨P,d⟩;rcases Nat.lt_or_ge i st.length with h|h
 ·have b:(i:Int)<((st.map um).length:Int):=by omega
  rw [CN h] at d;have m:=FK vars st[i].var B;have w:=G st[i] (List.getElem_mem h);have K:=uQ h;have J:((st.map um)[i]?.getD .nil)= .agg (uk st[i]):=K;have o:=Cc h;have a:zq vars (st.take i) st[i]=match varOf vars st[i].var with
   |none=>4
   |some v=>if xy v st[i] (st.take i)=false then 1 else if yH (st.take i) st[i]=true then 10 else if 100<=uC (st.take i) st[i].var then 2 else 0:=rfl
  rcases DS vars st[i].var with ⟨p,n⟩|⟨k,f,p,n⟩
  ·rw [p] at m;rw [n] at a;dsimp only at a;rw [a,if_neg (by decide)] at d;rw [<- d]
   repeat' ((conv=>whnf);first|exact trivial|refine sC b ?_|(refine nv_ (.agg (uk st[i])) (by first|exact uQ h) ?_)|refine uc _ (m) ?_|refine aD1 ?_|refine rix ?_|refine aS ?_|refine nT_ ?_)
  ·rw [p] at m;rw [n] at a;dsimp only at a;have q:=JY vars[k] (H _ (List.getElem_mem f)) st[i] w (st.take i) (by rw [List.length_take];omega);have x: ¬((k:Nat):Int)<0:=by omega
   cases y:xy vars[k] st[i] (st.take i) with
   |false=>
    rw [y] at q;rw [if_pos y] at a;rw [a,if_neg (by decide)] at d;rw [<- d]
    repeat' ((conv=>whnf);first|exact trivial|refine sC b ?_|(refine nv_ (.agg (uk st[i])) (by first|exact uQ h) ?_)|refine uc _ (m) ?_|refine su x ?_|(refine nv_ (.agg (uN vars[k])) (by first|exact xE f) ?_)|(refine nv_ (esT (st.take i)) (by first|exact yh) ?_)|refine uc _ (q) ?_|refine rix ?_|refine aS ?_|refine nT_ ?_)
   |true=>
    rw [y] at q;rw [if_neg (show ¬xy vars[k] st[i] (st.take i)=false by simp [y])] at a;have C:=CF (st.take i) st[i].var (by rw [List.length_take];omega);have A:=yj (st:=st.take i) (v:=st[i].var);rw [List.length_take] at A
    by_cases F:0<i
    ·have j:(i:Int)>0:=by omega
     have g:i - 1<st.length:=by omega
     have s:IntKind.wrap .i64 ((i:Int) - 1)=((i - 1:Nat):Int):=by rw [nW] <;> omega
     have D:=C4 (st[i - 1]'g) st[i] (G _ (List.getElem_mem g)) w;have N:=uv.r (st[i - 1]'g) st[i];have L:((st.map um)[((i:Int) - 1).toNat]?.getD .nil)= .agg (uk (st[i - 1]'g)):=by rw [show ((i:Int) - 1).toNat=i - 1 by omega];exact uQ g
     rw [decide_eq_true F,Bool.true_and] at o;generalize M:ux (st[i - 1]'g) st[i]=c at *
     by_cases E:c= -1
     ·rw [show decide (c≠ -1)=false by simp [E]] at o;have l: ¬c>=0:=by omega
      rw [if_neg (by simp [o])] at a
      by_cases z:100<=uC (st.take i) st[i].var
      ·rw [if_pos z] at a;rw [a,if_neg (by decide)] at d;have u:((uC (st.take i) st[i].var:Nat):Int)>=100:=by omega
       rw [<- d]
       repeat' ((conv=>whnf);first|exact trivial|refine sC b ?_|refine sC j ?_|(refine nv_ (.agg (uk st[i])) (by first|exact uQ h) ?_)|(refine nv_ (.agg (uk (st[i - 1]'g))) (by first|((rw [s];exact uQ g);done)|fail) ?_)|refine uc _ (m) ?_|refine su x ?_|(refine nv_ (.agg (uN vars[k])) (by first|exact xE f) ?_)|(refine nv_ (esT (st.take i)) (by first|exact yh) ?_)|refine uc _ (q) ?_|refine uc _ (D) ?_|refine su l ?_|refine uc _ (C) ?_|refine sC u ?_|refine rix ?_|(refine And.intro (by first|(omega;done)|((rw [s];omega);done)|fail) ?_)|refine aS ?_|refine nT_ ?_)
      ·rw [if_neg z] at a;rw [a,if_pos rfl] at d;have u: ¬((uC (st.take i) st[i].var:Nat):Int)>=100:=by omega
       repeat' ((conv=>whnf);first|refine sC b ?_|refine sC j ?_|(refine nv_ (.agg (uk st[i])) (by first|exact uQ h) ?_)|(refine nv_ (.agg (uk (st[i - 1]'g))) (by first|((rw [s];exact uQ g);done)|fail) ?_)|refine uc _ (m) ?_|refine su x ?_|(refine nv_ (.agg (uN vars[k])) (by first|exact xE f) ?_)|(refine nv_ (esT (st.take i)) (by first|exact yh) ?_)|refine uc _ (q) ?_|refine uc _ (D) ?_|refine su l ?_|refine uc _ (C) ?_|refine su u ?_|(refine And.intro (by first|(omega;done)|((rw [s];omega);done)|fail) ?_)|refine aS ?_|refine nT_ ?_)
       exact ⟨i+1,⟨h,d⟩,by omega,by repeat' (first|exact wJ|refine And.intro ?_ ?_)⟩
     ·rw [show decide (c≠ -1)=true by simp [E]] at o;have l:c>=0:=by omega
      rw [if_pos o] at a;rw [a,if_neg (by decide)] at d;rw [<- d]
      repeat' ((conv=>whnf);first|exact trivial|refine sC b ?_|refine sC j ?_|(refine nv_ (.agg (uk st[i])) (by first|exact uQ h) ?_)|(refine nv_ (.agg (uk (st[i - 1]'g))) (by first|((rw [s];exact uQ g);done)|fail) ?_)|refine uc _ (m) ?_|refine su x ?_|(refine nv_ (.agg (uN vars[k])) (by first|exact xE f) ?_)|(refine nv_ (esT (st.take i)) (by first|exact yh) ?_)|refine uc _ (q) ?_|refine uc _ (D) ?_|refine sC l ?_|refine rix ?_|(refine And.intro (by first|(omega;done)|((rw [s];omega);done)|fail) ?_)|refine aS ?_|refine nT_ ?_)
    ·have j: ¬(i:Int)>0:=by omega
     rw [decide_eq_false F,Bool.false_and] at o;rw [if_neg (by simp [o])] at a;have z: ¬100<=uC (st.take i) st[i].var:=by omega
     rw [if_neg z] at a;rw [a,if_pos rfl] at d;have u: ¬((uC (st.take i) st[i].var:Nat):Int)>=100:=by omega
     repeat' ((conv=>whnf);first|refine sC b ?_|refine su j ?_|(refine nv_ (.agg (uk st[i])) (by first|exact uQ h) ?_)|refine uc _ (m) ?_|refine su x ?_|(refine nv_ (.agg (uN vars[k])) (by first|exact xE f) ?_)|(refine nv_ (esT (st.take i)) (by first|exact yh) ?_)|refine uc _ (q) ?_|refine uc _ (C) ?_|refine su u ?_|refine aS ?_|refine nT_ ?_)
     exact ⟨i+1,⟨h,d⟩,by omega,by repeat' (first|exact wJ|refine And.intro ?_ ?_)⟩
 ·have b: ¬(i:Int)<((st.map um).length:Int):=by omega
  obtain rfl:i=st.length:=by omega
  rw [<- d,List.drop_length]
  repeat' ((conv=>whnf);first|refine su b ?_|refine rix ?_|refine aS ?_|exact trivial)
end Go.ST
end
