/- Joined by program: parts of a data level over the model, of the program's functions over it, and of the statement's proof. -/
import Derived.Test.YtnfonfjleonbdaaGreatProg
import Derived.Test.YtnfonfjleonbdaaGreatGc
import Derived.KernelRfl
import Derived.Sort.Walk0
set_option maxRecDepth 100000
set_option maxHeartbeats 8000000
noncomputable section
namespace Go.DL
abbrev Kc(n:Int):O:=.const (.int .i64 n)
abbrev Zi(n:Int):T:=.int .i64 n
abbrev Ui(n:Int):T:=.int .u8 n
abbrev tm(n:Nat):O:=.tmp n
abbrev mv(d s:Nat):DI:=⟨some d,.mov (.tmp s),none,[]⟩
abbrev mF(d s g:Nat):DI:=⟨some d,.mov (.tmp s),some (g,false),[]⟩
abbrev mT(d s g:Nat):DI:=⟨some d,.mov (.tmp s),some (g,true),[]⟩
abbrev oo(d:Nat)(p:DOp):DI:=⟨some d,p,none,[]⟩
abbrev oF(d g:Nat)(p:DOp):DI:=⟨some d,p,some (g,false),[]⟩
abbrev oT(d g:Nat)(p:DOp):DI:=⟨some d,p,some (g,true),[]⟩
abbrev o0(p:DOp):DI:=⟨none,p,none,[]⟩
abbrev ld(d a:Nat):DI:=⟨some d,.load 1 false (.tmp a),none,[]⟩
abbrev lA(d n a:Nat):DI:=⟨some d,.load n true (.tmp a),none,[]⟩
abbrev fa(d k a:Nat):DI:=⟨some d,.offA k (.tmp a),none,[]⟩
abbrev ix(d z a b:Nat):DI:=⟨some d,.idxL z (.tmp a) (.tmp b),none,[]⟩
abbrev ln(d a:Nat):DI:=⟨some d,.len (.tmp a),none,[]⟩
abbrev kT:O:=.const (.bool true)
abbrev kF:O:=.const (.bool false)
abbrev S0:T:=.str ⟨#[]⟩
abbrev Z0:T:=.int .i64 0
end Go.DL
namespace Go.MM
open Go Go.DL Go.Proofs
def c15:aV:=(sr [oo 1 (.box 10 (tm 0)),oo 2 (.mov kF)] (.seq (sr [oo 3 (.mov (Kc 0))] (.block 0 (.loop (.seq (sr [mv 4 3,oo 5 (.bin .lss (tm 4) (Kc 10))] (.cond (tm 5) .skip (.exit 0))) (.seq (.block 1 (sr [mv 8 3,oo 9 (.idxA 10 1 (tm 1) (tm 8)),ld 10 9,oo 11 (.bin .lss (tm 10) (Kc 0)),mv 12 11,mF 13 3 12,oF 14 12 (.idxA 10 1 (tm 1) (tm 13)),oF 15 12 (.load 1 false (tm 14)),oF 16 12 (.bin .gtr (tm 15) (Kc 65535)),oo 17 (.pick (tm 12) kT (tm 16))] (.cond (tm 17) (sr [oo 2 (.mov kF)] .ret) .skip))) (rg [mv 6 3,oo 7 (.bin .add (tm 6) (Kc 1)),mv 3 7])))))) (sr [oo 2 (.mov kT)] .ret)))
theorem l15:(Tryz.f15.body.bind (bt Tryz.prog 18 []))=some c15:=by kernel_rfl
def c40:aV:=(sr [oo 1 (.box 9 (tm 0)),oo 2 (.mov kF)] (sr [lA 5 9 1,oo 6 (.call 39 [tm 5]),mv 3 6] (sr [lA 7 9 1,oo 8 (.call 93 [tm 7]),mv 4 8] (sr [mv 9 3,oo 10 (.bin .eql (tm 9) (Kc 0)),mv 11 10,mF 12 3 11,oF 13 11 (.bin .eql (tm 12) (Kc 1)),mF 14 13 11,mT 15 4 14,oT 16 14 (.bin .leq (tm 15) (Kc 8)),oF 17 11 (.pick (tm 14) (tm 16) kF),oo 18 (.pick (tm 11) kT (tm 17)),mv 19 18,mF 20 3 19,oF 21 19 (.bin .eql (tm 20) (Kc 2)),mF 22 21 19,mT 23 4 22,oT 24 22 (.bin .leq (tm 23) (Kc 4)),oF 25 19 (.pick (tm 22) (tm 24) kF),oo 26 (.pick (tm 19) kT (tm 25)),mv 27 26,mF 28 3 27,oF 29 27 (.bin .eql (tm 28) (Kc 3)),mF 30 29 27,mT 31 4 30,oT 32 30 (.bin .leq (tm 31) (Kc 3)),oF 33 27 (.pick (tm 30) (tm 32) kF),oo 34 (.pick (tm 27) kT (tm 33)),mv 35 34,mF 36 3 35,oF 37 35 (.bin .eql (tm 36) (Kc 4)),mF 38 37 35,mT 39 4 38,oT 40 38 (.bin .leq (tm 39) (Kc 2)),oF 41 35 (.pick (tm 38) (tm 40) kF),oo 42 (.pick (tm 35) kT (tm 41)),mv 2 42] .ret))))
theorem l40:(Tryz.f40.body.bind (bt Tryz.prog 43 []))=some c40:=by kernel_rfl
def Lj:aV:=(sr [oo 3 (.box 9 (tm 1)),oo 4 (.mov (Kc 0))] (sr [lA 10 9 3,oo 11 (.call 171 [tm 10]),mv 5 11] (.seq (sr [mv 12 5,oo 13 (.bin .neq (tm 12) (Kc 0))] (.cond (tm 13) (sr [mv 14 5,mv 4 14] .ret) .skip)) (sr [lA 15 9 3,oo 16 (.call 173 [tm 15]),mv 6 16] (.seq (sr [oo 7 (.mov (Kc 0))] (.block 0 (.loop (.seq (sr [mv 17 7,mv 18 6,ln 19 18,oo 20 (.bin .lss (tm 17) (tm 19))] (.cond (tm 20) .skip (.exit 0))) (.seq (.block 1 (.seq (sr [mv 23 6,mv 24 7,ix 25 9 23 24,fa 26 0 25,ld 27 26,oo 28 (.bin .eql (tm 27) (Kc 1))] (.cond (tm 28) (rg [mv 29 0,mv 30 6,mv 31 7,ix 32 9 30 31,fa 33 1 32,lA 34 5 33,oo 35 (.call 174 [(tm 29),(tm 34)]),mv 5 35]) .skip)) (.seq (sr [mv 36 6,mv 37 7,ix 38 9 36 37,fa 39 0 38,ld 40 39,oo 41 (.bin .eql (tm 40) (Kc 2))] (.cond (tm 41) (sr [mv 43 0,mv 44 6,mv 45 7,ix 46 9 44 45,fa 47 6 46,ld 48 47,oo 49 (.call 17 [(tm 43),(tm 48)]),mv 42 49,oo 50 (.ext (tm 42) 0),oo 51 (.ext (tm 42) 1),⟨some 8,.alloc [S0,Z0,Z0],none,[]⟩,o0 (.store 3 (tm 8) (tm 50)),mv 9 51] (sr [mv 52 9,oo 53 (.not (tm 52))] (.cond (tm 53) (rg [oo 5 (.mov (Kc 4))]) (sr [mv 54 6,mv 55 7,ix 56 9 54 55,fa 57 7 56,ld 58 57,lA 59 3 8,oo 60 (.call 111 [tm 59]),oo 61 (.bin .gtr (tm 58) (tm 60))] (.cond (tm 61) (rg [oo 5 (.mov (Kc 1))]) .skip))))) .skip)) (sr [mv 62 5,oo 63 (.bin .neq (tm 62) (Kc 0))] (.cond (tm 63) (sr [mv 64 5,mv 4 64] .ret) .skip))))) (rg [mv 21 7,oo 22 (.bin .add (tm 21) (Kc 1)),mv 7 22])))))) (sr [oo 4 (.mov (Kc 0))] .ret))))))
theorem MA:(Tryz.f132.body.bind (bt Tryz.prog 65 []))=some Lj:=by kernel_rfl
def c36:aV:=(sr [oo 2 (.mov (Kc 0))] (.seq (sr [mv 9 0,ln 10 9,oo 11 (.bin .gtr (tm 10) (Kc 16))] (.cond (tm 11) (sr [oo 2 (.mov (Kc 2))] .ret) .skip)) (.seq (sr [oo 3 (.mov (Kc 0))] (.block 0 (.loop (.seq (sr [mv 12 3,mv 13 0,ln 14 13,oo 15 (.bin .lss (tm 12) (tm 14))] (.cond (tm 15) .skip (.exit 0))) (.seq (.block 1 (sr [mv 18 0,mv 19 3,ix 20 3 18 19,fa 21 0 20,ld 22 21,oo 23 (.call 87 [tm 22]),mv 4 23] (.seq (sr [mv 24 4,oo 25 (.not (tm 24)),mv 26 25,mF 27 0 26,mF 28 3 26,oF 29 26 (.idxL 3 (tm 27) (tm 28)),oF 30 26 (.offA 0 (tm 29)),oF 31 26 (.load 1 false (tm 30)),⟨some 32,.bin .eql (tm 31) (.const (.str ⟨#[112,111,114,116]⟩)),some (26,false),[]⟩,oo 33 (.pick (tm 26) kT (tm 32))] (.cond (tm 33) (sr [oo 2 (.mov (Kc 4))] .ret) .skip)) (.seq (sr [oo 5 (.mov (Kc 0))] (.block 2 (.loop (.seq (sr [mv 34 5,mv 35 3,oo 36 (.bin .lss (tm 34) (tm 35))] (.cond (tm 36) .skip (.exit 2))) (.seq (.block 3 (sr [mv 39 0,mv 40 5,ix 41 3 39 40,fa 42 0 41,ld 43 42,mv 44 0,mv 45 3,ix 46 3 44 45,fa 47 0 46,ld 48 47,oo 49 (.bin .eql (tm 43) (tm 48))] (.cond (tm 49) (sr [oo 2 (.mov (Kc 4))] .ret) .skip))) (rg [mv 37 5,oo 38 (.bin .add (tm 37) (Kc 1)),mv 5 38])))))) (sr [mv 50 0,mv 51 3,ix 52 3 50 51,lA 53 3 52,oo 54 (.call 88 [tm 53]),mv 6 54] (.seq (sr [mv 55 6,oo 56 (.not (tm 55))] (.cond (tm 56) (sr [oo 2 (.mov (Kc 1))] .ret) .skip)) (sr [oo 7 (.mov (Kc 0))] (.block 4 (.loop (.seq (sr [mv 57 7,mv 58 3,oo 59 (.bin .lss (tm 57) (tm 58))] (.cond (tm 59) .skip (.exit 4))) (.seq (.block 5 (sr [mv 62 0,mv 63 7,ix 64 3 62 63,lA 65 3 64,mv 66 0,mv 67 3,ix 68 3 66 67,lA 69 3 68,oo 70 (.call 89 [(tm 65),(tm 69)]),mv 8 70] (sr [mv 71 8] (.cond (tm 71) (sr [oo 2 (.mov (Kc 1))] .ret) .skip)))) (rg [mv 60 7,oo 61 (.bin .add (tm 60) (Kc 1)),mv 7 61])))))))))))) (rg [mv 16 3,oo 17 (.bin .add (tm 16) (Kc 1)),mv 3 17])))))) (sr [oo 2 (.mov (Kc 0))] .ret))))
theorem l36:(Tryz.f36.body.bind (bt Tryz.prog 72 []))=some c36:=by kernel_rfl
def c17:aV:=(sr [⟨some 4,.alloc [S0,Z0,Z0],none,[]⟩,oo 5 (.mov kF)] (.seq (sr [mv 7 1,⟨some 8,.bin .eql (tm 7) (.const (.str ⟨#[112,111,114,116]⟩)),none,[]⟩] (.cond (tm 8) (sr [oo 9 (.call 68 []),o0 (.store 3 (tm 4) (tm 9)),oo 5 (.mov kT)] .ret) .skip)) (.seq (sr [oo 6 (.mov (Kc 0))] (.block 0 (.loop (.seq (sr [mv 10 6,mv 11 0,ln 12 11,oo 13 (.bin .lss (tm 10) (tm 12))] (.cond (tm 13) .skip (.exit 0))) (.seq (.block 1 (sr [mv 16 0,mv 17 6,ix 18 3 16 17,fa 19 0 18,ld 20 19,mv 21 1,oo 22 (.bin .eql (tm 20) (tm 21))] (.cond (tm 22) (sr [mv 23 0,mv 24 6,ix 25 3 23 24,lA 26 3 25,o0 (.store 3 (tm 4) (tm 26)),oo 5 (.mov kT)] .ret) .skip))) (rg [mv 14 6,oo 15 (.bin .add (tm 14) (Kc 1)),mv 6 15])))))) (sr [⟨some 27,.build [S0,Z0,Z0] [],none,[]⟩,o0 (.store 3 (tm 4) (tm 27)),oo 5 (.mov kF)] .ret))))
theorem l17:(Tryz.f17.body.bind (bt Tryz.prog 28 []))=some c17:=by kernel_rfl
def c19:aV:=(sr [oo 3 (.box 3 (tm 0)),oo 4 (.box 10 (tm 1)),oo 6 (.alloc [Z0,Z0,Z0,Z0,Z0,Z0,Z0,Z0,Z0,Z0])] (sr [lA 8 3 3,lA 9 10 4,oo 10 (.call 18 [(tm 8),(tm 9)]),mv 7 10] (sr [fa 11 1 3,ld 12 11,oo 13 (.bin .quo (tm 12) (Kc 16)),fa 14 1 3,ld 15 14,oo 16 (.bin .quo (tm 15) (Kc 16)),oo 17 (.idxA 10 1 (tm 4) (tm 16)),ld 18 17,mv 19 2,mv 20 7,oo 21 (.bin .sub (tm 19) (tm 20)),lA 22 3 3,oo 23 (.call 69 [tm 22]),oo 24 (.bin .mul (tm 21) (tm 23)),oo 25 (.bin .add (tm 18) (tm 24)),oo 26 (.idxA 10 1 (tm 4) (tm 13)),o0 (.store 1 (tm 26) (tm 25))] (sr [lA 27 10 4,o0 (.store 10 (tm 6) (tm 27))] .ret))))
theorem l19:(Tryz.f19.body.bind (bt Tryz.prog 28 []))=some c19:=by kernel_rfl
def c18:aV:=(sr [oo 2 (.box 3 (tm 0)),oo 3 (.box 10 (tm 1)),oo 4 (.mov (Kc 0))] (sr [fa 5 1 2,ld 6 5,oo 7 (.bin .quo (tm 6) (Kc 16)),oo 8 (.idxA 10 1 (tm 3) (tm 7)),ld 9 8,lA 10 3 2,oo 11 (.call 69 [tm 10]),oo 12 (.bin .quo (tm 9) (tm 11)),fa 13 2 2,ld 14 13,oo 15 (.call 70 [tm 14]),oo 16 (.bin .rem (tm 12) (tm 15)),mv 4 16] .ret))
theorem l18:(Tryz.f18.body.bind (bt Tryz.prog 17 []))=some c18:=by kernel_rfl
def c39:aV:=(sr [oo 1 (.box 9 (tm 0)),oo 2 (.mov (Kc 0))] (sr [oo 3 (.mov (Kc 0))] (.seq (sr [oo 4 (.mov (Kc 0))] (.block 0 (.loop (.seq (sr [mv 5 4,fa 6 8 1,ld 7 6,ln 8 7,oo 9 (.bin .lss (tm 5) (tm 8))] (.cond (tm 9) .skip (.exit 0))) (.seq (.block 1 (rg [mv 12 3,fa 13 8 1,ld 14 13,mv 15 4,ix 16 9 14 15,lA 17 9 16,oo 18 (.call 39 [tm 17]),oo 19 (.maxI (tm 12) (tm 18)),mv 3 19])) (rg [mv 10 4,oo 11 (.bin .add (tm 10) (Kc 1)),mv 4 11])))))) (.seq (sr [fa 20 0 1,ld 21 20,oo 22 (.bin .eql (tm 21) (Kc 5))] (.cond (tm 22) (rg [mv 23 3,oo 24 (.bin .add (tm 23) (Kc 1)),mv 3 24]) .skip)) (sr [mv 25 3,mv 2 25] .ret)))))
theorem l39:(Tryz.f39.body.bind (bt Tryz.prog 26 []))=some c39:=by kernel_rfl
def c93:aV:=(sr [oo 1 (.box 9 (tm 0)),oo 2 (.mov (Kc 0))] (sr [oo 3 (.mov (Kc 0))] (.seq (sr [oo 4 (.mov (Kc 0))] (.block 0 (.loop (.seq (sr [mv 5 4,fa 6 8 1,ld 7 6,ln 8 7,oo 9 (.bin .lss (tm 5) (tm 8))] (.cond (tm 9) .skip (.exit 0))) (.seq (.block 1 (rg [mv 12 3,fa 13 8 1,ld 14 13,mv 15 4,ix 16 9 14 15,lA 17 9 16,oo 18 (.call 93 [tm 17]),oo 19 (.bin .add (tm 12) (tm 18)),mv 3 19])) (rg [mv 10 4,oo 11 (.bin .add (tm 10) (Kc 1)),mv 4 11])))))) (.seq (sr [fa 20 0 1,ld 21 20,oo 22 (.bin .eql (tm 21) (Kc 2))] (.cond (tm 22) (rg [mv 23 3,oo 24 (.bin .add (tm 23) (Kc 1)),mv 3 24]) .skip)) (sr [mv 25 3,mv 2 25] .ret)))))
theorem l93:(Tryz.f93.body.bind (bt Tryz.prog 26 []))=some c93:=by kernel_rfl
def Lw:aV:=(sr [oo 1 (.box 9 (tm 0)),oo 2 (.mov (Kc 0))] (sr [lA 3 9 1,oo 4 (.call 38 [tm 3]),lA 5 9 1,oo 6 (.call 188 [tm 5]),oo 7 (.call 187 [(tm 4),(tm 6)]),mv 2 7] .ret))
theorem MP:(Tryz.f171.body.bind (bt Tryz.prog 8 []))=some Lw:=by kernel_rfl
def Ly:aV:=(sr [oo 1 (.box 9 (tm 0)),oo 2 (.mov (.const .nil))] (sr [lA 5 9 1,⟨some 6,.buildS 39 9 1 [Z0,Z0,S0,Z0,Z0,.nil,S0,Z0,.nil] [(0,(tm 5))],none,[]⟩,mv 3 6] (.seq (sr [oo 4 (.mov (Kc 0))] (.block 0 (.loop (.seq (sr [mv 7 4,fa 8 8 1,ld 9 8,ln 10 9,oo 11 (.bin .lss (tm 7) (tm 10))] (.cond (tm 11) .skip (.exit 0))) (.seq (.block 1 (rg [mv 14 3,fa 15 8 1,ld 16 15,mv 17 4,ix 18 9 16 17,lA 19 9 18,oo 20 (.call 173 [tm 19]),oo 21 (.append 37 39 9 120 (tm 14) (tm 20)),mv 3 21])) (rg [mv 12 4,oo 13 (.bin .add (tm 12) (Kc 1)),mv 4 13])))))) (sr [mv 22 3,mv 2 22] .ret))))
theorem MR:(Tryz.f173.body.bind (bt Tryz.prog 23 []))=some Ly:=by kernel_rfl
def Lz:aV:=(sr [oo 3 (.box 5 (tm 1)),oo 4 (.mov (Kc 0))] (sr [lA 8 5 3,oo 9 (.call 190 [tm 8]),mv 5 9] (.seq (sr [oo 6 (.mov (Kc 0))] (.block 0 (.loop (.seq (sr [mv 10 6,mv 11 5,ln 12 11,oo 13 (.bin .lss (tm 10) (tm 12))] (.cond (tm 13) .skip (.exit 0))) (.seq (.block 1 (sr [mv 16 0,mv 17 5,mv 18 6,ix 19 5 17 18,lA 20 5 19,oo 21 (.call 191 [(tm 16),(tm 20)]),mv 7 21] (sr [mv 22 7,oo 23 (.bin .neq (tm 22) (Kc 0))] (.cond (tm 23) (sr [mv 24 7,mv 4 24] .ret) .skip)))) (rg [mv 14 6,oo 15 (.bin .add (tm 14) (Kc 1)),mv 6 15])))))) (sr [oo 4 (.mov (Kc 0))] .ret))))
theorem MS:(Tryz.f174.body.bind (bt Tryz.prog 25 []))=some Lz:=by kernel_rfl
def K9:aV:=(sr [oo 1 (.box 3 (tm 0)),oo 2 (.mov (Kc 0))] (sr [fa 3 2 1,ld 4 3,oo 5 (.call 70 [tm 4]),oo 6 (.bin .sub (tm 5) (Kc 1)),mv 2 6] .ret))
theorem Mq:(Tryz.f111.body.bind (bt Tryz.prog 7 []))=some K9:=by kernel_rfl
def c87:aV:=(sr [oo 2 (.mov kF)] (.seq (sr [oo 3 (.mov (Kc 0))] (.block 0 (.loop (.seq (sr [mv 6 3,mv 7 0,oo 8 (.lenS (tm 7)),oo 9 (.bin .lss (tm 6) (tm 8))] (.cond (tm 9) .skip (.exit 0))) (.seq (.block 1 (sr [mv 12 0,mv 13 3,oo 14 (.idxS (tm 12) (tm 13)),oo 15 (.bin .geq (tm 14) (.const (Ui 97))),mv 16 15,mT 17 0 16,mT 18 3 16,oT 19 16 (.idxS (tm 17) (tm 18)),oT 20 16 (.bin .leq (tm 19) (.const (Ui 122))),oo 21 (.pick (tm 16) (tm 20) kF),mv 4 21] (sr [mv 22 0,mv 23 3,oo 24 (.idxS (tm 22) (tm 23)),oo 25 (.bin .geq (tm 24) (.const (Ui 48))),mv 26 25,mT 27 0 26,mT 28 3 26,oT 29 26 (.idxS (tm 27) (tm 28)),oT 30 26 (.bin .leq (tm 29) (.const (Ui 57))),oo 31 (.pick (tm 26) (tm 30) kF),mv 32 31,mF 33 0 32,mF 34 3 32,oF 35 32 (.idxS (tm 33) (tm 34)),oF 36 32 (.bin .eql (tm 35) (.const (Ui 95))),oo 37 (.pick (tm 32) kT (tm 36)),mv 5 37] (sr [mv 38 4,oo 39 (.not (tm 38)),mv 40 39,mT 41 5 40,oT 42 40 (.not (tm 41)),mT 43 42 40,mF 44 3 43,oF 45 43 (.bin .eql (tm 44) (Kc 0)),oT 46 40 (.pick (tm 43) kT (tm 45)),oo 47 (.pick (tm 40) (tm 46) kF)] (.cond (tm 47) (sr [oo 2 (.mov kF)] .ret) .skip))))) (rg [mv 10 3,oo 11 (.bin .add (tm 10) (Kc 1)),mv 3 11])))))) (sr [mv 48 0,oo 49 (.lenS (tm 48)),oo 50 (.bin .geq (tm 49) (Kc 1)),mv 51 50,mT 52 0 51,oT 53 51 (.lenS (tm 52)),oT 54 51 (.bin .leq (tm 53) (Kc 24)),oo 55 (.pick (tm 51) (tm 54) kF),mv 2 55] .ret)))
theorem l87:(Tryz.f87.body.bind (bt Tryz.prog 56 []))=some c87:=by kernel_rfl
def c88:aV:=(sr [oo 1 (.box 3 (tm 0)),oo 2 (.mov kF)] (sr [fa 3 2 1,ld 4 3,oo 5 (.bin .geq (tm 4) (Kc 1)),mv 6 5,oT 7 6 (.offA 2 (tm 1)),oT 8 6 (.load 1 false (tm 7)),oT 9 6 (.bin .leq (tm 8) (Kc 16)),oo 10 (.pick (tm 6) (tm 9) kF),mv 11 10,oT 12 11 (.offA 1 (tm 1)),oT 13 11 (.load 1 false (tm 12)),oT 14 11 (.bin .geq (tm 13) (Kc 16)),oo 15 (.pick (tm 11) (tm 14) kF),mv 16 15,oT 17 16 (.offA 1 (tm 1)),oT 18 16 (.load 1 false (tm 17)),oT 19 16 (.bin .leq (tm 18) (Kc 143)),oo 20 (.pick (tm 16) (tm 19) kF),mv 21 20,oT 22 21 (.offA 1 (tm 1)),oT 23 21 (.load 1 false (tm 22)),oT 24 21 (.bin .rem (tm 23) (Kc 16)),oT 25 21 (.offA 2 (tm 1)),oT 26 21 (.load 1 false (tm 25)),oT 27 21 (.bin .add (tm 24) (tm 26)),oT 28 21 (.bin .leq (tm 27) (Kc 16)),oo 29 (.pick (tm 21) (tm 28) kF),mv 2 29] .ret))
theorem l88:(Tryz.f88.body.bind (bt Tryz.prog 30 []))=some c88:=by kernel_rfl
def c89:aV:=(sr [oo 2 (.box 3 (tm 0)),oo 3 (.box 3 (tm 1)),oo 4 (.mov kF)] (sr [fa 5 1 2,ld 6 5,fa 7 1 3,ld 8 7,fa 9 2 3,ld 10 9,oo 11 (.bin .add (tm 8) (tm 10)),oo 12 (.bin .lss (tm 6) (tm 11)),mv 13 12,oT 14 13 (.offA 1 (tm 3)),oT 15 13 (.load 1 false (tm 14)),oT 16 13 (.offA 1 (tm 2)),oT 17 13 (.load 1 false (tm 16)),oT 18 13 (.offA 2 (tm 2)),oT 19 13 (.load 1 false (tm 18)),oT 20 13 (.bin .add (tm 17) (tm 19)),oT 21 13 (.bin .lss (tm 15) (tm 20)),oo 22 (.pick (tm 13) (tm 21) kF),mv 4 22] .ret))
theorem l89:(Tryz.f89.body.bind (bt Tryz.prog 23 []))=some c89:=by kernel_rfl
def GJ:aV:=(sr [oo 3 (.box 1 (tm 1)),⟨some 4,.alloc [S0,Z0,Z0],none,[]⟩,oo 5 (.mov kF)] (.seq (sr [ld 7 3,oo 8 (.call 142 []),oo 9 (.fld 0 1 false (tm 8)),oo 10 (.bin .eql (tm 7) (tm 9))] (.cond (tm 10) (sr [oo 11 (.call 142 []),o0 (.store 3 (tm 4) (tm 11)),oo 5 (.mov kT)] .ret) .skip)) (sr [mv 12 0,oo 13 (.mkfn 144 [tm 3]),oo 14 (.call 143 [(tm 12),(tm 13)]),mv 6 14] (.seq (sr [mv 15 6,oo 16 (.bin .lss (tm 15) (Kc 0))] (.cond (tm 16) (sr [⟨some 17,.build [S0,Z0,Z0] [],none,[]⟩,o0 (.store 3 (tm 4) (tm 17)),oo 5 (.mov kF)] .ret) .skip)) (sr [mv 18 0,mv 19 6,ix 20 3 18 19,lA 21 3 20,o0 (.store 3 (tm 4) (tm 21)),oo 5 (.mov kT)] .ret)))))
theorem Mn:(Tryz.f107.body.bind (bt Tryz.prog 22 []))=some GJ:=by kernel_rfl
def K6:aV:=(sr [oo 2 (.box 3 (tm 0)),oo 3 (.box 10 (tm 1)),oo 4 (.mov (Kc 0))] (sr [fa 5 1 2,ld 6 5,oo 7 (.bin .quo (tm 6) (Kc 16)),oo 8 (.idxA 10 1 (tm 3) (tm 7)),ld 9 8,lA 10 3 2,oo 11 (.call 145 [tm 10]),oo 12 (.bin .shr (tm 9) (tm 11)),lA 13 3 2,oo 14 (.call 141 [tm 13]),oo 15 (.bin .and (tm 12) (tm 14)),mv 4 15] .ret))
theorem Mo:(Tryz.f108.body.bind (bt Tryz.prog 16 []))=some K6:=by kernel_rfl
def c68:aV:=(sr [⟨some 0,.alloc [S0,Z0,Z0],none,[]⟩] (sr [⟨some 1,.build [S0,Z0,Z0] [(0,1,(.const (.str ⟨#[112,111,114,116]⟩))),(1,1,(Kc 0)),(2,1,(Kc 16))],none,[]⟩,o0 (.store 3 (tm 0) (tm 1))] .ret))
theorem l68:(Tryz.f68.body.bind (bt Tryz.prog 2 []))=some c68:=by kernel_rfl
def c69:aV:=(sr [oo 1 (.box 3 (tm 0)),oo 2 (.mov (Kc 0))] (sr [fa 3 1 1,ld 4 3,oo 5 (.bin .rem (tm 4) (Kc 16)),oo 6 (.bin .sub (Kc 16) (tm 5)),fa 7 2 1,ld 8 7,oo 9 (.bin .sub (tm 6) (tm 8)),oo 10 (.call 70 [tm 9]),mv 2 10] .ret))
theorem l69:(Tryz.f69.body.bind (bt Tryz.prog 11 []))=some c69:=by kernel_rfl
def c70:aV:=(sr [oo 2 (.mov (Kc 0))] (sr [oo 3 (.mov (Kc 1))] (.seq (sr [oo 4 (.mov (Kc 0))] (.block 0 (.loop (.seq (sr [mv 5 4,mv 6 0,oo 7 (.bin .lss (tm 5) (tm 6))] (.cond (tm 7) .skip (.exit 0))) (.seq (.block 1 (rg [mv 10 3,oo 11 (.bin .mul (tm 10) (Kc 2)),mv 3 11])) (rg [mv 8 4,oo 9 (.bin .add (tm 8) (Kc 1)),mv 4 9])))))) (sr [mv 12 3,mv 2 12] .ret))))
theorem l70:(Tryz.f70.body.bind (bt Tryz.prog 13 []))=some c70:=by kernel_rfl
def LB:aV:=(sr [oo 2 (.box 2 (tm 0)),oo 4 (.mov (Kc 0))] (sr [lA 6 2 2,oo 7 (.call 199 [tm 6]),mv 5 7] (.seq (sr [mv 8 5,oo 9 (.bin .eql (tm 8) (Kc 0)),mv 10 9,mT 11 1 10,oT 12 10 (.not (tm 11)),oo 13 (.pick (tm 10) (tm 12) kF)] (.cond (tm 13) (sr [oo 4 (.mov (Kc 1))] .ret) .skip)) (sr [mv 14 5,mv 4 14] .ret))))
theorem MU:(Tryz.f187.body.bind (bt Tryz.prog 15 []))=some LB:=by kernel_rfl
def c38:aV:=(sr [oo 1 (.box 9 (tm 0)),oo 2 (.alloc [Z0,Z0])] (sr [oo 5 (.build [Z0,Z0] [(0,1,(Kc 1)),(1,1,(Kc 1))]),oo 3 (.alloc [Z0,Z0]),o0 (.store 2 (tm 3) (tm 5))] (.seq (sr [fa 6 0 1,ld 7 6,oo 8 (.bin .eql (tm 7) (Kc 1))] (.cond (tm 8) (rg [lA 9 2 3,fa 10 1 1,lA 11 5 10,oo 12 (.call 92 [tm 11]),oo 13 (.call 91 [(tm 9),(tm 12)]),o0 (.store 2 (tm 3) (tm 13))]) .skip)) (.seq (sr [oo 4 (.mov (Kc 0))] (.block 0 (.loop (.seq (sr [mv 14 4,fa 15 8 1,ld 16 15,ln 17 16,oo 18 (.bin .lss (tm 14) (tm 17))] (.cond (tm 18) .skip (.exit 0))) (.seq (.block 1 (rg [lA 21 2 3,fa 22 8 1,ld 23 22,mv 24 4,ix 25 9 23 24,lA 26 9 25,oo 27 (.call 38 [tm 26]),oo 28 (.call 91 [(tm 21),(tm 27)]),o0 (.store 2 (tm 3) (tm 28))])) (rg [mv 19 4,oo 20 (.bin .add (tm 19) (Kc 1)),mv 4 20])))))) (sr [lA 29 2 3,o0 (.store 2 (tm 2) (tm 29))] .ret)))))
theorem l38:(Tryz.f38.body.bind (bt Tryz.prog 30 []))=some c38:=by kernel_rfl
def LC:aV:=(sr [oo 1 (.box 9 (tm 0)),oo 2 (.mov kF)] (sr [fa 10 6 1,ld 11 10,oo 12 (.call 200 [tm 11]),mv 3 12] (sr [fa 13 1 1,lA 14 5 13,⟨some 15,.build [Z0,S0,Z0,Z0,.nil] [],none,[]⟩,oo 16 (.call 201 [(tm 14),(tm 15)]),mv 4 16] (.seq (.cut (rg [fa 17 6 1,ld 18 17,⟨some 19,.bin .eql (tm 18) (.const S0),none,[]⟩,mv 20 19,oT 21 20 (.offA 7 (tm 1)),oT 22 20 (.load 1 false (tm 21)),oT 23 20 (.bin .eql (tm 22) (Kc 0)),oo 24 (.pick (tm 20) (tm 23) kF),mv 5 24])) (sr [oo 6 (.mov (Kc 0))] (sr [oo 7 (.mov kF)] (.seq (sr [fa 25 0 1,ld 26 25] (.cut (.block 0 (sr [oo 28 (.bin .eql (tm 26) (Kc 1)),mv 27 28] (.cond (tm 27) (rg [fa 29 1 1,lA 30 5 29,oo 31 (.call 202 [tm 30]),mv 32 31,mT 33 5 32,oo 34 (.pick (tm 32) (tm 33) kF),mv 7 34]) (sr [oo 36 (.bin .eql (tm 26) (Kc 2)),mv 35 36] (.cond (tm 35) (rg [mv 37 3,mv 38 37,mT 39 4 38,oo 40 (.pick (tm 38) (tm 39) kF),mv 41 40,oT 42 41 (.offA 7 (tm 1)),oT 43 41 (.load 1 false (tm 42)),oT 44 41 (.bin .geq (tm 43) (Kc 0)),oo 45 (.pick (tm 41) (tm 44) kF),mv 46 45,oT 47 46 (.offA 7 (tm 1)),oT 48 46 (.load 1 false (tm 47)),oT 49 46 (.bin .leq (tm 48) (Kc 65535)),oo 50 (.pick (tm 46) (tm 49) kF),mv 7 50]) (.seq (sr [oo 52 (.bin .eql (tm 26) (Kc 3)),mv 51 52] (.cond (tm 51) .skip (rg [oo 53 (.bin .eql (tm 26) (Kc 4)),mv 51 53]))) (.cond (tm 51) (sr [mv 54 4,mv 55 54,mT 56 5 55,oo 57 (.pick (tm 55) (tm 56) kF),mv 7 57] (rg [oo 6 (.mov (Kc 2))])) (sr [oo 59 (.bin .eql (tm 26) (Kc 5)),mv 58 59] (.cond (tm 58) (sr [mv 60 4,mv 61 60,mT 62 5 61,oo 63 (.pick (tm 61) (tm 62) kF),mv 7 63] (rg [oo 6 (.mov (Kc 1))])) .skip))))))))))) (.seq (sr [mv 64 7,oo 65 (.not (tm 64)),mv 66 65,oF 67 66 (.offA 8 (tm 1)),oF 68 66 (.load 1 false (tm 67)),oF 69 66 (.len (tm 68)),mF 70 6 66,oF 71 66 (.bin .neq (tm 69) (tm 70)),oo 72 (.pick (tm 66) kT (tm 71))] (.cond (tm 72) (sr [oo 2 (.mov kF)] .ret) .skip)) (.seq (sr [oo 8 (.mov (Kc 0))] (.block 1 (.loop (.seq (sr [mv 73 8,mv 74 6,oo 75 (.bin .lss (tm 73) (tm 74))] (.cond (tm 75) .skip (.exit 1))) (.seq (.block 2 (sr [fa 78 8 1,ld 79 78,mv 80 8,ix 81 9 79 80,lA 82 9 81,oo 83 (.call 188 [tm 82]),mv 9 83] (sr [mv 84 9,oo 85 (.not (tm 84))] (.cond (tm 85) (sr [oo 2 (.mov kF)] .ret) .skip)))) (rg [mv 76 8,oo 77 (.bin .add (tm 76) (Kc 1)),mv 8 77])))))) (sr [oo 2 (.mov kT)] .ret))))))))))
theorem MV:(Tryz.f188.body.bind (bt Tryz.prog 86 [6000003,4000000]))=some LC:=by kernel_rfl
def LF:aV:=(sr [oo 1 (.box 5 (tm 0)),oo 2 (.mov (.const .nil))] (sr [lA 5 5 1,⟨some 6,.buildS 36 5 1 [Z0,S0,Z0,Z0,.nil] [(0,(tm 5))],none,[]⟩,mv 3 6] (.seq (sr [oo 4 (.mov (Kc 0))] (.block 0 (.loop (.seq (sr [mv 7 4,fa 8 4 1,ld 9 8,ln 10 9,oo 11 (.bin .lss (tm 7) (tm 10))] (.cond (tm 11) .skip (.exit 0))) (.seq (.block 1 (rg [mv 14 3,fa 15 4 1,ld 16 15,mv 17 4,ix 18 5 16 17,lA 19 5 18,oo 20 (.call 190 [tm 19]),oo 21 (.append 34 36 5 64 (tm 14) (tm 20)),mv 3 21])) (rg [mv 12 4,oo 13 (.bin .add (tm 12) (Kc 1)),mv 4 13])))))) (sr [mv 22 3,mv 2 22] .ret))))
theorem MX:(Tryz.f190.body.bind (bt Tryz.prog 23 []))=some LF:=by kernel_rfl
def LG:aV:=(sr [oo 3 (.box 5 (tm 1)),oo 4 (.mov (Kc 0))] (.seq (sr [fa 8 0 3,ld 9 8,oo 10 (.bin .neq (tm 9) (Kc 3)),mv 11 10,oT 12 11 (.offA 0 (tm 3)),oT 13 11 (.load 1 false (tm 12)),oT 14 11 (.bin .neq (tm 13) (Kc 4)),oo 15 (.pick (tm 11) (tm 14) kF),mv 16 15,oT 17 16 (.offA 0 (tm 3)),oT 18 16 (.load 1 false (tm 17)),oT 19 16 (.bin .neq (tm 18) (Kc 5)),oo 20 (.pick (tm 16) (tm 19) kF)] (.cond (tm 20) (sr [oo 4 (.mov (Kc 0))] .ret) .skip)) (sr [mv 22 0,fa 23 1 3,ld 24 23,oo 25 (.call 17 [(tm 22),(tm 24)]),mv 21 25,oo 26 (.ext (tm 21) 0),oo 27 (.ext (tm 21) 1),⟨some 5,.alloc [S0,Z0,Z0],none,[]⟩,o0 (.store 3 (tm 5) (tm 26)),mv 6 27] (.seq (sr [mv 28 6,oo 29 (.not (tm 28))] (.cond (tm 29) (sr [oo 4 (.mov (Kc 4))] .ret) .skip)) (sr [fa 30 2 3,ld 31 30,mv 7 31] (.seq (sr [fa 32 0 3,ld 33 32,oo 34 (.bin .eql (tm 33) (Kc 5))] (.cond (tm 34) (rg [fa 35 3 3,ld 36 35,mv 7 36]) .skip)) (.seq (sr [mv 37 7,lA 38 3 5,oo 39 (.call 111 [tm 38]),oo 40 (.bin .gtr (tm 37) (tm 39)),mv 41 40,oF 42 41 (.offA 0 (tm 3)),oF 43 41 (.load 1 false (tm 42)),oF 44 41 (.bin .eql (tm 43) (Kc 4)),mF 45 44 41,oT 46 45 (.offA 3 (tm 3)),oT 47 45 (.load 1 false (tm 46)),oT 48 45 (.offA 2 (tm 5)),oT 49 45 (.load 1 false (tm 48)),oT 50 45 (.bin .gtr (tm 47) (tm 49)),oF 51 41 (.pick (tm 45) (tm 50) kF),oo 52 (.pick (tm 41) kT (tm 51))] (.cond (tm 52) (sr [oo 4 (.mov (Kc 1))] .ret) .skip)) (sr [oo 4 (.mov (Kc 0))] .ret))))))))
theorem MY:(Tryz.f191.body.bind (bt Tryz.prog 53 []))=some LG:=by kernel_rfl
def Lh:aV:=(sr [oo 4 (.mov (Kc 0))] (sr [mv 7 0,oo 8 (.call 156 [tm 7]),mv 5 8] (sr [mv 9 1,oo 10 (.call 156 [tm 9]),mv 6 10] (.seq (sr [mv 11 5] (.cond (tm 11) (.seq (sr [mv 12 6] (.cond (tm 12) (sr [oo 4 (.mov (Kc 0))] .ret) .skip)) (sr [oo 4 (.mov (.const (.int .i64 (-1))))] .ret)) .skip)) (.seq (sr [mv 13 6] (.cond (tm 13) (sr [oo 4 (.mov (Kc 1))] .ret) .skip)) (.seq (sr [mv 14 0,mv 15 1,oo 16 (.bin .lss (tm 14) (tm 15))] (.cond (tm 16) (sr [oo 4 (.mov (.const (.int .i64 (-1))))] .ret) .skip)) (.seq (sr [mv 17 0,mv 18 1,oo 19 (.bin .gtr (tm 17) (tm 18))] (.cond (tm 19) (sr [oo 4 (.mov (Kc 1))] .ret) .skip)) (sr [oo 4 (.mov (Kc 0))] .ret))))))))
theorem My:(Tryz.f123.body.bind (bt Tryz.prog 20 []))=some Lh:=by kernel_rfl
def Lr:aV:=(sr [⟨some 0,.alloc [S0,Z0,Z0],none,[]⟩] (sr [⟨some 1,.build [S0,Z0,Z0] [(0,1,(.const (.str ⟨#[112,111,114,116]⟩))),(2,1,(Kc 16))],none,[]⟩,o0 (.store 3 (tm 0) (tm 1))] .ret))
theorem MJ:(Tryz.f142.body.bind (bt Tryz.prog 2 []))=some Lr:=by kernel_rfl
def Ls:aV:=(sr [oo 4 (.mov (Kc 0))] (.seq (sr [mv 6 0,ln 7 6,oo 8 (.mov (Kc 0))] (.block 0 (.loop (sr [oo 9 (.bin .lss (tm 8) (tm 7))] (.seq (.cond (tm 9) .skip (.exit 0)) (.seq (.block 1 (sr [mv 10 8,mv 5 10] (sr [mv 11 1,mv 12 0,mv 13 5,ix 14 3 12 13,lA 15 3 14,oo 16 (.bY (tm 11) [tm 15])] (.cond (tm 16) (sr [mv 17 5,mv 4 17] .ret) .skip)))) (rg [oo 18 (.bin .add (tm 8) (Kc 1)),mv 8 18]))))))) (sr [oo 4 (.mov (.const (.int .i64 (-1))))] .ret)))
theorem MK:(Tryz.f143.body.bind (bt Tryz.prog 19 []))=some Ls:=by kernel_rfl
def Lt:aV:=(sr [oo 2 (.box 3 (tm 0)),oo 3 (.mov kF)] (sr [fa 4 0 2,ld 5 4,ld 6 1,oo 7 (.bin .eql (tm 5) (tm 6)),mv 3 7] .ret))
theorem ML:(Tryz.f144.body.bind (bt Tryz.prog 8 []))=some Lt:=by kernel_rfl
def Lq:aV:=(sr [oo 1 (.box 3 (tm 0)),oo 2 (.mov (Kc 0))] (sr [fa 3 2 1,ld 4 3,oo 5 (.bin .shl (Kc 1) (tm 4)),oo 6 (.bin .sub (tm 5) (Kc 1)),mv 2 6] .ret))
theorem MI:(Tryz.f141.body.bind (bt Tryz.prog 7 []))=some Lq:=by kernel_rfl
def Lp:aV:=(sr [oo 3 (.box 3 (tm 0)),oo 4 (.box 10 (tm 1)),oo 6 (.alloc [Z0,Z0,Z0,Z0,Z0,Z0,Z0,Z0,Z0,Z0])] (sr [fa 8 1 3,ld 9 8,oo 10 (.bin .quo (tm 9) (Kc 16)),oo 11 (.idxA 10 1 (tm 4) (tm 10)),mv 7 11] (sr [mv 12 7,mv 13 7,oo 14 (.nilck (tm 13)),ld 15 14,lA 16 3 3,oo 17 (.call 141 [tm 16]),lA 18 3 3,oo 19 (.call 145 [tm 18]),oo 20 (.bin .shl (tm 17) (tm 19)),oo 21 (.bin .andNot (tm 15) (tm 20)),mv 22 2,lA 23 3 3,oo 24 (.call 145 [tm 23]),oo 25 (.bin .shl (tm 22) (tm 24)),oo 26 (.bin .or (tm 21) (tm 25)),oo 27 (.nilck (tm 12)),o0 (.store 1 (tm 27) (tm 26))] (sr [lA 28 10 4,o0 (.store 10 (tm 6) (tm 28))] .ret))))
theorem MH:(Tryz.f140.body.bind (bt Tryz.prog 29 []))=some Lp:=by kernel_rfl
def Lu:aV:=(sr [oo 1 (.box 3 (tm 0)),oo 2 (.mov (Kc 0))] (sr [fa 3 1 1,ld 4 3,oo 5 (.bin .rem (tm 4) (Kc 16)),oo 6 (.bin .sub (Kc 16) (tm 5)),fa 7 2 1,ld 8 7,oo 9 (.bin .sub (tm 6) (tm 8)),mv 2 9] .ret))
theorem MN:(Tryz.f145.body.bind (bt Tryz.prog 10 []))=some Lu:=by kernel_rfl
def LH:aV:=(sr [oo 1 (.box 2 (tm 0)),oo 2 (.mov (Kc 0))] (.seq (sr [fa 3 0 1,ld 4 3,oo 5 (.bin .gtr (tm 4) (Kc 200)),mv 6 5,oF 7 6 (.offA 1 (tm 1)),oF 8 6 (.load 1 false (tm 7)),oF 9 6 (.bin .gtr (tm 8) (Kc 20)),oo 10 (.pick (tm 6) kT (tm 9))] (.cond (tm 10) (sr [oo 2 (.mov (Kc 2))] .ret) .skip)) (sr [oo 2 (.mov (Kc 0))] .ret)))
theorem MZ:(Tryz.f199.body.bind (bt Tryz.prog 11 []))=some LH:=by kernel_rfl
def c91:aV:=(sr [oo 2 (.box 2 (tm 0)),oo 3 (.box 2 (tm 1)),oo 4 (.alloc [Z0,Z0])] (sr [fa 5 0 2,ld 6 5,fa 7 0 3,ld 8 7,oo 9 (.bin .add (tm 6) (tm 8)),fa 10 1 2,ld 11 10,fa 12 1 3,ld 13 12,oo 14 (.bin .add (tm 13) (Kc 1)),oo 15 (.maxI (tm 11) (tm 14)),oo 16 (.build [Z0,Z0] [(0,1,(tm 9)),(1,1,(tm 15))]),o0 (.store 2 (tm 4) (tm 16))] .ret))
theorem l91:(Tryz.f91.body.bind (bt Tryz.prog 17 []))=some c91:=by kernel_rfl
def c92:aV:=(sr [oo 1 (.box 5 (tm 0)),oo 2 (.alloc [Z0,Z0])] (sr [oo 5 (.build [Z0,Z0] [(0,1,(Kc 1)),(1,1,(Kc 1))]),oo 3 (.alloc [Z0,Z0]),o0 (.store 2 (tm 3) (tm 5))] (.seq (sr [oo 4 (.mov (Kc 0))] (.block 0 (.loop (.seq (sr [mv 6 4,fa 7 4 1,ld 8 7,ln 9 8,oo 10 (.bin .lss (tm 6) (tm 9))] (.cond (tm 10) .skip (.exit 0))) (.seq (.block 1 (rg [lA 13 2 3,fa 14 4 1,ld 15 14,mv 16 4,ix 17 5 15 16,lA 18 5 17,oo 19 (.call 92 [tm 18]),oo 20 (.call 91 [(tm 13),(tm 19)]),o0 (.store 2 (tm 3) (tm 20))])) (rg [mv 11 4,oo 12 (.bin .add (tm 11) (Kc 1)),mv 4 12])))))) (sr [lA 21 2 3,o0 (.store 2 (tm 2) (tm 21))] .ret))))
theorem l92:(Tryz.f92.body.bind (bt Tryz.prog 22 []))=some c92:=by kernel_rfl
def LI:aV:=(sr [oo 2 (.mov kF)] (sr [mv 4 0,oo 5 (.call 204 [tm 4]),mv 3 5] (sr [mv 6 3,mv 7 6,mF 8 0 7,⟨some 9,.bin .eql (tm 8) (.const (.str ⟨#[112,111,114,116]⟩)),some (7,false),[]⟩,oo 10 (.pick (tm 7) kT (tm 9)),mv 2 10] .ret)))
theorem M0:(Tryz.f200.body.bind (bt Tryz.prog 11 []))=some LI:=by kernel_rfl
def LJ:aV:=(sr [oo 2 (.box 5 (tm 0)),oo 3 (.box 5 (tm 1)),oo 4 (.mov kF)] (.seq (sr [fa 7 0 2,ld 8 7,fa 9 0 3,ld 10 9,oo 11 (.bin .neq (tm 8) (tm 10)),mv 12 11,oF 13 12 (.offA 1 (tm 2)),oF 14 12 (.load 1 false (tm 13)),oF 15 12 (.offA 1 (tm 3)),oF 16 12 (.load 1 false (tm 15)),oF 17 12 (.bin .neq (tm 14) (tm 16)),oo 18 (.pick (tm 12) kT (tm 17)),mv 19 18,oF 20 19 (.offA 2 (tm 2)),oF 21 19 (.load 1 false (tm 20)),oF 22 19 (.offA 2 (tm 3)),oF 23 19 (.load 1 false (tm 22)),oF 24 19 (.bin .neq (tm 21) (tm 23)),oo 25 (.pick (tm 19) kT (tm 24)),mv 26 25,oF 27 26 (.offA 3 (tm 2)),oF 28 26 (.load 1 false (tm 27)),oF 29 26 (.offA 3 (tm 3)),oF 30 26 (.load 1 false (tm 29)),oF 31 26 (.bin .neq (tm 28) (tm 30)),oo 32 (.pick (tm 26) kT (tm 31)),mv 33 32,oF 34 33 (.offA 4 (tm 2)),oF 35 33 (.load 1 false (tm 34)),oF 36 33 (.len (tm 35)),oF 37 33 (.offA 4 (tm 3)),oF 38 33 (.load 1 false (tm 37)),oF 39 33 (.len (tm 38)),oF 40 33 (.bin .neq (tm 36) (tm 39)),oo 41 (.pick (tm 33) kT (tm 40))] (.cond (tm 41) (sr [oo 4 (.mov kF)] .ret) .skip)) (.seq (sr [oo 5 (.mov (Kc 0))] (.block 0 (.loop (.seq (sr [mv 42 5,fa 43 4 2,ld 44 43,ln 45 44,oo 46 (.bin .lss (tm 42) (tm 45))] (.cond (tm 46) .skip (.exit 0))) (.seq (.block 1 (sr [fa 49 4 2,ld 50 49,mv 51 5,ix 52 5 50 51,lA 53 5 52,fa 54 4 3,ld 55 54,mv 56 5,ix 57 5 55 56,lA 58 5 57,oo 59 (.call 201 [(tm 53),(tm 58)]),mv 6 59] (sr [mv 60 6,oo 61 (.not (tm 60))] (.cond (tm 61) (sr [oo 4 (.mov kF)] .ret) .skip)))) (rg [mv 47 5,oo 48 (.bin .add (tm 47) (Kc 1)),mv 5 48])))))) (sr [oo 4 (.mov kT)] .ret))))
theorem M5:(Tryz.f201.body.bind (bt Tryz.prog 62 []))=some LJ:=by kernel_rfl
def LK:aV:=(sr [oo 1 (.box 5 (tm 0)),oo 2 (.mov kF)] (sr [fa 10 1 1,ld 11 10,oo 12 (.call 200 [tm 11]),mv 3 12] (.seq (.cut (rg [fa 13 2 1,ld 14 13,oo 15 (.bin .geq (tm 14) (Kc 0)),mv 16 15,oT 17 16 (.offA 2 (tm 1)),oT 18 16 (.load 1 false (tm 17)),oT 19 16 (.bin .leq (tm 18) (Kc 65535)),oo 20 (.pick (tm 16) (tm 19) kF),mv 4 20])) (.seq (.cut (rg [fa 21 1 1,ld 22 21,⟨some 23,.bin .eql (tm 22) (.const S0),none,[]⟩,mv 24 23,oT 25 24 (.offA 2 (tm 1)),oT 26 24 (.load 1 false (tm 25)),oT 27 24 (.bin .eql (tm 26) (Kc 0)),oo 28 (.pick (tm 24) (tm 27) kF),mv 29 28,oT 30 29 (.offA 3 (tm 1)),oT 31 29 (.load 1 false (tm 30)),oT 32 29 (.bin .eql (tm 31) (Kc 0)),oo 33 (.pick (tm 29) (tm 32) kF),mv 5 33])) (sr [oo 6 (.mov (Kc 0))] (sr [oo 7 (.mov kF)] (.seq (sr [fa 34 0 1,ld 35 34] (.cut (.block 0 (.seq (sr [oo 37 (.bin .eql (tm 35) (Kc 1)),mv 36 37] (.cond (tm 36) .skip (rg [oo 38 (.bin .eql (tm 35) (Kc 2)),mv 36 38]))) (.cond (tm 36) (rg [mv 39 5,mv 7 39]) (sr [oo 41 (.bin .eql (tm 35) (Kc 3)),mv 40 41] (.cond (tm 40) (rg [mv 42 3,mv 43 42,mT 44 4 43,oo 45 (.pick (tm 43) (tm 44) kF),mv 46 45,oT 47 46 (.offA 3 (tm 1)),oT 48 46 (.load 1 false (tm 47)),oT 49 46 (.bin .eql (tm 48) (Kc 0)),oo 50 (.pick (tm 46) (tm 49) kF),mv 7 50]) (sr [oo 52 (.bin .eql (tm 35) (Kc 4)),mv 51 52] (.cond (tm 51) (rg [mv 53 3,mv 54 53,mT 55 4 54,oo 56 (.pick (tm 54) (tm 55) kF),mv 57 56,oT 58 57 (.offA 3 (tm 1)),oT 59 57 (.load 1 false (tm 58)),oT 60 57 (.bin .geq (tm 59) (Kc 0)),oo 61 (.pick (tm 57) (tm 60) kF),mv 62 61,oT 63 62 (.offA 3 (tm 1)),oT 64 62 (.load 1 false (tm 63)),oT 65 62 (.bin .leq (tm 64) (Kc 16)),oo 66 (.pick (tm 62) (tm 65) kF),mv 7 66]) (sr [oo 68 (.bin .eql (tm 35) (Kc 5)),mv 67 68] (.cond (tm 67) (rg [mv 69 3,mv 70 69,oT 71 70 (.offA 2 (tm 1)),oT 72 70 (.load 1 false (tm 71)),oT 73 70 (.bin .geq (tm 72) (Kc 0)),oo 74 (.pick (tm 70) (tm 73) kF),mv 75 74,oT 76 75 (.offA 2 (tm 1)),oT 77 75 (.load 1 false (tm 76)),oT 78 75 (.offA 3 (tm 1)),oT 79 75 (.load 1 false (tm 78)),oT 80 75 (.bin .leq (tm 77) (tm 79)),oo 81 (.pick (tm 75) (tm 80) kF),mv 82 81,oT 83 82 (.offA 3 (tm 1)),oT 84 82 (.load 1 false (tm 83)),oT 85 82 (.bin .leq (tm 84) (Kc 65535)),oo 86 (.pick (tm 82) (tm 85) kF),mv 7 86]) (sr [oo 88 (.bin .eql (tm 35) (Kc 6)),mv 87 88] (.cond (tm 87) (sr [mv 89 5,mv 7 89] (rg [oo 6 (.mov (Kc 1))])) (.seq (sr [oo 91 (.bin .eql (tm 35) (Kc 7)),mv 90 91] (.cond (tm 90) .skip (rg [oo 92 (.bin .eql (tm 35) (Kc 8)),mv 90 92]))) (.cond (tm 90) (sr [mv 93 5,mv 7 93] (rg [oo 6 (.mov (Kc 2))])) (sr [oo 95 (.bin .eql (tm 35) (Kc 9)),mv 94 95] (.cond (tm 94) (rg [fa 96 1 1,ld 97 96,⟨some 98,.bin .eql (tm 97) (.const S0),none,[]⟩,mv 99 98,oT 100 99 (.offA 2 (tm 1)),oT 101 99 (.load 1 false (tm 100)),oT 102 99 (.bin .geq (tm 101) (Kc 0)),oo 103 (.pick (tm 99) (tm 102) kF),mv 104 103,oT 105 104 (.offA 2 (tm 1)),oT 106 104 (.load 1 false (tm 105)),oT 107 104 (.offA 3 (tm 1)),oT 108 104 (.load 1 false (tm 107)),oT 109 104 (.bin .lss (tm 106) (tm 108)),oo 110 (.pick (tm 104) (tm 109) kF),mv 111 110,oT 112 111 (.offA 3 (tm 1)),oT 113 111 (.load 1 false (tm 112)),oT 114 111 (.bin .leq (tm 113) (Kc 1073741824)),oo 115 (.pick (tm 111) (tm 114) kF),mv 7 115]) .skip))))))))))))))))) (.seq (sr [mv 116 7,oo 117 (.not (tm 116)),mv 118 117,oF 119 118 (.offA 4 (tm 1)),oF 120 118 (.load 1 false (tm 119)),oF 121 118 (.len (tm 120)),mF 122 6 118,oF 123 118 (.bin .neq (tm 121) (tm 122)),oo 124 (.pick (tm 118) kT (tm 123))] (.cond (tm 124) (sr [oo 2 (.mov kF)] .ret) .skip)) (.seq (sr [oo 8 (.mov (Kc 0))] (.block 1 (.loop (.seq (sr [mv 125 8,mv 126 6,oo 127 (.bin .lss (tm 125) (tm 126))] (.cond (tm 127) .skip (.exit 1))) (.seq (.block 2 (sr [fa 130 4 1,ld 131 130,mv 132 8,ix 133 5 131 132,lA 134 5 133,oo 135 (.call 202 [tm 134]),mv 9 135] (sr [mv 136 9,oo 137 (.not (tm 136))] (.cond (tm 137) (sr [oo 2 (.mov kF)] .ret) .skip)))) (rg [mv 128 8,oo 129 (.bin .add (tm 128) (Kc 1)),mv 8 129])))))) (sr [oo 2 (.mov kT)] .ret))))))))))
theorem M6:(Tryz.f202.body.bind (bt Tryz.prog 138 [6000002,6000003,4000000]))=some LK:=by kernel_rfl
def Lv:aV:=(sr [oo 2 (.mov kF)] (sr [mv 3 0,mv 4 0,oo 5 (.bin .neq (tm 3) (tm 4)),mv 2 5] .ret))
theorem MO:(Tryz.f156.body.bind (bt Tryz.prog 6 []))=some Lv:=by kernel_rfl
def LM:aV:=(sr [oo 2 (.mov kF)] (sr [mv 3 0,oo 4 (.call 206 [tm 3]),mv 2 4] .ret))
theorem M8:(Tryz.f204.body.bind (bt Tryz.prog 5 []))=some LM:=by kernel_rfl
def LN:aV:=(sr [oo 2 (.mov kF)] (.seq (sr [mv 5 0,oo 6 (.lenS (tm 5)),oo 7 (.bin .eql (tm 6) (Kc 0)),mv 8 7,mF 9 0 8,oF 10 8 (.lenS (tm 9)),oF 11 8 (.bin .gtr (tm 10) (Kc 24)),oo 12 (.pick (tm 8) kT (tm 11))] (.cond (tm 12) (sr [oo 2 (.mov kF)] .ret) .skip)) (sr [mv 13 0,oo 14 (.idxS (tm 13) (Kc 0)),oo 15 (.call 208 [tm 14]),mv 3 15] (sr [mv 16 0,oo 17 (.call 209 [tm 16]),mv 4 17] (sr [mv 18 3,mv 19 18,mT 20 0 19,oT 21 19 (.call 210 [tm 20]),mT 22 0 19,oT 23 19 (.lenS (tm 22)),oT 24 19 (.bin .eql (tm 21) (tm 23)),oo 25 (.pick (tm 19) (tm 24) kF),mv 26 25,mT 27 4 26,oT 28 26 (.not (tm 27)),oo 29 (.pick (tm 26) (tm 28) kF),mv 2 29] .ret)))))
theorem M9:(Tryz.f206.body.bind (bt Tryz.prog 30 []))=some LN:=by kernel_rfl
def LO:aV:=(sr [oo 2 (.mov kF)] (sr [mv 3 0,oo 4 (.bin .geq (tm 3) (.const (Ui 97))),mv 5 4,mT 6 0 5,oT 7 5 (.bin .leq (tm 6) (.const (Ui 122))),oo 8 (.pick (tm 5) (tm 7) kF),mv 2 8] .ret))
theorem Na:(Tryz.f208.body.bind (bt Tryz.prog 9 []))=some LO:=by kernel_rfl
def LP:aV:=(sr [oo 2 (.mov kF)] (sr [oo 5 (.call 211 []),mv 3 5] (.seq (sr [oo 4 (.mov (Kc 0))] (.block 0 (.loop (.seq (sr [mv 6 4,mv 7 3,ln 8 7,oo 9 (.bin .lss (tm 6) (tm 8))] (.cond (tm 9) .skip (.exit 0))) (.seq (.block 1 (sr [mv 12 3,mv 13 4,ix 14 1 12 13,ld 15 14,mv 16 0,oo 17 (.bin .eql (tm 15) (tm 16))] (.cond (tm 17) (sr [oo 2 (.mov kT)] .ret) .skip))) (rg [mv 10 4,oo 11 (.bin .add (tm 10) (Kc 1)),mv 4 11])))))) (sr [oo 2 (.mov kF)] .ret))))
theorem Nb:(Tryz.f209.body.bind (bt Tryz.prog 18 []))=some LP:=by kernel_rfl
def LQ:aV:=(sr [oo 2 (.mov (Kc 0))] (sr [oo 3 (.mov (Kc 0))] (.seq (.block 0 (.loop (.seq (sr [mv 5 3,mv 6 0,oo 7 (.lenS (tm 6)),oo 8 (.bin .lss (tm 5) (tm 7))] (.cond (tm 8) .skip (.exit 0))) (.block 1 (sr [mv 9 0,mv 10 3,oo 11 (.idxS (tm 9) (tm 10)),oo 12 (.call 212 [tm 11]),mv 4 12] (.seq (sr [mv 13 4,oo 14 (.not (tm 13))] (.cond (tm 14) (.exit 0) .skip)) (rg [mv 15 3,oo 16 (.bin .add (tm 15) (Kc 1)),mv 3 16]))))))) (sr [mv 17 3,mv 2 17] .ret))))
theorem Nc:(Tryz.f210.body.bind (bt Tryz.prog 18 []))=some LQ:=by kernel_rfl
def LR:aV:=(sr [oo 0 (.mov (.const .nil))] (sr [⟨some 1,.buildS 9 1 49 [S0] [(0,(.const (.str ⟨#[97,110,100]⟩))),(1,(.const (.str ⟨#[97,110,121]⟩))),(2,(.const (.str ⟨#[97,116]⟩))),(3,(.const (.str ⟨#[98,97,99,107]⟩))),(4,(.const (.str ⟨#[98,111,120]⟩))),(5,(.const (.str ⟨#[98,117,114,115,116]⟩))),(6,(.const (.str ⟨#[98,121]⟩))),(7,(.const (.str ⟨#[99,97,112,97,99,105,116,121]⟩))),(8,(.const (.str ⟨#[99,101,105,108,105,110,103]⟩))),(9,(.const (.str ⟨#[99,104,101,99,107]⟩))),(10,(.const (.str ⟨#[99,111,110,116,114,97,99,116]⟩))),(11,(.const (.str ⟨#[99,111,117,110,116]⟩))),(12,(.const (.str ⟨#[100,101,109,97,110,100]⟩))),(13,(.const (.str ⟨#[100,114,111,112]⟩))),(14,(.const (.str ⟨#[101,97,99,104]⟩))),(15,(.const (.str ⟨#[101,100,103,101]⟩))),(16,(.const (.str ⟨#[101,110,116,114,105,101,115]⟩))),(17,(.const (.str ⟨#[102,97,108,115,101]⟩))),(18,(.const (.str ⟨#[102,105,101,108,100]⟩))),(19,(.const (.str ⟨#[102,108,111,111,114]⟩))),(20,(.const (.str ⟨#[102,114,111,109]⟩))),(21,(.const (.str ⟨#[105,100]⟩))),(22,(.const (.str ⟨#[105,110]⟩))),(23,(.const (.str ⟨#[105,110,110,101,114]⟩))),(24,(.const (.str ⟨#[105,110,116,111]⟩))),(25,(.const (.str ⟨#[108,105,110,107]⟩))),(26,(.const (.str ⟨#[110,101,116,119,111,114,107]⟩))),(27,(.const (.str ⟨#[110,111,100,101]⟩))),(28,(.const (.str ⟨#[110,111,116]⟩))),(29,(.const (.str ⟨#[111,112,101,110]⟩))),(30,(.const (.str ⟨#[111,114]⟩))),(31,(.const (.str ⟨#[112,97,116,104]⟩))),(32,(.const (.str ⟨#[112,111,114,116]⟩))),(33,(.const (.str ⟨#[112,114,105,99,101]⟩))),(34,(.const (.str ⟨#[114,111,117,116,101]⟩))),(35,(.const (.str ⟨#[114,117,108,101,115]⟩))),(36,(.const (.str ⟨#[115,116,97,103,101]⟩))),(37,(.const (.str ⟨#[116,97,107,101]⟩))),(38,(.const (.str ⟨#[116,101,110,97,110,116]⟩))),(39,(.const (.str ⟨#[116,104,101,110]⟩))),(40,(.const (.str ⟨#[116,105,109,101]⟩))),(41,(.const (.str ⟨#[116,111]⟩))),(42,(.const (.str ⟨#[116,111,107,101,110]⟩))),(43,(.const (.str ⟨#[116,114,97,110,115,108,97,116,101]⟩))),(44,(.const (.str ⟨#[116,114,117,101]⟩))),(45,(.const (.str ⟨#[118,105,97]⟩))),(46,(.const (.str ⟨#[119,105,100,116,104]⟩))),(47,(.const (.str ⟨#[119,105,114,101]⟩))),(48,(.const (.str ⟨#[119,105,116,104,105,110]⟩)))],none,[]⟩,mv 0 1] .ret))
theorem Nd:(Tryz.f211.body.bind (bt Tryz.prog 2 []))=some LR:=by kernel_rfl
def LS:aV:=(sr [oo 2 (.mov kF)] (sr [mv 5 0,oo 6 (.call 208 [tm 5]),mv 3 6] (sr [mv 7 0,oo 8 (.call 213 [tm 7]),mv 4 8] (sr [mv 9 3,mv 10 9,mF 11 4 10,oo 12 (.pick (tm 10) kT (tm 11)),mv 13 12,mF 14 0 13,oF 15 13 (.bin .eql (tm 14) (.const (Ui 95))),oo 16 (.pick (tm 13) kT (tm 15)),mv 2 16] .ret))))
theorem Nf:(Tryz.f212.body.bind (bt Tryz.prog 17 []))=some LS:=by kernel_rfl
def LU:aV:=(sr [oo 2 (.mov kF)] (sr [mv 3 0,oo 4 (.bin .geq (tm 3) (.const (Ui 48))),mv 5 4,mT 6 0 5,oT 7 5 (.bin .leq (tm 6) (.const (Ui 57))),oo 8 (.pick (tm 5) (tm 7) kF),mv 2 8] .ret))
theorem Ng:(Tryz.f213.body.bind (bt Tryz.prog 9 []))=some LU:=by kernel_rfl
end Go.MM
end
section
namespace Go.MM
open Go Go.DL
instance : Glb := ⟨fun _ => none⟩
end Go.MM
end
section
namespace Go.MM
open Go Go.DL Go.Proofs
theorem mixed:Tryz.prog.follows .mixedOrders=true:=by kernel_rfl
abbrev I(n:Int):T:=.int .i64 n
def hd(h:List Int):T:=.agg (h.map I)
theorem getD_map{α β:Type}(f:α->β)(l:List α)(i:Nat)(d:β)(h:i<l.length):(l.map f)[i]?.getD d=f l[i]:=by simp [h]
def wg(h:List Int):Bool:=h.all fun x=>decide (0<=x)&&decide (x<=65535)
theorem t11(h:List Int)(hh:h.length=10):DCalls Tryz.prog 15 [hd h] (.bool (wg h)):=by
 refine dl2 mixed [.tmp 2] [.bool (wg h)] Tryz.func15 l15 ?_;refine And.intro (by simp [hh]) ?_;refine tT (α:=Nat) (fun i=>{sl:=[(1,.ptr 1 0),(3,.t (I i))],bx:=[(1,.d 10 (h.map I))]}) (fun i=>i<=10/\wg (h.drop i)=wg h) (fun i=>10 - i) 0 (by simp) ?_ ?_
 ·exact ⟨⟨.same _,.same _,trivial⟩,⟨.same _,trivial⟩,trivial,rfl,fun _ _ _=>trivial,rfl⟩
 rintro i ⟨hi,hc⟩;refine ue trivial (fun hl=>?_) (fun hl=>?_)
 ·have hlt:i<10:=by simp at hl;omega
  have h1:i<h.length:=by omega
  have hc:(decide (0<=h[i])&&decide (h[i]<=65535)&&wg (h.drop (i+1)))=wg h:=by
   rw [<- hc,List.drop_eq_getElem_cons h1];rfl
  refine And.intro (by omega) ?_;refine uh (I h[i]) (by simp;omega) (by simp [h1]) ?_;refine ue trivial (fun hx=>?_) (fun hx=>?_)
  ·have hx:h[i]<0:=by simpa using hx
   rw [<- hc,decide_eq_false (by omega)];exact ⟨rfl,trivial⟩
  have hx: ¬h[i]<0:=by simpa using hx
  refine And.intro (by omega) ?_;refine uh (I h[i]) (by simp;omega) (by simp [h1]) ?_;refine ue trivial (fun hy=>?_) (fun hy=>?_)
  ·have hy:h[i]>65535:=by simpa using hy
   rw [<- hc,decide_eq_false (p:=h[i]<=65535) (by omega),Bool.and_false,Bool.false_and];exact ⟨rfl,trivial⟩
  have hy: ¬h[i]>65535:=by simpa using hy
  refine ⟨i+1,⟨hlt,?_⟩,by omega,?_⟩
  ·rw [<- hc,decide_eq_true (by omega),decide_eq_true (by omega)];rfl
  ·exact ⟨⟨.same _,leI (by rw [nW] <;> omega),trivial⟩,⟨.same _,trivial⟩,trivial,rfl,fun _ _ _=>trivial,rfl⟩
 ·have hge:10<=i:=by simp at hl;omega
  rw [List.drop_eq_nil_of_le (by omega)] at hc;rw [<- hc];exact ⟨rfl,trivial⟩
abbrev J5:List T:=[I 0,I 0,I 0,I 0,I 0,I 0,I 0,I 0,I 0,I 0]
theorem yf{n:Nat}(h:n<2^63):IntKind.wrap .i64 (n:Int)=n:=nW (by omega) (by omega)
theorem xG(x:Nat):BitVec.ofInt 64 (x:Int)=BitVec.ofNat 64 x:=by simp
theorem H5{x y:Nat}(hx:x<2^63)(hy:y<2^63):iV .and .i64 x y=((x &&& y:Nat):Int):=by
 show IntKind.wrap .i64 (((BitVec.ofInt 64 (x:Int) &&& BitVec.ofInt 64 (y:Int)).toNat:Nat):Int)=_
 rw [xG,xG];rw [BitVec.toNat_and,BitVec.toNat_ofNat,BitVec.toNat_ofNat,Nat.mod_eq_of_lt (by omega),Nat.mod_eq_of_lt (by omega)];exact yf (Nat.lt_of_le_of_lt Nat.and_le_left hx)
theorem Je{x y:Nat}(hx:x<2^63)(hy:y<2^63):iV .or .i64 x y=((x ||| y:Nat):Int):=by
 show IntKind.wrap .i64 (((BitVec.ofInt 64 (x:Int) ||| BitVec.ofInt 64 (y:Int)).toNat:Nat):Int)=_
 rw [xG,xG];rw [BitVec.toNat_or,BitVec.toNat_ofNat,BitVec.toNat_ofNat,Nat.mod_eq_of_lt (by omega),Nat.mod_eq_of_lt (by omega)];exact yf (Nat.or_lt_two_pow hx hy)
def clr(x y:Nat):Nat:=x ^^^ (x &&& y)
theorem Et(x y j:Nat):(clr x y).testBit j=(x.testBit j&& !y.testBit j):=by
 unfold clr;rw [Nat.testBit_xor,Nat.testBit_and];cases x.testBit j <;> cases y.testBit j <;> rfl
theorem EU{x y:Nat}(hx:x<2^63)(_:y<2^63):iV .andNot .i64 x y=((clr x y:Nat):Int):=by
 show IntKind.wrap .i64 (((BitVec.ofInt 64 (x:Int) &&& ~~~BitVec.ofInt 64 (y:Int)).toNat:Nat):Int)=_
 rw [xG,xG];have e:(BitVec.ofNat 64 x &&& ~~~BitVec.ofNat 64 y).toNat=clr x y:=by
  refine Nat.eq_of_testBit_eq fun j=>?_
  rw [Et,BitVec.testBit_toNat,BitVec.getLsbD_and,BitVec.getLsbD_not,BitVec.getLsbD_ofNat,BitVec.getLsbD_ofNat]
  by_cases hj:j<64
  ·simp [hj]
  ·have:x.testBit j=false:=Nat.testBit_lt_two_pow (Nat.lt_of_lt_of_le hx (Nat.pow_le_pow_right (by decide) (by omega)))
   simp [hj,this]
 rw [e]
 have:clr x y<2^63:=Nat.xor_lt_two_pow hx (Nat.lt_of_le_of_lt Nat.and_le_left hx)
 exact yf this
def AN(x s w:Nat):Nat:=(x / 2^s) % 2^w
def yY(x s w n:Nat):Nat:=(x / 2^(s+w)) * 2^(s+w)+n * 2^s+x % 2^s
theorem I1(x s w:Nat):x=(x / 2^(s+w)) * 2^(s+w)+AN x s w * 2^s+x % 2^s:=by
 unfold AN;have h1:=Nat.div_add_mod x (2^s);have h2:=Nat.div_add_mod (x / 2^s) (2^w);rw [Nat.div_div_eq_div_mul, <-Nat.pow_add] at h2;have h3:x / 2^(s+w) * 2^(s+w)=2^s * (2^w * (x / 2^(s+w))):=by
  rw [Nat.pow_add];rw [Nat.mul_comm,Nat.mul_assoc]
 rw [h3,Nat.mul_comm (x / 2^s % 2^w)];rw [<- Nat.mul_add,h2];exact h1.symm
theorem DV{x s w n:Nat}(hn:n<2^w)(j:Nat):(yY x s w n).testBit j=if j<s then x.testBit j else if j<s+w then n.testBit (j - s) else x.testBit j:=by
 have hlo:x % 2^s<2^s:=Nat.mod_lt _ (Nat.two_pow_pos _);have Mc:n * 2^s+x % 2^s<2^(s+w):=by
  rw [Nat.pow_add,Nat.mul_comm (2^s)]
  calc n * 2^s+x % 2^s<n * 2^s+2^s:=by omega
   _=(n+1) * 2^s:=by rw [Nat.add_mul,Nat.one_mul]
   _<=2^w * 2^s:=Nat.mul_le_mul_right _ hn
 unfold yY;rw [Nat.add_assoc,Nat.mul_comm (x / 2^(s+w)),Nat.testBit_two_pow_mul_add _ Mc]
 by_cases h1:j<s+w
 ·rw [if_pos h1,Nat.mul_comm n,Nat.testBit_two_pow_mul_add _ hlo]
  by_cases h2:j<s
  ·rw [if_pos h2,if_pos h2,Nat.testBit_mod_two_pow];simp [h2]
  ·rw [if_neg h2,if_neg h2,if_pos h1]
 ·rw [if_neg h1,if_neg (by omega),if_neg h1,Nat.testBit_div_two_pow]
  congr 1;omega
structure Fd where
 name:ByteArray
 a:Nat
 w:Nat
deriving Inhabited
def fd(f:Fd):T:=.agg [.str f.name,I f.a,I f.w]
structure FOk (f:Fd):Prop where
 a:f.a<160
 w1:1<=f.w
 w2:f.a % 16+f.w<=16
def Fd.s(f:Fd):Nat:=16 - f.a % 16 - f.w
def Fd.i(f:Fd):Nat:=f.a / 16
theorem FOk.i{f:Fd}(h:FOk f):f.i<10:=by have:=h.a;unfold Fd.i;omega
theorem FOk.sw{f:Fd}(h:FOk f):f.s+f.w<=16:=by have:=h.w2;unfold Fd.s;omega
structure HOk (h:List Int):Prop where
 len:h.length=10
 right:wg h=true
def wd(h:List Int)(i:Nat):Nat:=(h[i]?.getD 0).toNat
theorem HOk.wd{h:List Int}(hh:HOk h)(i:Nat):MM.wd h i<65536:=by
 unfold MM.wd;cases hx:h[i]? with
 |none=>simp
 |some x=>
  have:=hh.right
  unfold wg at this;rw [List.all_eq_true] at this
  have:=this x (List.mem_of_getElem? hx)
  simp at this ⊢;omega
theorem HOk.get{h:List Int}(hh:HOk h){i:Nat}(hi:i<10):h[i]'(by rw [hh.len];exact hi)=(MM.wd h i:Int):=by
 have hl:i<h.length:=by rw [hh.len];exact hi
 unfold MM.wd
 have:=hh.right
 unfold wg at this;rw [List.all_eq_true] at this
 have:=this h[i] (List.getElem_mem _)
 simp at this;simp [hl];omega
def vj(f:Fd)(h:List Int):Nat:=AN (wd h f.i) f.s f.w
def yu(f:Fd)(h:List Int)(n:Nat):List Int:=h.set f.i (yY (wd h f.i) f.s f.w n:Nat)
theorem Ey(f:Fd)(h:List Int):vj f h<2^f.w:=Nat.mod_lt _ (Nat.two_pow_pos _)
theorem t87(n:Nat)(hn:n<=60):DCalls Tryz.prog 70 [I n] (I (2^n:Nat)):=by
 refine dl2 mixed [.tmp 2] [I (2^n:Nat)] Tryz.func70 l70 ?_;refine tT (α:=Nat) (fun i=>{sl:=[(0,.t (I n)),(3,.t (I (2^i:Nat))),(4,.t (I i))],bx:=[]}) (fun i=>i<=n) (fun i=>n - i) 0 (by simp) ?_ ?_
 ·exact ⟨⟨.same _,.same _,.same _,trivial⟩,trivial,trivial,rfl,fun _ _ _=>trivial,rfl⟩
 rintro i hi;refine ue trivial (fun hq=>?_) (fun hq=>?_)
 ·have h1:i<n:=by simpa using hq
  refine ⟨i+1,h1,by omega,?_⟩;have h2:(2:Nat)^(i+1)<=2^60:=Nat.pow_le_pow_right (by decide) (by omega);refine ⟨⟨.same _,leI ?_,leI (by rw [nW] <;> omega),trivial⟩,trivial,trivial,rfl,fun _ _ _=>trivial,rfl⟩;have e:((2^i:Nat):Int) * 2=((2^(i+1):Nat):Int):=by rw [Nat.pow_succ];push_cast;rfl
  rw [e,yf (by omega)]
 ·have h1:i=n:=by simp at hq;omega
  subst h1;exact ⟨rfl,trivial⟩
theorem D7{f:Fd}(h:FOk f):IntKind.wrap .i64 (IntKind.wrap .i64 (16 - ((f.a:Int).tmod 16)) - (f.w:Int))=(f.s:Int):=by
 have h1:(f.a:Int).tmod 16=((f.a % 16:Nat):Int):=by rw [Int.tmod_eq_emod_of_nonneg (by omega)];omega
 have:=h.w2
 rw [h1,nW (n:=16 - ((f.a % 16:Nat):Int)) (by omega) (by omega),nW (by omega) (by omega)];unfold Fd.s;omega
theorem vp{f:Fd}(h:FOk f):IntKind.wrap .i64 ((f.a:Int).tdiv 16)=(f.i:Int):=by
 have h1:(f.a:Int).tdiv 16=((f.a / 16:Nat):Int):=by rw [Int.tdiv_eq_ediv_of_nonneg (by omega)];omega
 have:=h.a
 rw [h1,yf (by omega)];rfl
theorem t84(f:Fd)(h:FOk f):DCalls Tryz.prog 69 [fd f] (I (2^f.s:Nat)):=by
 refine dl2 mixed [.tmp 2] [I (2^f.s:Nat)] Tryz.func69 l69 ?_;refine And.intro rfl ?_;refine uh (I f.a) (by decide) rfl ?_;refine And.intro (by decide) ?_;refine uh (I f.w) (by decide) rfl ?_
 have:=t87 f.s (by unfold Fd.s;omega)
 rw [<- D7 h] at this;refine uc _ this ?_;exact ⟨rfl,trivial⟩
theorem t99(f:Fd)(h:FOk f):DCalls Tryz.prog 145 [fd f] (I f.s):=by
 refine dl2 mixed [.tmp 2] [I f.s] Tryz.func145 MN ?_;refine And.intro rfl ?_;refine uh (I f.a) (by decide) rfl ?_;refine And.intro (by decide) ?_;refine uh (I f.w) (by decide) rfl ?_;exact ⟨congrArg (fun n=>some (I n)) (D7 h),trivial⟩
theorem Bk{w:Nat}(h:w<=16):2^w<=65536:=Nat.pow_le_pow_right (by decide) h
theorem t66(f:Fd)(h:FOk f):DCalls Tryz.prog 111 [fd f] (I (2^f.w - 1:Nat)):=by
 refine dl2 mixed [.tmp 2] [I (2^f.w - 1:Nat)] Tryz.func111 Mq ?_;have hw:f.w<=16:=by have:=h.w2;omega
 have hp:=Nat.two_pow_pos f.w;refine And.intro rfl ?_;refine uh (I f.w) (by decide) rfl ?_;refine uc _ (t87 f.w (by omega)) ?_;exact ⟨congrArg (fun n=>some (I n)) (by have:=Bk hw;rw [nW] <;> omega),trivial⟩
theorem t97(f:Fd)(h:FOk f):DCalls Tryz.prog 141 [fd f] (I (2^f.w - 1:Nat)):=by
 refine dl2 mixed [.tmp 2] [I (2^f.w - 1:Nat)] Tryz.func141 MI ?_;have hw:f.w<=16:=by have:=h.w2;omega
 have hp:=Nat.two_pow_pos f.w
 have:=Bk hw
 refine And.intro rfl ?_;refine uh (I f.w) (by decide) rfl ?_;refine And.intro (by omega) ?_;refine ⟨congrArg (fun n=>some (I n)) ?_,trivial⟩;have e:(1:Int) * 2^(min (f.w:Int).toNat (IntKind.bits .i64))=((2^f.w:Nat):Int):=by
  have:min (f.w:Int).toNat (IntKind.bits .i64)=f.w:=by show min _ 64=_;simp;omega
  rw [this];push_cast;rw [Int.one_mul]
 rw [e,yf (by omega),nW] <;> omega
theorem t57(f:Fd)(hf:FOk f)(h:List Int)(hh:HOk h):DCalls Tryz.prog 18 [fd f,hd h] (I (vj f h)):=by
 refine dl2 mixed [.tmp 4] [I (vj f h)] Tryz.func18 l18 ?_;have hi:=hf.i;have hw:f.w<=16:=by have:=hf.w2;omega
 have hx:=hh.wd f.i;have hil:f.i<h.length:=by rw [hh.len];exact hi
 refine And.intro rfl ?_;refine And.intro (by simp [hh.len]) ?_;refine uh (I f.a) (by decide) rfl ?_;refine And.intro (by decide) ?_;refine And.intro (show 0<=IntKind.wrap .i64 _/\_ by rw [vp hf];omega) ?_;refine uh (I (wd h f.i)) (show 0+(IntKind.wrap .i64 _).toNat * 1<10 by rw [vp hf];simp;omega) (show (h.map I)[0+(IntKind.wrap .i64 _).toNat * 1]?.getD .nil=_ by
  rw [vp hf,Int.toNat_natCast,Nat.zero_add,Nat.mul_one,getD_map I h f.i .nil hil,hh.get hi]) ?_
 refine uc _ (t84 f hf) ?_;have hp:=Nat.two_pow_pos f.s;refine And.intro (by omega) ?_;refine uh (I f.w) (by decide) rfl ?_;refine uc _ (t87 f.w (by omega)) ?_;have hq:=Nat.two_pow_pos f.w;refine And.intro (by omega) ?_;refine ⟨congrArg (fun n=>some (I n)) ?_,trivial⟩;have e1:(wd h f.i:Int).tdiv ((2^f.s:Nat):Int)=((wd h f.i / 2^f.s:Nat):Int):=by
  rw [Int.tdiv_eq_ediv_of_nonneg (by omega)];simp
 have e2:wd h f.i / 2^f.s<=wd h f.i:=Nat.div_le_self _ _;rw [e1,yf (Nat.lt_of_le_of_lt e2 (by omega)),Int.tmod_eq_emod_of_nonneg (Int.natCast_nonneg _)];unfold vj AN;simp
theorem GQ(x s:Nat)(hs:s<=64):((x:Int)).fdiv (2^(min (s:Int).toNat (IntKind.bits .i64)))=((x / 2^s:Nat):Int):=by
 have:min (s:Int).toNat (IntKind.bits .i64)=s:=by show min _ 64=_;simp;omega
 rw [this,Int.fdiv_eq_ediv_of_nonneg _ (by exact_mod_cast Nat.zero_le _)]
 push_cast;rfl
theorem EE(x s:Nat)(hs:s<=64):(x:Int) * 2^(min (s:Int).toNat (IntKind.bits .i64))=((x * 2^s:Nat):Int):=by
 have:min (s:Int).toNat (IntKind.bits .i64)=s:=by show min _ 64=_;simp;omega
 rw [this];push_cast;rfl
theorem t78(f:Fd)(hf:FOk f)(h:List Int)(hh:HOk h):DCalls Tryz.prog 108 [fd f,hd h] (I (vj f h)):=by
 refine dl2 mixed [.tmp 4] [I (vj f h)] Tryz.func108 Mo ?_;have hi:=hf.i;have hw:f.w<=16:=by have:=hf.w2;omega
 have hsw:=hf.sw;have hx:=hh.wd f.i;have hil:f.i<h.length:=by rw [hh.len];exact hi
 refine And.intro rfl ?_;refine And.intro (by simp [hh.len]) ?_;refine uh (I f.a) (by decide) rfl ?_;refine And.intro (by decide) ?_;refine And.intro (show 0<=IntKind.wrap .i64 _/\_ by rw [vp hf];omega) ?_;refine uh (I (wd h f.i)) (show 0+(IntKind.wrap .i64 _).toNat * 1<10 by rw [vp hf];simp;omega) (show (h.map I)[0+(IntKind.wrap .i64 _).toNat * 1]?.getD .nil=_ by
  rw [vp hf,Int.toNat_natCast,Nat.zero_add,Nat.mul_one,getD_map I h f.i .nil hil,hh.get hi]) ?_
 refine uc _ (t99 f hf) ?_;refine And.intro (by omega) ?_;refine uc _ (t97 f hf) ?_;refine ⟨congrArg (fun n=>some (I n)) ?_,trivial⟩;have e2:wd h f.i / 2^f.s<=wd h f.i:=Nat.div_le_self _ _;have hp:=Bk hw;rw [GQ _ _ (by omega),H5 (Nat.lt_of_le_of_lt e2 (by omega)) (by omega),Nat.and_two_pow_sub_one_eq_mod];rfl
theorem Gk{x s w n:Nat}(hn:n<2^w):clr x ((2^w - 1) * 2^s) ||| (n * 2^s)=yY x s w n:=by
 refine Nat.eq_of_testBit_eq fun j=>?_
 rw [Nat.testBit_or,Et,DV hn,Nat.testBit_mul_two_pow,Nat.testBit_mul_two_pow,Nat.testBit_two_pow_sub_one]
 by_cases h1:j<s
 ·rw [if_pos h1]
  have: ¬s<=j:=by omega
  simp [this]
 ·rw [if_neg h1];have h2:s<=j:=by omega
  by_cases h3:j<s+w
  ·rw [if_pos h3];have h4:j - s<w:=by omega
   simp [h2,h4]
  ·rw [if_neg h3];have h4: ¬j - s<w:=by omega
   have h5:n.testBit (j - s)=false:=Nat.testBit_lt_two_pow (Nat.lt_of_lt_of_le hn (Nat.pow_le_pow_right (by decide) (by omega)));simp [h4,h5]
theorem EG{x s w n:Nat}(hx:x<65536)(hsw:s+w<=16)(hn:n<2^w):yY x s w n<65536:=by
 refine Nat.lt_pow_two_of_testBit (n:=16) _ fun j hj=>?_
 rw [DV hn,if_neg (by omega),if_neg (by omega)];exact Nat.testBit_lt_two_pow (Nat.lt_of_lt_of_le hx (Nat.pow_le_pow_right (by decide) hj:2^16<=2^j))
theorem map_set(h:List Int)(i:Nat)(n:Int):(h.map I).set i (I n)=(h.set i n).map I:=by rw [List.map_set]
theorem t98(f:Fd)(hf:FOk f)(h:List Int)(hh:HOk h)(n:Nat)(hn:n<2^f.w):DCalls Tryz.prog 140 [fd f,hd h,I n] (hd (yu f h n)):=by
 refine dl2 mixed [.cell 6 27] [hd (yu f h n)] Tryz.func140 MH ?_;have hi:=hf.i;have hw:f.w<=16:=by have:=hf.w2;omega
 have hsw:=hf.sw;have hx:=hh.wd f.i;have hil:f.i<h.length:=by rw [hh.len];exact hi
 have hp:=Bk hw;have hs2:2^f.s<=2^16:=Nat.pow_le_pow_right (by decide) (by omega);have m1:(2^f.w - 1) * 2^f.s<=65536 * 65536:=Nat.mul_le_mul (by omega) hs2;have m2:n * 2^f.s<=65536 * 65536:=Nat.mul_le_mul (by omega) hs2;refine And.intro rfl ?_;refine And.intro (by simp [hh.len]) ?_;refine uh (I f.a) (by decide) rfl ?_;refine And.intro (by decide) ?_;refine And.intro (show 0<=IntKind.wrap .i64 _/\_ by rw [vp hf];omega) ?_;refine uh (I (wd h f.i)) (show 0+(IntKind.wrap .i64 _).toNat * 1<10 by rw [vp hf];simp;omega) (show (h.map I)[0+(IntKind.wrap .i64 _).toNat * 1]?.getD .nil=_ by
  rw [vp hf,Int.toNat_natCast,Nat.zero_add,Nat.mul_one,getD_map I h f.i .nil hil,hh.get hi]) ?_
 refine uc _ (t97 f hf) ?_;refine uc _ (t99 f hf) ?_;refine And.intro (by omega) ?_;refine uc _ (t99 f hf) ?_;refine And.intro (by omega) ?_;have ew:iV .or .i64 (iV .andNot .i64 (wd h f.i) (IntKind.wrap .i64 (((2^f.w - 1:Nat):Int) * 2^(min (f.s:Int).toNat (IntKind.bits .i64))))) (IntKind.wrap .i64 ((n:Int) * 2^(min (f.s:Int).toNat (IntKind.bits .i64))))=(yY (wd h f.i) f.s f.w n:Nat):=by
  rw [EE _ _ (by omega),EE _ _ (by omega),yf (by omega),yf (by omega),EU (by omega) (by omega),Je ?_ (by omega),Gk hn];exact Nat.xor_lt_two_pow (by omega) (Nat.lt_of_le_of_lt Nat.and_le_left (by omega))
 refine And.intro (show 0+(IntKind.wrap .i64 _).toNat * 1<10 by rw [vp hf];simp;omega) ?_;refine And.intro ⟨by simp [hh.len],by decide⟩ ?_;refine ⟨?_,trivial⟩;refine congrArg some ?_;show T.agg (aN J5 0 10 ((h.map I).set (0+(IntKind.wrap .i64 _).toNat * 1) (I (iV _ _ _ _))))=_
 rw [ew,vp hf,Int.toNat_natCast,Nat.zero_add,Nat.mul_one,map_set];simp [aN,hd,yu]
theorem Hh{x s w n:Nat}:(x:Int)+((n:Int) - (AN x s w:Int)) * ((2^s:Nat):Int)=(yY x s w n:Nat):=by
 have h:=I1 x s w;unfold yY;generalize x / 2^(s+w) * 2^(s+w)=A at *
 generalize x % 2^s=B at *
 have h':(x:Int)=(A:Int)+(AN x s w:Int) * ((2^s:Nat):Int)+(B:Int):=by exact_mod_cast h
 generalize AN x s w=v at *
 generalize 2^s=P at *
 rw [h',Int.sub_mul]
 push_cast
 omega
theorem t52(f:Fd)(hf:FOk f)(h:List Int)(hh:HOk h)(n:Nat)(hn:n<2^f.w):DCalls Tryz.prog 19 [fd f,hd h,I n] (hd (yu f h n)):=by
 refine dl2 mixed [.cell 6 27] [hd (yu f h n)] Tryz.func19 l19 ?_;have hi:=hf.i;have hw:f.w<=16:=by have:=hf.w2;omega
 have hsw:=hf.sw;have hx:=hh.wd f.i;have hil:f.i<h.length:=by rw [hh.len];exact hi
 have hp:=Bk hw;have hg:=Ey f h;have hl:=EG hx hsw hn;have hs2:2^f.s<=65536:=Bk (w:=f.s) (by omega);have hs3:=Nat.two_pow_pos f.s;refine And.intro rfl ?_;refine And.intro (by simp [hh.len]) ?_;refine uc _ (t57 f hf h hh) ?_;refine uh (I f.a) (by decide) rfl ?_;refine And.intro (by decide) ?_;refine uh (I f.a) (by decide) rfl ?_;refine And.intro (by decide) ?_;refine And.intro (show 0<=IntKind.wrap .i64 _/\_ by rw [vp hf];omega) ?_;refine uh (I (wd h f.i)) (show 0+(IntKind.wrap .i64 _).toNat * 1<10 by rw [vp hf];simp;omega) (show (h.map I)[0+(IntKind.wrap .i64 _).toNat * 1]?.getD .nil=_ by
  rw [vp hf,Int.toNat_natCast,Nat.zero_add,Nat.mul_one,getD_map I h f.i .nil hil,hh.get hi]) ?_
 refine uc _ (t84 f hf) ?_;have e1:IntKind.wrap .i64 ((wd h f.i:Int)+IntKind.wrap .i64 (IntKind.wrap .i64 ((n:Int) - (vj f h:Int)) * ((2^f.s:Nat):Int)))=((yY (wd h f.i) f.s f.w n:Nat):Int):=by
  have b1:IntKind.wrap .i64 ((n:Int) - (vj f h:Int))=(n:Int) - (vj f h:Int):=nW (by omega) (by omega);have b2:=Hh (x:=wd h f.i) (s:=f.s) (w:=f.w) (n:=n);rw [b1];have b3:((n:Int) - (vj f h:Int)) * ((2^f.s:Nat):Int)=((yY (wd h f.i) f.s f.w n:Nat):Int) - (wd h f.i:Int):=by
   show ((n:Int) - (AN (wd h f.i) f.s f.w:Int)) * _=_
   omega
  rw [b3,nW (n:=((yY (wd h f.i) f.s f.w n:Nat):Int) - (wd h f.i:Int)) (by omega) (by omega),nW (by omega) (by omega)];omega
 refine And.intro (show 0<=IntKind.wrap .i64 _/\_ by rw [vp hf];omega) ?_;refine And.intro (show 0+(IntKind.wrap .i64 _).toNat * 1<10 by rw [vp hf];simp;omega) ?_;refine And.intro ⟨by simp [hh.len],by decide⟩ ?_;refine ⟨congrArg some ?_,trivial⟩;show T.agg (aN J5 0 10 ((h.map I).set (0+(IntKind.wrap .i64 _).toNat * 1) (I (IntKind.wrap .i64 _))))=_
 rw [e1,vp hf,Int.toNat_natCast,Nat.zero_add,Nat.mul_one,map_set];simp [aN,hd,yu]
theorem Ho(f:Fd)(h:List Int)(n:Nat):(yu f h n).length=h.length:=by simp [yu]
def wA:ByteArray:=⟨#[112,111,114,116]⟩
def Bi:Fd:=⟨wA,0,16⟩
def Dj:Fd:=⟨⟨#[]⟩,0,0⟩
def uq(a b:ByteArray):Bool:=a.data.toList==b.data.toList
theorem uI(a b:ByteArray):(a.toList==b.toList)=uq a b:=by unfold uq;rw [ByteArray.toList_eq,ByteArray.toList_eq]
def fds(l:List Fd):T:=.slice 3 (l.map fd)
def findF(l:List Fd)(s:ByteArray):Option Fd:=if uq s wA then some Bi else l.find? fun f=>uq f.name s
def yw(l:List Fd)(s:ByteArray):T:=match findF l s with
 |some f=>.tup [fd f,.bool true]
 |none=>.tup [fd Dj,.bool false]
theorem t94:DCalls Tryz.prog 142 [] (fd Bi):=by
 refine dl2 mixed [.cell 0 54] [fd Bi] Tryz.func142 MJ ?_;refine And.intro trivial ?_;refine And.intro ⟨rfl,by decide⟩ ?_;exact ⟨rfl,trivial⟩
theorem t83:DCalls Tryz.prog 68 [] (fd Bi):=by
 refine dl2 mixed [.cell 0 54] [fd Bi] Tryz.func68 l68 ?_;refine And.intro trivial ?_;refine And.intro ⟨rfl,by decide⟩ ?_;exact ⟨rfl,trivial⟩
theorem t96(f:Fd)(s:ByteArray):DCalls Tryz.prog 144 [fd f,.cptr [.str s] 0] (.bool (uq f.name s)):=by
 refine dl2 mixed [.tmp 3] [.bool (uq f.name s)] Tryz.func144 ML ?_;refine And.intro rfl ?_;refine uh (.str f.name) (by decide) rfl ?_;refine uh (.str s) (Nat.lt_succ_self 0) rfl ?_;refine uf (uq f.name s) trivial (uI _ _) ?_;exact ⟨rfl,trivial⟩
def xC(l:List Fd)(s:ByteArray):Int:=match l.findIdx? fun f=>uq f.name s with
 |some i=>i
 |none=> -1
theorem t95(l:List Fd)(s:ByteArray)(hl:l.length<2^60):DCalls Tryz.prog 143 [fds l,.clos 144 [.cptr [.str s] 0]] (I (xC l s)):=by
 refine dl2 mixed [.tmp 4] [I (xC l s)] Tryz.func143 MK ?_;refine tT (α:=Nat) (fun i=>{sl:=[(0,.t (fds l)),(1,.t (.clos 144 [.cptr [.str s] 0])),(7,.t (I l.length)),(8,.t (I i))],bx:=[]}) (fun i=>i<=l.length/\ ∀j (h:j<l.length),j<i->uq l[j].name s=false) (fun i=>l.length - i) 0 (by simp) ?_ ?_
 ·exact ⟨⟨.same _,.same _,leI (by simp),.same _,trivial⟩,trivial,trivial,rfl,fun _ _ _=>trivial,rfl⟩
 rintro i ⟨hi,hp⟩;refine ue trivial (fun hq=>?_) (fun hq=>?_)
 ·have h1:i<l.length:=by simpa using hq
  refine uh (fd l[i]) (by simpa using h1) (by simp [h1]) ?_;refine uh (fd l[i]) rfl rfl ?_;refine uc _ (t96 l[i] s) ?_;cases hm:uq l[i].name s with
  |true=>
   have:xC l s=i:=by
    unfold xC;rw [List.findIdx?_eq_some_iff_getElem.2 ⟨h1,hm,fun j hj=>by simp [hp j (by omega) hj]⟩]
   exact ⟨congrArg (fun n=>some (I n)) this.symm,trivial⟩
  |false=>
   refine ⟨i+1,⟨h1,fun j hj hlt=>?_⟩,by omega,?_⟩
   ·rcases Nat.lt_or_ge j i with h4|h4
    ·exact hp j hj h4
    ·obtain rfl:j=i:=by omega
     exact hm
   ·exact ⟨⟨.same _,.same _,.same _,leI (by rw [nW] <;> omega),trivial⟩,trivial,trivial,rfl,fun _ _ _=>trivial,rfl⟩
 ·have hge:l.length<=i:=by simpa using hq
  have:xC l s= -1:=by
   unfold xC;rw [List.findIdx?_eq_none_iff.2 fun f hf=>by
    obtain ⟨j,hj,rfl⟩:=List.mem_iff_getElem.1 hf;exact hp j hj (by omega)]
  exact ⟨congrArg (fun n=>some (I n)) this.symm,trivial⟩
theorem DA(l:List Fd)(s:ByteArray):(xC l s= -1/\l.find? (fun f=>uq f.name s)=none)\/ ∃(i:Nat) (h:i<l.length),xC l s=i/\l.find? (fun f=>uq f.name s)=some l[i]:=by
 unfold xC;cases hf:l.findIdx? fun f=>uq f.name s with
 |none=>exact .inl ⟨rfl,by rw [List.find?_eq_none];intro f hm;simpa using List.findIdx?_eq_none_iff.1 hf f hm⟩
 |some i=>
  obtain ⟨h1,h2,h3⟩:=List.findIdx?_eq_some_iff_getElem.1 hf;refine .inr ⟨i,h1,rfl,?_⟩;rw [List.find?_eq_some_iff_getElem];exact ⟨h2,i,h1,rfl,fun j hj=>by simpa using h3 j hj⟩
theorem t74(l:List Fd)(s:ByteArray)(hl:l.length<2^60):DCalls Tryz.prog 107 [fds l,.str s] (yw l s):=by
 unfold yw findF;have go: ∀(f:Fd) (b:Bool),wpC Tryz.prog GJ (gA [fds l,.str s]) (nX (dj Tryz.prog) [.cell 4 54,.tmp 5] [fd f,.bool b])->DCalls Tryz.prog 107 [fds l,.str s] (.tup [fd f,.bool b]):=fun f b h=>
  oi (rs:=[.cell 4 54,.tmp 5]) mixed Tryz.func107 Mn rfl rfl rfl (r:=[fd f,.bool b]) (nlZ rfl) h
 by_cases hp:uq s wA=true
 ·rw [if_pos hp];refine go _ _ ?_;refine And.intro trivial ?_;refine uh (.str s) (by decide) rfl ?_;refine uc _ t94 ?_;refine uh (.str wA) (by decide) rfl ?_;refine uf true trivial ((uI _ _).trans hp) ?_;refine uc _ t94 ?_;refine And.intro ⟨rfl,by decide⟩ ?_;exact ⟨rfl,rfl,trivial⟩
 ·rw [if_neg hp];have hp:uq s wA=false:=by simpa using hp
  have pre: ∀(f:Fd) (b:Bool),(∃ i,xC l s=i/\(i= -1/\f=Dj/\b=false\/ ∃(k:Nat) (h:k<l.length),i=k/\f=l[k]/\b=true))->wpC Tryz.prog GJ (gA [fds l,.str s]) (nX (dj Tryz.prog) [.cell 4 54,.tmp 5] [fd f,.bool b]):=fun f b ⟨i,hi,h⟩=>by
   refine And.intro trivial ?_;refine uh (.str s) (by decide) rfl ?_;refine uc _ t94 ?_;refine uh (.str wA) (by decide) rfl ?_;refine uf false trivial ((uI _ _).trans hp) ?_;refine ⟨I i,hi▸t95 l s hl,rfl,?_⟩;rcases h with ⟨rfl,rfl,rfl⟩|⟨k,hk,rfl,rfl,rfl⟩
   ·refine uf true trivial (by decide) ?_;refine And.intro trivial ?_;refine And.intro ⟨rfl,by decide⟩ ?_;exact ⟨rfl,rfl,trivial⟩
   ·refine uf false trivial (by simp) ?_;refine uh (fd l[k]) (by simpa using hk) (by simp [hk]) ?_;refine uh (fd l[k]) rfl rfl ?_;refine And.intro ⟨rfl,by decide⟩ ?_;exact ⟨rfl,rfl,trivial⟩
  rcases DA l s with ⟨h1,h2⟩|⟨k,hk,h1,h2⟩
  ·rw [h2];exact go _ _ (pre _ _ ⟨-1,h1,.inl ⟨rfl,rfl,rfl⟩⟩)
  ·rw [h2];exact go _ _ (pre _ _ ⟨k,h1,.inr ⟨k,hk,rfl,rfl,rfl⟩⟩)
theorem t51(l:List Fd)(s:ByteArray)(hl:l.length<2^60):DCalls Tryz.prog 17 [fds l,.str s] (yw l s):=by
 unfold yw findF;have go: ∀(f:Fd) (b:Bool),wpC Tryz.prog c17 (gA [fds l,.str s]) (nX (dj Tryz.prog) [.cell 4 54,.tmp 5] [fd f,.bool b])->DCalls Tryz.prog 17 [fds l,.str s] (.tup [fd f,.bool b]):=fun f b h=>
  oi (rs:=[.cell 4 54,.tmp 5]) mixed Tryz.func17 l17 rfl rfl rfl (r:=[fd f,.bool b]) (nlZ rfl) h
 by_cases hp:uq s wA=true
 ·rw [if_pos hp];refine go _ _ ?_;refine uf true trivial ((uI _ _).trans hp) ?_;refine uc _ t83 ?_;refine And.intro ⟨rfl,by decide⟩ ?_;exact ⟨rfl,rfl,trivial⟩
 ·rw [if_neg hp];have hp:uq s wA=false:=by simpa using hp
  have pre: ∀(f:Fd) (b:Bool),(∃ i,xC l s=i/\(i= -1/\f=Dj/\b=false\/ ∃(k:Nat) (h:k<l.length),i=k/\f=l[k]/\b=true))->wpC Tryz.prog c17 (gA [fds l,.str s]) (nX (dj Tryz.prog) [.cell 4 54,.tmp 5] [fd f,.bool b]):=fun f b ⟨i,hi,h⟩=>by
   refine uf false trivial ((uI _ _).trans hp) ?_;refine tT (α:=Nat) (fun i=>{sl:=[(0,.t (fds l)),(1,.t (.str s)),(4,.ptr 4 0),(6,.t (I i))],bx:=[(4,.d 3 [.str ⟨#[]⟩,I 0,I 0])]}) (fun i=>i<=l.length/\ ∀j (h:j<l.length),j<i->uq l[j].name s=false) (fun i=>l.length - i) 0 (by simp) ?_ ?_
   ·exact ⟨⟨.same _,.same _,.same _,.same _,trivial⟩,⟨.same _,trivial⟩,trivial,rfl,fun _ _ _=>trivial,rfl⟩
   rintro j ⟨hj,hpj⟩;refine ue trivial (fun hq=>?_) (fun hq=>?_)
   ·have h1:j<l.length:=by simpa using hq
    refine uh (fd l[j]) (by simpa using h1) (by simp [h1]) ?_;refine uh (.str l[j].name) (show 0+0<3 by decide) rfl ?_;cases hm:uq l[j].name s with
    |true=>
     refine uf true trivial ((uI _ _).trans hm) ?_;refine uh (fd l[j]) (by simpa using h1) (by simp [h1]) ?_;refine uh (fd l[j]) rfl rfl ?_;refine And.intro ⟨rfl,by decide⟩ ?_;have e:xC l s=j:=by
      unfold xC;rw [List.findIdx?_eq_some_iff_getElem.2 ⟨h1,hm,fun j' hj'=>by simp [hpj j' (by omega) hj']⟩]
     rcases h with ⟨rfl,rfl,rfl⟩|⟨k,hk,rfl,rfl,rfl⟩
     ·omega
     ·obtain rfl:k=j:=by omega
      exact ⟨rfl,rfl,trivial⟩
    |false=>
     refine uf false trivial ((uI _ _).trans hm) ?_;refine ⟨j+1,⟨h1,fun j' hj' hlt=>?_⟩,by omega,?_⟩
     ·rcases Nat.lt_or_ge j' j with h4|h4
      ·exact hpj j' hj' h4
      ·obtain rfl:j'=j:=by omega
       exact hm
     ·exact ⟨⟨.same _,.same _,.same _,leI (by rw [nW] <;> omega),trivial⟩,⟨.same _,trivial⟩,trivial,rfl,fun _ _ _=>trivial,rfl⟩
   ·have hge:l.length<=j:=by simpa using hq
    have e:xC l s= -1:=by
     unfold xC;rw [List.findIdx?_eq_none_iff.2 fun f hf=>by
      obtain ⟨j',hj',rfl⟩:=List.mem_iff_getElem.1 hf;exact hpj j' hj' (by omega)]
    rcases h with ⟨rfl,rfl,rfl⟩|⟨k,hk,rfl,rfl,rfl⟩
    ·refine And.intro trivial ?_;refine And.intro ⟨rfl,by decide⟩ ?_;exact ⟨rfl,rfl,trivial⟩
    ·omega
  rcases DA l s with ⟨h1,h2⟩|⟨k,hk,h1,h2⟩
  ·rw [h2];exact go _ _ (pre _ _ ⟨-1,h1,.inl ⟨rfl,rfl,rfl⟩⟩)
  ·rw [h2];exact go _ _ (pre _ _ ⟨k,h1,.inr ⟨k,hk,rfl,rfl,rfl⟩⟩)
theorem HOk.set{f:Fd}(hf:FOk f){h:List Int}(hh:HOk h){n:Nat}(hn:n<2^f.w):HOk (yu f h n):=by
 refine ⟨by rw [Ho,hh.len],?_⟩;unfold yu wg;rw [List.all_eq_true];intro x hx;rcases List.mem_or_eq_of_mem_set hx with hx|rfl
 ·have:=hh.right
  unfold wg at this;exact List.all_eq_true.1 this x hx
 ·have:=EG (hh.wd f.i) hf.sw hn
  simp;omega
def fld(l:List Fd)(f:ByteArray):Fd:=(findF l f).getD Dj
structure LOk (l:List Fd):Prop where
 len:l.length<2^60
 ok: ∀f∈l,FOk f
theorem B6{l:List Fd}{f:ByteArray}{F:Fd}(h:findF l f=some F):fld l f=F:=by unfold fld;rw [h];rfl
theorem JJ:FOk Bi:=⟨by decide,by decide,by decide⟩
theorem LOk.find{l:List Fd}(h:LOk l){s:ByteArray}{f:Fd}(hf:findF l s=some f):FOk f:=by
 unfold findF at hf;split at hf
 ·cases hf;exact JJ
 ·exact h.ok f (List.mem_of_find?_eq_some hf)
end Go.MM
end
section
end
section
namespace Go.MM
open Go Go.DL Go.Proofs
inductive RP where
 |mk (kind:Int) (field:ByteArray) (n m:Int) (args:List RP)
namespace RP
def kind:RP->Int|.mk k _ _ _ _=>k
end RP
mutual
def zq:RP->T
 |.mk k f n m a=>.agg [I k,.str f,I n,I m,.slice 5 (EY a)]
def EY:List RP->List T
 |[]=>[]
 |r::rs=>zq r::EY rs
end
theorem Du: ∀l:List RP,EY l=l.map zq
 |[]=>rfl
 |r::rs=>congrArg (zq r:: ·) (Du rs)
def uX:RP->List T
 |.mk k f n m a=>[I k,.str f,I n,I m,.slice 5 (a.map zq)]
theorem wv(r:RP):zq r= .agg (uX r):=by
 cases r;simp only [zq,uX,Du]
theorem vT(r:RP):(uX r).length=5:=by cases r;rfl
inductive RO where
 |mk (kind:Int) (pred:RP) (field:ByteArray) (n:Int) (args:List RO)
namespace RO
def kind:RO->Int|.mk k _ _ _ _=>k
def pred:RO->RP|.mk _ p _ _ _=>p
end RO
mutual
def yM:RO->T
 |.mk k p f n a=>.agg (I k::(uX p++[.str f,I n,.slice 9 (EZ a)]))
def EZ:List RO->List T
 |[]=>[]
 |r::rs=>yM r::EZ rs
end
theorem Dv: ∀l:List RO,EZ l=l.map yM
 |[]=>rfl
 |r::rs=>congrArg (yM r:: ·) (Dv rs)
def ux:RO->List T
 |.mk k p f n a=>I k::(uX p++[.str f,I n,.slice 9 (a.map yM)])
theorem vL(r:RO):yM r= .agg (ux r):=by
 cases r;simp only [yM,ux,Dv]
theorem uG(r:RO):(ux r).length=9:=by cases r;simp [ux,vT]
mutual
def RP.nodes:RP->Nat
 |.mk _ _ _ _ a=>1+uW a
def uW:List RP->Nat
 |[]=>0
 |r::rs=>r.nodes+uW rs
end
mutual
def RP.depth:RP->Nat
 |.mk _ _ _ _ a=>1+wI a
def wI:List RP->Nat
 |[]=>0
 |r::rs=>max r.depth (wI rs)
end
mutual
theorem RP.zS: ∀r:RP,r.depth<=r.nodes
 |.mk _ _ _ _ a=>by have:=zR a;simp only [RP.depth,RP.nodes];omega
theorem zR: ∀l:List RP,wI l<=uW l
 |[]=>Nat.le_refl _
 |r::rs=>by have:=RP.zS r;have:=zR rs;simp only [wI,uW];omega
end
theorem xO: ∀{l:List RP} {j:Nat} (h:j<l.length),uW (l.take (j+1))=uW (l.take j)+l[j].nodes
 |r::rs,0,h=>by simp [uW]
 |r::rs,j+1,h=>by
  have:=xO (l:=rs) (j:=j) (by simpa using h)
  simp only [List.take_succ_cons,uW,List.getElem_cons_succ];omega
theorem AL: ∀{l:List RP} {j:Nat} (h:j<l.length),wI (l.take (j+1))=max (wI (l.take j)) l[j].depth
 |r::rs,0,h=>by simp [wI]
 |r::rs,j+1,h=>by
  have:=AL (l:=rs) (j:=j) (by simpa using h)
  simp only [List.take_succ_cons,wI,List.getElem_cons_succ];omega
theorem xN: ∀{l:List RP} {j:Nat},uW (l.take j)<=uW l
 |[],j=>by simp
 |r::rs,0=>by simp [uW]
 |r::rs,j+1=>by
  have:=xN (l:=rs) (j:=j)
  simp only [List.take_succ_cons,uW];omega
theorem RP.w9(r:RP):1<=r.nodes:=by cases r;simp only [RP.nodes];omega
theorem yd: ∀l:List RP,l.length<=uW l
 |[]=>Nat.le_refl _
 |r::rs=>by have:=yd rs;have:=r.w9;simp only [uW,List.length_cons];omega
def sz(n d:Nat):T:=.agg [I n,I d]
theorem t102(a b c d:Nat)(h1:a+c<2^62)(_:b<2^62)(h3:d<2^62):DCalls Tryz.prog 91 [sz a b,sz c d] (sz (a+c) (max b (d+1))):=by
 refine dl2 mixed [.cell 4 86] [sz (a+c) (max b (d+1))] Tryz.func91 l91 ?_
 repeat' ((conv=>whnf);first|refine aS ?_|refine nT_ ?_)
 refine And.intro (congrArg some ?_) trivial;simp (disch:=omega) only [nW,aN,List.take,List.drop,List.nil_append,List.cons_append];unfold sz I;have e:(if (d:Int)+1>(b:Int) then (d:Int)+1 else (b:Int))=((max b (d+1):Nat):Int):=by split <;> omega
 rw [e,Int.natCast_add]
theorem t103(N:Nat): ∀r:RP,r.nodes<=N->N<2^60->DCalls Tryz.prog 92 [.agg (uX r)] (sz r.nodes r.depth):=by
 induction N with
 |zero=>intro r h;have:=r.w9;omega
 |succ N ih=>
  rintro ⟨k,f,n,m,l⟩ hr hN;refine dl2 mixed [.cell 2 86] [sz _ _] Tryz.func92 l92 ?_;simp only [RP.nodes,RP.depth] at hr ⊢
  repeat' ((conv=>whnf);first|refine aS ?_|fail)
  refine tT (α:=Nat) (fun i=>{sl:=[(1,.ptr 1 0),(2,.ptr 2 0),(3,.ptr 3 0),(4,.t (I i))],bx:=[(1,.d 5 (uX (.mk k f n m l))),(2,.d 2 [I 0,I 0]),(3,.d 2 [I (1+uW (l.take i):Nat),I (1+wI (l.take i):Nat)])]})
   (fun i=>i<=l.length) (fun i=>l.length - i) 0 (by omega) ?_ ?_
  ·repeat' (first|exact wJ|refine And.intro ?_ ?_)
  rintro i hi;rcases Nat.lt_or_ge i l.length with h|h
  ·have hn:=xO h;have hd:=AL h;have hm:=xN (l:=l) (j:=i+1);have hp:=l[i].w9;have hl:=yd l;have hdn:=l[i].zS;have hd1:=zR (l.take i)
   repeat' ((conv=>whnf);first|(refine nv_ (.agg (uX l[i])) (by first|(simp [h,wv];done)|fail) ?_)|refine uc _ (ih l[i] (by omega) (by omega)) ?_|refine uc _ (t102 _ _ _ _ (by omega) (by omega) (by omega)) ?_|refine aD1 ?_|(refine And.intro (by first|exact vT _) ?_)|refine aS ?_|refine nT_ ?_)
   refine ⟨i+1,by omega,by omega,?_⟩
   repeat' (first|exact wJ|refine ui ?_|refine And.intro ?_ ?_)
   rw [hn,hd,show 1+(uW (l.take i)+l[i].nodes)=1+uW (l.take i)+l[i].nodes by omega,show 1+max (wI (l.take i)) l[i].depth=max (1+wI (l.take i)) (l[i].depth+1) by omega];rfl
  ·have:i=l.length:=by omega
   subst this;rw [List.take_length]
   repeat' ((conv=>whnf);first|exact trivial|refine aD0 ?_|refine aS ?_|refine nT_ ?_)
end Go.MM
end
section
namespace Go.MM
open Go Go.DL Go.Proofs
def A9:List ByteArray:=[⟨#[97,110,100]⟩,
 ⟨#[97,110,121]⟩,
 ⟨#[97,116]⟩,
 ⟨#[98,97,99,107]⟩,
 ⟨#[98,111,120]⟩,
 ⟨#[98,117,114,115,116]⟩,
 ⟨#[98,121]⟩,
 ⟨#[99,97,112,97,99,105,116,121]⟩,
 ⟨#[99,101,105,108,105,110,103]⟩,
 ⟨#[99,104,101,99,107]⟩,
 ⟨#[99,111,110,116,114,97,99,116]⟩,
 ⟨#[99,111,117,110,116]⟩,
 ⟨#[100,101,109,97,110,100]⟩,
 ⟨#[100,114,111,112]⟩,
 ⟨#[101,97,99,104]⟩,
 ⟨#[101,100,103,101]⟩,
 ⟨#[101,110,116,114,105,101,115]⟩,
 ⟨#[102,97,108,115,101]⟩,
 ⟨#[102,105,101,108,100]⟩,
 ⟨#[102,108,111,111,114]⟩,
 ⟨#[102,114,111,109]⟩,
 ⟨#[105,100]⟩,
 ⟨#[105,110]⟩,
 ⟨#[105,110,110,101,114]⟩,
 ⟨#[105,110,116,111]⟩,
 ⟨#[108,105,110,107]⟩,
 ⟨#[110,101,116,119,111,114,107]⟩,
 ⟨#[110,111,100,101]⟩,
 ⟨#[110,111,116]⟩,
 ⟨#[111,112,101,110]⟩,
 ⟨#[111,114]⟩,
 ⟨#[112,97,116,104]⟩,
 ⟨#[112,111,114,116]⟩,
 ⟨#[112,114,105,99,101]⟩,
 ⟨#[114,111,117,116,101]⟩,
 ⟨#[114,117,108,101,115]⟩,
 ⟨#[115,116,97,103,101]⟩,
 ⟨#[116,97,107,101]⟩,
 ⟨#[116,101,110,97,110,116]⟩,
 ⟨#[116,104,101,110]⟩,
 ⟨#[116,105,109,101]⟩,
 ⟨#[116,111]⟩,
 ⟨#[116,111,107,101,110]⟩,
 ⟨#[116,114,97,110,115,108,97,116,101]⟩,
 ⟨#[116,114,117,101]⟩,
 ⟨#[118,105,97]⟩,
 ⟨#[119,105,100,116,104]⟩,
 ⟨#[119,105,114,101]⟩,
 ⟨#[119,105,116,104,105,110]⟩]
def wW(c:Int):Bool:=decide (97<=c)&&decide (c<=122)
def yg(c:Int):Bool:=decide (48<=c)&&decide (c<=57)
def AA(c:Int):Bool:=wW c||yg c||c==95
def wY(s:ByteArray)(i:Nat):Int:=((s.toList[i]?.getD 0).toNat:Int)
abbrev U(n:Int):T:=.int .u8 n
theorem t110(c:Int):DCalls Tryz.prog 208 [U c] (.bool (wW c)):=by
 refine dl2 mixed [.tmp 2] [.bool _] Tryz.func208 Na ?_;unfold wW
 repeat' ((conv=>whnf);first|refine nD_ (fun hq=>?_) (fun hq=>?_)|refine rb1 ?_|refine rb0 ?_|refine aS ?_|exact trivial)
theorem t115(c:Int):DCalls Tryz.prog 213 [U c] (.bool (yg c)):=by
 refine dl2 mixed [.tmp 2] [.bool _] Tryz.func213 Ng ?_;unfold yg
 repeat' ((conv=>whnf);first|refine nD_ (fun hq=>?_) (fun hq=>?_)|refine rb1 ?_|refine rb0 ?_|refine aS ?_|exact trivial)
theorem t114(c:Int):DCalls Tryz.prog 212 [U c] (.bool (AA c)):=by
 refine dl2 mixed [.tmp 2] [.bool _] Tryz.func212 Nf ?_;unfold AA;have h1:=t110 c;have h2:=t115 c;generalize wW c=a at *
 generalize yg c=b at *
 cases a <;> cases b
 all_goals repeat' ((conv=>whnf);first|refine uc _ (h1) ?_|refine uc _ (h2) ?_|refine nE_ (fun hq=>?_) (fun hq=>?_)|refine rb1 ?_|refine rb0 ?_|refine aS ?_|exact trivial)
theorem t113:DCalls Tryz.prog 211 [] (.slice 1 (A9.map .str)):=by
 refine dl2 mixed [.tmp 0] [.slice 1 (A9.map .str)] Tryz.func211 Nd ?_
 repeat' ((conv=>whnf);first|refine aS ?_|exact trivial)
def Bh(s:ByteArray):Bool:=A9.any fun w=>uq w s
theorem t111(s:ByteArray):DCalls Tryz.prog 209 [.str s] (.bool (Bh s)):=by
 refine dl2 mixed [.tmp 2] [.bool _] Tryz.func209 Nb ?_;unfold Bh;have hw:A9.length=49:=rfl;have h0:=t113;generalize A9=ws at *
 repeat' ((conv=>whnf);first|refine uc _ (h0) ?_)
 refine tT (α:=Nat) (fun i=>{sl:=[(0,.t (.str s)),(3,.t (.slice 1 (ws.map .str))),(4,.t (I i))],bx:=[]})
  (fun i=>i<=ws.length/\ ∀j (h:j<ws.length),j<i->uq ws[j] s=false) (fun i=>ws.length - i) 0 (by simp) ?_ ?_
 ·repeat' (first|exact wJ|refine And.intro ?_ ?_)
 rintro i ⟨hi,hp⟩;rcases Nat.lt_or_ge i ws.length with h|h
 ·cases hb:uq ws[i] s with
  |true=>
   have e:(ws.any fun w=>uq w s)=true:=List.any_eq_true.2 ⟨_,List.getElem_mem h,hb⟩;rw [e]
   repeat' ((conv=>whnf);first|exact trivial|(refine nv_ (.str ws[i]) (by first|(simp [h];done)|fail) ?_)|refine nb_ true ((uI _ _).trans hb) ?_|refine aD1 ?_|refine rb1 ?_|refine aS ?_|refine nT_ ?_)
  |false=>
   repeat' ((conv=>whnf);first|(refine nv_ (.str ws[i]) (by first|(simp [h];done)|fail) ?_)|refine nb_ false ((uI _ _).trans hb) ?_|refine aD1 ?_|refine aS ?_|refine nT_ ?_)
   refine ⟨i+1,⟨h,fun j hj hlt=>?_⟩,by omega,?_⟩
   ·rcases Nat.lt_or_ge j i with h4|h4
    ·exact hp j hj h4
    ·obtain rfl:j=i:=by omega
     exact hb
   ·repeat' (first|exact wJ|refine And.intro ?_ ?_)
 ·have e:(ws.any fun w=>uq w s)=false:=by
   rw [List.any_eq_false];intro w hw;obtain ⟨j,hj,rfl⟩:=List.getElem_of_mem hw;simp [hp j hj (by omega)]
  rw [e]
  repeat' ((conv=>whnf);first|refine aD0 ?_|refine rb0 ?_|refine aS ?_|exact trivial)
def zy:List UInt8->Nat
 |[]=>0
 |b::bs=>if AA (b.toNat:Int) then 1+zy bs else 0
theorem A3: ∀{l:List UInt8} {n:Nat},n<=l.length->(∀ j,j<n->AA ((l[j]?.getD 0).toNat:Int)=true)->(n=l.length\/AA ((l[n]?.getD 0).toNat:Int)=false)->zy l=n
 |[],n,hn,_,_=>by simp at hn;simp [zy,hn]
 |b::bs,0,hn,_,h=>by
  rcases h with h|h
  ·simp at h
  ·simp at h;simp [zy,h]
 |b::bs,n+1,hn,hp,h=>by
  have h0:=hp 0 (by omega);simp at h0
  have:=A3 (l:=bs) (n:=n) (by simpa using hn) (fun j hj=>by simpa using hp (j+1) (by omega)) (by simpa using h)
  simp [zy,h0,this];omega
theorem Ek(s:ByteArray):s.toList.length=s.size:=by rw [ByteArray.toList_eq];rfl
theorem t112(s:ByteArray)(hs:s.size<2^62):DCalls Tryz.prog 210 [.str s] (I (zy s.toList)):=by
 refine dl2 mixed [.tmp 2] [.int _ _] Tryz.func210 Nc ?_;have hl:=Ek s
 skip
 refine tT (α:=Nat) (fun i=>{sl:=[(0,.t (.str s)),(3,.t (I i))],bx:=[]})
  (fun i=>i<=s.size/\ ∀j,j<i->AA (wY s j)=true) (fun i=>s.size - i) 0 (by simp) ?_ ?_
 ·repeat' (first|exact wJ|refine And.intro ?_ ?_)
 rintro i ⟨hi,hp⟩;rcases Nat.lt_or_ge i s.size with h|h
 ·have h0:=t114 (wY s i);cases hb:AA (wY s i) with
  |true=>
   rw [hb] at h0
   repeat' ((conv=>whnf);first|refine uc _ (h0) ?_|refine aD1 ?_|refine aS ?_|refine nT_ ?_)
   refine ⟨i+1,⟨h,fun j hj=>?_⟩,by omega,?_⟩
   ·rcases Nat.lt_or_ge j i with h4|h4
    ·exact hp j h4
    ·obtain rfl:j=i:=by omega
     exact hb
   ·repeat' (first|exact wJ|refine And.intro ?_ ?_)
  |false=>
   rw [hb] at h0;have e:zy s.toList=i:=A3 (by omega) hp (.inr hb);rw [e]
   repeat' ((conv=>whnf);first|exact trivial|refine uc _ (h0) ?_|refine aD1 ?_|refine rix ?_|refine aS ?_|refine nT_ ?_)
 ·have e:zy s.toList=i:=A3 (by omega) hp (.inl (by omega));rw [e]
  repeat' ((conv=>whnf);first|refine aD0 ?_|refine rix ?_|refine aS ?_|exact trivial)
def yX(s:ByteArray):Bool:=decide (0<s.size)&&decide (s.size<=24)&&wW (wY s 0)&&(zy s.toList==s.size)&& !Bh s
theorem t109(s:ByteArray)(hs:s.size<2^62):DCalls Tryz.prog 206 [.str s] (.bool (yX s)):=by
 refine dl2 mixed [.tmp 2] [.bool _] Tryz.func206 M9 ?_;unfold yX;have h1:=t110 (wY s 0);have h2:=t111 s;have h3:=t112 s hs;generalize wW (wY s 0)=a at *
 generalize Bh s=w at *
 generalize zy s.toList=n at *
 by_cases hz:s.size=0
 ·simp [hz]
  repeat' ((conv=>whnf);first|refine aE1 ?_|refine rb0 ?_|refine aS ?_|exact trivial)
 ·by_cases h24:s.size<=24
  ·simp [h24,show 0<s.size by omega];cases a <;> cases w <;> repeat' ((conv=>whnf);first|exact trivial|refine uc _ (h1) ?_|refine uc _ (h2) ?_|refine uc _ (h3) ?_|refine aE0 ?_|refine aD0 ?_|refine nE_ (fun hq=>?_) (fun hq=>?_)|refine rb1 ?_|refine rb0 ?_|refine aS ?_|refine nT_ ?_)
  ·simp [h24]
   repeat' ((conv=>whnf);first|refine aE0 ?_|refine aD1 ?_|refine rb0 ?_|refine aS ?_|exact trivial)
theorem t108(s:ByteArray)(hs:s.size<2^62):DCalls Tryz.prog 204 [.str s] (.bool (yX s)):=by
 refine dl2 mixed [.tmp 2] [.bool _] Tryz.func204 M8 ?_;have h1:=t109 s hs
 repeat' ((conv=>whnf);first|refine uc _ (h1) ?_|refine rbx ?_|exact trivial)
def vh(s:ByteArray):Bool:=yX s||uq s wA
theorem t104(s:ByteArray)(hs:s.size<2^62):DCalls Tryz.prog 200 [.str s] (.bool (vh s)):=by
 refine dl2 mixed [.tmp 2] [.bool _] Tryz.func200 M0 ?_;have h1:=t108 s hs;unfold vh;have h2:=uI s wA;generalize yX s=a at *
 generalize uq s wA=b at *
 cases a <;> cases b <;> repeat' ((conv=>whnf);first|refine uc _ (h1) ?_|refine nb_ _ h2 ?_|refine rb1 ?_|refine rb0 ?_|refine aS ?_|exact trivial)
abbrev e0:ByteArray:=⟨#[]⟩
def zD:RP->Bool
 |.mk k f n m a=>(k==0)&&uq f e0&&(n==0)&&(m==0)&&(a.length==0)
theorem t105(r:RP):DCalls Tryz.prog 201 [.agg (uX r),.agg [I 0,.str e0,I 0,I 0,.nil]] (.bool (zD r)):=by
 obtain ⟨k,f,n,m,l⟩:=r;refine dl2 mixed [.tmp 4] [.bool _] Tryz.func201 M5 ?_;simp only [zD];have h2:=uI f e0;generalize uq f e0=b at *
 cases l <;> repeat' ((conv=>whnf);first|exact trivial|refine nb_ (!b) (congrArg _ h2) ?_|refine nT_ ?_|refine aN1 ?_|refine aN0 ?_|refine nN_ (fun hq=>?_) (fun hq=>?_)|refine rb0 ?_|refine aS ?_|(cases b))
 refine tT (α:=Unit) (fun _=>{sl:=[(2,.ptr 2 0),(3,.ptr 3 0),(5,.t (I 0))],bx:=[(2,.d 5 (uX (.mk k f n m []))),(3,.d 5 [I 0,.str e0,I 0,I 0,.nil])]}) (fun _=>True) (fun _=>0) () trivial ?_ ?_
 ·repeat' (first|exact wJ|refine And.intro ?_ ?_)
 rintro _ _
 repeat' ((conv=>whnf);first|exact trivial|refine aD0 ?_|refine rb1 ?_|refine aS ?_|refine nT_ ?_)
def xV(n:Int):Bool:=decide (0<=n)&&decide (n<=65535)
def Ah(f:ByteArray)(n m:Int):Bool:=uq f e0&&(n==0)&&(m==0)
def Bc(k:Int):Nat:=if k=6 then 1 else if k=7\/k=8 then 2 else 0
def okP(k:Int)(f:ByteArray)(n m:Int):Bool:=
 if k=1\/k=2 then Ah f n m
 else if k=3 then vh f&&xV n&&(m==0)
 else if k=4 then vh f&&xV n&&decide (0<=m)&&decide (m<=16)
 else if k=5 then vh f&&decide (0<=n)&&decide (n<=m)&&decide (m<=65535)
 else if k=6\/k=7\/k=8 then Ah f n m
 else if k=9 then uq f e0&&decide (0<=n)&&decide (n<m)&&decide (m<=1073741824)
 else false
mutual
def vQ:RP->Bool
 |.mk k f n m a=>okP k f n m&&(a.length==Bc k)&&vI a
def vI:List RP->Bool
 |[]=>true
 |r::rs=>vQ r&&vI rs
end
theorem yP: ∀{l:List RP},vI l=true↔ ∀(i:Nat) (h:i<l.length),vQ l[i]=true
 |[]=>by simp [vI]
 |r::rs=>by
  simp only [vI,Bool.and_eq_true,yP (l:=rs)];constructor
  ·rintro ⟨h0,h⟩ i hi;cases i with
   |zero=>exact h0
   |succ i=>simpa using h i (by simpa using hi)
  ·intro h;exact ⟨h 0 (by simp),fun i hi=>h (i+1) (by simpa using hi)⟩
mutual
def AU:RP->Prop
 |.mk _ f _ _ a=>f.size<2^62/\zJ a
def zJ:List RP->Prop
 |[]=>True
 |r::rs=>AU r/\zJ rs
end
theorem Bz: ∀{l:List RP},zJ l-> ∀(i:Nat) (h:i<l.length),AU l[i]
 |[],_,i,h=>by simp at h
 |r::rs,h,i,hi=>by
  cases i with
  |zero=>exact h.1
  |succ i=>simpa using Bz h.2 i (by simpa using hi)
theorem t106(N:Nat): ∀r:RP,r.nodes<=N->N<2^60->AU r->DCalls Tryz.prog 202 [.agg (uX r)] (.bool (vQ r)):=by
 induction N with
 |zero=>intro r h;have:=r.w9;omega
 |succ N ih=>
  rintro ⟨k,f,n,m,l⟩ hr hN hnm;refine dl2 mixed [.tmp 2] [.bool _] Tryz.func202 M6 ?_;simp only [RP.nodes,vQ] at hr ⊢;have h104:=t104 f hnm.1
  repeat' ((conv=>whnf);first|refine uc _ (h104) ?_|refine aS ?_|refine nT_ ?_)
  refine tV (β:=Unit) (fun _=>{sl:=[(1,.ptr 1 0),(3,.t (.bool (vh f))),(4,.t (.bool (xV n)))],bx:=[(1,.d 5 (uX (.mk k f n m l)))]}) (fun _=>True) ?_ ?_
  ·repeat' ((conv=>whnf);first|refine nD_ (fun hq=>?_) (fun hq=>?_)|refine aS ?_|refine nT_ ?_)
   all_goals refine ⟨(),trivial,?_⟩
   all_goals unfold xV
   all_goals repeat' (first|exact wJ|refine And.intro ?_ ?_)
  rintro _ _
  skip
  refine tV (β:=Unit) (fun _=>{sl:=[(1,.ptr 1 0),(3,.t (.bool (vh f))),(4,.t (.bool (xV n))),(5,.t (.bool (Ah f n m)))],bx:=[(1,.d 5 (uX (.mk k f n m l)))]}) (fun _=>True) ?_ ?_
  ·unfold Ah;have h2:=uI f e0;generalize uq f e0=b at *
   repeat' ((conv=>whnf);first|refine nb_ b h2 ?_|(exact ⟨(),trivial,by (repeat' (first|exact wJ|refine And.intro ?_ ?_));done⟩)|refine nT_ ?_|refine nE_ (fun hq=>?_) (fun hq=>?_)|refine aS ?_|(cases b))
  rintro _ _
  repeat' ((conv=>whnf);first|refine aS ?_|refine nT_ ?_)
  refine tV (β:=Unit) (fun _=>{sl:=[(1,.ptr 1 0),(6,.t (I (Bc k))),(7,.t (.bool (okP k f n m)))],bx:=[(1,.d 5 (uX (.mk k f n m l)))]}) (fun _=>True) ?_ ?_
  ·have h2:=uI f e0;unfold okP Bc;generalize vh f=a at *
   generalize xV n=b at *
   generalize Ah f n m=c at *
   generalize uq f e0=d at *
   repeat' ((conv=>whnf);first|refine nb_ d h2 ?_|(exact ⟨(),trivial,by (repeat' (first|exact wJ|refine And.intro ?_ ?_));done⟩)|refine nT_ ?_|refine nE_ (fun hq=>?_) (fun hq=>?_)|refine nD_ (fun hq=>?_) (fun hq=>?_)|refine aS ?_|(cases a)|(cases b)|(cases d))
  rintro _ _;generalize okP k f n m=ok at *
  cases ok with
  |false=>repeat' ((conv=>whnf);first|refine rb0 ?_|exact trivial)
  |true=>
  by_cases hlen:l.length=Bc k
  ·have e:(true&&(l.length==Bc k)&&vI l)=vI l:=by simp [hlen]
   rw [e, <-hlen];have hnp:=yd l
   repeat' ((conv=>whnf);first|refine aN0 ?_|refine aS ?_|refine nT_ ?_)
   refine tT (α:=Nat) (fun i=>{sl:=[(1,.ptr 1 0),(6,.t (I l.length)),(8,.t (I i))],bx:=[(1,.d 5 (uX (.mk k f n m l)))]})
    (fun i=>i<=l.length/\ ∀j (h:j<l.length),j<i->vQ l[j]=true) (fun i=>l.length - i) 0 (by simp) ?_ ?_
   ·repeat' (first|exact wJ|refine And.intro ?_ ?_)
   rintro i ⟨hi,hp⟩;rcases Nat.lt_or_ge i l.length with h|h
   ·have hn:=xO h;have hm:=xN (l:=l) (j:=i+1);have hc:=ih l[i] (by omega) (by omega) (Bz hnm.2 i h);cases hb:vQ l[i] with
    |true=>
     rw [hb] at hc
     repeat' ((conv=>whnf);first|(refine nv_ (.agg (uX l[i])) (by first|(simp [h,wv];done)|fail) ?_)|refine uc _ (hc) ?_|refine aD1 ?_|(refine And.intro (by first|exact vT _) ?_)|refine aS ?_|refine nT_ ?_)
     refine ⟨i+1,⟨h,fun j hj hlt=>?_⟩,by omega,?_⟩
     ·rcases Nat.lt_or_ge j i with h4|h4
      ·exact hp j hj h4
      ·obtain rfl:j=i:=by omega
       exact hb
     ·repeat' (first|exact wJ|refine And.intro ?_ ?_)
    |false=>
     rw [hb] at hc;have e2:vI l=false:=by
      cases hx:vI l with
      |false=>rfl
      |true=>rw [yP.1 hx i h] at hb;cases hb
     rw [e2]
     repeat' ((conv=>whnf);first|exact trivial|(refine nv_ (.agg (uX l[i])) (by first|(simp [h,wv];done)|fail) ?_)|refine uc _ (hc) ?_|refine aD1 ?_|refine rb0 ?_|(refine And.intro (by first|exact vT _) ?_)|refine aS ?_|refine nT_ ?_)
   ·have e2:vI l=true:=yP.2 fun j hj=>hp j hj (by omega)
    rw [e2]
    repeat' ((conv=>whnf);first|refine aD0 ?_|refine rb1 ?_|refine aS ?_|exact trivial)
  ·have e:(true&&(l.length==Bc k)&&vI l)=false:=by simp [hlen]
   rw [e]
   repeat' ((conv=>whnf);first|exact trivial|refine aN1 ?_|refine rb0 ?_|refine aS ?_|refine nT_ ?_)
end Go.MM
end
section
namespace Go.MM
open Go Go.DL Go.Proofs
mutual
def RO.wt:RO->Nat
 |.mk _ p _ _ a=>1+p.nodes+vA a
def vA:List RO->Nat
 |[]=>0
 |r::rs=>r.wt+vA rs
end
mutual
def RO.size:RO->Nat
 |.mk k p _ _ a=>1+(if k=1 then p.nodes else 0)+wU a
def wU:List RO->Nat
 |[]=>0
 |r::rs=>r.size+wU rs
end
mutual
def RO.deep:RO->Nat
 |.mk k p _ _ a=>1+max (if k=1 then p.depth else 0) (wS a)
def wS:List RO->Nat
 |[]=>0
 |r::rs=>max r.deep (wS rs)
end
mutual
theorem RO.size_le: ∀r:RO,r.size<=r.wt
 |.mk k p _ _ a=>by have:=zh a;simp only [RO.size,RO.wt];split <;> omega
theorem zh: ∀l:List RO,wU l<=vA l
 |[]=>Nat.le_refl _
 |r::rs=>by have:=RO.size_le r;have:=zh rs;simp only [wU,vA];omega
end
mutual
theorem RO.Cw: ∀r:RO,r.deep<=r.wt
 |.mk k p _ _ a=>by have:=zb a;have:=p.zS;simp only [RO.deep,RO.wt];split <;> omega
theorem zb: ∀l:List RO,wS l<=vA l
 |[]=>Nat.le_refl _
 |r::rs=>by have:=RO.Cw r;have:=zb rs;simp only [wS,vA];omega
end
theorem xh: ∀{l:List RO} {j:Nat} (h:j<l.length),vA (l.take (j+1))=vA (l.take j)+l[j].wt
 |r::rs,0,h=>by simp [vA]
 |r::rs,j+1,h=>by
  have:=xh (l:=rs) (j:=j) (by simpa using h)
  simp only [List.take_succ_cons,vA,List.getElem_cons_succ];omega
theorem zA: ∀{l:List RO} {j:Nat} (h:j<l.length),wU (l.take (j+1))=wU (l.take j)+l[j].size
 |r::rs,0,h=>by simp [wU]
 |r::rs,j+1,h=>by
  have:=zA (l:=rs) (j:=j) (by simpa using h)
  simp only [List.take_succ_cons,wU,List.getElem_cons_succ];omega
theorem zp: ∀{l:List RO} {j:Nat} (h:j<l.length),wS (l.take (j+1))=max (wS (l.take j)) l[j].deep
 |r::rs,0,h=>by simp [wS]
 |r::rs,j+1,h=>by
  have:=zp (l:=rs) (j:=j) (by simpa using h)
  simp only [List.take_succ_cons,wS,List.getElem_cons_succ];omega
theorem xg: ∀{l:List RO} {j:Nat},vA (l.take j)<=vA l
 |[],j=>by simp
 |r::rs,0=>by simp [vA]
 |r::rs,j+1=>by
  have:=xg (l:=rs) (j:=j)
  simp only [List.take_succ_cons,vA];omega
theorem RO.ym(r:RO):1<=r.wt:=by cases r;simp only [RO.wt];omega
theorem xY: ∀l:List RO,l.length<=vA l
 |[]=>Nat.le_refl _
 |r::rs=>by have:=xY rs;have:=r.ym;simp only [vA,List.length_cons];omega
theorem two{a b c d:Nat}(h1:a=c)(h2:b=d):[I (a:Int),I (b:Int)]=[I (c:Int),I (d:Int)]:=by rw [h1,h2]
theorem t89(N:Nat): ∀r:RO,r.wt<=N->N<2^60->DCalls Tryz.prog 38 [.agg (ux r)] (sz r.size r.deep):=by
 induction N with
 |zero=>intro r h;have:=r.ym;omega
 |succ N ih=>
  rintro ⟨k,⟨pk,pf,pn,pm,pa⟩,f,n,l⟩ hr hN;refine dl2 mixed [.cell 2 86] [sz _ _] Tryz.func38 l38 ?_;simp only [RO.size,RO.deep,RO.wt] at hr ⊢;have h103:=t103 _ (.mk pk pf pn pm pa) (Nat.le_refl _) (by omega);have hpd:=(RP.mk pk pf pn pm pa).zS;have hlen:=xY l
  by_cases hk:k=1
  ·simp only [hk,if_true]
   repeat' ((conv=>whnf);first|refine uc _ (h103) ?_|refine uc _ (t102 1 1 _ _ (by omega) (by omega) (by omega)) ?_|refine aE1 ?_|refine aS ?_|refine nT_ ?_)
   refine tT (α:=Nat) (fun i=>{sl:=[(1,.ptr 1 0),(2,.ptr 2 0),(3,.ptr 3 0),(4,.t (I i))],bx:=[(1,.d 9 (ux (.mk 1 (.mk pk pf pn pm pa) f n l))),(2,.d 2 [I 0,I 0]),(3,.d 2 [I (1+(RP.mk pk pf pn pm pa).nodes+wU (l.take i):Nat),I (1+max (RP.mk pk pf pn pm pa).depth (wS (l.take i)):Nat)])]})
    (fun i=>i<=l.length) (fun i=>l.length - i) 0 (by omega) ?_ ?_
   ·repeat' (first|exact wJ|refine ui ?_|refine And.intro ?_ ?_)
    all_goals exact two (by simp [wU]) (by simp [wS];try omega)
   rintro i hi;rcases Nat.lt_or_ge i l.length with h|h
   ·have hn:=zA h;have hd:=zp h;have hw:=xh h;have hm:=xg (l:=l) (j:=i+1);have hp:=l[i].ym;have h1:=l[i].size_le;have h2:=l[i].Cw;have h3:=zb (l.take i);have h4:=zh (l.take i)
    repeat' ((conv=>whnf);first|(refine nv_ (.agg (ux l[i])) (by first|(simp [h,vL];done)|fail) ?_)|refine uc _ (ih l[i] (by omega) (by omega)) ?_|refine uc _ (t102 _ _ _ _ (by omega) (by omega) (by omega)) ?_|refine aD1 ?_|(refine And.intro (by first|exact uG _) ?_)|refine aS ?_|refine nT_ ?_)
    refine ⟨i+1,by omega,by omega,?_⟩
    repeat' (first|exact wJ|refine ui ?_|refine And.intro ?_ ?_)
    exact two (by omega) (by omega)
   ·have:i=l.length:=by omega
    subst this;rw [List.take_length]
    repeat' ((conv=>whnf);first|exact trivial|refine aD0 ?_|refine aS ?_|refine nT_ ?_)
  ·simp only [hk,if_false]
   repeat' ((conv=>whnf);first|refine aE0 ?_|refine aS ?_|refine nT_ ?_)
   refine tT (α:=Nat) (fun i=>{sl:=[(1,.ptr 1 0),(2,.ptr 2 0),(3,.ptr 3 0),(4,.t (I i))],bx:=[(1,.d 9 (ux (.mk k (.mk pk pf pn pm pa) f n l))),(2,.d 2 [I 0,I 0]),(3,.d 2 [I (1+0+wU (l.take i):Nat),I (1+max 0 (wS (l.take i)):Nat)])]})
    (fun i=>i<=l.length) (fun i=>l.length - i) 0 (by omega) ?_ ?_
   ·repeat' (first|exact wJ|refine And.intro ?_ ?_)
    all_goals exact two (by simp [wU]) (by simp [wS];try omega)
   rintro i hi;rcases Nat.lt_or_ge i l.length with h|h
   ·have hn:=zA h;have hd:=zp h;have hw:=xh h;have hm:=xg (l:=l) (j:=i+1);have hp:=l[i].ym;have h1:=l[i].size_le;have h2:=l[i].Cw;have h3:=zb (l.take i);have h4:=zh (l.take i)
    repeat' ((conv=>whnf);first|(refine nv_ (.agg (ux l[i])) (by first|(simp [h,vL];done)|fail) ?_)|refine uc _ (ih l[i] (by omega) (by omega)) ?_|refine uc _ (t102 _ _ _ _ (by omega) (by omega) (by omega)) ?_|refine aD1 ?_|(refine And.intro (by first|exact uG _) ?_)|refine aS ?_|refine nT_ ?_)
    refine ⟨i+1,by omega,by omega,?_⟩
    repeat' (first|exact wJ|refine ui ?_|refine And.intro ?_ ?_)
    exact two (by omega) (by omega)
   ·have:i=l.length:=by omega
    subst this;rw [List.take_length]
    repeat' ((conv=>whnf);first|exact trivial|refine aD0 ?_|refine aS ?_|refine nT_ ?_)
def DP(n d:Nat):Int:=if n<=200/\d<=20 then 0 else 2
theorem t101(n d:Nat):DCalls Tryz.prog 199 [sz n d] (I (DP n d)):=by
 refine dl2 mixed [.tmp 2] [.int _ _] Tryz.func199 MZ ?_;unfold DP
 by_cases h1:n<=200
 ·by_cases h2:d<=20
  ·rw [if_pos ⟨h1,h2⟩];repeat' ((conv=>whnf);first|exact trivial|refine aD0 ?_|refine rix ?_|refine aS ?_|refine nT_ ?_)
  ·rw [if_neg (by omega)];repeat' ((conv=>whnf);first|exact trivial|refine aD1 ?_|refine aD0 ?_|refine rix ?_|refine aS ?_|refine nT_ ?_)
 ·rw [if_neg (by omega)];repeat' ((conv=>whnf);first|exact trivial|refine aD1 ?_|refine rix ?_|refine aS ?_|refine nT_ ?_)
def B7(e:Int)(b:Bool):Int:=if e=0 then (if b then 0 else 1) else e
theorem t88(n d:Nat)(b:Bool):DCalls Tryz.prog 187 [sz n d,.bool b] (I (B7 (DP n d) b)):=by
 refine dl2 mixed [.tmp 4] [.int _ _] Tryz.func187 MU ?_;have h:=t101 n d;generalize DP n d=e at *
 unfold B7
 by_cases h0:e=0
 ·subst h0;cases b <;> repeat' ((conv=>whnf);first|refine uc _ (h) ?_|refine aE1 ?_|refine rix ?_|refine aS ?_|exact trivial)
 ·rw [if_neg h0]
  repeat' ((conv=>whnf);first|refine uc _ (h) ?_|refine aE0 ?_|refine rix ?_|refine aS ?_|exact trivial)
def Bb(k:Int):Nat:=if k=3\/k=4 then 2 else if k=5 then 1 else 0
def Cf(f:ByteArray)(n:Int):Bool:=uq f e0&&(n==0)
def okO(k:Int)(p:RP)(f:ByteArray)(n:Int):Bool:=
 if k=1 then vQ p&&Cf f n
 else if k=2 then vh f&&zD p&&decide (0<=n)&&decide (n<=65535)
 else if k=3\/k=4\/k=5 then zD p&&Cf f n
 else false
mutual
def vP:RO->Bool
 |.mk k p f n a=>okO k p f n&&(a.length==Bb k)&&vH a
def vH:List RO->Bool
 |[]=>true
 |r::rs=>vP r&&vH rs
end
theorem yO: ∀{l:List RO},vH l=true↔ ∀(i:Nat) (h:i<l.length),vP l[i]=true
 |[]=>by simp [vH]
 |r::rs=>by
  simp only [vH,Bool.and_eq_true,yO (l:=rs)];constructor
  ·rintro ⟨h0,h⟩ i hi;cases i with
   |zero=>exact h0
   |succ i=>simpa using h i (by simpa using hi)
  ·intro h;exact ⟨h 0 (by simp),fun i hi=>h (i+1) (by simpa using hi)⟩
mutual
def yW:RO->Prop
 |.mk _ p f _ a=>AU p/\f.size<2^62/\zI a
def zI:List RO->Prop
 |[]=>True
 |r::rs=>yW r/\zI rs
end
theorem By: ∀{l:List RO},zI l-> ∀(i:Nat) (h:i<l.length),yW l[i]
 |[],_,i,h=>by simp at h
 |r::rs,h,i,hi=>by
  cases i with
  |zero=>exact h.1
  |succ i=>simpa using By h.2 i (by simpa using hi)
theorem t90(N:Nat): ∀r:RO,r.wt<=N->N<2^60->yW r->DCalls Tryz.prog 188 [.agg (ux r)] (.bool (vP r)):=by
 induction N with
 |zero=>intro r h;have:=r.ym;omega
 |succ N ih=>
  rintro ⟨k,⟨pk,pf,pn,pm,pa⟩,f,n,l⟩ hr hN ⟨hn1,hn2,hn3⟩;refine dl2 mixed [.tmp 2] [.bool _] Tryz.func188 MV ?_;simp only [RO.wt,vP] at hr ⊢;have h104:=t104 f hn2;have h105:=t105 (.mk pk pf pn pm pa);have h106:=t106 _ (.mk pk pf pn pm pa) (Nat.le_refl _) (by omega) hn1
  repeat' ((conv=>whnf);first|refine uc _ (h104) ?_|refine uc _ (h105) ?_|refine aS ?_|refine nT_ ?_)
  refine tV (β:=Unit) (fun _=>{sl:=[(1,.ptr 1 0),(3,.t (.bool (vh f))),(4,.t (.bool (zD (.mk pk pf pn pm pa)))),(5,.t (.bool (Cf f n)))],bx:=[(1,.d 9 (ux (.mk k (.mk pk pf pn pm pa) f n l)))]}) (fun _=>True) ?_ ?_
  ·unfold Cf;have h2:=uI f e0;generalize uq f e0=b at *
   repeat' ((conv=>whnf);first|refine nb_ b h2 ?_|(exact ⟨(),trivial,by (repeat' (first|exact wJ|refine And.intro ?_ ?_));done⟩)|refine nT_ ?_|refine nE_ (fun hq=>?_) (fun hq=>?_)|refine aS ?_|(cases b))
  rintro _ _
  repeat' ((conv=>whnf);first|refine aS ?_|refine nT_ ?_)
  refine tV (β:=Unit) (fun _=>{sl:=[(1,.ptr 1 0),(6,.t (I (Bb k))),(7,.t (.bool (okO k (.mk pk pf pn pm pa) f n)))],bx:=[(1,.d 9 (ux (.mk k (.mk pk pf pn pm pa) f n l)))]}) (fun _=>True) ?_ ?_
  ·unfold okO Bb;generalize vh f=a at *
   generalize vQ (.mk pk pf pn pm pa)=b at *
   generalize Cf f n=c at *
   generalize zD (.mk pk pf pn pm pa)=d at *
   repeat' ((conv=>whnf);first|refine uc _ (h106) ?_|(exact ⟨(),trivial,by (repeat' (first|exact wJ|refine And.intro ?_ ?_));done⟩)|refine nT_ ?_|refine nE_ (fun hq=>?_) (fun hq=>?_)|refine nD_ (fun hq=>?_) (fun hq=>?_)|refine aS ?_|(cases a)|(cases b)|(cases d))
  rintro _ _;generalize okO k (.mk pk pf pn pm pa) f n=ok at *
  cases ok with
  |false=>repeat' ((conv=>whnf);first|refine rb0 ?_|exact trivial)
  |true=>
  by_cases hlen:l.length=Bb k
  ·have e:(true&&(l.length==Bb k)&&vH l)=vH l:=by simp [hlen]
   rw [e, <-hlen];have hnp:=xY l
   repeat' ((conv=>whnf);first|refine aN0 ?_|refine aS ?_|refine nT_ ?_)
   refine tT (α:=Nat) (fun i=>{sl:=[(1,.ptr 1 0),(6,.t (I l.length)),(8,.t (I i))],bx:=[(1,.d 9 (ux (.mk k (.mk pk pf pn pm pa) f n l)))]})
    (fun i=>i<=l.length/\ ∀j (h:j<l.length),j<i->vP l[j]=true) (fun i=>l.length - i) 0 (by simp) ?_ ?_
   ·repeat' (first|exact wJ|refine And.intro ?_ ?_)
   rintro i ⟨hi,hp⟩;rcases Nat.lt_or_ge i l.length with h|h
   ·have hn:=xh h;have hm:=xg (l:=l) (j:=i+1);have hc:=ih l[i] (by omega) (by omega) (By hn3 i h);cases hb:vP l[i] with
    |true=>
     rw [hb] at hc
     repeat' ((conv=>whnf);first|(refine nv_ (.agg (ux l[i])) (by first|(simp [h,vL];done)|fail) ?_)|refine uc _ (hc) ?_|refine aD1 ?_|(refine And.intro (by first|exact uG _) ?_)|refine aS ?_|refine nT_ ?_)
     refine ⟨i+1,⟨h,fun j hj hlt=>?_⟩,by omega,?_⟩
     ·rcases Nat.lt_or_ge j i with h4|h4
      ·exact hp j hj h4
      ·obtain rfl:j=i:=by omega
       exact hb
     ·repeat' (first|exact wJ|refine And.intro ?_ ?_)
    |false=>
     rw [hb] at hc;have e2:vH l=false:=by
      cases hx:vH l with
      |false=>rfl
      |true=>rw [yO.1 hx i h] at hb;cases hb
     rw [e2]
     repeat' ((conv=>whnf);first|exact trivial|(refine nv_ (.agg (ux l[i])) (by first|(simp [h,vL];done)|fail) ?_)|refine uc _ (hc) ?_|refine aD1 ?_|refine rb0 ?_|(refine And.intro (by first|exact uG _) ?_)|refine aS ?_|refine nT_ ?_)
   ·have e2:vH l=true:=yO.2 fun j hj=>hp j hj (by omega)
    rw [e2]
    repeat' ((conv=>whnf);first|refine aD0 ?_|refine rb1 ?_|refine aS ?_|exact trivial)
  ·have e:(true&&(l.length==Bb k)&&vH l)=false:=by simp [hlen]
   rw [e]
   repeat' ((conv=>whnf);first|exact trivial|refine aN1 ?_|refine rb0 ?_|refine aS ?_|refine nT_ ?_)
def vM(r:RO):Int:=B7 (DP r.size r.deep) (vP r)
theorem t63(r:RO)(hr:r.wt<2^60)(hn:yW r):DCalls Tryz.prog 171 [.agg (ux r)] (I (vM r)):=by
 refine dl2 mixed [.tmp 2] [.int _ _] Tryz.func171 MP ?_;have h1:=t89 _ r (Nat.le_refl _) hr;have h2:=t90 _ r (Nat.le_refl _) hr hn;have h3:=t88 r.size r.deep (vP r);have hl:=uG r;unfold vM
 repeat' ((conv=>whnf);first|refine uc _ (h1) ?_|refine uc _ (h2) ?_|refine uc _ (h3) ?_|refine rix ?_|refine aS ?_|exact trivial)
end Go.MM
end
section
namespace Go.MM
open Go Go.DL Go.Proofs
structure RF where
 name:ByteArray
 a:Int
 w:Int
deriving Inhabited
def vS(f:RF):List T:=[.str f.name,I f.a,I f.w]
def wO(f:RF):T:=.agg (vS f)
def xZ(l:List RF):T:=.slice 3 (l.map wO)
def at8(s:ByteArray)(i:Nat):Bool:=wW (wY s i)||((yg (wY s i)||wY s i==95)&& !(i==0))
def Dl(s:ByteArray):Bool:=(List.range s.size).all fun i=>at8 s i
def yc(s:ByteArray):Bool:=Dl s&&(decide (1<=s.size)&&decide (s.size<=24))
theorem t69(s:ByteArray)(hs:s.size<2^62):DCalls Tryz.prog 87 [.str s] (.bool (yc s)):=by
 refine dl2 mixed [.tmp 2] [.bool _] Tryz.func87 l87 ?_
 skip
 refine tT (α:=Nat) (fun i=>{sl:=[(0,.t (.str s)),(3,.t (I i))],bx:=[]})
  (fun i=>i<=s.size/\ ∀j,j<i->at8 s j=true) (fun i=>s.size - i) 0 (by simp) ?_ ?_
 ·repeat' (first|exact wJ|refine And.intro ?_ ?_)
 rintro i ⟨hi,hp⟩;rcases Nat.lt_or_ge i s.size with h|h
 ·have good:at8 s i=true->i+1<=s.size/\ ∀j,j<i+1->at8 s j=true:=fun hb=>by
   refine ⟨h,fun j hj=>?_⟩;rcases Nat.lt_or_ge j i with h4|h4
   ·exact hp j h4
   ·obtain rfl:j=i:=by omega
    exact hb
  have bad:at8 s i=false->yc s=false:=fun hb=>by
   unfold yc
   have:Dl s=false:=by
    unfold Dl;rw [List.all_eq_false];exact ⟨i,by simpa using h,by simp [hb]⟩
   rw [this];rfl
  have bad':at8 s i=false->false=yc s:=fun hb=>(bad hb).symm
  clear bad;rw [show at8 s i=(wW (wY s i)||((yg (wY s i)||wY s i==95)&& !(i==0))) from rfl] at good bad';have hc:((s.toList[i]?.getD 0).toNat:Int)=wY s i:=rfl;generalize yc s=N at *
  generalize wY s i=c at *
  repeat' ((conv=>whnf);first|(refine nv_ (U c) (by first|exact congrArg U hc) ?_)|(exact rb (x:=false) (bad' (by simp [wW,yg];omega)) trivial)|(exact ⟨i+1,good (by simp [wW,yg];omega),by omega,by (repeat' (first|exact wJ|refine And.intro ?_ ?_));done⟩)|refine aE0 ?_|refine aD1 ?_|refine aD0 ?_|refine nE_ (fun hq=>?_) (fun hq=>?_)|refine nD_ (fun hq=>?_) (fun hq=>?_)|refine aS ?_|fail)
 ·have e:Dl s=true:=by
   unfold Dl;rw [List.all_eq_true];intro j hj;exact hp j (by simp at hj;omega)
  unfold yc;rw [e]
  repeat' ((conv=>whnf);first|refine aD0 ?_|refine nD_ (fun hq=>?_) (fun hq=>?_)|refine rb1 ?_|refine rb0 ?_|refine aS ?_|exact trivial)
def xu(f:RF):Bool:=decide (1<=f.w)&&decide (f.w<=16)&&decide (16<=f.a)&&decide (f.a<=143)&&decide (f.a % 16+f.w<=16)
theorem J0{a:Int}(h:0<=a):a.tmod 16=a % 16:=Int.tmod_eq_emod_of_nonneg h
theorem t70(f:RF):DCalls Tryz.prog 88 [wO f] (.bool (xu f)):=by
 obtain ⟨s,a,w⟩:=f;refine dl2 mixed [.tmp 2] [.bool _] Tryz.func88 l88 ?_;simp only [xu]
 by_cases h16:16<=a
 ·have e:=J0 (a:=a) (by omega)
  by_cases h1:1<=w
  ·by_cases h2:w<=16
   ·by_cases h3:a<=143
    ·have e2:IntKind.wrap .i64 (a.tmod 16+w)=a % 16+w:=by rw [e,nW] <;> omega
     have e3:(decide (1<=w)&&decide (w<=16)&&decide (16<=a)&&decide (a<=143)&&decide (a % 16+w<=16))=decide (a % 16+w<=16):=by simp [h16,h1,h2,h3]
     rw [e3]
     by_cases h4:a % 16+w<=16
     ·repeat' ((conv=>whnf);first|exact trivial|(refine sC (by rw [e2];exact h4) ?_)|refine aD1 ?_|refine rb1 ?_|refine aS ?_|refine nT_ ?_)
     ·repeat' ((conv=>whnf);first|exact trivial|(refine su (by rw [e2];exact h4) ?_)|refine aD1 ?_|refine rb0 ?_|refine aS ?_|refine nT_ ?_)
    ·repeat' ((conv=>whnf);first|exact trivial|refine aD1 ?_|refine aD0 ?_|refine rb0 ?_|refine aS ?_|refine nT_ ?_)
   ·repeat' ((conv=>whnf);first|exact trivial|refine aD1 ?_|refine aD0 ?_|refine rb0 ?_|refine aS ?_|refine nT_ ?_)
  ·repeat' ((conv=>whnf);first|exact trivial|refine aD0 ?_|refine rb0 ?_|refine aS ?_|refine nT_ ?_)
 ·repeat' ((conv=>whnf);first|exact trivial|refine aD0 ?_|refine nD_ (fun hq=>?_) (fun hq=>?_)|refine rb0 ?_|refine aS ?_|refine nT_ ?_)
def zM(f:RF):Prop:= -1000<=f.a/\f.a<=1000/\ -1000<=f.w/\f.w<=1000
def xl(f g:RF):Bool:=decide (f.a<g.a+g.w)&&decide (g.a<f.a+f.w)
theorem t71(f g:RF)(hf:zM f)(hg:zM g):DCalls Tryz.prog 89 [wO f,wO g] (.bool (xl f g)):=by
 obtain ⟨s,a,w⟩:=f;obtain ⟨s',b,v⟩:=g;simp only [zM] at hf hg;refine dl2 mixed [.tmp 4] [.bool _] Tryz.func89 l89 ?_;simp only [xl];have e1:IntKind.wrap .i64 (b+v)=b+v:=nW (by omega) (by omega);have e2:IntKind.wrap .i64 (a+w)=a+w:=nW (by omega) (by omega)
 by_cases h1:a<b+v
 ·by_cases h2:b<a+w
  ·repeat' ((conv=>whnf);first|exact trivial|(refine sC (by rw [e1];exact h1) ?_)|(refine sC (by rw [e2];exact h2) ?_)|refine rb1 ?_|refine aS ?_|refine nT_ ?_)
  ·repeat' ((conv=>whnf);first|exact trivial|(refine sC (by rw [e1];exact h1) ?_)|(refine su (by rw [e2];exact h2) ?_)|refine rb0 ?_|refine aS ?_|refine nT_ ?_)
 ·repeat' ((conv=>whnf);first|exact trivial|(refine su (by rw [e1];exact h1) ?_)|refine rb0 ?_|refine aS ?_|refine nT_ ?_)
def vm(l:List RF)(i:Nat)(f:RF):Int:=
 if yc f.name=false\/uq f.name wA=true then 4
 else if ((l.take i).any fun g=>uq g.name f.name)=true then 4
 else if xu f=false then 1
 else if ((l.take i).any fun g=>xl g f)=true then 1 else 0
def uU:List Int->Int
 |[]=>0
 |x::xs=>if x≠0 then x else uU xs
theorem yx: ∀{l:List Int} {i:Nat} (h:i<l.length),(∀ j (hj:j<l.length),j<i->l[j]=0)->l[i]≠0->uU l=l[i]
 |x::xs,0,h,_,h0=>by simp at h0;simp [uU,h0]
 |x::xs,i+1,h,hz,h0=>by
  have hx:x=0:=hz 0 (by simp) (by omega);simp only [uU,hx,ne_eq,not_true_eq_false,if_false];exact yx (by simpa using h) (fun j hj hlt=>hz (j+1) (by simpa using hj) (by omega)) (by simpa using h0)
theorem zc: ∀{l:List Int},(∀ j (hj:j<l.length),l[j]=0)->uU l=0
 |[],_=>rfl
 |x::xs,hz=>by
  have hx:x=0:=hz 0 (by simp);simp only [uU,hx,ne_eq,not_true_eq_false,if_false];exact zc fun j hj=>hz (j+1) (by simpa using hj)
def yI(l:List RF):Int:=if l.length>16 then 2 else uU (l.mapIdx fun i f=>vm l i f)
theorem AZ{f:RF}(h:xu f=true):zM f:=by
 simp [xu] at h;unfold zM;omega
theorem xP{p:RF->Bool}{l:List RF}{i:Nat}(hi:i<=l.length):((l.take i).any p=true)↔ ∃j, ∃h:j<l.length,j<i/\p l[j]=true:=by
 rw [List.any_eq_true];constructor
 ·rintro ⟨x,hx,hp⟩;obtain ⟨j,hj,rfl⟩:=List.getElem_of_mem hx;simp at hj;exact ⟨j,by omega,by omega,by simpa using hp⟩
 ·rintro ⟨j,h,hji,hp⟩;exact ⟨l[j],List.mem_take_iff_getElem.2 ⟨j,by omega,rfl⟩,hp⟩
theorem t47(l:List RF)(hl:l.length<2^60)(hn: ∀f∈l,f.name.size<2^62):DCalls Tryz.prog 36 [xZ l] (I (yI l)):=by
 refine dl2 mixed [.tmp 2] [.int _ _] Tryz.func36 l36 ?_;unfold yI
 by_cases h16:l.length>16
 ·rw [if_pos h16];repeat' ((conv=>whnf);first|refine aD1 ?_|refine rix ?_|refine aS ?_|exact trivial)
 rw [if_neg h16]
 repeat' ((conv=>whnf);first|refine aD0 ?_|refine aS ?_|fail)
 refine tT (α:=Nat) (fun i=>{sl:=[(0,.t (xZ l)),(3,.t (I i))],bx:=[]})
  (fun i=>i<=l.length/\ ∀j (h:j<l.length),j<i->vm l j l[j]=0) (fun i=>l.length - i) 0 (by simp) ?_ ?_
 ·repeat' (first|exact wJ|refine And.intro ?_ ?_)
 rintro i ⟨hi,hp⟩;rcases Nat.lt_or_ge i l.length with h|h
 ·have res: ∀e,vm l i l[i]=e->e≠0->uU (l.mapIdx fun i f=>vm l i f)=e:=fun e he h0=>by
   have:=yx (l:=l.mapIdx fun i f=>vm l i f) (i:=i) (by simpa using h) (fun j hj hlt=>by simpa using hp j (by simpa using hj) hlt) (by simpa [he] using h0)
   rw [this];simpa using he
  have next:vm l i l[i]=0->i+1<=l.length/\ ∀j (h:j<l.length),j<i+1->vm l j l[j]=0:=fun h0=>by
   refine ⟨h,fun j hj hlt=>?_⟩;rcases Nat.lt_or_ge j i with h4|h4
   ·exact hp j hj h4
   ·obtain rfl:j=i:=by omega
    exact h0
  have small: ∀k (hk:k<l.length),k<i->zM l[k]:=fun k hk hlt=>by
   have:=hp k hk hlt
   unfold vm at this;split at this; ·omega
   split at this; ·omega
   split at this; ·omega
   rename_i h3;exact AZ (by simpa using h3)
  have c69:=t69 l[i].name (hn _ (List.getElem_mem h));have c70:=t70 l[i];have s1:=uI l[i].name wA;cases hA:yc l[i].name with
  |false=>
   rw [hA] at c69;rw [res 4 (by unfold vm;simp [hA]) (by decide)]
   repeat' ((conv=>whnf);first|exact trivial|(refine nv_ (.agg (vS l[i])) (by first|(simp [h,wO];done)|fail) ?_)|refine uc _ (c69) ?_|refine aD1 ?_|refine rix ?_|refine aS ?_|refine nT_ ?_)
  |true=>
  rw [hA] at c69;cases hB:uq l[i].name wA with
  |true=>
   rw [hB] at s1;rw [res 4 (by unfold vm;simp [hB]) (by decide)]
   repeat' ((conv=>whnf);first|exact trivial|(refine nv_ (.agg (vS l[i])) (by first|(simp [h,wO];done)|fail) ?_)|refine uc _ (c69) ?_|refine nb_ true s1 ?_|refine aD1 ?_|refine rix ?_|refine aS ?_|refine nT_ ?_)
  |false=>
  rw [hB] at s1
  repeat' ((conv=>whnf);first|(refine nv_ (.agg (vS l[i])) (by first|(simp [h,wO];done)|fail) ?_)|refine uc _ (c69) ?_|refine nb_ false s1 ?_|refine aD1 ?_|refine aS ?_|refine nT_ ?_)
  refine tT (α:=Nat) (fun k=>{sl:=[(0,.t (xZ l)),(3,.t (I i)),(5,.t (I k))],bx:=[]})
   (fun k=>k<=i/\ ∀j (hj:j<l.length),j<k->uq l[j].name l[i].name=false) (fun k=>i - k) 0 (by simp) ?_ ?_
  ·repeat' (first|exact wJ|refine And.intro ?_ ?_)
  rintro k ⟨hk,hpk⟩;rcases Nat.lt_or_ge k i with hki|hki
  ·have hkl:k<l.length:=by omega
   have s2:=uI l[k].name l[i].name;cases hC:uq l[k].name l[i].name with
   |true=>
    rw [hC] at s2;rw [res 4 (by unfold vm;rw [if_neg (by simp [hA,hB]),if_pos ((xP (by omega)).2 ⟨k,hkl,hki,hC⟩)]) (by decide)]
    repeat' ((conv=>whnf);first|exact trivial|(refine nv_ (.agg (vS l[k])) (by first|(simp [hkl,wO];done)|fail) ?_)|(refine nv_ (.agg (vS l[i])) (by first|(simp [h,wO];done)|fail) ?_)|refine nb_ true s2 ?_|refine aD1 ?_|refine rix ?_|refine aS ?_|refine nT_ ?_)
   |false=>
    rw [hC] at s2
    repeat' ((conv=>whnf);first|(refine nv_ (.agg (vS l[k])) (by first|(simp [hkl,wO];done)|fail) ?_)|(refine nv_ (.agg (vS l[i])) (by first|(simp [h,wO];done)|fail) ?_)|refine nb_ false s2 ?_|refine aD1 ?_|refine aS ?_|refine nT_ ?_)
    refine ⟨k+1,⟨by omega,fun j hj hlt=>?_⟩,by omega,?_⟩
    ·rcases Nat.lt_or_ge j k with h4|h4
     ·exact hpk j hj h4
     ·obtain rfl:j=k:=by omega
      exact hC
    ·repeat' (first|exact wJ|refine And.intro ?_ ?_)
  obtain rfl:k=i:=by omega
  have any1: ¬((l.take k).any fun g=>uq g.name l[k].name)=true:=fun hx=>by
   obtain ⟨j,hj,hji,hjp⟩:=(xP hi).1 hx;rw [hpk j hj hji] at hjp;cases hjp
  cases hD:xu l[k] with
  |false=>
   rw [hD] at c70;rw [res 1 (by unfold vm;rw [if_neg (by simp [hA,hB]),if_neg any1,if_pos hD]) (by decide)]
   repeat' ((conv=>whnf);first|exact trivial|(refine nv_ (.agg (vS l[k])) (by first|(simp [h,wO];done)|fail) ?_)|refine uc _ (c70) ?_|refine aD0 ?_|refine rix ?_|refine aS ?_|refine nT_ ?_)
  |true=>
  rw [hD] at c70;have smk:=AZ hD
  repeat' ((conv=>whnf);first|(refine nv_ (.agg (vS l[k])) (by first|(simp [h,wO];done)|fail) ?_)|refine uc _ (c70) ?_|refine aD0 ?_|refine aS ?_|refine nT_ ?_)
  refine tT (α:=Nat) (fun m=>{sl:=[(0,.t (xZ l)),(3,.t (I k)),(7,.t (I m))],bx:=[]})
   (fun m=>m<=k/\ ∀j (hj:j<l.length),j<m->xl l[j] l[k]=false) (fun m=>k - m) 0 (by simp) ?_ ?_
  ·repeat' (first|exact wJ|refine And.intro ?_ ?_)
  rintro m ⟨hm,hpm⟩;rcases Nat.lt_or_ge m k with hmi|hmi
  ·have hml:m<l.length:=by omega
   have c71:=t71 l[m] l[k] (small m hml hmi) smk;cases hC:xl l[m] l[k] with
   |true=>
    rw [hC] at c71;rw [res 1 (by unfold vm;rw [if_neg (by simp [hA,hB]),if_neg any1,if_neg (by simp [hD]),if_pos ((xP (by omega)).2 ⟨m,hml,hmi,hC⟩)]) (by decide)]
    repeat' ((conv=>whnf);first|exact trivial|(refine nv_ (.agg (vS l[m])) (by first|(simp [hml,wO];done)|fail) ?_)|(refine nv_ (.agg (vS l[k])) (by first|(simp [h,wO];done)|fail) ?_)|refine uc _ (c71) ?_|refine aD1 ?_|refine rix ?_|refine aS ?_|refine nT_ ?_)
   |false=>
    rw [hC] at c71
    repeat' ((conv=>whnf);first|(refine nv_ (.agg (vS l[m])) (by first|(simp [hml,wO];done)|fail) ?_)|(refine nv_ (.agg (vS l[k])) (by first|(simp [h,wO];done)|fail) ?_)|refine uc _ (c71) ?_|refine aD1 ?_|refine aS ?_|refine nT_ ?_)
    refine ⟨m+1,⟨by omega,fun j hj hlt=>?_⟩,by omega,?_⟩
    ·rcases Nat.lt_or_ge j m with h4|h4
     ·exact hpm j hj h4
     ·obtain rfl:j=m:=by omega
      exact hC
    ·repeat' (first|exact wJ|refine And.intro ?_ ?_)
  obtain rfl:m=k:=by omega
  have any2: ¬((l.take m).any fun g=>xl g l[m])=true:=fun hx=>by
   obtain ⟨j,hj,hji,hjp⟩:=(xP hi).1 hx;rw [hpm j hj hji] at hjp;cases hjp
  have e0:vm l m l[m]=0:=by unfold vm;rw [if_neg (by simp [hA,hB]),if_neg any1,if_neg (by simp [hD]),if_neg any2]
  repeat' ((conv=>whnf);first|(exact ⟨m+1,next e0,by omega,by (repeat' (first|exact wJ|refine And.intro ?_ ?_));done⟩)|refine aD0 ?_|refine aS ?_|fail)
 ·rw [zc fun j hj=>by simpa using hp j (by simpa using hj) (by simp at hj;omega)]
  repeat' ((conv=>whnf);first|refine aD0 ?_|refine rix ?_|refine aS ?_|exact trivial)
mutual
def xd:RP->List RP
 |.mk k f n m a=>.mk k f n m a::wa a
def wa:List RP->List RP
 |[]=>[]
 |r::rs=>xd r++wa rs
end
mutual
theorem Ak: ∀r:RP,(xd r).length=r.nodes
 |.mk k f n m a=>by simp only [xd,List.length_cons,zu a,RP.nodes];omega
theorem zu: ∀l:List RP,(wa l).length=uW l
 |[]=>rfl
 |r::rs=>by simp only [wa,List.length_append,Ak r,zu rs,uW]
end
theorem AX: ∀{l:List RP} {j:Nat} (h:j<l.length),wa (l.take (j+1))=wa (l.take j)++xd l[j]
 |r::rs,0,h=>by simp [wa]
 |r::rs,j+1,h=>by
  have:=AX (l:=rs) (j:=j) (by simpa using h)
  simp only [List.take_succ_cons,wa,List.getElem_cons_succ,this,List.append_assoc]
theorem t91(N:Nat): ∀r:RP,r.nodes<=N->N<2^40->DCalls Tryz.prog 190 [.agg (uX r)] (.slice 5 ((xd r).map zq)):=by
 induction N with
 |zero=>intro r h;have:=r.w9;omega
 |succ N ih=>
  rintro ⟨k,f,n,m,l⟩ hr hN;refine dl2 mixed [.tmp 2] [.slice 5 _] Tryz.func190 MX ?_;simp only [RP.nodes,xd] at hr ⊢;have hl:=yd l
  repeat' ((conv=>whnf);first|refine aS ?_|fail)
  refine tT (α:=Nat×Nat) (fun q=>{sl:=[(1,.ptr 1 0),(3,.own q.1 36 5 ((RP.mk k f n m l::wa (l.take q.2)).map zq)),(4,.t (I q.2))],bx:=[(1,.d 5 (uX (.mk k f n m l)))]})
   (fun q=>q.2<=l.length) (fun q=>l.length - q.2) (6,0) (by simp) ?_ ?_
  ·repeat' (first|exact wJ|refine ug ?_|refine And.intro ?_ ?_)
   simp [wa,wv]
  rintro ⟨o,i⟩ hi;dsimp only at hi;rcases Nat.lt_or_ge i l.length with h|h
  ·have hn:=xO h;have hm:=xN (l:=l) (j:=i+1);have hc:=ih l[i] (by omega) (by omega);have e1:=Ak l[i];have e2:=zu (l.take i);have e3:=AX h
   repeat' ((conv=>whnf);first|(refine nv_ (.agg (uX l[i])) (by first|(simp [h,wv];done)|fail) ?_)|refine uc _ (hc) ?_|refine aD1 ?_|(refine And.intro (by first|exact vT _|((simp only [List.length_map,List.length_cons];omega);done)|fail) ?_)|refine aS ?_|refine nT_ ?_)
   refine ⟨(21,i+1),by dsimp only;omega,by dsimp only;omega,?_⟩
   repeat' (first|exact wJ|refine ug ?_|refine And.intro ?_ ?_)
   simp [e3]
  ·have:i=l.length:=by omega
   subst this;rw [List.take_length]
   repeat' ((conv=>whnf);first|exact trivial|refine aD0 ?_|refine aS ?_|refine nT_ ?_)
mutual
def wL:RO->List RO
 |.mk k p f n a=>.mk k p f n a::vB a
def vB:List RO->List RO
 |[]=>[]
 |r::rs=>wL r++vB rs
end
mutual
def RO.cnt:RO->Nat
 |.mk _ _ _ _ a=>1+Bd a
def Bd:List RO->Nat
 |[]=>0
 |r::rs=>r.cnt+Bd rs
end
mutual
theorem RO.Dr: ∀r:RO,r.cnt<=r.wt
 |.mk k p _ _ a=>by have:=BJ a;simp only [RO.cnt,RO.wt];omega
theorem BJ: ∀l:List RO,Bd l<=vA l
 |[]=>Nat.le_refl _
 |r::rs=>by have:=RO.Dr r;have:=BJ rs;simp only [Bd,vA];omega
end
mutual
theorem Am: ∀r:RO,(wL r).length=r.cnt
 |.mk k p f n a=>by simp only [wL,List.length_cons,zw a,RO.cnt];omega
theorem zw: ∀l:List RO,(vB l).length=Bd l
 |[]=>rfl
 |r::rs=>by simp only [vB,List.length_append,Am r,zw rs,Bd]
end
theorem AY: ∀{l:List RO} {j:Nat} (h:j<l.length),vB (l.take (j+1))=vB (l.take j)++wL l[j]
 |r::rs,0,h=>by simp [vB]
 |r::rs,j+1,h=>by
  have:=AY (l:=rs) (j:=j) (by simpa using h)
  simp only [List.take_succ_cons,vB,List.getElem_cons_succ,this,List.append_assoc]
theorem t64(N:Nat): ∀r:RO,r.wt<=N->N<2^40->DCalls Tryz.prog 173 [.agg (ux r)] (.slice 9 ((wL r).map yM)):=by
 induction N with
 |zero=>intro r h;have:=r.ym;omega
 |succ N ih=>
  rintro ⟨k,⟨pk,pf,pn,pm,pa⟩,f,n,l⟩ hr hN;refine dl2 mixed [.tmp 2] [.slice 9 _] Tryz.func173 MR ?_;simp only [RO.wt,wL] at hr ⊢;have hl:=xY l
  repeat' ((conv=>whnf);first|refine aS ?_|fail)
  refine tT (α:=Nat×Nat) (fun q=>{sl:=[(1,.ptr 1 0),(3,.own q.1 39 9 ((RO.mk k (.mk pk pf pn pm pa) f n l::vB (l.take q.2)).map yM)),(4,.t (I q.2))],bx:=[(1,.d 9 (ux (.mk k (.mk pk pf pn pm pa) f n l)))]})
   (fun q=>q.2<=l.length) (fun q=>l.length - q.2) (6,0) (by simp) ?_ ?_
  ·repeat' (first|exact wJ|refine ug ?_|refine And.intro ?_ ?_)
   simp [vB,vL]
  rintro ⟨o,i⟩ hi;dsimp only at hi;rcases Nat.lt_or_ge i l.length with h|h
  ·have hn:=xh h;have hm:=xg (l:=l) (j:=i+1);have hc:=ih l[i] (by omega) (by omega);have e1:=Am l[i];have e2:=zw (l.take i);have e3:=AY h;have e4:=BJ (l.take i);have e5:=l[i].Dr
   repeat' ((conv=>whnf);first|(refine nv_ (.agg (ux l[i])) (by first|(simp [h,vL];done)|fail) ?_)|refine uc _ (hc) ?_|refine aD1 ?_|(refine And.intro (by first|exact uG _|((simp only [List.length_map,List.length_cons];omega);done)|fail) ?_)|refine aS ?_|refine nT_ ?_)
   refine ⟨(21,i+1),by dsimp only;omega,by dsimp only;omega,?_⟩
   repeat' (first|exact wJ|refine ug ?_|refine And.intro ?_ ?_)
   simp [e3]
  ·have:i=l.length:=by omega
   subst this;rw [List.take_length]
   repeat' ((conv=>whnf);first|exact trivial|refine aD0 ?_|refine aS ?_|refine nT_ ?_)
mutual
def RO.wm:RO->Nat
 |.mk k _ _ _ a=>wV a+(if k=5 then 1 else 0)
def wV:List RO->Nat
 |[]=>0
 |r::rs=>max r.wm (wV rs)
end
mutual
def RO.yt:RO->Nat
 |.mk k _ _ _ a=>yD a+(if k=2 then 1 else 0)
def yD:List RO->Nat
 |[]=>0
 |r::rs=>r.yt+yD rs
end
mutual
theorem RO.D8: ∀r:RO,r.wm<=r.wt
 |.mk k p _ _ a=>by have:=zi a;have:=p.w9;simp only [RO.wm,RO.wt];split <;> omega
theorem zi: ∀l:List RO,wV l<=vA l
 |[]=>Nat.le_refl _
 |r::rs=>by have:=RO.D8 r;have:=zi rs;simp only [wV,vA];omega
end
mutual
theorem RO.EH: ∀r:RO,r.yt<=r.wt
 |.mk k p _ _ a=>by have:=Ap a;have:=p.w9;simp only [RO.yt,RO.wt];split <;> omega
theorem Ap: ∀l:List RO,yD l<=vA l
 |[]=>Nat.le_refl _
 |r::rs=>by have:=RO.EH r;have:=Ap rs;simp only [yD,vA];omega
end
theorem BG: ∀{l:List RO} {j:Nat} (h:j<l.length),wV (l.take (j+1))=max (wV (l.take j)) l[j].wm
 |r::rs,0,h=>by simp [wV]
 |r::rs,j+1,h=>by
  have:=BG (l:=rs) (j:=j) (by simpa using h)
  simp only [List.take_succ_cons,wV,List.getElem_cons_succ];omega
theorem Ci: ∀{l:List RO} {j:Nat} (h:j<l.length),yD (l.take (j+1))=yD (l.take j)+l[j].yt
 |r::rs,0,h=>by simp [yD]
 |r::rs,j+1,h=>by
  have:=Ci (l:=rs) (j:=j) (by simpa using h)
  simp only [List.take_succ_cons,yD,List.getElem_cons_succ];omega
theorem t60(N:Nat): ∀r:RO,r.wt<=N->N<2^60->DCalls Tryz.prog 93 [.agg (ux r)] (I r.yt):=by
 induction N with
 |zero=>intro r h;have:=r.ym;omega
 |succ N ih=>
  rintro ⟨k,⟨pk,pf,pn,pm,pa⟩,f,n,l⟩ hr hN;refine dl2 mixed [.tmp 2] [.int _ _] Tryz.func93 l93 ?_;simp only [RO.wt,RO.yt] at hr ⊢;have hl:=xY l
  repeat' ((conv=>whnf);first|refine aS ?_|fail)
  refine tT (α:=Nat) (fun i=>{sl:=[(1,.ptr 1 0),(3,.t (I (yD (l.take i):Nat))),(4,.t (I i))],bx:=[(1,.d 9 (ux (.mk k (.mk pk pf pn pm pa) f n l)))]})
   (fun i=>i<=l.length) (fun i=>l.length - i) 0 (by simp) ?_ ?_
  ·repeat' (first|exact wJ|refine And.intro ?_ ?_)
  rintro i hi;rcases Nat.lt_or_ge i l.length with h|h
  ·have hn:=xh h;have hm:=xg (l:=l) (j:=i+1);have hc:=ih l[i] (by omega) (by omega);have e4:=Ap (l.take i);have e5:=l[i].EH;have e6:=Ci h
   repeat' ((conv=>whnf);first|(refine nv_ (.agg (ux l[i])) (by first|(simp [h,vL];done)|fail) ?_)|refine uc _ (hc) ?_|refine aD1 ?_|(refine And.intro (by first|exact uG _) ?_)|refine aS ?_|refine nT_ ?_)
   refine ⟨i+1,by omega,by omega,?_⟩
   repeat' (first|exact wJ|refine And.intro ?_ ?_)
  ·have:i=l.length:=by omega
   subst this;rw [List.take_length];have e4:=Ap l
   by_cases hk:k=2
   ·simp only [hk,if_true]
    repeat' ((conv=>whnf);first|exact trivial|refine aE1 ?_|refine aD0 ?_|refine rix ?_|refine aS ?_|refine nT_ ?_)
   ·simp only [hk,if_false]
    repeat' ((conv=>whnf);first|exact trivial|refine aE0 ?_|refine aD0 ?_|refine rix ?_|refine aS ?_|refine nT_ ?_)
theorem t59(N:Nat): ∀r:RO,r.wt<=N->N<2^60->DCalls Tryz.prog 39 [.agg (ux r)] (I r.wm):=by
 induction N with
 |zero=>intro r h;have:=r.ym;omega
 |succ N ih=>
  rintro ⟨k,⟨pk,pf,pn,pm,pa⟩,f,n,l⟩ hr hN;refine dl2 mixed [.tmp 2] [.int _ _] Tryz.func39 l39 ?_;simp only [RO.wt,RO.wm] at hr ⊢;have hl:=xY l
  repeat' ((conv=>whnf);first|refine aS ?_|fail)
  refine tT (α:=Nat) (fun i=>{sl:=[(1,.ptr 1 0),(3,.t (I (wV (l.take i):Nat))),(4,.t (I i))],bx:=[(1,.d 9 (ux (.mk k (.mk pk pf pn pm pa) f n l)))]})
   (fun i=>i<=l.length) (fun i=>l.length - i) 0 (by simp) ?_ ?_
  ·repeat' (first|exact wJ|refine And.intro ?_ ?_)
  rintro i hi;rcases Nat.lt_or_ge i l.length with h|h
  ·have hn:=xh h;have hm:=xg (l:=l) (j:=i+1);have hc:=ih l[i] (by omega) (by omega);have e4:=zi (l.take i);have e5:=l[i].D8;have e6:=BG h;have e7:((wV (l.take (i+1)):Nat):Int)=if ((l[i].wm:Nat):Int)>(wV (l.take i):Nat) then ((l[i].wm:Nat):Int) else (wV (l.take i):Nat):=by rw [e6];split <;> omega
   repeat' ((conv=>whnf);first|(refine nv_ (.agg (ux l[i])) (by first|(simp [h,vL];done)|fail) ?_)|refine uc _ (hc) ?_|refine aD1 ?_|(refine And.intro (by first|exact uG _) ?_)|refine aS ?_|refine nT_ ?_)
   refine ⟨i+1,by omega,by omega,?_⟩
   repeat' (first|(exact leI e7)|exact wJ|refine And.intro ?_ ?_)
  ·have:i=l.length:=by omega
   subst this;rw [List.take_length];have e4:=zi l
   by_cases hk:k=5
   ·simp only [hk,if_true]
    repeat' ((conv=>whnf);first|exact trivial|refine aE1 ?_|refine aD0 ?_|refine rix ?_|refine aS ?_|refine nT_ ?_)
   ·simp only [hk,if_false]
    repeat' ((conv=>whnf);first|exact trivial|refine aE0 ?_|refine aD0 ?_|refine rix ?_|refine aS ?_|refine nT_ ?_)
def zH(n k:Nat):Bool:=(n==0)||((n==1)&&decide (k<=8))||((n==2)&&decide (k<=4))||((n==3)&&decide (k<=3))||((n==4)&&decide (k<=2))
theorem t38(r:RO)(hr:r.wt<2^60):DCalls Tryz.prog 40 [.agg (ux r)] (.bool (zH r.wm r.yt)):=by
 refine dl2 mixed [.tmp 2] [.bool _] Tryz.func40 l40 ?_;have h1:=t59 _ r (Nat.le_refl _) hr;have h2:=t60 _ r (Nat.le_refl _) hr;generalize r.wm=n at *
 generalize r.yt=m at *
 unfold zH
 repeat' ((conv=>whnf);first|refine uc _ (h1) ?_|refine uc _ (h2) ?_|refine aE0 ?_|refine nE_ (fun hq=>?_) (fun hq=>?_)|refine nD_ (fun hq=>?_) (fun hq=>?_)|refine rb1 ?_|refine rb0 ?_|(refine And.intro (by first|exact uG _) ?_)|refine aS ?_|exact trivial)
end Go.MM
end
section
namespace Go.MM
open Go Go.DL Go.Proofs
def yN(l:List Fd):RP->Int
 |.mk k f n m _=>if k=3\/k=4\/k=5 then (match findF l f with
   |none=>4
   |some F=>if (if k=5 then m else n)>((2^F.w - 1:Nat):Int)\/(k=4/\m>F.w) then 1 else 0) else 0
theorem GR{l:List Fd}(hl:LOk l){s:ByteArray}{F:Fd}(h:findF l s=some F):F.w<=16:=by
 have:=(hl.find h).w2;omega
theorem t92(l:List Fd)(hl:LOk l)(r:RP):DCalls Tryz.prog 191 [fds l,.agg (uX r)] (I (yN l r)):=by
 obtain ⟨k,f,n,m,a⟩:=r;refine dl2 mixed [.tmp 4] [.int _ _] Tryz.func191 MY ?_;have h51:=t51 l f hl.len;simp only [yN]
 by_cases hk:k=3\/k=4\/k=5
 ·rw [if_pos hk];unfold yw at h51;cases hF:findF l f with
  |none=>
   rw [hF] at h51;simp only at h51 ⊢;rcases hk with rfl|rfl|rfl <;> repeat' ((conv=>whnf);first|exact trivial|refine uc _ (h51) ?_|refine aN1 ?_|refine aN0 ?_|refine rix ?_|refine aS ?_|refine nT_ ?_)
  |some F=>
   rw [hF] at h51;simp only at h51 ⊢;have hw:=GR hl hF;have h66:=t66 F (hl.find hF);obtain ⟨s,fa,w⟩:=F;simp only at hw h66 ⊢;generalize hM:((2^w - 1:Nat):Int)=M at *
   rcases hk with rfl|rfl|rfl
   ·by_cases c:n>M
    ·rw [if_pos (by simp;omega)];repeat' ((conv=>whnf);first|exact trivial|refine uc _ (h51) ?_|refine uc _ (h66) ?_|refine aE0 ?_|refine aN0 ?_|refine aD1 ?_|refine rix ?_|refine aS ?_|refine nT_ ?_)
    ·rw [if_neg (by simp;omega)];repeat' ((conv=>whnf);first|exact trivial|refine uc _ (h51) ?_|refine uc _ (h66) ?_|refine aE0 ?_|refine aN0 ?_|refine aD0 ?_|refine rix ?_|refine aS ?_|refine nT_ ?_)
   ·by_cases c:n>M
    ·rw [if_pos (by simp;omega)];repeat' ((conv=>whnf);first|exact trivial|refine uc _ (h51) ?_|refine uc _ (h66) ?_|refine aE0 ?_|refine aN1 ?_|refine aN0 ?_|refine aD1 ?_|refine rix ?_|refine aS ?_|refine nT_ ?_)
    ·by_cases d:m>(w:Int)
     ·rw [if_pos (by simp;omega)];repeat' ((conv=>whnf);first|exact trivial|refine uc _ (h51) ?_|refine uc _ (h66) ?_|refine aE1 ?_|refine aE0 ?_|refine aN1 ?_|refine aN0 ?_|refine aD1 ?_|refine aD0 ?_|refine rix ?_|refine aS ?_|refine nT_ ?_)
     ·rw [if_neg (by simp;omega)];repeat' ((conv=>whnf);first|exact trivial|refine uc _ (h51) ?_|refine uc _ (h66) ?_|refine aE1 ?_|refine aE0 ?_|refine aN1 ?_|refine aN0 ?_|refine aD0 ?_|refine rix ?_|refine aS ?_|refine nT_ ?_)
   ·by_cases c:m>M
    ·rw [if_pos (by simp;omega)];repeat' ((conv=>whnf);first|exact trivial|refine uc _ (h51) ?_|refine uc _ (h66) ?_|refine aE1 ?_|refine aN1 ?_|refine aN0 ?_|refine aD1 ?_|refine rix ?_|refine aS ?_|refine nT_ ?_)
    ·rw [if_neg (by simp;omega)];repeat' ((conv=>whnf);first|exact trivial|refine uc _ (h51) ?_|refine uc _ (h66) ?_|refine aE1 ?_|refine aE0 ?_|refine aN1 ?_|refine aN0 ?_|refine aD0 ?_|refine rix ?_|refine aS ?_|refine nT_ ?_)
 ·rw [if_neg hk];have h3:k≠3:=fun h=>hk (.inl h)
  have h4:k≠4:=fun h=>hk (.inr (.inl h))
  have h5:k≠5:=fun h=>hk (.inr (.inr h))
  repeat' ((conv=>whnf);first|exact trivial|refine aN1 ?_|refine rix ?_|refine aS ?_|refine nT_ ?_)
def fitAll(l:List Fd)(r:RP):Int:=uU ((xd r).map (yN l))
theorem t65(l:List Fd)(hl:LOk l)(r:RP)(hr:r.nodes<2^40):DCalls Tryz.prog 174 [fds l,.agg (uX r)] (I (fitAll l r)):=by
 refine dl2 mixed [.tmp 4] [.int _ _] Tryz.func174 MS ?_;have h91:=t91 _ r (Nat.le_refl _) hr;have hlen:=Ak r;unfold fitAll;generalize xd r=ps at *
 repeat' ((conv=>whnf);first|refine uc _ (h91) ?_|(refine And.intro (by first|exact vT _) ?_)|fail)
 refine tT (α:=Nat) (fun i=>{sl:=[(0,.t (fds l)),(5,.t (.slice 5 (ps.map zq))),(6,.t (I i))],bx:=[]})
  (fun i=>i<=ps.length/\ ∀j (h:j<ps.length),j<i->yN l ps[j]=0) (fun i=>ps.length - i) 0 (by simp) ?_ ?_
 ·repeat' (first|exact wJ|refine And.intro ?_ ?_)
 rintro i ⟨hi,hp⟩;rcases Nat.lt_or_ge i ps.length with h|h
 ·have h92:=t92 l hl ps[i]
  by_cases h0:yN l ps[i]=0
  ·rw [h0] at h92
   repeat' ((conv=>whnf);first|(refine nv_ (.agg (uX ps[i])) (by first|(simp [h,wv];done)|fail) ?_)|refine uc _ (h92) ?_|refine aN0 ?_|refine aD1 ?_|(refine And.intro (by first|exact vT _) ?_)|refine aS ?_|refine nT_ ?_)
   refine ⟨i+1,⟨h,fun j hj hlt=>?_⟩,by omega,?_⟩
   ·rcases Nat.lt_or_ge j i with h4|h4
    ·exact hp j hj h4
    ·obtain rfl:j=i:=by omega
     exact h0
   ·repeat' (first|exact wJ|refine And.intro ?_ ?_)
  ·have e:uU (ps.map (yN l))=yN l ps[i]:=by
    have:=yx (l:=ps.map (yN l)) (i:=i) (by simpa using h) (fun j hj hlt=>by simpa using hp j (by simpa using hj) hlt) (by simpa using h0)
    simpa using this
   rw [e];generalize yN l ps[i]=e at *
   repeat' ((conv=>whnf);first|exact trivial|(refine nv_ (.agg (uX ps[i])) (by first|(simp [h,wv];done)|fail) ?_)|refine uc _ (h92) ?_|refine aN1 ?_|refine aD1 ?_|refine rix ?_|(refine And.intro (by first|exact vT _) ?_)|refine aS ?_|refine nT_ ?_)
 ·rw [zc fun j hj=>by simpa using hp j (by simpa using hj) (by simp at hj;omega)]
  repeat' ((conv=>whnf);first|refine aD0 ?_|refine rix ?_|refine aS ?_|exact trivial)
def xz(l:List Fd):RO->Int
 |.mk k p f n _=>if k=1 then fitAll l p else if k=2 then (match findF l f with
   |none=>4
   |some F=>if n>((2^F.w - 1:Nat):Int) then 1 else 0) else 0
def Fy(l:List Fd)(r:RO):Int:=if vM r≠0 then vM r else uU ((wL r).map (xz l))
mutual
theorem CZ: ∀r:RO, ∀x∈wL r,x.wt<=r.wt
 |.mk k p f n a=>fun x hx=>by
  simp only [wL,List.mem_cons] at hx;rcases hx with rfl|hx
  ·exact Nat.le_refl _
  ·have:=Cg a x hx;simp only [RO.wt];omega
theorem Cg: ∀l:List RO, ∀x∈vB l,x.wt<=vA l
 |[]=>fun x hx=>by simp [vB] at hx
 |r::rs=>fun x hx=>by
  simp only [vB,List.mem_append] at hx;simp only [vA];rcases hx with hx|hx
  ·have:=CZ r x hx;omega
  ·have:=Cg rs x hx;omega
end
theorem t40(l:List Fd)(hl:LOk l)(r:RO)(hr:r.wt<2^40)(hn:yW r):DCalls Tryz.prog 132 [fds l,.agg (ux r)] (I (Fy l r)):=by
 refine dl2 mixed [.tmp 4] [.int _ _] Tryz.func132 MA ?_;have h63:=t63 r (by omega) hn;have h64:=t64 _ r (Nat.le_refl _) hr;have hlen:=Am r;have hw:=CZ r;have hcl:=r.Dr;unfold Fy;generalize wL r=ps at *
 by_cases hc:vM r≠0
 ·rw [if_pos hc];generalize vM r=e at *
  repeat' ((conv=>whnf);first|refine uc _ (h63) ?_|refine aN1 ?_|refine rix ?_|(refine And.intro (by first|exact uG _) ?_)|refine aS ?_|exact trivial)
 rw [if_neg hc];have hc:vM r=0:=Decidable.not_not.1 hc;rw [hc] at h63
 repeat' ((conv=>whnf);first|refine uc _ (h63) ?_|refine uc _ (h64) ?_|refine aN0 ?_|(refine And.intro (by first|exact uG _) ?_)|refine aS ?_|fail)
 refine tT (α:=Nat) (fun i=>{sl:=[(0,.t (fds l)),(5,.t (I 0)),(6,.t (.slice 9 (ps.map yM))),(7,.t (I i))],bx:=[]})
  (fun i=>i<=ps.length/\ ∀j (h:j<ps.length),j<i->xz l ps[j]=0) (fun i=>ps.length - i) 0 (by simp) ?_ ?_
 ·repeat' (first|exact wJ|refine And.intro ?_ ?_)
 rintro i ⟨hi,hp⟩;rcases Nat.lt_or_ge i ps.length with h|h
 ·have res: ∀e,xz l ps[i]=e->e≠0->uU (ps.map (xz l))=e:=fun e he h0=>by
   have:=yx (l:=ps.map (xz l)) (i:=i) (by simpa using h) (fun j hj hlt=>by simpa using hp j (by simpa using hj) hlt) (by simpa [he] using h0)
   rw [this];simpa using he
  have next:xz l ps[i]=0->i+1<=ps.length/\ ∀j (h:j<ps.length),j<i+1->xz l ps[j]=0:=fun h0=>by
   refine ⟨h,fun j hj hlt=>?_⟩;rcases Nat.lt_or_ge j i with h4|h4
   ·exact hp j hj h4
   ·obtain rfl:j=i:=by omega
    exact h0
  have hwi:=hw _ (List.getElem_mem h);have hg:(ps.map yM)[i]?.getD .nil= .agg (ux ps[i]):=by simp [h,vL]
  generalize ps[i]=x at *
  obtain ⟨k,⟨pk,pf,pn,pm,pa⟩,f,n,a⟩:=x;have h51:=t51 l f hl.len
  by_cases hk1:k=1
  ·subst hk1;have h65:=t65 l hl (.mk pk pf pn pm pa) (by simp only [RO.wt] at hwi;omega);have ef:xz l (.mk 1 (.mk pk pf pn pm pa) f n a)=fitAll l (.mk pk pf pn pm pa):=by simp [xz]
   rw [ef] at res next;generalize fitAll l (.mk pk pf pn pm pa)=e at *
   by_cases h0:e=0
   ·subst h0
    repeat' ((conv=>whnf);first|(refine nv_ (.agg (ux (.mk 1 (.mk pk pf pn pm pa) f n a))) (by first|exact hg) ?_)|refine uc _ (h65) ?_|(exact ⟨i+1,next rfl,by omega,by (repeat' (first|exact wJ|refine And.intro ?_ ?_));done⟩)|refine aE1 ?_|refine aE0 ?_|refine aN0 ?_|refine aD1 ?_|refine aS ?_|refine nT_ ?_)
   ·rw [res e rfl h0]
    repeat' ((conv=>whnf);first|exact trivial|(refine nv_ (.agg (ux (.mk 1 (.mk pk pf pn pm pa) f n a))) (by first|exact hg) ?_)|refine uc _ (h65) ?_|refine aE1 ?_|refine aE0 ?_|refine aN1 ?_|refine aD1 ?_|refine rix ?_|refine aS ?_|refine nT_ ?_)
  ·by_cases hk2:k=2
   ·subst hk2;unfold yw at h51;cases hF:findF l f with
    |none=>
     rw [hF] at h51;rw [res 4 (by simp [xz,hF]) (by decide)];simp only at h51
     repeat' ((conv=>whnf);first|exact trivial|(refine nv_ (.agg (ux (.mk 2 (.mk pk pf pn pm pa) f n a))) (by first|exact hg) ?_)|refine uc _ (h51) ?_|refine aE1 ?_|refine aE0 ?_|refine aN1 ?_|refine aD1 ?_|refine rix ?_|refine aS ?_|refine nT_ ?_)
    |some F=>
     rw [hF] at h51;simp only at h51;have h66:=t66 F (hl.find hF)
     by_cases hc:n>((2^F.w - 1:Nat):Int)
     ·rw [res 1 (by simp only [xz,hF];rw [if_neg (by decide),if_pos trivial,if_pos hc]) (by decide)];generalize ((2^F.w - 1:Nat):Int)=M at *
      repeat' ((conv=>whnf);first|exact trivial|(refine nv_ (.agg (ux (.mk 2 (.mk pk pf pn pm pa) f n a))) (by first|exact hg) ?_)|refine uc _ (h51) ?_|refine uc _ (h66) ?_|refine aE1 ?_|refine aE0 ?_|refine aN1 ?_|refine aD1 ?_|refine rix ?_|refine aS ?_|refine nT_ ?_)
     ·have next:=next (by simp only [xz,hF];rw [if_neg (by decide),if_pos trivial,if_neg hc]);generalize ((2^F.w - 1:Nat):Int)=M at *
      repeat' ((conv=>whnf);first|(refine nv_ (.agg (ux (.mk 2 (.mk pk pf pn pm pa) f n a))) (by first|exact hg) ?_)|refine uc _ (h51) ?_|refine uc _ (h66) ?_|(exact ⟨i+1,next,by omega,by (repeat' (first|exact wJ|refine And.intro ?_ ?_));done⟩)|refine aE1 ?_|refine aE0 ?_|refine aD1 ?_|refine aD0 ?_|refine aS ?_|refine nT_ ?_)
   ·have next:=next (by simp only [xz];rw [if_neg hk1,if_neg hk2])
    repeat' ((conv=>whnf);first|(refine nv_ (.agg (ux (.mk k (.mk pk pf pn pm pa) f n a))) (by first|exact hg) ?_)|(exact ⟨i+1,next,by omega,by (repeat' (first|exact wJ|refine And.intro ?_ ?_));done⟩)|refine aE0 ?_|refine aN0 ?_|refine aD1 ?_|refine aS ?_|refine nT_ ?_)
 ·rw [zc fun j hj=>by simpa using hp j (by simpa using hj) (by simp at hj;omega)]
  repeat' ((conv=>whnf);first|refine aD0 ?_|refine rix ?_|refine aS ?_|exact trivial)
def RF.fd(f:RF):Fd:=⟨f.name,f.a.toNat,f.w.toNat⟩
structure Checked (l:List RF):Prop where
 len:l.length<=16
 name: ∀f∈l,yc f.name=true
 port: ∀f∈l,uq f.name wA=false
 place: ∀f∈l,xu f=true
 uniq: ∀i j (hi:i<l.length) (hj:j<l.length),j<i->uq l[j].name l[i].name=false
 apart: ∀i j (hi:i<l.length) (hj:j<l.length),j<i->xl l[j] l[i]=false
theorem Bw: ∀{l:List Int},uU l=0-> ∀x∈l,x=0
 |[],_,x,hx=>by cases hx
 |y::ys,h,x,hx=>by
  simp only [uU] at h;split at h
  ·rename_i hy;exact absurd h hy
  ·rename_i hy;rcases List.mem_cons.1 hx with rfl|hx
   ·exact Decidable.not_not.1 hy
   ·exact Bw h x hx
theorem B1{l:List RF}(h:yI l=0):Checked l:=by
 unfold yI at h;split at h
 ·cases h
 rename_i hlen;have hz: ∀i (hi:i<l.length),vm l i l[i]=0:=fun i hi=>Bw h _ (List.mem_iff_getElem.2 ⟨i,by simpa using hi,by simp⟩)
 have key: ∀i (hi:i<l.length),(¬ (yc l[i].name=false\/uq l[i].name wA=true))/\(¬ ((l.take i).any fun g=>uq g.name l[i].name)=true)/\(¬ xu l[i]=false)/\ ¬((l.take i).any fun g=>xl g l[i])=true:=fun i hi=>by
  have:=hz i hi
  unfold vm at this;split at this; ·cases this
  split at this; ·cases this
  split at this; ·cases this
  split at this; ·cases this
  rename_i h1 h2 h3 h4;exact ⟨h1,h2,h3,h4⟩
 refine ⟨by omega,fun f hf=>?_,fun f hf=>?_,fun f hf=>?_,fun i j hi hj hji=>?_,fun i j hi hj hji=>?_⟩
 ·obtain ⟨i,hi,rfl⟩:=List.getElem_of_mem hf
  have:=(key i hi).1;simp at this;exact this.1
 ·obtain ⟨i,hi,rfl⟩:=List.getElem_of_mem hf
  have:=(key i hi).1;simp at this;exact this.2
 ·obtain ⟨i,hi,rfl⟩:=List.getElem_of_mem hf
  have:=(key i hi).2.2.1;simpa using this
 ·have:=(key i hi).2.1
  rw [xP (by omega)] at this;cases hs:uq l[j].name l[i].name with
  |false=>rfl
  |true=>exact absurd ⟨j,hj,hji,hs⟩ this
 ·have:=(key i hi).2.2.2
  rw [xP (by omega)] at this;cases hs:xl l[j] l[i] with
  |false=>rfl
  |true=>exact absurd ⟨j,hj,hji,hs⟩ this
theorem Checked.fds{l:List RF}(h:Checked l):xZ l=MM.fds (l.map RF.fd):=by
 unfold xZ MM.fds;rw [List.map_map]
 congr 1
 refine List.map_congr_left fun f hf=>?_
 have:=h.place f hf
 simp [xu] at this;obtain ⟨s,a,w⟩:=f;simp only at this;simp only [wO,vS,Function.comp,MM.fd,RF.fd];rw [Int.toNat_of_nonneg (by omega),Int.toNat_of_nonneg (by omega)]
theorem Checked.ok{l:List RF}(h:Checked l):LOk (l.map RF.fd):=by
 refine ⟨by have:=h.len;simp;omega,fun f hf=>?_⟩;obtain ⟨g,hg,rfl⟩:=List.mem_map.1 hf
 have:=h.place g hg
 simp [xu] at this;exact ⟨by simp only [RF.fd];omega,by simp only [RF.fd];omega,by simp only [RF.fd];omega⟩
end Go.MM
end
section
namespace Go.TY
instance memBA (a : ByteArray) (l : List ByteArray) : Decidable (a ∈ l) := @List.instDecidableMemOfLawfulBEq ByteArray instBEqOfDecidableEq inferInstance a l
structure Lin {α:Type} (lt:α->α->Bool):Prop where
 irr: ∀a,lt a a=false
 tr: ∀a b c,lt a b=true->lt b c=true->lt a c=true
 tot: ∀a b,lt a b=false->lt b a=false->a=b
section
variable {α:Type}{lt:α->α->Bool}
theorem Lin.ne(h:Lin lt){a b:α}(hl:lt a b=true):a≠b:=fun e=>by
 subst e;rw [h.irr] at hl;cases hl
theorem Lin.asym(h:Lin lt){a b:α}(hl:lt a b=true):lt b a=false:=by
 cases e:lt b a with
 |false=>rfl
 |true=>have:=h.tr _ _ _ hl e;rw [h.irr] at this;cases this
variable [DecidableEq α]
def put(lt:α->α->Bool):List α->α->List α
 |[],s=>[s]
 |x::xs,s=>if lt x s=true then x::put lt xs s else s::(x::xs).filter fun y=> !decide (y=s)
def Inc(lt:α->α->Bool)(l:List α):Prop:=l.Pairwise fun a b=>lt a b=true
theorem EC{l:List α}{s x:α}:x∈put lt l s↔x=s\/x∈l:=by
 induction l with
 |nil=>simp [put]
 |cons y ys ih=>
  unfold put
  by_cases hl:lt y s=true
  ·rw [if_pos hl,List.mem_cons,ih,List.mem_cons];exact ⟨fun h=>by rcases h with h|h|h <;> simp [h],fun h=>by rcases h with h|h|h <;> simp [h]⟩
  ·rw [if_neg hl,List.mem_cons,List.mem_filter]
   by_cases hx:x=s
   ·simp [hx]
   ·simp [hx]
theorem Inc.put(h:Lin lt){l:List α}(hl:Inc lt l)(s:α):Inc lt (put lt l s):=by
 induction l with
 |nil=>simp [TY.put,Inc]
 |cons y ys ih=>
  have h2:=List.pairwise_cons.1 hl;unfold TY.put
  by_cases hys:lt y s=true
  ·rw [if_pos hys];refine List.pairwise_cons.2 ⟨fun z hz=>?_,ih h2.2⟩;rcases EC.1 hz with rfl|hz
   ·exact hys
   ·exact h2.1 z hz
  ·rw [if_neg hys];have Jx:lt y s=false:=by simpa using hys
   refine List.pairwise_cons.2 ⟨fun z hz=>?_,hl.filter _⟩;obtain ⟨h3,h4⟩:=List.mem_filter.1 hz;have hzs:z≠s:=by simpa using h4
   cases e:lt s z with
   |true=>rfl
   |false=>
    exfalso;cases e2:lt z s with
    |false=>exact hzs (h.tot _ _ e2 e)
    |true=>
     rcases List.mem_cons.1 h3 with rfl|h3
     ·rw [Jx] at e2;cases e2
     ·have:=h.tr _ _ _ (h2.1 z h3) e2
      rw [Jx] at this;cases this
theorem Inc.ext(h:Lin lt): ∀{a b:List α},Inc lt a->Inc lt b->(∀ x,x∈a↔x∈b)->a=b
 |[],[],_,_,_=>rfl
 |[],y::ys,_,_,hm=>by have:=(hm y).2 (by simp);simp at this
 |x::xs,[],_,_,hm=>by have:=(hm x).1 (by simp);simp at this
 |x::xs,y::ys,ha,hb,hm=>by
  have h1:=List.pairwise_cons.1 ha;have h2:=List.pairwise_cons.1 hb;have e:x=y:=by
   by_cases e:x=y
   ·exact e
   ·exfalso;have hx:x∈ys:=by have:=(hm x).1 (by simp);simpa [e] using this
    have hy:y∈xs:=by have:=(hm y).2 (by simp);simpa [show ¬y=x from fun h=>e h.symm] using this
    have l1:=h1.1 y hy;have l2:=h2.1 x hx;rw [h.asym l1] at l2;cases l2
  subst e;rw [Inc.ext h h1.2 h2.2 fun z=>?_]
  have:=hm z
  simp only [List.mem_cons] at this
  by_cases e:z=x
  ·subst e;exact ⟨fun hz=>absurd rfl (h.ne (h1.1 z hz)),fun hz=>absurd rfl (h.ne (h2.1 z hz))⟩
  ·simpa [e] using this
def xf(lt:α->α->Bool)(l:List α):List α:=l.foldl (put lt) []
theorem Eh{l:List α}: ∀{acc:List α} {x:α},x∈l.foldl (put lt) acc↔x∈acc\/x∈l:=by
 induction l with
 |nil=>simp
 |cons y ys ih=>
  intro acc x;rw [List.foldl_cons,ih,EC,List.mem_cons];exact ⟨fun h=>by rcases h with (h|h)|h <;> simp [h],fun h=>by rcases h with h|h|h <;> simp [h]⟩
theorem Ad{l:List α}{x:α}:x∈xf lt l↔x∈l:=by simp [xf,Eh]
theorem Ed(h:Lin lt){l:List α}: ∀{acc:List α},Inc lt acc->Inc lt (l.foldl (put lt) acc):=by
 induction l with
 |nil=>exact fun h=>h
 |cons y ys ih=>intro acc ha;exact ih (ha.put h y)
theorem B8(h:Lin lt)(l:List α):Inc lt (xf lt l):=Ed h List.Pairwise.nil
theorem Gi(h:Lin lt){a b:List α}(hm: ∀x,x∈a↔x∈b):xf lt a=xf lt b:=
 Inc.ext h (B8 h a) (B8 h b) fun x=>by rw [Ad,Ad,hm]
theorem C8{a b:List α}:xf lt (a++b)=b.foldl (put lt) (xf lt a):=by simp [xf,List.foldl_append]
def once:List α->List α->List α
 |acc,[]=>acc
 |acc,x::xs=>once (if x∈acc then acc else acc++[x]) xs
theorem yU: ∀{l acc:List α} {x:α},x∈once acc l↔x∈acc\/x∈l
 |[],acc,x=>by simp [once]
 |y::ys,acc,x=>by
  unfold once;rw [yU,List.mem_cons]
  by_cases h:y∈acc
  ·rw [if_pos h];exact ⟨fun h=>by rcases h with h|h <;> simp [h],fun k=>by rcases k with k|rfl|k <;> simp [*]⟩
  ·rw [if_neg h];simp [or_assoc]
theorem Ag: ∀{l acc:List α},acc.Nodup->(once acc l).Nodup
 |[],_,h=>h
 |y::ys,acc,h=>by
  unfold once;refine Ag ?_
  by_cases hc:y∈acc
  ·rw [if_pos hc];exact h
  ·rw [if_neg hc];refine List.nodup_append.2 ⟨h,by simp,fun a ha b hb e=>hc ?_⟩;rw [List.mem_singleton.1 hb] at e;subst e;exact ha
end
def ltS(a b:ByteArray):Bool:=Op.bytesLess a.toList b.toList
theorem AH{a b:ByteArray}(h:a.toList=b.toList):a=b:=by
 rw [ByteArray.toList_eq,ByteArray.toList_eq] at h;exact ByteArray.ext (Array.ext' h)
theorem zt:Lin ltS where
 irr:=fun a=>by simp [ltS,Go.Proofs.bytesLess_eq]
 tr:=fun a b c h k=>by
  simp only [ltS,Go.Proofs.bytesLess_eq,decide_eq_true_eq] at *
  exact List.lt_trans h k
 tot:=fun a b h k=>by
  simp only [ltS,Go.Proofs.bytesLess_eq,decide_eq_false_iff_not,List.not_lt] at *
  exact AH (List.le_antisymm k h)
end Go.TY
end
section
namespace Go.TY
open Go Go.DL Go.MM
abbrev Fd:=Go.MM.Fd
structure RS where
 kind:Int
 var:ByteArray
 key:List ByteArray
 field:ByteArray
 n:Int
 m:Int
def uw(s:RS):List T:=[I s.kind,.str s.var,.slice 1 (s.key.map .str),.str s.field,I s.n,I s.m]
def wG(s:RS):T:=.agg (uw s)
structure RV where
 name:ByteArray
 fam:Int
 ws:List Int
 n:Int
 m:Int
 deriving DecidableEq
def uK(v:RV):List T:=[.str v.name,I v.fam,.slice 1 (v.ws.map I),I v.n,I v.m]
def wX(v:RV):T:=.agg (uK v)
def RS.own(s:RS):Bool:=s.kind==4||s.kind==6
def vD(k:Int):Int:=if k=1 then 1 else if k=2\/k=3 then 2 else if k=4\/k=5 then 3 else 4
def uM(l:List Fd)(s:RS):List Int:=s.key.map fun k=>((fld l k).w:Int)
def vOf(l:List Fd)(s:RS):RV:=⟨s.var,vD s.kind,uM l s,if s.own then s.n else 0,if s.own then s.m else 0⟩
def wb(l:List Fd)(s t:RS):Bool:= !(s.own&&t.own&&((s.n !=t.n)||(s.m !=t.m)))&&((uM l s==uM l t)&&(vD s.kind==vD t.kind))
theorem vu{l:List Fd}{s t:RS}:wb l s t=true↔(s.own=true->t.own=true->s.n=t.n/\s.m=t.m)/\uM l s=uM l t/\vD s.kind=vD t.kind:=by
 unfold wb;cases h1:s.own <;> cases h2:t.own <;> simp
theorem Bs{l:List Fd}(s:RS):wb l s s=true:=by rw [vu];simp
theorem Bt{l:List Fd}{s t:RS}(h:wb l s t=true):wb l t s=true:=by
 rw [vu] at *
 exact ⟨fun a b=>⟨(h.1 b a).1.symm,(h.1 b a).2.symm⟩,h.2.1.symm,h.2.2.symm⟩
def PW(l:List Fd)(ss:List RS):Prop:=ss.Pairwise fun s t=>s.var=t.var->wb l s t=true
theorem PW.all{l:List Fd}{ss:List RS}(h:PW l ss): ∀s∈ss, ∀t∈ss,s.var=t.var->wb l s t=true:=by
 induction ss with
 |nil=>intro s hs;simp at hs
 |cons x xs ih=>
  have h2:=List.pairwise_cons.1 h;intro s hs t ht e;rcases List.mem_cons.1 hs with e1|hs'
  ·rcases List.mem_cons.1 ht with e2|ht'
   ·rw [e1,e2];exact Bs _
   ·subst e1;exact h2.1 t ht' e
  ·rcases List.mem_cons.1 ht with e2|ht'
   ·subst e2;exact Bt (h2.1 s hs' e.symm)
   ·exact ih h2.2 s hs' t ht' e
theorem PW.of{l:List Fd}{ss:List RS}(h: ∀s∈ss, ∀t∈ss,s.var=t.var->wb l s t=true):PW l ss:=by
 induction ss with
 |nil=>exact List.Pairwise.nil
 |cons x xs ih=>exact List.pairwise_cons.2 ⟨fun t ht e=>h x (by simp) t (by simp [ht]) e,ih fun s hs t ht=>h s (by simp [hs]) t (by simp [ht])⟩
theorem FU{l:List Fd}{ss:List RS}:PW l ss↔ ∀s∈ss, ∀t∈ss,s.var=t.var->wb l s t=true:=⟨PW.all,PW.of⟩
theorem Cs{l:List Fd}{ss:List RS}{t:RS}:PW l (ss++[t])↔PW l ss/\ ∀s∈ss,s.var=t.var->wb l s t=true:=by
 unfold PW;rw [List.pairwise_append];exact ⟨fun h=>⟨h.1,fun s hs=>h.2.2 s hs t (by simp)⟩,fun h=>⟨h.1,by simp,fun a ha b hb=>by rw [List.mem_singleton.1 hb];exact h.2 a ha⟩⟩
def uC(ss:List RS)(name:ByteArray):Option RS:=ss.find? fun s=>decide (s.var=name)&&s.own
def uZ(l:List Fd)(ss:List RS)(name:ByteArray):Option RV:=match ss.find? fun s=>decide (s.var=name) with
 |none=>none
 |some s=>some ⟨name,vD s.kind,uM l s,((uC ss name).map (·.n)).getD 0,((uC ss name).map (·.m)).getD 0⟩
structure VS where
 all:List RV
 num:List (ByteArray×Bool)
def wZ(all:List RV)(name:ByteArray):Option RV:=all.find? fun v=>decide (v.name=name)
def xX(v:RV):List RV->List RV
 |[]=>[v]
 |x::xs=>if x.name=v.name then v::xs else x::xX v xs
def xM(num:List (ByteArray×Bool))(name:ByteArray):Option Bool:=(num.find? fun p=>decide (p.1=name)).map (·.2)
def CC(name:ByteArray)(b:Bool):List (ByteArray×Bool)->List (ByteArray×Bool)
 |[]=>[(name,b)]
 |x::xs=>if x.1=name then (name,b)::xs else x::CC name b xs
theorem ze{v:RV}{all:List RV}{name:ByteArray}:wZ (xX v all) name=if v.name=name then some v else wZ all name:=by
 induction all with
 |nil=>unfold xX wZ;by_cases h:v.name=name <;> simp [h]
 |cons x xs ih=>
  unfold xX
  by_cases hx:x.name=v.name
  ·rw [if_pos hx];unfold wZ
   by_cases h:v.name=name
   ·simp [h]
   ·have: ¬x.name=name:=fun e=>h (hx.symm.trans e)
    simp [h,this]
  ·rw [if_neg hx];unfold wZ at ih ⊢;rw [List.find?_cons,List.find?_cons,ih]
   by_cases h:x.name=name
   ·have: ¬v.name=name:=fun e=>hx (h.trans e.symm)
    simp [h,this]
   ·simp [h]
theorem F9{n:ByteArray}{b:Bool}{num:List (ByteArray×Bool)}{name:ByteArray}:xM (CC n b num) name=if n=name then some b else xM num name:=by
 induction num with
 |nil=>unfold CC xM;by_cases h:n=name <;> simp [h]
 |cons x xs ih=>
  unfold CC
  by_cases hx:x.1=n
  ·rw [if_pos hx];unfold xM
   by_cases h:n=name
   ·simp [h]
   ·have: ¬x.1=name:=fun e=>h (hx.symm.trans e)
    simp [h,this]
  ·rw [if_neg hx];unfold xM at ih ⊢;rw [List.find?_cons,List.find?_cons]
   by_cases h:x.1=name
   ·have: ¬n=name:=fun e=>hx (h.trans e.symm)
    simp [h,this]
   ·simp only [h,decide_false];exact ih
theorem Cj{v:RV}{all:List RV}:(xX v all).map (·.name)=if v.name∈all.map (·.name) then all.map (·.name) else all.map (·.name)++[v.name]:=by
 induction all with
 |nil=>simp [xX]
 |cons x xs ih=>
  unfold xX
  by_cases hx:x.name=v.name
  ·rw [if_pos hx,if_pos (by rw [List.map_cons,hx];exact List.mem_cons_self)];simp [hx]
  ·rw [if_neg hx,List.map_cons,ih,List.map_cons]
   by_cases hm:v.name∈xs.map (·.name)
   ·rw [if_pos hm,if_pos (List.mem_cons_of_mem _ hm)]
   ·rw [if_neg hm,if_neg (fun h=>by
     rcases List.mem_cons.1 h with h|h
     ·exact hx h.symm
     ·exact hm h)]
    rfl
def Di(l:List Fd)(st:VS)(s:RS):Option VS:=
 let num:=CC s.var (((xM st.num s.var).getD false)||s.own) st.num
 match wZ st.all s.var with
 |none=>some ⟨xX (vOf l s) st.all,num⟩
 |some old=>if (old.fam !=vD s.kind)|| !(old.ws==uM l s)||(s.own&&((xM st.num s.var).getD false)&&((old.n !=s.n)||(old.m !=s.m))) then none
  else some ⟨if s.own then xX (vOf l s) st.all else st.all,num⟩
def Bq(l:List Fd):VS->List RS->Option VS
 |st,[]=>some st
 |st,s::ss=>(Di l st s).bind fun st=>Bq l st ss
structure AG (l:List Fd) (ss:List RS) (st:VS):Prop where
 pw:PW l ss
 look: ∀name,wZ st.all name=uZ l ss name
 num: ∀name,(xM st.num name).getD false=(uC ss name).isSome
 names:st.all.map (·.name)=once [] (ss.map (·.var))
theorem AV{α:Type}[DecidableEq α]: ∀{xs acc:List α} {y:α},once acc (xs++[y])=(if y∈once acc xs then once acc xs else once acc xs++[y])
 |[],acc,y=>rfl
 |x::xs,acc,y=>by
  rw [List.cons_append];unfold once;exact AV
theorem vZ{α:Type}{p:α->Bool}{ss:List α}{t:α}:(ss++[t]).find? p=match ss.find? p with
  |some s=>some s
  |none=>if p t=true then some t else none:=by
 rw [List.find?_append];cases ss.find? p with
 |some s=>rfl
 |none=>simp [List.find?_cons];cases p t <;> rfl
theorem AG.step{l:List Fd}{ss:List RS}{st:VS}(h:AG l ss st)(t:RS):
  (PW l (ss++[t])-> ∃st',Di l st t=some st'/\AG l (ss++[t]) st')/\(¬ PW l (ss++[t])->Di l st t=none):=by
 have hl:=h.look t.var;have hn:=h.num t.var;have gX: ∀s0,ss.find? (fun s=>decide (s.var=t.var))=some s0->s0∈ss/\s0.var=t.var:=fun s0 h0=>⟨List.mem_of_find?_eq_some h0,by simpa using List.find?_some h0⟩
 have iK: ∀s1,uC ss t.var=some s1->s1∈ss/\s1.var=t.var/\s1.own=true:=fun s1 h1=>⟨List.mem_of_find?_eq_some h1,by simpa using List.find?_some h1⟩
 have hpw:=h.pw.all;have lookO: ∀(x:List RV) name, ¬t.var=name->wZ x name=wZ st.all name->wZ x name=uZ l (ss++[t]) name:=fun x name hne hx=>by
  rw [hx,h.look name];unfold uZ uC;rw [vZ,vZ];simp only [hne,decide_false,Bool.false_and];cases ss.find? fun s=>decide (s.var=name) with
  |none=>rfl
  |some s=>simp only;cases ss.find? fun s=>decide (s.var=name)&&s.own <;> rfl
 have numI: ∀name,(xM (CC t.var (((xM st.num t.var).getD false)||t.own) st.num) name).getD false=(uC (ss++[t]) name).isSome:=fun name=>by
  rw [F9];unfold uC;rw [vZ]
  by_cases hne:t.var=name
  ·subst hne;rw [if_pos rfl,Option.getD_some,hn];unfold uC;cases ss.find? fun s=>decide (s.var=t.var)&&s.own with
   |some s=>simp
   |none=>cases ho:t.own <;> simp []
  ·rw [if_neg hne,h.num name];unfold uC;simp only [hne,decide_false,Bool.false_and];cases ss.find? fun s=>decide (s.var=name)&&s.own <;> rfl
 unfold Di;dsimp only;cases hf:ss.find? (fun s=>decide (s.var=t.var)) with
 |none=>
  have hno: ∀s∈ss, ¬s.var=t.var:=fun s hs=>by
   have:=List.find?_eq_none.1 hf s hs;simpa using this
  have hlk:wZ st.all t.var=none:=by rw [hl];unfold uZ;rw [hf]
  rw [hlk];have hp2:PW l (ss++[t]):=Cs.2 ⟨h.pw,fun s hs e=>absurd e (hno s hs)⟩;refine ⟨fun _=>⟨_,rfl,hp2,fun name=>?_,numI,?_⟩,fun hc=>absurd hp2 hc⟩
  ·by_cases hne:t.var=name
   ·subst hne;rw [ze];have h0:uC ss t.var=none:=by
     unfold uC;rw [List.find?_eq_none];intro s hs;simp [hno s hs]
    unfold uZ;rw [vZ,hf]
    have:(vOf l t).name=t.var:=rfl
    rw [if_pos this];simp only [decide_true,if_true];unfold uC at h0 ⊢;rw [vZ,h0];simp only [decide_true,Bool.true_and,vOf];cases t.own <;> rfl
   ·refine lookO _ name hne ?_;rw [ze];exact if_neg hne
  ·show (xX (vOf l t) st.all).map (·.name)=_
   rw [Cj,h.names,List.map_append,List.map_cons,List.map_nil,AV];rfl
 |some s0=>
  obtain ⟨m0,v0⟩:=gX s0 hf;have hlk:wZ st.all t.var=some ⟨t.var,vD s0.kind,uM l s0,((uC ss t.var).map (·.n)).getD 0,((uC ss t.var).map (·.m)).getD 0⟩:=by rw [hl];unfold uZ;rw [hf]
  rw [hlk];dsimp only;have key:PW l (ss++[t])↔(vD s0.kind=vD t.kind/\uM l s0=uM l t)/\(t.own=true-> ∀s1,uC ss t.var=some s1->s1.n=t.n/\s1.m=t.m):=by
   rw [Cs];constructor
   ·rintro ⟨_,ha⟩;have h0:=vu.1 (ha s0 m0 v0);exact ⟨⟨h0.2.2,h0.2.1⟩,fun ho s1 h1=>by
     obtain ⟨k1,k2,k3⟩:=iK s1 h1;exact (vu.1 (ha s1 k1 k2)).1 k3 ho⟩
   ·rintro ⟨⟨f1,f2⟩,f3⟩;refine ⟨h.pw,fun s hs e=>vu.2 ⟨fun hso hto=>?_,?_,?_⟩⟩
    ·have:(uC ss t.var).isSome=true:=by
      unfold uC;rw [List.find?_isSome];exact ⟨s,hs,by simp [e,hso]⟩
     obtain ⟨s1,h1⟩:=Option.isSome_iff_exists.1 this;obtain ⟨k1,k2,k3⟩:=iK s1 h1;have h4:=(vu.1 (hpw s hs s1 k1 (e.trans k2.symm))).1 hso k3;have h5:=f3 hto s1 h1;exact ⟨h4.1.trans h5.1,h4.2.trans h5.2⟩
    ·exact (vu.1 (hpw s hs s0 m0 (e.trans v0.symm))).2.1.trans f2
    ·exact (vu.1 (hpw s hs s0 m0 (e.trans v0.symm))).2.2.trans f1
  have cond:((vD s0.kind !=vD t.kind)|| !(uM l s0==uM l t)||(t.own&&((xM st.num t.var).getD false)&&((((uC ss t.var).map (·.n)).getD 0 !=t.n)||(((uC ss t.var).map (·.m)).getD 0 !=t.m))))=true↔ ¬PW l (ss++[t]):=by
   rw [key,hn];cases ho:uC ss t.var with
   |none=>simp;exact ⟨fun h=>by rcases h with h|h <;> simp [h],fun h=>by
     by_cases e:vD s0.kind=vD t.kind
     ·exact Or.inr (h e)
     ·exact Or.inl e⟩
   |some s1=>
    simp only [Option.map_some,Option.getD_some,Option.isSome_some,Bool.and_true,Bool.or_eq_true,Bool.and_eq_true,bne_iff_ne,ne_eq,Bool.not_eq_true',beq_eq_false_iff_ne,Option.some.injEq];constructor
    ·rintro ((h|h)|⟨h1,h2⟩) ⟨⟨k1,k2⟩,k3⟩
     ·exact h k1
     ·exact h k2
     ·have:=k3 h1 s1 rfl
      rcases h2 with h2|h2
      ·exact h2 this.1
      ·exact h2 this.2
    ·intro hn'
     by_cases e1:vD s0.kind=vD t.kind
     ·by_cases e2:uM l s0=uM l t
      ·by_cases e3:t.own=true
       ·refine Or.inr ⟨e3,?_⟩
        by_cases e4:s1.n=t.n
        ·refine Or.inr fun e5=>hn' ⟨⟨e1,e2⟩,fun _ s h=>by rw [<- h];exact ⟨e4,e5⟩⟩
        ·exact Or.inl e4
       ·exact absurd ⟨⟨e1,e2⟩,fun h=>absurd h e3⟩ hn'
      ·exact Or.inl (Or.inr e2)
     ·exact Or.inl (Or.inl e1)
  constructor
  ·intro hp;rw [if_neg (fun hc=>cond.1 hc hp)];obtain ⟨⟨f1,f2⟩,f3⟩:=key.1 hp;refine ⟨_,rfl,hp,fun name=>?_,numI,?_⟩
   ·by_cases hne:t.var=name
    ·subst hne;have hs:uZ l (ss++[t]) t.var=some ⟨t.var,vD s0.kind,uM l s0,((uC (ss++[t]) t.var).map (·.n)).getD 0,((uC (ss++[t]) t.var).map (·.m)).getD 0⟩:=by
      unfold uZ;rw [vZ,hf]
     have ho:uC (ss++[t]) t.var=match uC ss t.var with
       |some s=>some s
       |none=>if t.own=true then some t else none:=by
      unfold uC;rw [vZ];simp only [decide_true,Bool.true_and];cases ss.find? fun s=>decide (s.var=t.var)&&s.own <;> rfl
     rw [hs,ho];show wZ (if t.own=true then xX (vOf l t) st.all else st.all) t.var=_
     cases hto:t.own with
     |false=>
      simp only [Bool.false_eq_true,if_false];rw [hlk];cases uC ss t.var <;> rfl
     |true=>
      simp only [if_true];rw [ze,if_pos (show (vOf l t).name=t.var from rfl)];unfold vOf;rw [hto,f1,f2];cases ho2:uC ss t.var with
      |none=>rfl
      |some s1=>
       obtain ⟨k1,k2⟩:=f3 hto s1 ho2;simp [k1,k2]
    ·refine lookO _ name hne ?_;show wZ (if t.own=true then xX (vOf l t) st.all else st.all) name=_
     cases t.own with
     |false=>rfl
     |true=>
      simp only [if_true];rw [ze];exact if_neg hne
   ·show (if t.own=true then xX (vOf l t) st.all else st.all).map (·.name)=_
    have hc:t.var∈once [] (ss.map (·.var)):=by
     rw [yU];exact Or.inr (List.mem_map.2 ⟨s0,m0,v0⟩)
    rw [List.map_append,List.map_cons,List.map_nil,AV,if_pos hc];cases t.own with
    |false=>exact h.names
    |true=>
     simp only [if_true];rw [Cj,h.names];exact if_pos (show (vOf l t).name∈_ from hc)
  ·intro hp;rw [if_pos (cond.2 hp)]
theorem Cq{l:List Fd}: ∀{ts ss:List RS} {st:VS},AG l ss st->(PW l (ss++ts)-> ∃st',Bq l st ts=some st'/\AG l (ss++ts) st')/\(¬ PW l (ss++ts)->Bq l st ts=none)
 |[],ss,st,h=>by
  rw [List.append_nil];exact ⟨fun _=>⟨st,rfl,h⟩,fun hn=>absurd h.pw hn⟩
 |t::ts,ss,st,h=>by
  have hs:=h.step t;have e:ss++t::ts=(ss++[t])++ts:=by simp
  rw [e]
  by_cases hp:PW l (ss++[t])
  ·obtain ⟨st',h1,h2⟩:=hs.1 hp
   have:=Cq (ts:=ts) h2
   unfold Bq;rw [h1,Option.bind_some];exact this
  ·have hnp: ¬PW l ((ss++[t])++ts):=fun hq=>hp (List.Pairwise.sublist (List.sublist_append_left _ _) hq)
   refine ⟨fun hq=>absurd hq hnp,fun _=>?_⟩;unfold Bq;rw [hs.2 hp];rfl
theorem AG.start{l:List Fd}:AG l [] ⟨[],[]⟩:=⟨List.Pairwise.nil,fun _=>rfl,fun _=>rfl,rfl⟩
def ur(ss:List RS):List RS:=ss.filter fun s=>s.kind !=0
end Go.TY
end
section
namespace Go.ST
open Go Go.DL Go.MM Go.TY
structure Cmp {α:Type} (c:α->α->Int):Prop where
 r: ∀a b,c a b= -1\/c a b=0\/c a b=1
 s: ∀a b,c b a= - c a b
 t: ∀a b d,c a b= -1->c b d= -1->c a d= -1
 z: ∀a b,c a b=0-> ∀d,c a d=c b d
section
variable {α:Type}{c:α->α->Int}
theorem Cmp.refl(h:Cmp c)(a:α):c a a=0:=by have:=h.s a a;omega
theorem Cmp.z'(h:Cmp c){a b:α}(e:c a b=0)(d:α):c d a=c d b:=by rw [h.s a d,h.s b d,h.z a b e]
def lex(p:Int)(q:Int):Int:=if p≠0 then p else q
theorem IB{β γ:Type}{f:α->β}{g:α->γ}{cb:β->β->Int}{cg:γ->γ->Int}(hb:Cmp cb)(hg:Cmp cg):Cmp (fun x y:α=>lex (cb (f x) (f y)) (cg (g x) (g y))) where
 r:=fun a b=>by unfold lex;have:=hb.r (f a) (f b);have:=hg.r (g a) (g b);split <;> omega
 s:=fun a b=>by
  unfold lex;have h1:=hb.s (f a) (f b);have h2:=hg.s (g a) (g b);split <;> split <;> omega
 t:=fun a b d=>by
  unfold lex;intro h1 h2;have r1:=hb.r (f a) (f b);have r2:=hb.r (f b) (f d)
  by_cases e1:cb (f a) (f b)=0
  ·rw [hb.z _ _ e1 (f d)];simp only [e1,ne_eq,not_true_eq_false,if_false] at h1
   by_cases e2:cb (f b) (f d)=0
   ·simp only [e2,ne_eq,not_true_eq_false,if_false] at h2 ⊢;exact hg.t _ _ _ h1 h2
   ·simp only [ne_eq,e2,not_false_eq_true,if_true] at h2 ⊢;exact h2
  ·simp only [ne_eq,e1,not_false_eq_true,if_true] at h1
   by_cases e2:cb (f b) (f d)=0
   ·rw [<- hb.z' e2 (f a),h1];exact if_pos (by decide)
   ·simp only [ne_eq,e2,not_false_eq_true,if_true] at h2;rw [hb.t _ _ _ h1 h2];exact if_pos (by decide)
 z:=fun a b=>by
  unfold lex;intro h d
  by_cases e1:cb (f a) (f b)=0
  ·simp only [e1,ne_eq,not_true_eq_false,if_false] at h;rw [hb.z _ _ e1,hg.z _ _ h]
  ·rw [if_pos e1] at h;exact absurd h e1
end
def w7(a b:Int):Int:=if a<b then -1 else if a>b then 1 else 0
theorem yK:Cmp w7 where
 r:=fun a b=>by unfold w7;split <;> (try split) <;> omega
 s:=fun a b=>by unfold w7;split <;> split <;> (try split) <;> omega
 t:=fun a b d=>by
  unfold w7;intro h k
  have:a<b:=by by_cases h1:a<b;exact h1;rw [if_neg h1] at h;split at h <;> omega
  have:b<d:=by by_cases h1:b<d;exact h1;rw [if_neg h1] at k;split at k <;> omega
  rw [if_pos (by omega)]
 z:=fun a b h d=>by
  have:a=b:=by unfold w7 at h;split at h;omega;split at h <;> omega
  rw [this]
theorem CN{a b:Int}:w7 a b=0↔a=b:=by unfold w7;split;omega;split <;> omega
def xR(a b:ByteArray):Int:=if ltS a b then -1 else if ltS b a then 1 else 0
theorem CQ{a b:ByteArray}:xR a b=0↔a=b:=by
 unfold xR;cases h1:ltS a b with
 |true=>simp only [if_true];exact ⟨fun h=>by omega,fun h=>absurd h (zt.ne h1)⟩
 |false=>
  cases h2:ltS b a with
  |true=>simp only [if_true,Bool.false_eq_true,if_false];exact ⟨fun h=>by omega,fun h=>absurd h.symm (zt.ne h2)⟩
  |false=>simp only [Bool.false_eq_true,if_false];exact ⟨fun _=>zt.tot _ _ h1 h2,fun _=>trivial⟩
theorem Ic{a b:ByteArray}:xR a b= -1↔ltS a b=true:=by
 unfold xR;cases h1:ltS a b with
 |true=>simp
 |false=>cases h2:ltS b a <;> simp
theorem GN:Cmp xR where
 r:=fun a b=>by unfold xR;split;simp;split <;> simp
 s:=fun a b=>by
  unfold xR;cases h1:ltS a b with
  |true=>rw [zt.asym h1];rfl
  |false=>cases h2:ltS b a <;> rfl
 t:=fun a b d h k=>by rw [Ic] at *;exact zt.tr _ _ _ h k
 z:=fun a b h d=>by rw [CQ.1 h]
def vf:List Int->List Int->Int
 |[],[]=>0
 |[],_::_=> -1
 |_::_,[]=>1
 |a::l,b::m=>lex (w7 a b) (vf l m)
theorem xF: ∀{a b:List Int},vf a b=0↔a=b
 |[],[]=>by simp [vf]
 |[],_::_=>by simp [vf]
 |_::_,[]=>by simp [vf]
 |a::l,b::m=>by
  unfold vf lex;rw [List.cons.injEq]
  by_cases h:w7 a b=0
  ·rw [if_neg (by simpa using h),xF (a:=l)];simp [CN.1 h]
  ·rw [if_pos h];exact ⟨fun e=>absurd e h,fun e=>absurd (CN.2 e.1) h⟩
theorem GM:Cmp vf where
 r:=fun a=>by
  induction a with
  |nil=>intro b;cases b <;> simp [vf]
  |cons x xs ih=>
   intro b;cases b with
   |nil=>simp [vf]
   |cons y ys=>have:=ih ys;have:=yK.r x y;unfold vf lex;split <;> omega
 s:=fun a=>by
  induction a with
  |nil=>intro b;cases b <;> simp [vf]
  |cons x xs ih=>
   intro b;cases b with
   |nil=>simp [vf]
   |cons y ys=>have:=ih ys;have:=yK.s x y;unfold vf lex;split <;> split <;> omega
 t:=fun a=>by
  induction a with
  |nil=>intro b d h k;cases b <;> cases d <;> simp_all [vf]
  |cons x xs ih=>
   intro b d h k;cases b with
   |nil=>simp [vf] at h
   |cons y ys=>
    cases d with
    |nil=>simp [vf] at k
    |cons z zs=>
     unfold vf lex at h k ⊢
     by_cases e1:w7 x y=0
     ·rw [if_neg (by simp [e1])] at h;rw [yK.z _ _ e1]
      by_cases e2:w7 y z=0
      ·rw [if_neg (by simp [e2])] at k ⊢;exact ih _ _ h k
      ·rw [if_pos e2] at k ⊢;exact k
     ·rw [if_pos e1] at h
      by_cases e2:w7 y z=0
      ·rw [<- yK.z' e2,h];exact if_pos (by decide)
      ·rw [if_pos e2] at k;rw [yK.t _ _ _ h k];exact if_pos (by decide)
 z:=fun a b h d=>by rw [xF.1 h]
structure RE where
 var:ByteArray
 key:List Int
 n:Int
 at_:Int
 deriving DecidableEq
def uk(e:RE):List T:=[.str e.var,.slice 1 (e.key.map I),I e.n,I e.at_]
def um(e:RE):T:=.agg (uk e)
def uz(a b:RE):Int:=lex (xR a.var b.var) (vf a.key b.key)
theorem uv:Cmp uz:=IB (f:=RE.var) (g:=RE.key) GN GM
theorem wM{a b:RE}:uz a b=0↔a.var=b.var/\a.key=b.key:=by
 unfold uz lex;rw [<- CQ, <-xF]
 by_cases h:xR a.var b.var=0 <;> simp [h]
def uP(l:List RE):Prop:=l.Pairwise fun a b=>uz a b= -1
def xc:List RE->Bool
 |a::b::r=>decide (uz a b= -1)&&xc (b::r)
 |_=>true
theorem xW: ∀{l:List RE},xc l=true↔uP l
 |[]=>by simp [xc,uP]
 |[a]=>by simp [xc,uP]
 |a::b::r=>by
  have ih:=xW (l:=b::r);unfold xc;rw [Bool.and_eq_true,ih,decide_eq_true_eq];refine ⟨fun h=>List.pairwise_cons.2 ⟨fun x hx=>?_,h.2⟩,fun h=>⟨(List.pairwise_cons.1 h).1 b (by simp),(List.pairwise_cons.1 h).2⟩⟩;rcases List.mem_cons.1 hx with rfl|hx
  ·exact h.1
  ·exact uv.t _ _ _ h.1 ((List.pairwise_cons.1 h.2).1 x hx)
theorem uP.filter{l:List RE}(h:uP l)(p:RE->Bool):uP (l.filter p):=List.Pairwise.filter p h
theorem uP.uniq{l:List RE}(h:uP l){x y:RE}(hx:x∈l)(hy:y∈l)(e:uz x y=0):x=y:=by
 induction l with
 |nil=>simp at hx
 |cons a r ih=>
  obtain ⟨h1,h2⟩:=List.pairwise_cons.1 h;rcases List.mem_cons.1 hx with e1|hx'
  ·rcases List.mem_cons.1 hy with e2|hy'
   ·rw [e1,e2]
   ·have:=h1 y hy';rw [<- e1] at this;omega
  ·rcases List.mem_cons.1 hy with e2|hy'
   ·have:=h1 x hx';rw [<- e2] at this;have:=uv.s x y;omega
   ·exact ih h2 hx' hy'
theorem uP.ext: ∀{a b:List RE},uP a->uP b->(∀ x,x∈a↔x∈b)->a=b
 |[],[],_,_,_=>rfl
 |[],b::bs,_,_,h=>by have:=(h b).2 (by simp);simp at this
 |a::l,[],_,_,h=>by have:=(h a).1 (by simp);simp at this
 |a::l,b::m,ha,hb,h=>by
  obtain ⟨a1,a2⟩:=List.pairwise_cons.1 ha;obtain ⟨b1,b2⟩:=List.pairwise_cons.1 hb;have e:a=b:=by
   rcases List.mem_cons.1 ((h a).1 (by simp)) with e|hm
   ·exact e
   ·rcases List.mem_cons.1 ((h b).2 (by simp)) with e|hm'
    ·exact e.symm
    ·have:=b1 a hm;have:=a1 b hm';have:=uv.s a b;omega
  subst e
  congr 1
  refine uP.ext a2 b2 fun x=>⟨fun hx=>?_,fun hx=>?_⟩
  ·rcases List.mem_cons.1 ((h x).1 (by simp [hx])) with rfl|hm
   ·have:=a1 _ hx;have:=uv.refl x;omega
   ·exact hm
  ·rcases List.mem_cons.1 ((h x).2 (by simp [hx])) with rfl|hm
   ·have:=b1 _ hx;have:=uv.refl x;omega
   ·exact hm
def uO(st:List RE)(e:RE):Nat:=(st.takeWhile fun x=>decide (uz x e= -1)).length
theorem Bj(st:List RE)(e:RE):uO st e<=st.length:=List.Sublist.length_le (List.takeWhile_sublist _)
theorem C0(x:RE)(xs:List RE)(e:RE):uO (x::xs) e=if uz x e= -1 then uO xs e+1 else 0:=by
 unfold uO
 by_cases h:uz x e= -1 <;> simp [List.takeWhile,h]
theorem CB{st:List RE}(hs:uP st){e:RE}: ∀{i:Nat} (h:i<st.length),uz st[i] e= -1↔i<uO st e:=by
 induction st with
 |nil=>intro i h;simp at h
 |cons x xs ih=>
  obtain ⟨h1,h2⟩:=List.pairwise_cons.1 hs;intro i h;rw [C0];cases i with
  |zero=>by_cases hx:uz x e= -1 <;> simp [hx]
  |succ i=>
   have hi:i<xs.length:=by simpa using h
   rw [List.getElem_cons_succ,ih h2 hi]
   by_cases hx:uz x e= -1
   ·rw [if_pos hx];omega
   ·rw [if_neg hx];refine ⟨fun hlt=>?_,fun hlt=>by omega⟩;have h3:=(ih h2 hi).2 hlt;have h4:=h1 xs[i] (by simp);exact absurd (uv.t _ _ _ h4 h3) hx
def uB(st:List RE)(v:ByteArray)(key:List Int):Option RE:=st.find? fun x=>decide (x.var=v)&&decide (x.key=key)
theorem wx{st:List RE}{v:ByteArray}{key:List Int}{x:RE}(h:uB st v key=some x):x∈st/\x.var=v/\x.key=key:=by
 have h1:=List.find?_some h;simp only [Bool.and_eq_true,decide_eq_true_eq] at h1;exact ⟨List.mem_of_find?_eq_some h,h1⟩
theorem B4{st:List RE}{v:ByteArray}{key:List Int}:uB st v key=none↔ ∀x∈st, ¬(x.var=v/\x.key=key):=by
 unfold uB;rw [List.find?_eq_none];simp
theorem yh{st:List RE}(hs:uP st)(e:RE):uB st e.var e.key=match st[uO st e]? with
  |some x=>if uz x e=0 then some x else none
  |none=>none:=by
 have hle:=Bj st e;cases hf:uB st e.var e.key with
 |some y=>
  obtain ⟨h1,h2,h3⟩:=wx hf;obtain ⟨i,hi,rfl⟩:=List.getElem_of_mem h1;have hz:uz st[i] e=0:=wM.2 ⟨h2,h3⟩;have hp: ¬i<uO st e:=fun h=>by have:=(CB hs hi).2 h;omega
  have hq: ¬uO st e<i:=fun h=>by
   have hpl:uO st e<st.length:=by omega
   have h4:=List.pairwise_iff_getElem.1 hs (uO st e) i hpl hi h;have h5:uz st[uO st e] e= -1:=by rw [<- uv.z' hz];exact h4
   exact absurd ((CB hs hpl).1 h5) (by omega)
  have e1:uO st e=i:=by omega
  rw [e1,ggZ hi];dsimp only;rw [if_pos hz]
 |none=>
  have:=B4.1 hf
  cases hg:st[uO st e]? with
  |none=>rfl
  |some x=>
   dsimp only;rw [if_neg fun h=>this x (List.mem_of_getElem? hg) (wM.1 h)]
def uS(e:RE):List RE->List RE
 |[]=>[e]
 |x::xs=>if uz x e= -1 then x::uS e xs else if uz x e=0 then e::xs else e::x::xs
theorem Ih{α:Type}(b:Bool)(k:Nat)(x:α)(xs:List α):xs.drop (if b=true then k+1 else k)=(x::xs).drop (if b=true then k+1+1 else k+1):=by cases b <;> rfl
theorem DU{st:List RE}(hs:uP st)(e:RE):uS e st=st.take (uO st e)++e::st.drop (if (uB st e.var e.key).isSome then uO st e+1 else uO st e):=by
 rw [yh hs];clear hs
 induction st with
 |nil=>rfl
 |cons x xs ih=>
  rw [C0];unfold uS
  by_cases h:uz x e= -1
  ·rw [if_pos h,if_pos h,ih];simp only [List.getElem?_cons_succ,List.take_succ_cons,List.cons_append];exact congrArg (x:: ·) (congrArg (_++ ·) (congrArg (e:: ·) (Ih _ _ _ _)))
  ·rw [if_neg h,if_neg h];simp only [List.getElem?_cons_zero,List.take_zero,List.nil_append]
   by_cases h0:uz x e=0 <;> simp [h0]
theorem wF{st:List RE}(hs:uP st){e x:RE}:x∈uS e st↔x=e\/(x∈st/\uz x e≠0):=by
 induction st with
 |nil=>simp [uS]
 |cons y ys ih=>
  obtain ⟨h1,h2⟩:=List.pairwise_cons.1 hs;unfold uS
  by_cases h:uz y e= -1
  ·rw [if_pos h,List.mem_cons,ih h2,List.mem_cons];constructor
   ·rintro (rfl|h3|h3)
    ·exact Or.inr ⟨Or.inl rfl,by omega⟩
    ·exact Or.inl h3
    ·exact Or.inr ⟨Or.inr h3.1,h3.2⟩
   ·rintro (h3|⟨rfl|h3,h4⟩)
    ·exact Or.inr (Or.inl h3)
    ·exact Or.inl rfl
    ·exact Or.inr (Or.inr ⟨h3,h4⟩)
  ·have hgt: ∀z∈ys,uz z e≠0/\uz z e≠ -1:=fun z hz=>by
    have h3:=h1 z hz;have hr:=uv.r y e;refine ⟨fun hz0=>?_,fun hzl=>h (uv.t _ _ _ h3 hzl)⟩;rw [uv.z' hz0] at h3;omega
   rw [if_neg h]
   by_cases h0:uz y e=0
   ·rw [if_pos h0,List.mem_cons,List.mem_cons];constructor
    ·rintro (h3|h3)
     ·exact Or.inl h3
     ·exact Or.inr ⟨Or.inr h3,(hgt x h3).1⟩
    ·rintro (h3|⟨rfl|h3,h4⟩)
     ·exact Or.inl h3
     ·exact absurd h0 h4
     ·exact Or.inr h3
   ·rw [if_neg h0,List.mem_cons,List.mem_cons];constructor
    ·rintro (h3|rfl|h3)
     ·exact Or.inl h3
     ·exact Or.inr ⟨Or.inl rfl,h0⟩
     ·exact Or.inr ⟨Or.inr h3,(hgt x h3).1⟩
    ·rintro (h3|⟨rfl|h3,h4⟩)
     ·exact Or.inl h3
     ·exact Or.inr (Or.inl rfl)
     ·exact Or.inr (Or.inr h3)
theorem uP.put{st:List RE}(hs:uP st)(e:RE):uP (uS e st):=by
 induction st with
 |nil=>simp [uS,uP]
 |cons y ys ih=>
  obtain ⟨h1,h2⟩:=List.pairwise_cons.1 hs;unfold uS
  by_cases h:uz y e= -1
  ·rw [if_pos h];refine List.pairwise_cons.2 ⟨fun z hz=>?_,ih h2⟩;rcases (wF h2).1 hz with rfl|⟨hz,_⟩
   ·exact h
   ·exact h1 z hz
  ·rw [if_neg h];have hr:=uv.r y e;have hs':=uv.s y e
   by_cases h0:uz y e=0
   ·rw [if_pos h0];exact List.pairwise_cons.2 ⟨fun z hz=>by rw [<- uv.z _ _ h0];exact h1 z hz,h2⟩
   ·rw [if_neg h0];have h3:uz e y= -1:=by omega
    refine List.pairwise_cons.2 ⟨fun z hz=>?_,hs⟩;rcases List.mem_cons.1 hz with rfl|hz
    ·exact h3
    ·exact uv.t _ _ _ h3 (h1 z hz)
def uF(e:RE):Bool->List RE->List RE
 |d,[]=>if d then [] else [e]
 |d,x::xs=>(if uz x e≠ -1/\d=false then [e] else [])++((if uz x e≠0 then [x] else [])++uF e (d||decide (uz x e≠ -1)) xs)
theorem BE{e:RE}: ∀{l:List RE},(∀ x∈l,uz x e≠0)->uF e true l=l
 |[],_=>rfl
 |x::xs,h=>by
  unfold uF;rw [if_neg (by simp),if_pos (h x (by simp)),Bool.true_or,BE fun y hy=>h y (by simp [hy])];rfl
theorem Gs{st:List RE}(hs:uP st)(e:RE):uF e false st=uS e st:=by
 induction st with
 |nil=>rfl
 |cons y ys ih=>
  obtain ⟨h1,h2⟩:=List.pairwise_cons.1 hs;unfold uF uS
  by_cases h:uz y e= -1
  ·rw [if_pos h,if_neg (by simp [h]),if_pos (by omega)]
   have:(false||decide (uz y e≠ -1))=false:=by simp [h]
   rw [this,ih h2];rfl
  ·have hgt: ∀z∈ys,uz z e≠0:=fun z hz hz0=>by
    have h3:=h1 z hz;rw [uv.z' hz0] at h3;exact h h3
   have:(false||decide (uz y e≠ -1))=true:=by simp [h]
   rw [if_neg h,if_pos ⟨h,rfl⟩,this,BE hgt]
   by_cases h0:uz y e=0
   ·rw [if_pos h0,if_neg (by simp [h0])];rfl
   ·rw [if_neg h0,if_pos h0];rfl
def ofE(st:List RE)(v:ByteArray):List RE:=st.filter fun e=>decide (e.var=v)
def uR(st:List RE)(v:ByteArray):List RE:=st.filter fun e=> !decide (e.var=v)
def uD(st:List RE)(v:ByteArray):Nat:=(ofE st v).length
def B9(a b:List RE):Option (List RE):=if b.any fun x=>(uB a x.var x.key).isSome then none else some (b.foldl (fun acc x=>uS x acc) a)
theorem F5{b:List RE}: ∀{a:List RE},uP a->uP (b.foldl (fun acc x=>uS x acc) a):=by
 induction b with
 |nil=>exact fun h=>h
 |cons x xs ih=>exact fun h=>ih (h.put x)
theorem Ga{b:List RE}(hb:b.Pairwise fun x y=>uz x y≠0): ∀{a:List RE},uP a->(∀ x∈b, ∀y∈a,uz y x≠0)-> ∀{z:RE},z∈b.foldl (fun acc x=>uS x acc) a↔z∈a\/z∈b:=by
 induction b with
 |nil=>simp
 |cons x xs ih=>
  intro a ha hd z;obtain ⟨h1,h2⟩:=List.pairwise_cons.1 hb;rw [List.foldl_cons,ih h2 (ha.put x) (fun w hw y hy=>?_),wF ha,List.mem_cons]
  ·constructor
   ·rintro ((h|h)|h)
    ·exact Or.inr (Or.inl h)
    ·exact Or.inl h.1
    ·exact Or.inr (Or.inr h)
   ·rintro (h|h|h)
    ·exact Or.inl (Or.inr ⟨h,hd x (by simp) z h⟩)
    ·exact Or.inl (Or.inl h)
    ·exact Or.inr h
  ·rcases (wF ha).1 hy with rfl|⟨hy,_⟩
   ·exact h1 w hw
   ·exact hd w (by simp [hw]) y hy
theorem Ee{a b zs:List RE}(ha:uP a)(hb:uP b)(hp:zs.Perm (a++b))(hs:zs.Pairwise fun x y=>uz y x≠ -1):B9 a b=if xc zs then some zs else none:=by
 unfold B9
 by_cases hc:b.any (fun x=>(uB a x.var x.key).isSome)=true
 ·rw [if_pos hc]
  have:xc zs=false:=by
   cases ho:xc zs with
   |false=>rfl
   |true=>
    exfalso;have hz:=xW.1 ho;rw [List.any_eq_true] at hc;obtain ⟨x,hx,hf⟩:=hc;obtain ⟨y,hy⟩:=Option.isSome_iff_exists.1 hf;obtain ⟨h1,h2,h3⟩:=wx hy;have hn:(a++b).Nodup:=hp.nodup_iff.1 (hz.imp fun {x y} h e=>by subst e;have:=uv.refl x;omega);have hxz:x∈zs:=hp.mem_iff.2 (by simp [hx]);have hyz:y∈zs:=hp.mem_iff.2 (by simp [h1]);have e:=hz.uniq hyz hxz (wM.2 ⟨h2,h3⟩);subst e;exact (List.nodup_append.1 hn).2.2 y h1 y hx rfl
  rw [this];rfl
 ·rw [if_neg hc];have hd: ∀x∈b, ∀y∈a,uz y x≠0:=fun x hx y hy h0=>by
   refine hc (List.any_eq_true.2 ⟨x,hx,?_⟩);cases hf:uB a x.var x.key with
   |some _=>rfl
   |none=>exact absurd (wM.1 h0) (B4.1 hf y hy)
  have hne:(a++b).Pairwise fun x y=>uz x y≠0:=List.pairwise_append.2 ⟨ha.imp fun h=>by omega,hb.imp fun h=>by omega,fun x hx y hy=>hd y hy x hx⟩
  have Md:zs.Pairwise fun x y=>uz x y≠0:=(hp.pairwise_iff (fun {x y} h=>by have:=uv.s x y;omega)).2 hne
  have hz:uP zs:=(hs.and Md).imp fun {x y} h=>by have:=uv.s x y;have:=uv.r x y;omega
  rw [xW.2 hz,if_pos rfl]
  congr 1
  refine uP.ext (F5 ha) hz fun x=>?_
  rw [Ga (hb.imp fun h=>by omega) ha hd,hp.mem_iff,List.mem_append]
end Go.ST
end
section
namespace Go.ST
open Go Go.DL Go.MM Go.TY
def vG:List Int->List Int->Bool
 |[],[]=>true
 |k::ks,w::ws=>decide (0<=k)&&decide (k<2^w.toNat)&&vG ks ws
 |_,_=>false
def AM(v:RV)(e:RE)(before:List RE):Bool:=
 if v.fam=2 then decide (e.n=0)
 else if v.fam=3 then decide (v.n<=e.n)&&decide (e.n<=v.m)&& !(before.any fun x=>decide (x.var=e.var)&&decide (x.n=e.n))
 else if v.fam=4 then decide (v.n=0)||decide (e.n<=v.n)
 else true
def Ai(e:RE):Bool:=decide (0<=e.n)&&decide (e.n<=65535)&&decide (0<=e.at_)&&decide (e.at_<=1073741824)
def xt(v:RV)(e:RE)(before:List RE):Bool:=Ai e&&vG e.key v.ws&&AM v e before
def varOf(vars:List RV)(name:ByteArray):Option RV:=vars.find? fun v=>decide (v.name=name)
def yC(before:List RE)(e:RE):Bool:=match before.getLast? with
 |some x=>decide (uz x e≠ -1)
 |none=>false
def zm(vars:List RV)(before:List RE)(e:RE):Int:=match varOf vars e.var with
 |none=>4
 |some v=>if xt v e before=false then 1 else if yC before e=true then 10 else if 100<=uD before e.var then 2 else 0
def zQ(vars:List RV):List RE->List RE->Int
 |_,[]=>0
 |before,e::es=>if zm vars before e=0 then zQ vars (before++[e]) es else zm vars before e
def zn(vars:List RV)(st:List RE):Int:=zQ vars [] st
theorem zX: ∀{k w:List Int},vG k w=true->k.length=w.length
 |[],[],_=>rfl
 |[],_::_,h=>by cases h
 |_::_,[],h=>by cases h
 |k::ks,w::ws,h=>by
  simp only [vG,Bool.and_eq_true] at h;simp [zX h.2]
theorem BL: ∀{k w:List Int},vG k w=true↔k.length=w.length/\ ∀(i:Nat) (a b:Int),k[i]? =some a->w[i]? =some b->0<=a/\a<2^b.toNat
 |[],[]=>by simp [vG]
 |[],_::_=>by simp [vG]
 |_::_,[]=>by simp [vG]
 |k::ks,w::ws=>by
  rw [vG,Bool.and_eq_true,Bool.and_eq_true,decide_eq_true_eq,decide_eq_true_eq,BL,List.length_cons,List.length_cons];constructor
  ·rintro ⟨⟨h1,h2⟩,h3,h4⟩;refine ⟨by omega,fun i a b ha hb=>?_⟩;cases i with
   |zero=>simp only [List.getElem?_cons_zero,Option.some.injEq] at ha hb;subst ha;subst hb;exact ⟨h1,h2⟩
   |succ i=>exact h4 i a b (by simpa using ha) (by simpa using hb)
  ·rintro ⟨h1,h2⟩;exact ⟨h2 0 k w rfl rfl,by omega,fun i a b ha hb=>h2 (i+1) a b (by simpa using ha) (by simpa using hb)⟩
structure Jb (vars:List RV) (e:RE):Prop where
 ex: ∃v,varOf vars e.var=some v/\vG e.key v.ws=true/\(v.fam=2->e.n=0)/\(v.fam=3->v.n<=e.n/\e.n<=v.m)/\(v.fam=4->v.n=0\/e.n<=v.n)
 n0:0<=e.n
 n1:e.n<=65535
 a0:0<=e.at_
 a1:e.at_<=1073741824
def Jz(vars:List RV)(name:ByteArray):Prop:= ∃v,varOf vars name=some v/\v.fam=3
def BW(vars:List RV)(x y:RE):Prop:=x.var=y.var->Jz vars x.var->x.n≠y.n
structure OkS (vars:List RV) (st:List RE):Prop where
 inc:uP st
 fit: ∀e∈st,Jb vars e
 tr:st.Pairwise (BW vars)
 few: ∀v,uD st v<=100
theorem zo{st:List RE}{e:RE}{v:ByteArray}:uD (st++[e]) v=uD st v+if e.var=v then 1 else 0:=by
 unfold uD ofE;rw [List.filter_append,List.length_append]
 by_cases h:e.var=v <;> simp [h]
theorem F4{st:List RE}{e:RE}:uP (st++[e])↔uP st/\ ∀x,st.getLast? =some x->uz x e= -1:=by
 unfold uP;rw [List.pairwise_append];constructor
 ·rintro ⟨h1,_,h3⟩;exact ⟨h1,fun x hx=>h3 x (List.mem_of_getLast? hx) e (by simp)⟩
 ·rintro ⟨h1,h2⟩;refine ⟨h1,by simp,fun a ha b hb=>?_⟩;rw [List.mem_singleton.1 hb];obtain ⟨x,hx⟩: ∃x,st.getLast? =some x:=by
   cases hl:st.getLast? with
   |none=>rw [List.getLast?_eq_none_iff] at hl;subst hl;simp at ha
   |some x=>exact ⟨x,rfl⟩
  have hxe:=h2 x hx;obtain ⟨ys,rfl⟩: ∃ys,st=ys++[x]:=List.getLast?_eq_some_iff.1 hx;rcases List.mem_append.1 ha with h|h
  ·exact uv.t _ _ _ ((List.pairwise_append.1 h1).2.2 a h x (by simp)) hxe
  ·rw [List.mem_singleton.1 h];exact hxe
theorem Ia{vars:List RV}{before:List RE}{e:RE}(hb:OkS vars before):zm vars before e=0↔OkS vars (before++[e]):=by
 have hI:=F4 (st:=before) (e:=e);constructor
 ·intro h;unfold zm at h;cases hv:varOf vars e.var with
  |none=>rw [hv] at h;simp at h
  |some v=>
   rw [hv] at h;dsimp only at h;have h1:xt v e before=true:=by
    cases hf:xt v e before with
    |true=>rfl
    |false=>rw [if_pos hf] at h;omega
   rw [if_neg (by simp [h1])] at h;have h2: ∀x,before.getLast? =some x->uz x e= -1:=fun x hx=>by
    by_cases hc:uz x e= -1
    ·exact hc
    ·have:yC before e=true:=by unfold yC;rw [hx];simp [hc]
     rw [if_pos this] at h;omega
   have h3:uD before e.var<100:=by
    split at h
    ·omega
    ·split at h <;> omega
   unfold xt Ai at h1;simp only [Bool.and_eq_true,decide_eq_true_eq] at h1;obtain ⟨⟨⟨⟨⟨n0,n1⟩,a0⟩,a1⟩,hk⟩,yp⟩:=h1;refine ⟨hI.2 ⟨hb.inc,h2⟩,fun x hx=>?_,?_,fun w=>?_⟩
   ·rcases List.mem_append.1 hx with hx|hx
    ·exact hb.fit x hx
    ·rw [List.mem_singleton.1 hx];refine ⟨⟨v,hv,hk,fun hf=>?_,fun hf=>?_,fun hf=>?_⟩,n0,n1,a0,a1⟩
     ·simpa [AM,hf] using yp
     ·unfold AM at yp;rw [if_neg (by omega),if_pos hf] at yp;simp only [Bool.and_eq_true,decide_eq_true_eq] at yp;exact yp.1
     ·unfold AM at yp;rw [if_neg (by omega),if_neg (by omega),if_pos hf] at yp;simpa using yp
   ·refine List.pairwise_append.2 ⟨hb.tr,by simp,fun x hx y hy=>?_⟩;rw [List.mem_singleton.1 hy];rintro hxe ⟨v',hv',hf'⟩ hn;rw [hxe,hv] at hv';cases hv';unfold AM at yp;rw [if_neg (by omega),if_pos hf'] at yp;simp only [Bool.and_eq_true,Bool.not_eq_true',List.any_eq_false,Bool.and_eq_true,decide_eq_true_eq,not_and] at yp;exact yp.2 x hx hxe hn
   ·rw [zo]
    have:=hb.few w
    by_cases hw:e.var=w
    ·subst hw;simp;omega
    ·simp [hw,this]
 ·intro h;have hfe:=h.fit e (by simp);obtain ⟨v,hv,hk,f2,f3,f4⟩:=hfe.ex;unfold zm;rw [hv];dsimp only;have h1:xt v e before=true:=by
   unfold xt Ai;simp only [Bool.and_eq_true,decide_eq_true_eq];refine ⟨⟨⟨⟨⟨hfe.n0,hfe.n1⟩,hfe.a0⟩,hfe.a1⟩,hk⟩,?_⟩;unfold AM
   by_cases c2:v.fam=2
   ·rw [if_pos c2];simpa using f2 c2
   ·rw [if_neg c2]
    by_cases c3:v.fam=3
    ·rw [if_pos c3];simp only [Bool.and_eq_true,Bool.not_eq_true',List.any_eq_false,decide_eq_true_eq,not_and];refine ⟨f3 c3,fun x hx hxe hn=>?_⟩;exact (List.pairwise_append.1 h.tr).2.2 x hx e (by simp) hxe ⟨v,by rw [hxe];exact hv,c3⟩ hn
    ·rw [if_neg c3]
     by_cases c4:v.fam=4
     ·rw [if_pos c4];simpa using f4 c4
     ·rw [if_neg c4]
  rw [if_neg (by simp [h1])];have h2:=(hI.1 h.inc).2;have h3:=h.few e.var;rw [zo,if_pos rfl] at h3;rw [if_neg (show ¬100<=uD before e.var by omega)];have hm:yC before e=false:=by
   unfold yC;cases hl:before.getLast? with
   |none=>rfl
   |some x=>simp [h2 x hl]
  rw [if_neg (by simp [hm])]
theorem OkS.nil{vars:List RV}:OkS vars []:=⟨List.Pairwise.nil,by simp,List.Pairwise.nil,fun _=>by simp [uD,ofE]⟩
theorem OkS.take{vars:List RV}{a b:List RE}(h:OkS vars (a++b)):OkS vars a:=
 ⟨(List.pairwise_append.1 h.inc).1,fun e he=>h.fit e (by simp [he]),(List.pairwise_append.1 h.tr).1,fun v=>by
  have:=h.few v
  unfold uD ofE at *
  rw [List.filter_append,List.length_append] at this
  omega⟩
theorem Er{vars:List RV}: ∀{es before:List RE},OkS vars before->(zQ vars before es=0↔OkS vars (before++es))
 |[],before,h=>by simp [zQ,h]
 |e::es,before,h=>by
  unfold zQ;have h1:=Ia (e:=e) h
  by_cases hc:zm vars before e=0
  ·rw [if_pos hc,Er (h1.1 hc),List.append_assoc];rfl
  ·rw [if_neg hc];refine ⟨fun h=>absurd h hc,fun hk=>absurd (h1.2 ?_) hc⟩;rw [show before++e::es=before++[e]++es by simp] at hk;exact hk.take
theorem Ep{vars:List RV}{st:List RE}:zn vars st=0↔OkS vars st:=by
 unfold zn;rw [Er OkS.nil];rfl
theorem za{st:List RE}{v:ByteArray}:uD st v<=st.length:=List.length_filter_le _ _
theorem ID{st:List RE}(hs:uP st){e:RE}{v:ByteArray}:ofE (uS e st) v=if e.var=v then uS e (ofE st v) else ofE st v:=by
 refine uP.ext ((hs.put e).filter _) (by split;exact (hs.filter _).put e;exact hs.filter _) fun x=>?_
 unfold ofE;rw [List.mem_filter,wF hs,decide_eq_true_eq]
 by_cases h:e.var=v
 ·rw [if_pos h,wF (hs.filter _),List.mem_filter,decide_eq_true_eq];constructor
  ·rintro ⟨rfl|h1,h2⟩
   ·exact Or.inl rfl
   ·exact Or.inr ⟨⟨h1.1,h2⟩,h1.2⟩
  ·rintro (rfl|h1)
   ·exact ⟨Or.inl rfl,h⟩
   ·exact ⟨Or.inr ⟨h1.1.1,h1.2⟩,h1.1.2⟩
 ·rw [if_neg h,List.mem_filter,decide_eq_true_eq];constructor
  ·rintro ⟨rfl|h1,h2⟩
   ·exact absurd h2 h
   ·exact ⟨h1.1,h2⟩
  ·rintro ⟨h1,h2⟩;exact ⟨Or.inr ⟨h1,fun hc=>h ((wM.1 hc).1.symm.trans h2)⟩,h2⟩
theorem Eb{st:List RE}(hs:uP st){e:RE}{v:ByteArray}(h:e.var=v):uR (uS e st) v=uR st v:=by
 refine uP.ext ((hs.put e).filter _) (hs.filter _) fun x=>?_
 unfold uR;rw [List.mem_filter,List.mem_filter,wF hs];simp only [Bool.not_eq_true',decide_eq_false_iff_not];constructor
 ·rintro ⟨rfl|h1,h2⟩
  ·exact absurd h h2
  ·exact ⟨h1.1,h2⟩
 ·rintro ⟨h1,h2⟩;exact ⟨Or.inr ⟨h1,fun hc=>h2 ((wM.1 hc).1.trans h)⟩,h2⟩
theorem Hf{st:List RE}(hs:uP st)(e:RE):(uS e st).length=if (uB st e.var e.key).isSome then st.length else st.length+1:=by
 rw [DU hs];have hle:=Bj st e;cases hf:uB st e.var e.key with
 |none=>simp;omega
 |some x=>
  have hp:=yh hs e;rw [hf] at hp;cases hg:st[uO st e]? with
  |none=>rw [hg] at hp;cases hp
  |some y=>
   have:=(gsZ hg).1
   simp;omega
theorem Dz{st:List RE}{v:ByteArray}{key:List Int}:uB (ofE st v) v key=uB st v key:=by
 unfold uB ofE;rw [List.find?_filter]
 congr 1
 funext x
 by_cases h:x.var=v <;> simp [h]
theorem OkS.put{vars:List RV}{st:List RE}(h:OkS vars st){e:RE}(he:Jb vars e)(hr:(uB st e.var e.key).isSome=true\/uD st e.var<100)
  (ht:Jz vars e.var-> ∀x∈st,x.var=e.var->uz x e≠0->x.n≠e.n):OkS vars (uS e st):=by
 refine ⟨h.inc.put e,fun x hx=>?_,?_,fun v=>?_⟩
 ·rcases (wF h.inc).1 hx with rfl|⟨hx,_⟩
  ·exact he
  ·exact h.fit x hx
 ·
  have fQ: ∀x∈uS e st, ∀y∈uS e st,uz x y≠0->BW vars x y:=by
   have hst: ∀x∈st, ∀y∈st,uz x y≠0->BW vars x y:=by
    have key: ∀(l:List RE),l.Pairwise (BW vars)-> ∀x∈l, ∀y∈l,uz x y≠0->BW vars x y:=by
     intro l hl
     induction l with
     |nil=>intro x hx;simp at hx
     |cons a r ih=>
      obtain ⟨h1,h2⟩:=List.pairwise_cons.1 hl;intro x hx y hy hne;rcases List.mem_cons.1 hx with e1|hx'
      ·rcases List.mem_cons.1 hy with e2|hy'
       ·rw [e1,e2] at hne;exact absurd (uv.refl _) hne
       ·rw [e1];exact h1 y hy'
      ·rcases List.mem_cons.1 hy with e2|hy'
       ·rw [e2];exact fun g1 g2 g3=>h1 x hx' g1.symm (by rw [<- g1];exact g2) g3.symm
       ·exact ih h2 x hx' y hy' hne
    exact key st h.tr
   intro x hx y hy hne;rcases (wF h.inc).1 hx with g1|⟨hx',hxe⟩
   ·rcases (wF h.inc).1 hy with g2|⟨hy',hye⟩
    ·rw [g1,g2] at hne;exact absurd (uv.refl _) hne
    ·rw [g1];exact fun e1 e2 e3=>ht e2 y hy' e1.symm hye e3.symm
   ·rcases (wF h.inc).1 hy with g2|⟨hy',hye⟩
    ·rw [g2];exact fun e1 e2 e3=>ht (by rw [<- e1];exact e2) x hx' e1 hxe e3
    ·exact hst x hx' y hy' hne
  exact (List.pairwise_iff_getElem.2 fun i j hi hj hij=>fQ _ (List.getElem_mem hi) _ (List.getElem_mem hj) (by
   have:=List.pairwise_iff_getElem.1 (h.inc.put e) i j hi hj hij
   omega))
 ·unfold uD;rw [ID h.inc]
  by_cases hv:e.var=v
  ·rw [if_pos hv,Hf (show uP (ofE st v) from h.inc.filter _)];subst hv;rw [Dz]
   have:=h.few e.var
   unfold uD at this hr;rcases hr with hr|hr
   ·rw [if_pos hr];exact this
   ·split <;> omega
  ·rw [if_neg hv];exact h.few v
end Go.ST
end
section
namespace Go.ST
open Go Go.DL Go.MM
open Go.TY hiding Fd
abbrev Fd:=Go.MM.Fd
def uA(l:List Fd)(s:ByteArray):Bool:=(findF l s).isSome
def wrF(l:List Fd)(h:List Int)(name:ByteArray)(n:Int):List Int:=
 if uA l name then yu (fld l name) h (min n ((2^(fld l name).w - 1:Nat):Int)).toNat else h
def wQ(l:List Fd):List ByteArray->List Int->List Int->List Int
 |k::ks,v::vs,h=>wQ l ks vs (wrF l h k v)
 |[],_,h=>h
 |_::_,[],h=>h
def keyOf(l:List Fd)(names:List ByteArray)(h:List Int):List Int:=names.map fun k=>(vj (fld l k) h:Int)
def uT(l:List RE)(n:Int):Bool:=l.any fun e=>decide (e.n=n)
def vr(l:List RE):Nat->Int->Int
 |0,n=>n
 |k+1,n=>if uT l n then vr l k (n+1) else n
theorem xI(l:List RE): ∀(k:Nat) (n:Int),n<=vr l k n/\vr l k n<=n+k/\ ∀m,n<=m->m<vr l k n->uT l m=true
 |0,n=>⟨by simp [vr],by simp [vr],fun m h1 h2=>by simp [vr] at h2;omega⟩
 |k+1,n=>by
  unfold vr
  by_cases h:uT l n=true
  ·rw [if_pos h];obtain ⟨h1,h2,h3⟩:=xI l k (n+1);refine ⟨by omega,by omega,fun m m1 m2=>?_⟩
   by_cases e:m=n
   ·rw [e];exact h
   ·exact h3 m (by omega) m2
  ·rw [if_neg h];exact ⟨by omega,by omega,fun m h1 h2=>by omega⟩
theorem E0{l:List RE}{e:RE}{m:Int}(h:m≠e.n):uT (l.erase e) m=uT l m:=by
 induction l with
 |nil=>rfl
 |cons a r ih=>
  rw [List.erase_cons]
  by_cases ha:(a==e)=true
  ·rw [if_pos ha]
   have:a=e:=by simpa using ha
   subst this;unfold uT;rw [List.any_cons]
   have:decide (a.n=m)=false:=by simpa using fun e=>h e.symm
   rw [this];rfl
  ·rw [if_neg ha];unfold uT at ih ⊢;rw [List.any_cons,List.any_cons,ih]
theorem pd: ∀(k:Nat) (l:List RE) (n:Int),l.length<k-> ∃m,n<=m/\m<n+k/\uT l m=false
 |0,l,n,h=>by omega
 |k+1,l,n,h=>by
  cases hu:uT l n with
  |false=>exact ⟨n,by omega,by omega,hu⟩
  |true=>
   unfold uT at hu;obtain ⟨e,he,hen⟩:=List.any_eq_true.1 hu;have hen:e.n=n:=by simpa using hen
   obtain ⟨m,h1,h2,h3⟩:=pd k (l.erase e) (n+1) (by rw [List.length_erase_of_mem he];have:=List.length_pos_of_mem he;omega);exact ⟨m,by omega,by omega,by rw [<- h3,E0 (by omega)]⟩
theorem Aa(l:List RE)(n:Int):uT l (vr l l.length n)=false:=by
 have key: ∀(k:Nat) (n:Int),(∃ m,n<=m/\m<n+(k+1:Nat)/\uT l m=false)->uT l (vr l k n)=false:=by
  intro k
  induction k with
  |zero=>
   rintro n ⟨m,h1,h2,h3⟩
   have:m=n:=by omega
   rw [<- this];exact h3
  |succ k ih=>
   rintro n ⟨m,h1,h2,h3⟩;unfold vr;cases hu:uT l n with
   |false=>simpa using hu
   |true=>
    rw [if_pos rfl];refine ih (n+1) ⟨m,?_,by omega,h3⟩;rcases Int.lt_or_eq_of_le h1 with h|h
    ·omega
    ·subst h;rw [h3] at hu;cases hu
 exact key l.length n (pd _ l n (by omega))
def vY(s:RS)(e:RE)(tick:Int):RE:=
 let k:Int:=if tick>e.at_ then (tick - e.at_).tdiv s.m else 0
 if e.n+k>=s.n then ⟨e.var,e.key,s.n,tick⟩ else ⟨e.var,e.key,e.n+k,e.at_+k * s.m⟩
abbrev Res:=List Int×Bool×Option RE
def uY(f:Option RE)(o:List RE):Bool:=f.isNone&&decide (100<=o.length)
def do1(l:List Fd)(s:RS)(f:Option RE)(o:List RE)(h:List Int)(tick:Int)(key:List Int):Res:=
 if uY f o then (h,false,none)
 else (wrF l h s.field (min (((f.map (·.n)).getD 0)+1) 65535),true,some ⟨s.var,key,min (((f.map (·.n)).getD 0)+1) 65535,tick⟩)
def do2(s:RS)(f:Option RE)(o:List RE)(h:List Int)(tick:Int)(key:List Int):Res:=
 if uY f o then (h,false,none) else (h,true,some ⟨s.var,key,(f.map (·.n)).getD 0,tick⟩)
def do3(s:RS)(f:Option RE)(h:List Int)(tick:Int):Res:=(h,(match f with
 |some e=>decide (e.at_>=tick - s.n)
 |none=>false),none)
def wq(s:RS)(f:Option RE)(o:List RE):Int:=match f with
 |some e=>e.n
 |none=>vr o o.length s.n
def do4(l:List Fd)(s:RS)(f:Option RE)(o:List RE)(h:List Int)(tick:Int)(key:List Int):Res:=
 if uY f o||(f.isNone&&decide (wq s f o>s.m)) then (h,false,none)
 else (wrF l h s.field (wq s f o),true,some ⟨s.var,key,wq s f o,tick⟩)
def do5(l:List Fd)(s:RS)(o:List RE)(h:List Int):Res:=match o.find? fun e=>decide (e.n=(vj (fld l s.field) h:Int)) with
 |some e=>(wQ l s.key e.key h,true,none)
 |none=>(h,false,none)
def xE(s:RS)(f:Option RE)(key:List Int)(tick:Int):RE:=vY s (f.getD ⟨s.var,key,s.n,tick⟩) tick
def do6(s:RS)(f:Option RE)(o:List RE)(h:List Int)(tick:Int)(key:List Int):Res:=
 if uY f o then (h,false,none)
 else if (xE s f key tick).n>0 then (h,true,some ⟨s.var,key,(xE s f key tick).n - 1,(xE s f key tick).at_⟩) else (h,false,some ⟨s.var,key,(xE s f key tick).n,(xE s f key tick).at_⟩)
def doR(l:List Fd)(s:RS)(f:Option RE)(o:List RE)(h:List Int)(tick:Int):Res:=
 if s.kind=0 then (h,true,none)
 else if s.kind=1 then do1 l s f o h tick (keyOf l s.key h)
 else if s.kind=2 then do2 s f o h tick (keyOf l s.key h)
 else if s.kind=3 then do3 s f h tick
 else if s.kind=4 then do4 l s f o h tick (keyOf l s.key h)
 else if s.kind=5 then do5 l s o h
 else do6 s f o h tick (keyOf l s.key h)
def cN:Option RE->List RE->List RE
 |none,st=>st
 |some e,st=>uS e st
structure Dn where
 h:List Int
 pass:Bool
 st:List RE
def Au(l:List Fd)(s:RS)(st:List RE)(h:List Int)(tick:Int):Res:=doR l s (uB st s.var (keyOf l s.key h)) (ofE st s.var) h tick
def doE(l:List Fd)(s:RS)(st:List RE)(h:List Int)(tick:Int):Dn:=⟨(Au l s st h tick).1,(Au l s st h tick).2.1,cN (Au l s st h tick).2.2 st⟩
structure BY (l:List Fd) (s:RS) (st:List RE) (h:List Int) (tick:Int):Prop where
 lok:LOk l
 no:uA l ⟨#[]⟩=false
 hok:HOk h
 inc:uP st
 len:st.length<=1000000
 num: ∀e∈st,0<=e.n/\e.n<=65535/\0<=e.at_/\e.at_<=1073741824
 t0:0<=tick
 t1:tick<=1073741824
 k0:0<=s.kind
 k1:s.kind<=6
 keys: ∀k∈s.key,uA l k=true
 klen:s.key.length<=1000
 k3:s.kind=3->0<=s.n/\s.n<=1073741824
 k4:s.kind=4->0<=s.n/\s.n<=65535/\s.n<=s.m/\s.m<=65535
 k5:s.kind=5->uA l s.field=true/\ ∀e∈st,e.var=s.var->e.key.length=s.key.length/\ ∀x∈e.key,0<=x
 k6:s.kind=6->1<=s.n/\s.n<=65535/\1<=s.m/\s.m<=1073741824
end Go.ST
end
noncomputable section
namespace Go.ST
open Go Go.DL Go.Proofs
def c29:aV:=(sr [oo 2 (.box 4 (tm 0)),oo 3 (.box 4 (tm 1)),oo 4 (.mov (Kc 0))] (sr [fa 5 0 2,ld 6 5,fa 7 0 3,ld 8 7,oo 9 (.call 80 [(tm 6),(tm 8)]),fa 10 1 2,ld 11 10,fa 12 1 3,ld 13 12,oo 14 (.call 81 [(tm 11),(tm 13)]),oo 15 (.buildT 1 2 [Z0] [(0,(tm 9)),(1,(tm 14))]),oo 16 (.call 79 [tm 15]),mv 4 16] .ret))
theorem l29:(Tryz.f29.body.bind (bt Tryz.prog 17 []))=some c29:=by kernel_rfl
def c81:aV:=(sr [oo 4 (.mov (Kc 0))] (.seq (sr [mv 9 0,ln 10 9,oo 11 (.mov (Kc 0))] (.block 0 (.loop (sr [oo 12 (.bin .lss (tm 11) (tm 10))] (.seq (.cond (tm 12) .skip (.exit 0)) (.seq (.block 1 (sr [mv 13 11,ix 14 1 9 11,ld 15 14,mv 5 13,mv 6 15] (.seq (sr [mv 16 5,mv 17 1,ln 18 17,oo 19 (.bin .geq (tm 16) (tm 18))] (.cond (tm 19) (sr [oo 4 (.mov (Kc 1))] .ret) .skip)) (sr [mv 20 1,mv 21 5,ix 22 1 20 21,ld 23 22,mv 7 23] (sr [mv 24 6,mv 25 7,oo 26 (.call 123 [(tm 24),(tm 25)]),mv 8 26] (sr [mv 27 8,oo 28 (.bin .neq (tm 27) (Kc 0))] (.cond (tm 28) (sr [mv 29 8,mv 4 29] .ret) .skip))))))) (rg [oo 30 (.bin .add (tm 11) (Kc 1)),mv 11 30]))))))) (.seq (sr [mv 31 0,ln 32 31,mv 33 1,ln 34 33,oo 35 (.bin .lss (tm 32) (tm 34))] (.cond (tm 35) (sr [oo 4 (.mov (.const (.int .i64 (-1))))] .ret) .skip)) (sr [oo 4 (.mov (Kc 0))] .ret))))
theorem l81:(Tryz.f81.body.bind (bt Tryz.prog 36 []))=some c81:=by kernel_rfl
def c79:aV:=(sr [oo 2 (.mov (Kc 0))] (sr [oo 3 (.mov (Kc 0))] (.seq (sr [mv 6 0,ln 7 6,oo 8 (.mov (Kc 0))] (.block 0 (.loop (sr [oo 9 (.bin .lss (tm 8) (tm 7))] (.seq (.cond (tm 9) .skip (.exit 0)) (.seq (.block 1 (sr [ix 10 1 6 8,ld 11 10,mv 5 11] (sr [mv 12 5,mv 13 3,oo 14 (.bin .neq (tm 12) (tm 13))] (.cond (tm 14) (sr [mv 15 5,mv 2 15] .ret) .skip)))) (rg [oo 16 (.bin .add (tm 8) (Kc 1)),mv 8 16]))))))) (sr [mv 17 3,mv 2 17] .ret))))
theorem l79:(Tryz.f79.body.bind (bt Tryz.prog 18 []))=some c79:=by kernel_rfl
def c80:aV:=(sr [oo 4 (.mov (Kc 0))] (sr [mv 7 0,oo 8 (.call 122 [tm 7]),mv 5 8] (sr [mv 9 1,oo 10 (.call 122 [tm 9]),mv 6 10] (.seq (sr [mv 11 5] (.cond (tm 11) (.seq (sr [mv 12 6] (.cond (tm 12) (sr [oo 4 (.mov (Kc 0))] .ret) .skip)) (sr [oo 4 (.mov (.const (.int .i64 (-1))))] .ret)) .skip)) (.seq (sr [mv 13 6] (.cond (tm 13) (sr [oo 4 (.mov (Kc 1))] .ret) .skip)) (.seq (sr [mv 14 0,mv 15 1,oo 16 (.bin .lss (tm 14) (tm 15))] (.cond (tm 16) (sr [oo 4 (.mov (.const (.int .i64 (-1))))] .ret) .skip)) (.seq (sr [mv 17 0,mv 18 1,oo 19 (.bin .gtr (tm 17) (tm 18))] (.cond (tm 19) (sr [oo 4 (.mov (Kc 1))] .ret) .skip)) (sr [oo 4 (.mov (Kc 0))] .ret))))))))
theorem l80:(Tryz.f80.body.bind (bt Tryz.prog 20 []))=some c80:=by kernel_rfl
def Lg:aV:=(sr [oo 2 (.mov kF)] (sr [mv 3 0,mv 4 0,oo 5 (.bin .neq (tm 3) (tm 4)),mv 2 5] .ret))
theorem Mx:(Tryz.f122.body.bind (bt Tryz.prog 6 []))=some Lg:=by kernel_rfl
def c75:aV:=(sr [oo 3 (.box 5 (tm 0)),oo 4 (.box 4 (tm 1)),oo 6 (.mov kF)] (.seq (sr [fa 9 1 4,ld 10 9,ln 11 10,fa 12 2 3,ld 13 12,ln 14 13,oo 15 (.bin .neq (tm 11) (tm 14)),mv 16 15,oF 17 16 (.offA 2 (tm 4)),oF 18 16 (.load 1 false (tm 17)),oF 19 16 (.bin .lss (tm 18) (Kc 0)),oo 20 (.pick (tm 16) kT (tm 19)),mv 21 20,oF 22 21 (.offA 2 (tm 4)),oF 23 21 (.load 1 false (tm 22)),oF 24 21 (.bin .gtr (tm 23) (Kc 65535)),oo 25 (.pick (tm 21) kT (tm 24)),mv 26 25,oF 27 26 (.offA 3 (tm 4)),oF 28 26 (.load 1 false (tm 27)),oF 29 26 (.bin .lss (tm 28) (Kc 0)),oo 30 (.pick (tm 26) kT (tm 29)),mv 31 30,oF 32 31 (.offA 3 (tm 4)),oF 33 31 (.load 1 false (tm 32)),oF 34 31 (.bin .gtr (tm 33) (Kc 1073741824)),oo 35 (.pick (tm 31) kT (tm 34))] (.cond (tm 35) (sr [oo 6 (.mov kF)] .ret) .skip)) (.seq (sr [fa 36 1 4,ld 37 36,ln 38 37,oo 39 (.mov (Kc 0))] (.block 0 (.loop (sr [oo 40 (.bin .lss (tm 39) (tm 38))] (.seq (.cond (tm 40) .skip (.exit 0)) (.seq (.block 1 (sr [mv 41 39,ix 42 1 37 39,ld 43 42,mv 7 41,mv 8 43] (sr [mv 44 8,oo 45 (.bin .lss (tm 44) (Kc 0)),mv 46 45,mF 47 8 46,oF 48 46 (.offA 2 (tm 3)),oF 49 46 (.load 1 false (tm 48)),mF 50 7 46,oF 51 46 (.idxL 1 (tm 49) (tm 50)),oF 52 46 (.load 1 false (tm 51)),oF 53 46 (.bin .shl (Kc 1) (tm 52)),oF 54 46 (.bin .geq (tm 47) (tm 53)),oo 55 (.pick (tm 46) kT (tm 54))] (.cond (tm 55) (sr [oo 6 (.mov kF)] .ret) .skip)))) (rg [oo 56 (.bin .add (tm 39) (Kc 1)),mv 39 56]))))))) (.seq (sr [fa 57 1 3,ld 58 57] (.block 2 (sr [oo 60 (.bin .eql (tm 58) (Kc 2)),mv 59 60] (.cond (tm 59) (sr [fa 61 2 4,ld 62 61,oo 63 (.bin .eql (tm 62) (Kc 0)),mv 6 63] .ret) (sr [oo 65 (.bin .eql (tm 58) (Kc 3)),mv 64 65] (.cond (tm 64) (sr [fa 66 2 4,ld 67 66,fa 68 3 3,ld 69 68,oo 70 (.bin .geq (tm 67) (tm 69)),mv 71 70,oT 72 71 (.offA 2 (tm 4)),oT 73 71 (.load 1 false (tm 72)),oT 74 71 (.offA 4 (tm 3)),oT 75 71 (.load 1 false (tm 74)),oT 76 71 (.bin .leq (tm 73) (tm 75)),oo 77 (.pick (tm 71) (tm 76) kF),mv 78 77,mT 79 2 78,oT 80 78 (.mkfn 117 [tm 4]),oT 81 78 (.call 116 [(tm 79),(tm 80)]),oT 82 78 (.not (tm 81)),oo 83 (.pick (tm 78) (tm 82) kF),mv 6 83] .ret) (sr [oo 85 (.bin .eql (tm 58) (Kc 4)),mv 84 85] (.cond (tm 84) (sr [fa 86 3 3,ld 87 86,oo 88 (.bin .eql (tm 87) (Kc 0)),mv 89 88,oF 90 89 (.offA 2 (tm 4)),oF 91 89 (.load 1 false (tm 90)),oF 92 89 (.offA 3 (tm 3)),oF 93 89 (.load 1 false (tm 92)),oF 94 89 (.bin .leq (tm 91) (tm 93)),oo 95 (.pick (tm 89) kT (tm 94)),mv 6 95] .ret) .skip)))))))) (sr [oo 6 (.mov kT)] .ret)))))
theorem l75:(Tryz.f75.body.bind (bt Tryz.prog 96 []))=some c75:=by kernel_rfl
def Le:aV:=(sr [oo 2 (.box 4 (tm 0)),oo 3 (.mov kF)] (sr [fa 4 0 2,ld 5 4,fa 6 0 1,ld 7 6,oo 8 (.bin .eql (tm 5) (tm 7)),mv 9 8,oT 10 9 (.offA 2 (tm 2)),oT 11 9 (.load 1 false (tm 10)),oT 12 9 (.offA 2 (tm 1)),oT 13 9 (.load 1 false (tm 12)),oT 14 9 (.bin .eql (tm 11) (tm 13)),oo 15 (.pick (tm 9) (tm 14) kF),mv 3 15] .ret))
theorem Mv:(Tryz.f117.body.bind (bt Tryz.prog 16 []))=some Le:=by kernel_rfl
def Ld:aV:=(sr [oo 4 (.mov kF)] (sr [mv 5 0,mv 6 1,oo 7 (.call 109 [(tm 5),(tm 6)]),oo 8 (.bin .geq (tm 7) (Kc 0)),mv 4 8] .ret))
theorem Mu:(Tryz.f116.body.bind (bt Tryz.prog 9 []))=some Ld:=by kernel_rfl
def K7:aV:=(sr [oo 4 (.mov (Kc 0))] (.seq (sr [mv 6 0,ln 7 6,oo 8 (.mov (Kc 0))] (.block 0 (.loop (sr [oo 9 (.bin .lss (tm 8) (tm 7))] (.seq (.cond (tm 9) .skip (.exit 0)) (.seq (.block 1 (sr [mv 10 8,mv 5 10] (sr [mv 11 1,mv 12 0,mv 13 5,ix 14 4 12 13,lA 15 4 14,oo 16 (.bY (tm 11) [tm 15])] (.cond (tm 16) (sr [mv 17 5,mv 4 17] .ret) .skip)))) (rg [oo 18 (.bin .add (tm 8) (Kc 1)),mv 8 18]))))))) (sr [oo 4 (.mov (.const (.int .i64 (-1))))] .ret)))
theorem JE:(Tryz.f109.body.bind (bt Tryz.prog 19 []))=some K7:=by kernel_rfl
def c73:aV:=(sr [oo 4 (.mov (Kc 0))] (.seq (sr [mv 6 0,ln 7 6,oo 8 (.mov (Kc 0))] (.block 0 (.loop (sr [oo 9 (.bin .lss (tm 8) (tm 7))] (.seq (.cond (tm 9) .skip (.exit 0)) (.seq (.block 1 (sr [mv 10 8,mv 5 10] (sr [mv 11 1,mv 12 0,mv 13 5,ix 14 5 12 13,lA 15 5 14,oo 16 (.bY (tm 11) [tm 15])] (.cond (tm 16) (sr [mv 17 5,mv 4 17] .ret) .skip)))) (rg [oo 18 (.bin .add (tm 8) (Kc 1)),mv 8 18]))))))) (sr [oo 4 (.mov (.const (.int .i64 (-1))))] .ret)))
theorem l73:(Tryz.f73.body.bind (bt Tryz.prog 19 []))=some c73:=by kernel_rfl
def c23:aV:=(sr [oo 4 (.mov (Kc 0))] (sr [oo 9 (.mkmap false [.str]),mv 5 9] (.seq (sr [mv 10 1,ln 11 10,oo 12 (.mov (Kc 0))] (.block 0 (.loop (sr [oo 13 (.bin .lss (tm 12) (tm 11))] (.seq (.cond (tm 13) .skip (.exit 0)) (.seq (.block 1 (sr [mv 14 12,ix 15 4 10 12,lA 16 4 15,⟨some 7,.alloc [S0,.nil,Z0,Z0],none,[]⟩,mv 6 14,o0 (.store 4 (tm 7) (tm 16))] (sr [mv 17 0,oo 18 (.mkfn 74 [tm 7]),oo 19 (.call 73 [(tm 17),(tm 18)]),mv 8 19] (.seq (.block 2 (sr [mv 21 8,oo 22 (.bin .lss (tm 21) (Kc 0)),mv 20 22] (.cond (tm 20) (sr [oo 4 (.mov (Kc 4))] .ret) (sr [mv 24 0,mv 25 8,ix 26 5 24 25,lA 27 5 26,lA 28 4 7,mv 29 1,mv 30 6,oo 31 (.slice 4 (tm 29) none (some (tm 30))),oo 32 (.call 75 [(tm 27),(tm 28),(tm 31)]),oo 33 (.not (tm 32)),mv 23 33] (.cond (tm 23) (sr [oo 4 (.mov (Kc 1))] .ret) (sr [mv 35 6,oo 36 (.bin .gtr (tm 35) (Kc 0)),mv 37 36,mT 38 1 37,mT 39 6 37,oT 40 37 (.bin .sub (tm 39) (Kc 1)),oT 41 37 (.idxL 4 (tm 38) (tm 40)),oT 42 37 (.load 4 true (tm 41)),oT 43 37 (.load 4 true (tm 7)),oT 44 37 (.call 29 [(tm 42),(tm 43)]),oT 45 37 (.bin .geq (tm 44) (Kc 0)),oo 46 (.pick (tm 37) (tm 45) kF),mv 34 46] (.cond (tm 34) (sr [oo 4 (.mov (Kc 10))] .ret) (sr [mv 48 5,fa 49 0 7,ld 50 49,oo 51 (.mlook false [.str] Z0 false (tm 48) (tm 50)),oo 52 (.bin .geq (tm 51) (Kc 100)),mv 47 52] (.cond (tm 47) (sr [oo 4 (.mov (Kc 2))] .ret) .skip))))))))) (rg [mv 53 5,fa 54 0 7,ld 55 54,oo 56 (.mlook false [.str] Z0 false (tm 53) (tm 55)),oo 57 (.bin .add (tm 56) (Kc 1)),o0 (.bC false [.str] (tm 53) (tm 55) (tm 57))]))))) (rg [oo 58 (.bin .add (tm 12) (Kc 1)),mv 12 58]))))))) (sr [oo 4 (.mov (Kc 0))] .ret))))
theorem l23:(Tryz.f23.body.bind (bt Tryz.prog 59 []))=some c23:=by kernel_rfl
def c74:aV:=(sr [oo 2 (.box 5 (tm 0)),oo 3 (.mov kF)] (sr [fa 4 0 2,ld 5 4,fa 6 0 1,ld 7 6,oo 8 (.bin .eql (tm 5) (tm 7)),mv 3 8] .ret))
theorem l74:(Tryz.f74.body.bind (bt Tryz.prog 9 []))=some c74:=by kernel_rfl
def c76:aV:=(sr [oo 4 (.box 4 (tm 1)),oo 6 (.mov (Kc 0)),oo 7 (.mov kF)] (sr [mv 8 0,lA 9 4 4,mv 10 2,oo 11 (.call 118 [(tm 8),(tm 9),(tm 10)]),oo 12 (.ext (tm 11) 0),oo 13 (.ext (tm 11) 1),mv 6 12,mv 7 13] .ret))
theorem l76:(Tryz.f76.body.bind (bt Tryz.prog 14 []))=some c76:=by kernel_rfl
def Lf:aV:=(sr [oo 4 (.box 4 (tm 1)),oo 6 (.mov (Kc 0)),oo 7 (.mov kF)] (sr [mv 12 0,ln 13 12,mv 8 13] (sr [mv 14 8,oo 9 (.mov (Kc 0)),mv 10 14] (.seq (.block 0 (.loop (.seq (sr [mv 15 9,mv 16 10,oo 17 (.bin .lss (tm 15) (tm 16))] (.cond (tm 17) .skip (.exit 0))) (.block 1 (sr [mv 18 9,mv 19 10,oo 20 (.bin .add (tm 18) (tm 19)),oo 21 (.conv .u64 (tm 20)),oo 22 (.bin .shr (tm 21) (.const (.int .u64 1))),oo 23 (.conv .i64 (tm 22)),mv 11 23] (sr [mv 24 2,mv 25 0,mv 26 11,ix 27 4 25 26,lA 28 4 27,lA 29 4 4,oo 30 (.bY (tm 24) [(tm 28),(tm 29)]),oo 31 (.bin .lss (tm 30) (Kc 0))] (.cond (tm 31) (rg [mv 32 11,oo 33 (.bin .add (tm 32) (Kc 1)),mv 9 33]) (rg [mv 34 11,mv 10 34])))))))) (sr [mv 35 9,mv 36 9,mv 37 8,oo 38 (.bin .lss (tm 36) (tm 37)),mv 39 38,mT 40 2 39,mT 41 0 39,mT 42 9 39,oT 43 39 (.idxL 4 (tm 41) (tm 42)),oT 44 39 (.load 4 true (tm 43)),oT 45 39 (.load 4 true (tm 4)),oT 46 39 (.bY (tm 40) [(tm 44),(tm 45)]),oT 47 39 (.bin .eql (tm 46) (Kc 0)),oo 48 (.pick (tm 39) (tm 47) kF),mv 6 35,mv 7 48] .ret)))))
theorem Mw:(Tryz.f118.body.bind (bt Tryz.prog 49 []))=some Lf:=by kernel_rfl
def c25:aV:=(sr [⟨some 6,.alloc [S0,.nil,Z0,Z0],none,[]⟩,oo 7 (.mov kF)] (sr [mv 11 0,mv 12 1,mv 13 2,⟨some 14,.build [S0,.nil,Z0,Z0] [(0,1,(tm 12)),(1,1,(tm 13))],none,[]⟩,oo 15 (.call 76 [(tm 11),(tm 14),(.const (.clos 29 []))]),mv 10 15,oo 16 (.ext (tm 10) 0),oo 17 (.ext (tm 10) 1),mv 8 16,mv 9 17] (.seq (sr [mv 18 9,oo 19 (.not (tm 18))] (.cond (tm 19) (sr [⟨some 20,.build [S0,.nil,Z0,Z0] [],none,[]⟩,o0 (.store 4 (tm 6) (tm 20)),oo 7 (.mov kF)] .ret) .skip)) (sr [mv 21 0,mv 22 8,ix 23 4 21 22,lA 24 4 23,o0 (.store 4 (tm 6) (tm 24)),oo 7 (.mov kT)] .ret))))
theorem l25:(Tryz.f25.body.bind (bt Tryz.prog 25 []))=some c25:=by kernel_rfl
def Lb:aV:=(sr [oo 2 (.mov (.const .nil))] (.seq (sr [mv 3 0,oo 4 (.isnil 1 false (tm 3))] (.cond (tm 4) (sr [oo 2 (.mov (.const .nil))] .ret) .skip)) (sr [⟨some 5,.buildF 4 0 [S0,.nil,Z0,Z0] [],none,[]⟩,mv 6 0,oo 7 (.appV 4 56 (tm 5) (tm 6)),mv 2 7] .ret)))
theorem Ms:(Tryz.f114.body.bind (bt Tryz.prog 8 [8000005,9000005]))=some Lb:=by kernel_rfl
def c71:aV:=(sr [oo 3 (.box 1 (tm 1)),oo 4 (.mov (.const .nil))] (sr [mv 5 0,oo 6 (.inl 114 [tm 5]),oo 7 (.mkfn 115 [tm 3]),oo 8 (.inl 113 [(tm 6),(tm 7)]),mv 4 8] .ret))
theorem l71:(Tryz.f71.body.bind (bt Tryz.prog 9 [114,113]))=some c71:=by kernel_rfl
def Lc:aV:=(sr [oo 2 (.box 4 (tm 0)),oo 3 (.mov kF)] (sr [ld 4 1,lA 5 4 2,oo 6 (.bY (tm 4) [tm 5]),oo 7 (.not (tm 6)),mv 3 7] .ret))
theorem Mt:(Tryz.f115.body.bind (bt Tryz.prog 8 []))=some Lc:=by kernel_rfl
def GK:aV:=(sr [oo 4 (.mov (.const .nil))] (sr [mv 8 0,mv 9 1,oo 10 (.call 109 [(tm 8),(tm 9)]),mv 5 10] (.seq (sr [mv 11 5,oo 12 (.bin .eql (tm 11) (.const (.int .i64 (-1))))] (.cond (tm 12) (sr [mv 13 0,mv 4 13] .ret) .skip)) (.seq (sr [mv 14 5,oo 15 (.bin .add (tm 14) (Kc 1)),mv 6 15] (.block 0 (.loop (.seq (sr [mv 16 6,mv 17 0,ln 18 17,oo 19 (.bin .lss (tm 16) (tm 18))] (.cond (tm 19) .skip (.exit 0))) (.seq (.block 1 (sr [mv 22 0,mv 23 6,ix 24 4 22 23,lA 25 4 24,⟨some 7,.alloc [S0,.nil,Z0,Z0],none,[]⟩,o0 (.store 4 (tm 7) (tm 25))] (sr [mv 26 1,lA 27 4 7,oo 28 (.bY (tm 26) [tm 27]),oo 29 (.not (tm 28))] (.cond (tm 29) (sr [mv 30 0,mv 31 5,lA 32 4 7,ix 33 4 30 31,o0 (.store 4 (tm 33) (tm 32))] (rg [mv 34 5,oo 35 (.bin .add (tm 34) (Kc 1)),mv 5 35])) .skip)))) (rg [mv 20 6,oo 21 (.bin .add (tm 20) (Kc 1)),mv 6 21])))))) (sr [mv 36 0,mv 37 5,oo 38 (.slice 4 (tm 36) (some (tm 37)) none),⟨none,.clr 4 [S0,.nil,Z0,Z0] (tm 38),none,[]⟩] (sr [mv 39 0,mv 40 5,oo 41 (.slice 4 (tm 39) none (some (tm 40))),mv 4 41] .ret))))))
theorem G7:(Tryz.f113.body.bind (bt Tryz.prog 42 []))=some GK:=by kernel_rfl
def c72:aV:=(sr [oo 2 (.box 4 (tm 0)),oo 3 (.mov kF)] (sr [fa 4 0 2,ld 5 4,ld 6 1,oo 7 (.bin .eql (tm 5) (tm 6)),mv 3 7] .ret))
theorem l72:(Tryz.f72.body.bind (bt Tryz.prog 8 []))=some c72:=by kernel_rfl
def c21:aV:=(sr [oo 4 (.mov (Kc 0))] (.seq (sr [oo 5 (.mov (Kc 0))] (.block 0 (.loop (.seq (sr [mv 6 5,mv 7 0,ln 8 7,oo 9 (.bin .lss (tm 6) (tm 8)),mv 10 9,mT 11 5 10,mT 12 1 10,oT 13 10 (.len (tm 12)),oT 14 10 (.bin .lss (tm 11) (tm 13)),oo 15 (.pick (tm 10) (tm 14) kF)] (.cond (tm 15) .skip (.exit 0))) (.seq (.block 1 (.seq (sr [mv 18 0,mv 19 5,ix 20 1 18 19,ld 21 20,mv 22 1,mv 23 5,ix 24 1 22 23,ld 25 24,oo 26 (.bin .lss (tm 21) (tm 25))] (.cond (tm 26) (sr [oo 4 (.mov (.const (.int .i64 (-1))))] .ret) .skip)) (sr [mv 27 0,mv 28 5,ix 29 1 27 28,ld 30 29,mv 31 1,mv 32 5,ix 33 1 31 32,ld 34 33,oo 35 (.bin .gtr (tm 30) (tm 34))] (.cond (tm 35) (sr [oo 4 (.mov (Kc 1))] .ret) .skip)))) (rg [mv 16 5,oo 17 (.bin .add (tm 16) (Kc 1)),mv 5 17])))))) (.seq (sr [mv 36 0,ln 37 36,mv 38 1,ln 39 38,oo 40 (.bin .lss (tm 37) (tm 39))] (.cond (tm 40) (sr [oo 4 (.mov (.const (.int .i64 (-1))))] .ret) .skip)) (.seq (sr [mv 41 0,ln 42 41,mv 43 1,ln 44 43,oo 45 (.bin .gtr (tm 42) (tm 44))] (.cond (tm 45) (sr [oo 4 (.mov (Kc 1))] .ret) .skip)) (sr [oo 4 (.mov (Kc 0))] .ret)))))
theorem l21:(Tryz.f21.body.bind (bt Tryz.prog 46 []))=some c21:=by kernel_rfl
def c67:aV:=(sr [oo 2 (.box 4 (tm 0)),oo 3 (.box 4 (tm 1)),oo 4 (.mov (Kc 0))] (.seq (sr [fa 5 0 2,ld 6 5,fa 7 0 3,ld 8 7,oo 9 (.bin .lss (tm 6) (tm 8))] (.cond (tm 9) (sr [oo 4 (.mov (.const (.int .i64 (-1))))] .ret) .skip)) (.seq (sr [fa 10 0 2,ld 11 10,fa 12 0 3,ld 13 12,oo 14 (.bin .gtr (tm 11) (tm 13))] (.cond (tm 14) (sr [oo 4 (.mov (Kc 1))] .ret) .skip)) (sr [fa 15 1 2,ld 16 15,fa 17 1 3,ld 18 17,oo 19 (.call 21 [(tm 16),(tm 18)]),mv 4 19] .ret))))
theorem l67:(Tryz.f67.body.bind (bt Tryz.prog 20 []))=some c67:=by kernel_rfl
def La:aV:=(sr [oo 2 (.mov (Kc 0))] (sr [oo 3 (.mov (Kc 1))] (.seq (sr [oo 4 (.mov (Kc 0))] (.block 0 (.loop (.seq (sr [mv 5 4,mv 6 0,oo 7 (.bin .lss (tm 5) (tm 6))] (.cond (tm 7) .skip (.exit 0))) (.seq (.block 1 (rg [mv 10 3,oo 11 (.bin .mul (tm 10) (Kc 2)),mv 3 11])) (rg [mv 8 4,oo 9 (.bin .add (tm 8) (Kc 1)),mv 4 9])))))) (sr [mv 12 3,mv 2 12] .ret))))
theorem Mr:(Tryz.f112.body.bind (bt Tryz.prog 13 []))=some La:=by kernel_rfl
def c65:aV:=(sr [oo 4 (.mov (Kc 0))] (.seq (sr [oo 5 (.mov (Kc 0))] (.block 0 (.loop (.seq (sr [mv 6 5,mv 7 0,ln 8 7,oo 9 (.bin .lss (tm 6) (tm 8))] (.cond (tm 9) .skip (.exit 0))) (.seq (.block 1 (sr [mv 12 0,mv 13 5,ix 14 5 12 13,fa 15 0 14,ld 16 15,mv 17 1,oo 18 (.bin .eql (tm 16) (tm 17))] (.cond (tm 18) (sr [mv 19 5,mv 4 19] .ret) .skip))) (rg [mv 10 5,oo 11 (.bin .add (tm 10) (Kc 1)),mv 5 11])))))) (sr [oo 4 (.mov (.const (.int .i64 (-1))))] .ret)))
theorem l65:(Tryz.f65.body.bind (bt Tryz.prog 20 []))=some c65:=by kernel_rfl
def c66:aV:=(sr [oo 3 (.box 5 (tm 0)),oo 4 (.box 4 (tm 1)),oo 6 (.mov kF)] (.seq (sr [fa 9 1 4,ld 10 9,ln 11 10,fa 12 2 3,ld 13 12,ln 14 13,oo 15 (.bin .neq (tm 11) (tm 14)),mv 16 15,oF 17 16 (.offA 2 (tm 4)),oF 18 16 (.load 1 false (tm 17)),oF 19 16 (.bin .lss (tm 18) (Kc 0)),oo 20 (.pick (tm 16) kT (tm 19)),mv 21 20,oF 22 21 (.offA 2 (tm 4)),oF 23 21 (.load 1 false (tm 22)),oF 24 21 (.bin .gtr (tm 23) (Kc 65535)),oo 25 (.pick (tm 21) kT (tm 24)),mv 26 25,oF 27 26 (.offA 3 (tm 4)),oF 28 26 (.load 1 false (tm 27)),oF 29 26 (.bin .lss (tm 28) (Kc 0)),oo 30 (.pick (tm 26) kT (tm 29)),mv 31 30,oF 32 31 (.offA 3 (tm 4)),oF 33 31 (.load 1 false (tm 32)),oF 34 31 (.bin .gtr (tm 33) (Kc 1073741824)),oo 35 (.pick (tm 31) kT (tm 34))] (.cond (tm 35) (sr [oo 6 (.mov kF)] .ret) .skip)) (.seq (sr [oo 7 (.mov (Kc 0))] (.block 0 (.loop (.seq (sr [mv 36 7,fa 37 1 4,ld 38 37,ln 39 38,oo 40 (.bin .lss (tm 36) (tm 39))] (.cond (tm 40) .skip (.exit 0))) (.seq (.block 1 (sr [fa 43 1 4,ld 44 43,mv 45 7,ix 46 1 44 45,ld 47 46,oo 48 (.bin .lss (tm 47) (Kc 0)),mv 49 48,oF 50 49 (.offA 1 (tm 4)),oF 51 49 (.load 1 false (tm 50)),mF 52 7 49,oF 53 49 (.idxL 1 (tm 51) (tm 52)),oF 54 49 (.load 1 false (tm 53)),oF 55 49 (.offA 2 (tm 3)),oF 56 49 (.load 1 false (tm 55)),mF 57 7 49,oF 58 49 (.idxL 1 (tm 56) (tm 57)),oF 59 49 (.load 1 false (tm 58)),oF 60 49 (.call 112 [tm 59]),oF 61 49 (.bin .geq (tm 54) (tm 60)),oo 62 (.pick (tm 49) kT (tm 61))] (.cond (tm 62) (sr [oo 6 (.mov kF)] .ret) .skip))) (rg [mv 41 7,oo 42 (.bin .add (tm 41) (Kc 1)),mv 7 42])))))) (.seq (sr [fa 63 1 3,ld 64 63] (.block 2 (sr [oo 66 (.bin .eql (tm 64) (Kc 2)),mv 65 66] (.cond (tm 65) (sr [fa 67 2 4,ld 68 67,oo 69 (.bin .eql (tm 68) (Kc 0)),mv 6 69] .ret) (sr [oo 71 (.bin .eql (tm 64) (Kc 3)),mv 70 71] (.cond (tm 70) (.seq (sr [oo 8 (.mov (Kc 0))] (.block 3 (.loop (.seq (sr [mv 72 8,mv 73 2,ln 74 73,oo 75 (.bin .lss (tm 72) (tm 74))] (.cond (tm 75) .skip (.exit 3))) (.seq (.block 4 (sr [mv 78 2,mv 79 8,ix 80 4 78 79,fa 81 0 80,ld 82 81,fa 83 0 4,ld 84 83,oo 85 (.bin .eql (tm 82) (tm 84)),mv 86 85,mT 87 2 86,mT 88 8 86,oT 89 86 (.idxL 4 (tm 87) (tm 88)),oT 90 86 (.offA 2 (tm 89)),oT 91 86 (.load 1 false (tm 90)),oT 92 86 (.offA 2 (tm 4)),oT 93 86 (.load 1 false (tm 92)),oT 94 86 (.bin .eql (tm 91) (tm 93)),oo 95 (.pick (tm 86) (tm 94) kF)] (.cond (tm 95) (sr [oo 6 (.mov kF)] .ret) .skip))) (rg [mv 76 8,oo 77 (.bin .add (tm 76) (Kc 1)),mv 8 77])))))) (sr [fa 96 2 4,ld 97 96,fa 98 3 3,ld 99 98,oo 100 (.bin .geq (tm 97) (tm 99)),mv 101 100,oT 102 101 (.offA 2 (tm 4)),oT 103 101 (.load 1 false (tm 102)),oT 104 101 (.offA 4 (tm 3)),oT 105 101 (.load 1 false (tm 104)),oT 106 101 (.bin .leq (tm 103) (tm 105)),oo 107 (.pick (tm 101) (tm 106) kF),mv 6 107] .ret)) (sr [oo 109 (.bin .eql (tm 64) (Kc 4)),mv 108 109] (.cond (tm 108) (sr [fa 110 3 3,ld 111 110,oo 112 (.bin .eql (tm 111) (Kc 0)),mv 113 112,oF 114 113 (.offA 2 (tm 4)),oF 115 113 (.load 1 false (tm 114)),oF 116 113 (.offA 3 (tm 3)),oF 117 113 (.load 1 false (tm 116)),oF 118 113 (.bin .leq (tm 115) (tm 117)),oo 119 (.pick (tm 113) kT (tm 118)),mv 6 119] .ret) .skip)))))))) (sr [oo 6 (.mov kT)] .ret)))))
theorem l66:(Tryz.f66.body.bind (bt Tryz.prog 120 []))=some c66:=by kernel_rfl
def c60:aV:=(sr [oo 4 (.mov (Kc 0))] (sr [oo 5 (.mov (Kc 0))] (.seq (sr [oo 6 (.mov (Kc 0))] (.block 0 (.loop (.seq (sr [mv 7 6,mv 8 0,ln 9 8,oo 10 (.bin .lss (tm 7) (tm 9))] (.cond (tm 10) .skip (.exit 0))) (.seq (.block 1 (sr [mv 13 0,mv 14 6,ix 15 4 13 14,fa 16 0 15,ld 17 16,mv 18 1,oo 19 (.bin .eql (tm 17) (tm 18))] (.cond (tm 19) (rg [mv 20 5,oo 21 (.bin .add (tm 20) (Kc 1)),mv 5 21]) .skip))) (rg [mv 11 6,oo 12 (.bin .add (tm 11) (Kc 1)),mv 6 12])))))) (sr [mv 22 5,mv 4 22] .ret))))
theorem l60:(Tryz.f60.body.bind (bt Tryz.prog 23 []))=some c60:=by kernel_rfl
def c14:aV:=(sr [oo 4 (.mov (Kc 0))] (.seq (sr [oo 5 (.mov (Kc 0))] (.block 0 (.loop (.seq (sr [mv 8 5,mv 9 1,ln 10 9,oo 11 (.bin .lss (tm 8) (tm 10))] (.cond (tm 11) .skip (.exit 0))) (.seq (.block 1 (sr [mv 14 0,mv 15 1,mv 16 5,ix 17 4 15 16,fa 18 0 17,ld 19 18,oo 20 (.call 65 [(tm 14),(tm 19)]),mv 6 20] (.seq (sr [mv 21 6,oo 22 (.bin .lss (tm 21) (Kc 0))] (.cond (tm 22) (sr [oo 4 (.mov (Kc 4))] .ret) .skip)) (sr [mv 23 0,mv 24 6,ix 25 5 23 24,lA 26 5 25,mv 27 1,mv 28 5,ix 29 4 27 28,lA 30 4 29,mv 31 1,mv 32 5,oo 33 (.slice 4 (tm 31) none (some (tm 32))),oo 34 (.call 66 [(tm 26),(tm 30),(tm 33)]),mv 7 34] (.seq (sr [mv 35 7,oo 36 (.not (tm 35))] (.cond (tm 36) (sr [oo 4 (.mov (Kc 1))] .ret) .skip)) (.seq (sr [mv 37 5,oo 38 (.bin .gtr (tm 37) (Kc 0)),mv 39 38,mT 40 1 39,mT 41 5 39,oT 42 39 (.bin .sub (tm 41) (Kc 1)),oT 43 39 (.idxL 4 (tm 40) (tm 42)),oT 44 39 (.load 4 true (tm 43)),mT 45 1 39,mT 46 5 39,oT 47 39 (.idxL 4 (tm 45) (tm 46)),oT 48 39 (.load 4 true (tm 47)),oT 49 39 (.call 67 [(tm 44),(tm 48)]),oT 50 39 (.bin .geq (tm 49) (Kc 0)),oo 51 (.pick (tm 39) (tm 50) kF)] (.cond (tm 51) (sr [oo 4 (.mov (Kc 10))] .ret) .skip)) (sr [mv 52 1,mv 53 5,oo 54 (.slice 4 (tm 52) none (some (tm 53))),mv 55 1,mv 56 5,ix 57 4 55 56,fa 58 0 57,ld 59 58,oo 60 (.call 60 [(tm 54),(tm 59)]),oo 61 (.bin .geq (tm 60) (Kc 100))] (.cond (tm 61) (sr [oo 4 (.mov (Kc 2))] .ret) .skip)))))))) (rg [mv 12 5,oo 13 (.bin .add (tm 12) (Kc 1)),mv 5 13])))))) (sr [oo 4 (.mov (Kc 0))] .ret)))
theorem l14:(Tryz.f14.body.bind (bt Tryz.prog 62 []))=some c14:=by kernel_rfl
def c26:aV:=(sr [⟨some 6,.alloc [S0,.nil,Z0,Z0],none,[]⟩,oo 7 (.mov kF)] (.seq (sr [oo 8 (.mov (Kc 0))] (.block 0 (.loop (.seq (sr [mv 9 8,mv 10 0,ln 11 10,oo 12 (.bin .lss (tm 9) (tm 11))] (.cond (tm 12) .skip (.exit 0))) (.seq (.block 1 (sr [mv 15 0,mv 16 8,ix 17 4 15 16,fa 18 0 17,ld 19 18,mv 20 1,oo 21 (.bin .eql (tm 19) (tm 20)),mv 22 21,mT 23 0 22,mT 24 8 22,oT 25 22 (.idxL 4 (tm 23) (tm 24)),oT 26 22 (.offA 1 (tm 25)),oT 27 22 (.load 1 false (tm 26)),mT 28 2 22,oT 29 22 (.call 21 [(tm 27),(tm 28)]),oT 30 22 (.bin .eql (tm 29) (Kc 0)),oo 31 (.pick (tm 22) (tm 30) kF)] (.cond (tm 31) (sr [mv 32 0,mv 33 8,ix 34 4 32 33,lA 35 4 34,o0 (.store 4 (tm 6) (tm 35)),oo 7 (.mov kT)] .ret) .skip))) (rg [mv 13 8,oo 14 (.bin .add (tm 13) (Kc 1)),mv 8 14])))))) (sr [⟨some 36,.build [S0,.nil,Z0,Z0] [],none,[]⟩,o0 (.store 4 (tm 6) (tm 36)),oo 7 (.mov kF)] .ret)))
theorem l26:(Tryz.f26.body.bind (bt Tryz.prog 37 []))=some c26:=by kernel_rfl
def c62:aV:=(sr [oo 3 (.box 4 (tm 1)),oo 4 (.mov (.const .nil))] (sr [oo 5 (.mov (.const .nil))] (sr [oo 6 (.mov kF)] (.seq (sr [oo 7 (.mov (Kc 0))] (.block 0 (.loop (.seq (sr [mv 9 7,mv 10 0,ln 11 10,oo 12 (.bin .lss (tm 9) (tm 11))] (.cond (tm 12) .skip (.exit 0))) (.seq (.block 1 (.seq (.cut (rg [mv 15 0,mv 16 7,ix 17 4 15 16,lA 18 4 17,lA 19 4 3,oo 20 (.call 67 [(tm 18),(tm 19)]),mv 8 20])) (.seq (.cut (sr [mv 21 8,oo 22 (.bin .geq (tm 21) (Kc 0)),mv 23 22,mT 24 6 23,oT 25 23 (.not (tm 24)),oo 26 (.pick (tm 23) (tm 25) kF)] (.cond (tm 26) (sr [mv 27 5,lA 28 4 3,⟨some 29,.buildF 4 1 [S0,.nil,Z0,Z0] [(0,(tm 28))],none,[]⟩,oo 30 (.append 25 64 4 56 (tm 27) (tm 29)),mv 5 30] (rg [oo 6 (.mov kT)])) .skip))) (sr [mv 31 8,oo 32 (.bin .neq (tm 31) (Kc 0))] (.cond (tm 32) (rg [mv 33 5,mv 34 0,mv 35 7,ix 36 4 34 35,lA 37 4 36,⟨some 38,.buildF 4 1 [S0,.nil,Z0,Z0] [(0,(tm 37))],none,[]⟩,oo 39 (.append 25 64 4 56 (tm 33) (tm 38)),mv 5 39]) .skip))))) (rg [mv 13 7,oo 14 (.bin .add (tm 13) (Kc 1)),mv 7 14])))))) (.seq (sr [mv 40 6,oo 41 (.not (tm 40))] (.cond (tm 41) (rg [mv 42 5,lA 43 4 3,⟨some 44,.buildF 4 1 [S0,.nil,Z0,Z0] [(0,(tm 43))],none,[]⟩,oo 45 (.append 25 64 4 56 (tm 42) (tm 44)),mv 5 45]) .skip)) (sr [mv 46 5,mv 4 46] .ret))))))
theorem l62:(Tryz.f62.body.bind (bt Tryz.prog 47 [6000006,5000007,8000029,8000038,8000044]))=some c62:=by kernel_rfl
def c31:aV:=(sr [oo 4 (.mov (.const .nil))] (sr [oo 5 (.mov (.const .nil))] (.seq (sr [oo 6 (.mov (Kc 0))] (.block 0 (.loop (.seq (sr [mv 7 6,mv 8 0,ln 9 8,oo 10 (.bin .lss (tm 7) (tm 9))] (.cond (tm 10) .skip (.exit 0))) (.seq (.block 1 (sr [mv 13 0,mv 14 6,ix 15 4 13 14,fa 16 0 15,ld 17 16,mv 18 1,oo 19 (.bin .eql (tm 17) (tm 18))] (.cond (tm 19) (rg [mv 20 5,mv 21 0,mv 22 6,ix 23 4 21 22,lA 24 4 23,⟨some 25,.buildF 4 1 [S0,.nil,Z0,Z0] [(0,(tm 24))],none,[]⟩,oo 26 (.append 25 64 4 56 (tm 20) (tm 25)),mv 5 26]) .skip))) (rg [mv 11 6,oo 12 (.bin .add (tm 11) (Kc 1)),mv 6 12])))))) (sr [mv 27 5,mv 4 27] .ret))))
theorem l31:(Tryz.f31.body.bind (bt Tryz.prog 28 [8000025]))=some c31:=by kernel_rfl
def c16:aV:=(sr [oo 4 (.mov (.const .nil))] (sr [oo 5 (.mov (.const .nil))] (.seq (sr [oo 6 (.mov (Kc 0))] (.block 0 (.loop (.seq (sr [mv 7 6,mv 8 0,ln 9 8,oo 10 (.bin .lss (tm 7) (tm 9))] (.cond (tm 10) .skip (.exit 0))) (.seq (.block 1 (sr [mv 13 0,mv 14 6,ix 15 4 13 14,fa 16 0 15,ld 17 16,mv 18 1,oo 19 (.bin .neq (tm 17) (tm 18))] (.cond (tm 19) (rg [mv 20 5,mv 21 0,mv 22 6,ix 23 4 21 22,lA 24 4 23,⟨some 25,.buildF 4 1 [S0,.nil,Z0,Z0] [(0,(tm 24))],none,[]⟩,oo 26 (.append 25 64 4 56 (tm 20) (tm 25)),mv 5 26]) .skip))) (rg [mv 11 6,oo 12 (.bin .add (tm 11) (Kc 1)),mv 6 12])))))) (sr [mv 27 5,mv 4 27] .ret))))
theorem l16:(Tryz.f16.body.bind (bt Tryz.prog 28 [8000025]))=some c16:=by kernel_rfl
end Go.ST
end
section
namespace Go.ST
open Go Go.DL Go.MM Go.Proofs
open Go.TY hiding Fd
theorem BT(s:ByteArray):DCalls Tryz.prog 122 [.str s] (.bool false):=by
 refine dl2 mixed [.tmp 2] [.bool false] Tryz.func122 Mx ?_;have h:(!(s.toList==s.toList))=false:=by simp
 repeat' ((conv=>whnf);first|refine nb_ _ h ?_|refine rb0 ?_|refine aS ?_|exact trivial)
theorem Hz(x:Int):DCalls Tryz.prog 156 [I x] (.bool false):=by
 refine dl2 mixed [.tmp 2] [.bool _] Tryz.func156 MO ?_
 repeat' ((conv=>whnf);first|refine aN0 ?_|refine rb0 ?_|refine aS ?_|exact trivial)
theorem JW(x y:Int):DCalls Tryz.prog 123 [I x,I y] (I (w7 x y)):=by
 refine dl2 mixed [.tmp 4] [I _] Tryz.func123 My ?_;unfold w7
 repeat' ((conv=>whnf);first|refine uc _ (Hz _) ?_|refine nD_ (fun hq=>?_) (fun hq=>?_)|refine rix ?_|refine aS ?_|exact trivial)
 all_goals (refine ri ?_ trivial;split <;> (try split) <;> first|rfl|omega)
theorem gtS(a b:ByteArray):(!(Op.bytesLess a.toList b.toList||a.toList==b.toList))=ltS b a:=by
 cases h1:ltS a b with
 |true=>
  have h2:=zt.asym h1;unfold ltS at h1;rw [h1,h2];rfl
 |false=>
  have h1':=h1;unfold ltS at h1';rw [h1',Bool.false_or];cases h2:ltS b a with
  |true=>
   have: ¬a.toList=b.toList:=fun e=>zt.ne h2 (AH e).symm
   simpa using this
  |false=>
   have:a=b:=zt.tot _ _ h1 h2
   simp [this]
theorem JY(x y:ByteArray):DCalls Tryz.prog 80 [.str x,.str y] (I (xR x y)):=by
 refine dl2 mixed [.tmp 4] [I _] Tryz.func80 l80 ?_;unfold xR;have hg:=gtS x y;have hl:Op.bytesLess x.toList y.toList=ltS x y:=rfl;cases h1:ltS x y with
 |true=>
  rw [h1] at hl
  repeat' ((conv=>whnf);first|refine uc _ (BT _) ?_|refine nb_ _ hl ?_|refine rix ?_|refine aS ?_|exact trivial)
 |false=>
  rw [h1] at hl;cases h2:ltS y x with
  |true=>
   rw [h2] at hg
   repeat' ((conv=>whnf);first|refine uc _ (BT _) ?_|refine nb_ _ hl ?_|refine nb_ _ hg ?_|refine rix ?_|refine aS ?_|exact trivial)
  |false=>
   rw [h2] at hg
   repeat' ((conv=>whnf);first|refine uc _ (BT _) ?_|refine nb_ _ hl ?_|refine nb_ _ hg ?_|refine rix ?_|refine aS ?_|exact trivial)
theorem KN(x y:Int):DCalls Tryz.prog 79 [.slice 1 [I x,I y]] (I (lex x y)):=by
 refine dl2 mixed [.tmp 2] [I _] Tryz.func79 l79 ?_;unfold lex
 skip
 refine tx 0 (α:=Nat) (β:=Unit) (fun i=>{sl:=[(3,.t (I 0)),(6,.t (.slice 1 [I x,I y])),(7,.t (I 2)),(8,.t (I i))],bx:=[]})
  (fun i=>i<=2/\(1<=i->x=0)/\(2<=i->y=0)) (fun i=>2 - i) (fun _=>{sl:=[(3,.t (I 0))],bx:=[]}) (fun _=>x=0/\y=0) 0 ⟨by omega,by omega,by omega⟩ ?_ ?_ ?_
 ·repeat' (first|exact wJ|refine And.intro ?_ ?_)
 ·rintro i ⟨hi,hx,hy⟩
  match i,hi with
  |0,_=>
   by_cases h:x=0
   ·repeat' ((conv=>whnf);first|refine sF h ?_|refine aD1 ?_|refine aS ?_|refine nT_ ?_)
    exact ⟨1,⟨by omega,fun _=>h,by omega⟩,by omega,by repeat' (first|exact wJ|refine And.intro ?_ ?_)⟩
   ·rw [if_pos h]
    repeat' ((conv=>whnf);first|exact trivial|refine sG h ?_|refine aD1 ?_|refine rix ?_|refine aS ?_|refine nT_ ?_)
  |1,_=>
   rw [if_neg (by simp [hx (by omega)])]
   by_cases h:y=0
   ·repeat' ((conv=>whnf);first|refine sF h ?_|refine aD1 ?_|refine aS ?_|refine nT_ ?_)
    exact ⟨2,⟨by omega,fun _=>hx (by omega),fun _=>h⟩,by omega,by repeat' (first|exact wJ|refine And.intro ?_ ?_)⟩
   ·repeat' ((conv=>whnf);first|exact trivial|refine sG h ?_|refine aD1 ?_|refine rix ?_|refine aS ?_|refine nT_ ?_)
  |2,_=>
   repeat' ((conv=>whnf);first|refine aD0 ?_|refine aS ?_|fail)
   exact ⟨(),⟨hx (by omega),hy (by omega)⟩,by repeat' (first|exact wJ|refine And.intro ?_ ?_)⟩
  |i+3,h=>omega
 rintro - ⟨hx,hy⟩;rw [hx,hy]
 repeat' ((conv=>whnf);first|refine rix ?_|exact trivial)
theorem CO{a b:List Int}{i:Nat}(ha:i<a.length)(hb:i<b.length):vf (a.drop i) (b.drop i)=lex (w7 a[i] b[i]) (vf (a.drop (i+1)) (b.drop (i+1))):=by
 rw [List.drop_eq_getElem_cons ha,List.drop_eq_getElem_cons hb];rfl
theorem BI{a b:List Int}{i:Nat}(ha:a.length<=i)(hb:i<=b.length):vf (a.drop i) (b.drop i)=if i<b.length then -1 else 0:=by
 rw [List.drop_eq_nil_of_le ha]
 by_cases h:i<b.length
 ·rw [List.drop_eq_getElem_cons h,if_pos h];rfl
 ·rw [List.drop_eq_nil_of_le (by omega),if_neg h];rfl
theorem CP{a b:List Int}{i:Nat}(ha:i<a.length)(hb:b.length<=i):vf (a.drop i) (b.drop i)=1:=by
 rw [List.drop_eq_nil_of_le hb,List.drop_eq_getElem_cons ha];rfl
theorem JX(a b:List Int)(hl:a.length<2^60)(hm:b.length<2^60):DCalls Tryz.prog 81 [.slice 1 (a.map I),.slice 1 (b.map I)] (I (vf a b)):=by
 refine dl2 mixed [.tmp 4] [I _] Tryz.func81 l81 ?_;have ha:((a.map I).length:Int)=a.length:=by rw [List.length_map]
 have hb:((b.map I).length:Int)=b.length:=by rw [List.length_map]
 skip
 refine tx 0 (α:=Nat) (β:=Unit) (fun i=>{sl:=[(0,.t (.slice 1 (a.map I))),(1,.t (.slice 1 (b.map I))),(9,.t (.slice 1 (a.map I))),(10,.t (I (a.map I).length)),(11,.t (I i))],bx:=[]})
  (fun i=>i<=a.length/\i<=b.length/\vf (a.drop i) (b.drop i)=vf a b) (fun i=>a.length - i) (fun _=>{sl:=[(0,.t (.slice 1 (a.map I))),(1,.t (.slice 1 (b.map I)))],bx:=[]}) (fun _=>a.length<=b.length/\vf (a.drop a.length) (b.drop a.length)=vf a b) 0 ⟨by omega,by omega,rfl⟩ ?_ ?_ ?_
 ·repeat' (first|exact wJ|refine And.intro ?_ ?_)
 ·rintro i ⟨hi,hj,he⟩;rcases Nat.lt_or_ge i a.length with h|h
  ·have hlt:(i:Int)<((a.map I).length:Int):=by omega
   rcases Nat.lt_or_ge i b.length with h'|h'
   ·have hge: ¬(i:Int)>=((b.map I).length:Int):=by omega
    rw [CO h h'] at he;unfold lex at he;have hc:=JW a[i] b[i];generalize hg:w7 a[i] b[i]=c at *
    by_cases hz:c=0
    ·rw [if_neg (by simpa using hz)] at he
     repeat' ((conv=>whnf);first|refine sC hlt ?_|(refine nv_ (I a[i]) (by first|(simp [h];done)|fail) ?_)|refine su hge ?_|(refine nv_ (I b[i]) (by first|(simp [h'];done)|fail) ?_)|refine uc _ (hc) ?_|refine sF hz ?_|refine aS ?_|refine nT_ ?_)
     exact ⟨i+1,⟨h,h',he⟩,by omega,by repeat' (first|exact wJ|refine And.intro ?_ ?_)⟩
    ·rw [if_pos hz] at he;rw [<- he]
     repeat' ((conv=>whnf);first|exact trivial|refine sC hlt ?_|(refine nv_ (I a[i]) (by first|(simp [h];done)|fail) ?_)|refine su hge ?_|(refine nv_ (I b[i]) (by first|(simp [h'];done)|fail) ?_)|refine uc _ (hc) ?_|refine sG hz ?_|refine rix ?_|refine aS ?_|refine nT_ ?_)
   ·have hge:(i:Int)>=((b.map I).length:Int):=by omega
    rw [CP h h'] at he;rw [<- he]
    repeat' ((conv=>whnf);first|exact trivial|refine sC hlt ?_|(refine nv_ (I a[i]) (by first|(simp [h];done)|fail) ?_)|refine sC hge ?_|refine rix ?_|refine aS ?_|refine nT_ ?_)
  ·have hlt: ¬(i:Int)<((a.map I).length:Int):=by omega
   obtain rfl:i=a.length:=by omega
   repeat' ((conv=>whnf);first|refine su hlt ?_|refine aS ?_|fail)
   exact ⟨(),⟨hj,he⟩,by repeat' (first|exact wJ|refine And.intro ?_ ?_)⟩
 rintro - ⟨hj,he⟩;rw [BI (Nat.le_refl _) hj] at he;rw [<- he]
 by_cases h:a.length<b.length
 ·have hlt:((a.map I).length:Int)<((b.map I).length:Int):=by omega
  rw [if_pos h]
  repeat' ((conv=>whnf);first|refine sC hlt ?_|refine rix ?_|refine aS ?_|exact trivial)
 ·have hlt: ¬((a.map I).length:Int)<((b.map I).length:Int):=by omega
  rw [if_neg h]
  repeat' ((conv=>whnf);first|refine su hlt ?_|refine rix ?_|refine aS ?_|exact trivial)
theorem Ck(a b:List Int)(hl:a.length<2^60)(hm:b.length<2^60):DCalls Tryz.prog 21 [.slice 1 (a.map I),.slice 1 (b.map I)] (I (vf a b)):=by
 refine dl2 mixed [.tmp 4] [I _] Tryz.func21 l21 ?_;have ha:((a.map I).length:Int)=a.length:=by rw [List.length_map]
 have hb:((b.map I).length:Int)=b.length:=by rw [List.length_map]
 skip
 refine tx 0 (α:=Nat) (β:=Nat) (fun i=>{sl:=[(0,.t (.slice 1 (a.map I))),(1,.t (.slice 1 (b.map I))),(5,.t (I i))],bx:=[]})
  (fun i=>i<=a.length/\i<=b.length/\vf (a.drop i) (b.drop i)=vf a b) (fun i=>a.length - i) (fun _=>{sl:=[(0,.t (.slice 1 (a.map I))),(1,.t (.slice 1 (b.map I)))],bx:=[]}) (fun i=>(i=a.length\/i=b.length)/\i<=a.length/\i<=b.length/\vf (a.drop i) (b.drop i)=vf a b) 0 ⟨by omega,by omega,rfl⟩ ?_ ?_ ?_
 ·repeat' (first|exact wJ|refine And.intro ?_ ?_)
 ·rintro i ⟨hi,hj,he⟩;rcases Nat.lt_or_ge i a.length with h|h
  ·have hlt:(i:Int)<((a.map I).length:Int):=by omega
   rcases Nat.lt_or_ge i b.length with h'|h'
   ·have mG:(i:Int)<((b.map I).length:Int):=by omega
    rw [CO h h'] at he;unfold lex w7 at he
    by_cases c1:a[i]<b[i]
    ·rw [if_pos c1,if_pos (by decide)] at he;rw [<- he]
     repeat' ((conv=>whnf);first|exact trivial|refine sC hlt ?_|refine sC mG ?_|(refine nv_ (I a[i]) (by first|(simp [h];done)|fail) ?_)|(refine nv_ (I b[i]) (by first|(simp [h'];done)|fail) ?_)|refine sC c1 ?_|refine rix ?_|refine aS ?_|refine nT_ ?_)
    ·by_cases c2:a[i]>b[i]
     ·rw [if_neg c1,if_pos c2,if_pos (by decide)] at he;rw [<- he]
      repeat' ((conv=>whnf);first|exact trivial|refine sC hlt ?_|refine sC mG ?_|(refine nv_ (I a[i]) (by first|(simp [h];done)|fail) ?_)|(refine nv_ (I b[i]) (by first|(simp [h'];done)|fail) ?_)|refine su c1 ?_|refine sC c2 ?_|refine rix ?_|refine aS ?_|refine nT_ ?_)
     ·rw [if_neg c1,if_neg c2,if_neg (by decide)] at he
      repeat' ((conv=>whnf);first|refine sC hlt ?_|refine sC mG ?_|(refine nv_ (I a[i]) (by first|(simp [h];done)|fail) ?_)|(refine nv_ (I b[i]) (by first|(simp [h'];done)|fail) ?_)|refine su c1 ?_|refine su c2 ?_|refine aS ?_|refine nT_ ?_)
      exact ⟨i+1,⟨h,h',he⟩,by omega,by repeat' (first|exact wJ|refine And.intro ?_ ?_)⟩
   ·have mG: ¬(i:Int)<((b.map I).length:Int):=by omega
    repeat' ((conv=>whnf);first|refine sC hlt ?_|refine su mG ?_|refine aS ?_|fail)
    exact ⟨i,⟨Or.inr (by omega),hi,hj,he⟩,by repeat' (first|exact wJ|refine And.intro ?_ ?_)⟩
  ·have hlt: ¬(i:Int)<((a.map I).length:Int):=by omega
   repeat' ((conv=>whnf);first|refine su hlt ?_|refine aS ?_|fail)
   exact ⟨i,⟨Or.inl (by omega),hi,hj,he⟩,by repeat' (first|exact wJ|refine And.intro ?_ ?_)⟩
 rintro i ⟨ho,hi,hj,he⟩;rcases Nat.lt_trichotomy a.length b.length with h|h|h
 ·have hlt:((a.map I).length:Int)<((b.map I).length:Int):=by omega
  rw [BI (by omega) hj,if_pos (by omega)] at he;rw [<- he]
  repeat' ((conv=>whnf);first|refine sC hlt ?_|refine rix ?_|refine aS ?_|exact trivial)
 ·have hlt: ¬((a.map I).length:Int)<((b.map I).length:Int):=by omega
  have hgt: ¬((a.map I).length:Int)>((b.map I).length:Int):=by omega
  rw [BI (by omega) hj,if_neg (by omega)] at he;rw [<- he]
  repeat' ((conv=>whnf);first|refine su hlt ?_|refine su hgt ?_|refine rix ?_|refine aS ?_|exact trivial)
 ·have hlt: ¬((a.map I).length:Int)<((b.map I).length:Int):=by omega
  have hgt:((a.map I).length:Int)>((b.map I).length:Int):=by omega
  rw [CP (by omega) (by omega)] at he;rw [<- he]
  repeat' ((conv=>whnf);first|refine su hlt ?_|refine sC hgt ?_|refine rix ?_|refine aS ?_|exact trivial)
abbrev kOk(e:RE):Prop:=e.key.length<2^60
theorem xH(a b:RE)(ha:kOk a)(hb:kOk b):DCalls Tryz.prog 29 [um a,um b] (I (uz a b)):=by
 refine dl2 mixed [.tmp 4] [I _] Tryz.func29 l29 ?_;have h1:=JY a.var b.var;have h2:=JX a.key b.key ha hb;have h3:=KN (xR a.var b.var) (vf a.key b.key);unfold uz
 repeat' ((conv=>whnf);first|exact trivial|refine uc _ (h1) ?_|refine uc _ (h2) ?_|refine uc _ (h3) ?_|refine rix ?_|refine aS ?_|refine nT_ ?_)
theorem C1(a b:RE)(ha:kOk a)(hb:kOk b):DCalls Tryz.prog 67 [um a,um b] (I (uz a b)):=by
 refine dl2 mixed [.tmp 4] [I _] Tryz.func67 l67 ?_;have h2:=Ck a.key b.key ha hb;have hg:=gtS a.var b.var;have hl:Op.bytesLess a.var.toList b.var.toList=ltS a.var b.var:=rfl;unfold uz lex xR;cases h1:ltS a.var b.var with
 |true=>
  rw [h1] at hl
  repeat' ((conv=>whnf);first|exact trivial|refine nb_ _ hl ?_|refine rix ?_|refine aS ?_|refine nT_ ?_)
 |false=>
  rw [h1] at hl;cases h3:ltS b.var a.var with
  |true=>
   rw [h3] at hg
   repeat' ((conv=>whnf);first|exact trivial|refine nb_ _ hl ?_|refine nb_ _ hg ?_|refine rix ?_|refine aS ?_|refine nT_ ?_)
  |false=>
   rw [h3] at hg
   repeat' ((conv=>whnf);first|exact trivial|refine nb_ _ hl ?_|refine nb_ _ hg ?_|refine uc _ (h2) ?_|refine rix ?_|refine aS ?_|refine nT_ ?_)
theorem eqS(a b:ByteArray):(a.toList==b.toList)=decide (a=b):=by
 by_cases h:a=b
 ·simp [h]
 ·have: ¬a.toList=b.toList:=fun e=>h (AH e)
  simp [h,this]
theorem uo(e:RE):(uk e).length=4:=rfl
abbrev esT(st:List RE):T:=.slice 4 (st.map um)
theorem uN{st:List RE}{i:Nat}(h:i<st.length):(st.map um)[i]?.getD .nil= .agg (uk st[i]):=by simp [h,um]
def we{α:Type}(p:α->Bool)(xs:List α):Int:=match xs.findIdx? p with
 |some i=>(i:Int)
 |none=> -1
theorem Bf{α:Type}{p:α->Bool}{xs:List α}{i:Nat}(h:i<xs.length)(hb:p xs[i]=true)(hp: ∀j (h:j<xs.length),j<i->p xs[j]=false):we p xs=i:=by
 unfold we
 have:xs.findIdx? p=some i:=List.findIdx?_eq_some_iff_getElem.2 ⟨h,hb,fun j hj=>by simp [hp j (by omega) hj]⟩
 rw [this]
theorem Bg{α:Type}{p:α->Bool}{xs:List α}(hp: ∀j (h:j<xs.length),p xs[j]=false):we p xs= -1:=by
 unfold we
 have:xs.findIdx? p=none:=List.findIdx?_eq_none_iff.2 fun x hx=>by
  obtain ⟨j,hj,rfl⟩:=List.getElem_of_mem hx;exact hp j hj
 rw [this]
theorem AR{α:Type}(p:α->Bool)(xs:List α):(we p xs= -1/\xs.find? p=none)\/ ∃(i:Nat) (h:i<xs.length),we p xs=i/\xs.find? p=some xs[i]:=by
 unfold we;cases h:xs.findIdx? p with
 |none=>
  refine Or.inl ⟨rfl,?_⟩;rw [List.find?_eq_none];intro x hx;simpa using List.findIdx?_eq_none_iff.1 h x hx
 |some i=>
  obtain ⟨h1,h2,h3⟩:=List.findIdx?_eq_some_iff_getElem.1 h;refine Or.inr ⟨i,h1,rfl,?_⟩;rw [List.find?_eq_some_iff_getElem];exact ⟨h2,i,h1,rfl,fun j hj=>by simpa using h3 j hj⟩
theorem G4{α:Type}(p:α->Bool)(xs:List α):xs.any p=decide (we p xs>=0):=by
 unfold we;cases h:xs.findIdx? p with
 |none=>
  have:=List.findIdx?_eq_none_iff.1 h
  simpa using this
 |some i=>
  obtain ⟨h1,h2,_⟩:=List.findIdx?_eq_some_iff_getElem.1 h
  have:xs.any p=true:=List.any_eq_true.2 ⟨xs[i],List.getElem_mem h1,h2⟩
  rw [this];simp
theorem BH(xs:List RE)(f:FuncId)(c:T)(p:RE->Bool)(hl:xs.length<2^60)(hc: ∀(i:Nat) (h:i<xs.length),DCalls Tryz.prog f [.agg (uk xs[i]),c] (.bool (p xs[i]))):
  DCalls Tryz.prog 109 [esT xs,.clos f [c]] (I (we p xs)):=by
 refine dl2 mixed [.tmp 4] [.int _ _] Tryz.func109 JE ?_
 skip
 refine tT (α:=Nat) (fun i=>{sl:=[(0,.t (esT xs)),(1,.t (.clos f [c])),(6,.t (esT xs)),(7,.t (I xs.length)),(8,.t (I i))],bx:=[]})
  (fun i=>i<=xs.length/\ ∀j (h:j<xs.length),j<i->p xs[j]=false) (fun i=>xs.length - i) 0 (by simp) ?_ ?_
 ·repeat' (first|(exact leI (by simp))|exact wJ|refine And.intro ?_ ?_)
 rintro i ⟨hi,hp⟩;rcases Nat.lt_or_ge i xs.length with h|h
 ·have h0:=hc i h;cases hb:p xs[i] with
  |true=>
   rw [hb] at h0;rw [Bf h hb hp]
   repeat' ((conv=>whnf);first|exact trivial|(refine nv_ (.agg (uk xs[i])) (by first|exact uN h) ?_)|refine uc _ (h0) ?_|refine aD1 ?_|refine rix ?_|(refine And.intro (by first|exact uo _) ?_)|refine aS ?_|refine nT_ ?_)
  |false=>
   rw [hb] at h0
   repeat' ((conv=>whnf);first|(refine nv_ (.agg (uk xs[i])) (by first|exact uN h) ?_)|refine uc _ (h0) ?_|refine aD1 ?_|(refine And.intro (by first|exact uo _) ?_)|refine aS ?_|refine nT_ ?_)
   refine ⟨i+1,⟨h,fun j hj hlt=>?_⟩,by omega,?_⟩
   ·rcases Nat.lt_or_ge j i with h4|h4
    ·exact hp j hj h4
    ·obtain rfl:j=i:=by omega
     exact hb
   ·repeat' (first|exact wJ|refine And.intro ?_ ?_)
 ·rw [Bg fun j hj=>hp j hj (by omega)]
  repeat' ((conv=>whnf);first|refine aD0 ?_|refine rix ?_|refine aS ?_|exact trivial)
theorem El(xs:List RE)(f:FuncId)(c:T)(p:RE->Bool)(hl:xs.length<2^60)(hc: ∀(i:Nat) (h:i<xs.length),DCalls Tryz.prog f [.agg (uk xs[i]),c] (.bool (p xs[i]))):
  DCalls Tryz.prog 116 [esT xs,.clos f [c]] (.bool (xs.any p)):=by
 refine dl2 mixed [.tmp 4] [.bool _] Tryz.func116 Mu ?_;have h1:=BH xs f c p hl hc;rw [G4 p xs];generalize we p xs=k at *
 repeat' ((conv=>whnf);first|refine uc _ (h1) ?_|refine nD_ (fun hq=>?_) (fun hq=>?_)|refine rb1 ?_|refine rb0 ?_|refine aS ?_|exact trivial)
abbrev vsT(vars:List RV):T:=.slice 5 (vars.map wX)
theorem uH(v:RV):(uK v).length=5:=rfl
theorem xA{vars:List RV}{i:Nat}(h:i<vars.length):(vars.map wX)[i]?.getD .nil= .agg (uK vars[i]):=by simp [h,wX]
abbrev Ae(name:ByteArray):RV->Bool:=fun v=>decide (v.name=name)
theorem Hx(v:RV)(e:RE):DCalls Tryz.prog 74 [.agg (uK v),.cptr (uk e) 0] (.bool (decide (v.name=e.var))):=by
 refine dl2 mixed [.tmp 3] [.bool _] Tryz.func74 l74 ?_;have h:=eqS v.name e.var
 repeat' ((conv=>whnf);first|exact trivial|refine nb_ _ h ?_|refine rbx ?_|(refine And.intro (by first|exact uH _|exact uo _) ?_)|refine aS ?_|refine nT_ ?_)
theorem GB(vars:List RV)(e:RE)(hl:vars.length<2^60):DCalls Tryz.prog 73 [vsT vars,.clos 74 [.cptr (uk e) 0]] (I (we (Ae e.var) vars)):=by
 refine dl2 mixed [.tmp 4] [.int _ _] Tryz.func73 l73 ?_
 skip
 refine tT (α:=Nat) (fun i=>{sl:=[(0,.t (vsT vars)),(1,.t (.clos 74 [.cptr (uk e) 0])),(6,.t (vsT vars)),(7,.t (I vars.length)),(8,.t (I i))],bx:=[]})
  (fun i=>i<=vars.length/\ ∀j (h:j<vars.length),j<i->Ae e.var vars[j]=false) (fun i=>vars.length - i) 0 (by simp) ?_ ?_
 ·repeat' (first|(exact leI (by simp))|exact wJ|refine And.intro ?_ ?_)
 rintro i ⟨hi,hp⟩;rcases Nat.lt_or_ge i vars.length with h|h
 ·have h0:=Hx vars[i] e;cases hb:decide (vars[i].name=e.var) with
  |true=>
   rw [hb] at h0;rw [Bf h hb hp]
   repeat' ((conv=>whnf);first|exact trivial|(refine nv_ (.agg (uK vars[i])) (by first|exact xA h) ?_)|refine uc _ (h0) ?_|refine aD1 ?_|refine rix ?_|(refine And.intro (by first|exact uH _) ?_)|refine aS ?_|refine nT_ ?_)
  |false=>
   rw [hb] at h0
   repeat' ((conv=>whnf);first|(refine nv_ (.agg (uK vars[i])) (by first|exact xA h) ?_)|refine uc _ (h0) ?_|refine aD1 ?_|(refine And.intro (by first|exact uH _) ?_)|refine aS ?_|refine nT_ ?_)
   refine ⟨i+1,⟨h,fun j hj hlt=>?_⟩,by omega,?_⟩
   ·rcases Nat.lt_or_ge j i with h4|h4
    ·exact hp j hj h4
    ·obtain rfl:j=i:=by omega
     exact hb
   ·repeat' (first|exact wJ|refine And.intro ?_ ?_)
 ·rw [Bg fun j hj=>hp j hj (by omega)]
  repeat' ((conv=>whnf);first|refine aD0 ?_|refine rix ?_|refine aS ?_|exact trivial)
theorem FB(vars:List RV)(name:ByteArray)(hl:vars.length<2^60):DCalls Tryz.prog 65 [vsT vars,.str name] (I (we (Ae name) vars)):=by
 refine dl2 mixed [.tmp 4] [.int _ _] Tryz.func65 l65 ?_;have hn:((vars.map wX).length:Int)=vars.length:=by rw [List.length_map]
 skip
 refine tT (α:=Nat) (fun i=>{sl:=[(0,.t (vsT vars)),(1,.t (.str name)),(5,.t (I i))],bx:=[]})
  (fun i=>i<=vars.length/\ ∀j (h:j<vars.length),j<i->Ae name vars[j]=false) (fun i=>vars.length - i) 0 (by simp) ?_ ?_
 ·repeat' (first|exact wJ|refine And.intro ?_ ?_)
 rintro i ⟨hi,hp⟩;rcases Nat.lt_or_ge i vars.length with h|h
 ·have h0:=eqS vars[i].name name;have hlt:(i:Int)<((vars.map wX).length:Int):=by omega
  have hg:(vars.map wX)[i]?.getD .nil= .agg (uK vars[i]):=xA h;cases hb:decide (vars[i].name=name) with
  |true=>
   rw [hb] at h0;rw [Bf h hb hp]
   repeat' ((conv=>whnf);first|exact trivial|refine sC hlt ?_|(refine nv_ (.agg (uK vars[i])) (by first|exact xA h) ?_)|refine nb_ _ h0 ?_|refine rix ?_|refine aS ?_|refine nT_ ?_)
  |false=>
   rw [hb] at h0
   repeat' ((conv=>whnf);first|refine sC hlt ?_|(refine nv_ (.agg (uK vars[i])) (by first|exact xA h) ?_)|refine nb_ _ h0 ?_|refine aS ?_|refine nT_ ?_)
   refine ⟨i+1,⟨h,fun j hj hlt=>?_⟩,by omega,?_⟩
   ·rcases Nat.lt_or_ge j i with h4|h4
    ·exact hp j hj h4
    ·obtain rfl:j=i:=by omega
     exact hb
   ·repeat' (first|exact wJ|refine And.intro ?_ ?_)
 ·have hlt: ¬(i:Int)<((vars.map wX).length:Int):=by omega
  rw [Bg fun j hj=>hp j hj (by omega)]
  repeat' ((conv=>whnf);first|refine su hlt ?_|refine rix ?_|refine aS ?_|exact trivial)
theorem Gn(n:Nat)(hn:n<=60):DCalls Tryz.prog 112 [I n] (I (2^n:Nat)):=by
 refine dl2 mixed [.tmp 2] [I _] Tryz.func112 Mr ?_
 skip
 refine tT (α:=Nat) (fun i=>{sl:=[(0,.t (I n)),(3,.t (I (2^i:Nat))),(4,.t (I i))],bx:=[]})
  (fun i=>i<=n) (fun i=>n - i) 0 (by simp) ?_ ?_
 ·repeat' (first|exact wJ|refine And.intro ?_ ?_)
 rintro i hi;rcases Nat.lt_or_ge i n with h|h
 ·have h2:(2:Nat)^(i+1)<=2^60:=Nat.pow_le_pow_right (by decide) (by omega);have e:((2^i:Nat):Int) * 2=((2^(i+1):Nat):Int):=by rw [Nat.pow_succ];push_cast;rfl
  repeat' ((conv=>whnf);first|refine aD1 ?_|refine aS ?_|fail)
  refine ⟨i+1,h,by omega,?_⟩
  repeat' (first|(exact leI (by rw [e,yf (by omega)]))|exact wJ|refine And.intro ?_ ?_)
 ·obtain rfl:i=n:=by omega
  repeat' ((conv=>whnf);first|refine aD0 ?_|refine rix ?_|refine aS ?_|exact trivial)
theorem Bu{st:List RE}{v:ByteArray}{i:Nat}(h:i<st.length):uD (st.take (i+1)) v=uD (st.take i) v+if st[i].var=v then 1 else 0:=by
 rw [List.take_succ_eq_append_getElem h,zo]
theorem EJ(st:List RE)(v:ByteArray)(hl:st.length<2^60):DCalls Tryz.prog 60 [esT st,.str v] (I (uD st v)):=by
 refine dl2 mixed [.tmp 4] [I _] Tryz.func60 l60 ?_;have hn:((st.map um).length:Int)=st.length:=by rw [List.length_map]
 skip
 refine tT (α:=Nat) (fun i=>{sl:=[(0,.t (esT st)),(1,.t (.str v)),(5,.t (I (uD (st.take i) v))),(6,.t (I i))],bx:=[]})
  (fun i=>i<=st.length) (fun i=>st.length - i) 0 (by simp) ?_ ?_
 ·repeat' (first|exact wJ|refine And.intro ?_ ?_)
 rintro i hi;rcases Nat.lt_or_ge i st.length with h|h
 ·have hlt:(i:Int)<((st.map um).length:Int):=by omega
  have h0:=eqS st[i].var v;have hs:=Bu (v:=v) h;have hle:=za (st:=st.take i) (v:=v);rw [List.length_take] at hle
  by_cases hb:st[i].var=v
  ·rw [decide_eq_true hb] at h0;rw [if_pos hb] at hs
   repeat' ((conv=>whnf);first|refine sC hlt ?_|(refine nv_ (.agg (uk st[i])) (by first|exact uN h) ?_)|refine nb_ _ h0 ?_|refine aS ?_|refine nT_ ?_)
   exact ⟨i+1,h,by omega,by repeat' (first|(exact leI (by rw [hs,nW] <;> omega))|exact wJ|refine And.intro ?_ ?_)⟩
  ·rw [decide_eq_false hb] at h0;rw [if_neg hb,Nat.add_zero] at hs
   repeat' ((conv=>whnf);first|refine sC hlt ?_|(refine nv_ (.agg (uk st[i])) (by first|exact uN h) ?_)|refine nb_ _ h0 ?_|refine aS ?_|refine nT_ ?_)
   exact ⟨i+1,h,by omega,by repeat' (first|(exact leI (by rw [hs];rfl))|exact wJ|refine And.intro ?_ ?_)⟩
 ·have hlt: ¬(i:Int)<((st.map um).length:Int):=by omega
  obtain rfl:i=st.length:=by omega
  rw [List.take_length]
  repeat' ((conv=>whnf);first|refine su hlt ?_|refine rix ?_|refine aS ?_|exact trivial)
theorem I7(x e:RE):DCalls Tryz.prog 117 [.agg (uk x),.cptr (uk e) 0] (.bool (decide (x.var=e.var)&&decide (x.n=e.n))):=by
 refine dl2 mixed [.tmp 3] [.bool _] Tryz.func117 Mv ?_;have h:=eqS x.var e.var
 by_cases h1:x.var=e.var
 ·rw [decide_eq_true h1] at h;rw [decide_eq_true h1,Bool.true_and]
  by_cases h2:x.n=e.n
  ·rw [decide_eq_true h2]
   repeat' ((conv=>whnf);first|exact trivial|refine nb_ _ h ?_|refine sE h2 ?_|refine rb1 ?_|(refine And.intro (by first|exact uo _) ?_)|refine aS ?_|refine nT_ ?_)
  ·rw [decide_eq_false h2]
   repeat' ((conv=>whnf);first|exact trivial|refine nb_ _ h ?_|refine sD h2 ?_|refine rb0 ?_|(refine And.intro (by first|exact uo _) ?_)|refine aS ?_|refine nT_ ?_)
 ·rw [decide_eq_false h1] at h;rw [decide_eq_false h1,Bool.false_and]
  repeat' ((conv=>whnf);first|exact trivial|refine nb_ _ h ?_|refine rb0 ?_|(refine And.intro (by first|exact uo _) ?_)|refine aS ?_|refine nT_ ?_)
structure VOk (v:RV):Prop where
 len:v.ws.length<2^40
 w: ∀w∈v.ws,1<=w/\w<=60
theorem CU{k w:List Int}{i:Nat}(hk:i<k.length)(hw:i<w.length):vG (k.drop i) (w.drop i)=(decide (0<=k[i])&&decide (k[i]<2^w[i].toNat)&&vG (k.drop (i+1)) (w.drop (i+1))):=by
 rw [List.drop_eq_getElem_cons hk,List.drop_eq_getElem_cons hw];rfl
theorem Nu{w:Int}(h1:1<=w)(h2:w<=60):IntKind.wrap .i64 (1 * 2^(min w.toNat (IntKind.bits .i64)))=2^w.toNat:=by
 have hb:IntKind.bits .i64=64:=rfl;rw [hb,Nat.min_eq_left (by omega),Int.one_mul];have hp:(2:Int)^w.toNat<=2^60:=by exact_mod_cast Nat.pow_le_pow_right (by decide) (show w.toNat<=60 by omega)
 have h0:(0:Int)<2^w.toNat:=Int.pow_pos (by decide);rw [nW] <;> omega
theorem Aj{e:RE}:Ai e=false↔(e.n<0\/e.n>65535\/e.at_<0\/e.at_>1073741824):=by
 unfold Ai;rw [<- Bool.not_eq_true];simp only [Bool.and_eq_true,decide_eq_true_eq];omega
theorem JZ(v:RV)(hv:VOk v)(e:RE)(_:kOk e)(before:List RE)(hb:before.length<2^60):DCalls Tryz.prog 75 [.agg (uK v),.agg (uk e),esT before] (.bool (xt v e before)):=by
 refine dl2 mixed [.tmp 6] [.bool _] Tryz.func75 l75 ?_;have hkl:((e.key.map I).length:Int)=e.key.length:=by rw [List.length_map]
 have hwl:((v.ws.map I).length:Int)=v.ws.length:=by rw [List.length_map]
 have hvl:=hv.len;unfold xt
 by_cases hl:e.key.length=v.ws.length
 case neg=>
  have hf:vG e.key v.ws=false:=by
   cases hc:vG e.key v.ws with
   |false=>rfl
   |true=>exact absurd (zX hc) hl
  have hn:((e.key.map I).length:Int)≠((v.ws.map I).length:Int):=by omega
  rw [hf,Bool.and_false,Bool.false_and]
  repeat' ((conv=>whnf);first|exact trivial|refine sG hn ?_|refine rb0 ?_|(refine And.intro (by first|exact uH _|exact uo _) ?_)|refine aS ?_|refine nT_ ?_)
 have hn:((e.key.map I).length:Int)=((v.ws.map I).length:Int):=by omega
 cases vk:Ai e with
 |false=>
  rcases Aj.1 vk with h|h|h|h
  ·rw [Bool.false_and,Bool.false_and]
   repeat' ((conv=>whnf);first|exact trivial|refine sF hn ?_|refine sC h ?_|refine rb0 ?_|(refine And.intro (by first|exact uH _|exact uo _) ?_)|refine aS ?_|refine nT_ ?_)
  ·rw [Bool.false_and,Bool.false_and];have h0: ¬e.n<0:=by omega
   repeat' ((conv=>whnf);first|exact trivial|refine sF hn ?_|refine su h0 ?_|refine sC h ?_|refine rb0 ?_|(refine And.intro (by first|exact uH _|exact uo _) ?_)|refine aS ?_|refine nT_ ?_)
  ·rw [Bool.false_and,Bool.false_and]
   by_cases h0:e.n<0
   ·repeat' ((conv=>whnf);first|exact trivial|refine sF hn ?_|refine sC h0 ?_|refine rb0 ?_|(refine And.intro (by first|exact uH _|exact uo _) ?_)|refine aS ?_|refine nT_ ?_)
   by_cases h1:e.n>65535
   ·repeat' ((conv=>whnf);first|exact trivial|refine sF hn ?_|refine su h0 ?_|refine sC h1 ?_|refine rb0 ?_|(refine And.intro (by first|exact uH _|exact uo _) ?_)|refine aS ?_|refine nT_ ?_)
   repeat' ((conv=>whnf);first|exact trivial|refine sF hn ?_|refine su h0 ?_|refine su h1 ?_|refine sC h ?_|refine rb0 ?_|(refine And.intro (by first|exact uH _|exact uo _) ?_)|refine aS ?_|refine nT_ ?_)
  ·rw [Bool.false_and,Bool.false_and]
   by_cases h0:e.n<0
   ·repeat' ((conv=>whnf);first|exact trivial|refine sF hn ?_|refine sC h0 ?_|refine rb0 ?_|(refine And.intro (by first|exact uH _|exact uo _) ?_)|refine aS ?_|refine nT_ ?_)
   by_cases h1:e.n>65535
   ·repeat' ((conv=>whnf);first|exact trivial|refine sF hn ?_|refine su h0 ?_|refine sC h1 ?_|refine rb0 ?_|(refine And.intro (by first|exact uH _|exact uo _) ?_)|refine aS ?_|refine nT_ ?_)
   have h2: ¬e.at_<0:=by omega
   repeat' ((conv=>whnf);first|exact trivial|refine sF hn ?_|refine su h0 ?_|refine su h1 ?_|refine su h2 ?_|refine sC h ?_|refine rb0 ?_|(refine And.intro (by first|exact uH _|exact uo _) ?_)|refine aS ?_|refine nT_ ?_)
 |true=>
 have hno: ¬(e.n<0\/e.n>65535\/e.at_<0\/e.at_>1073741824):=fun h=>by rw [Aj.2 h] at vk;cases vk
 have h0: ¬e.n<0:=by omega
 have h1: ¬e.n>65535:=by omega
 have h2: ¬e.at_<0:=by omega
 have h3: ¬e.at_>1073741824:=by omega
 rw [Bool.true_and]
 repeat' ((conv=>whnf);first|refine sF hn ?_|refine su h0 ?_|refine su h1 ?_|refine su h2 ?_|refine su h3 ?_|(refine And.intro (by first|exact uH _|exact uo _) ?_)|refine aS ?_|refine nT_ ?_)
 refine tx 0 (α:=Nat) (β:=Unit) (fun i=>{sl:=[(2,.t (esT before)),(3,.ptr 3 0),(4,.ptr 4 0),(37,.t (.slice 1 (e.key.map I))),(38,.t (I e.key.length)),(39,.t (I i))],bx:=[(3,.d 5 (uK v)),(4,.d 4 (uk e))]})
  (fun i=>i<=e.key.length/\vG (e.key.drop i) (v.ws.drop i)=vG e.key v.ws) (fun i=>e.key.length - i) (fun _=>{sl:=[(2,.t (esT before)),(3,.ptr 3 0),(4,.ptr 4 0)],bx:=[(3,.d 5 (uK v)),(4,.d 4 (uk e))]}) (fun _=>vG e.key v.ws=true) 0 ⟨by omega,rfl⟩ ?_ ?_ ?_
 ·repeat' (first|(exact leI (by simp))|exact wJ|refine And.intro ?_ ?_)
 ·rintro i ⟨hi,hf⟩;rcases Nat.lt_or_ge i e.key.length with h|h
  ·have h':i<v.ws.length:=by omega
   rw [CU h h'] at hf;obtain ⟨w1,w2⟩:=hv.w v.ws[i] (List.getElem_mem h');have hs:=Nu w1 w2;have hki:(e.key.map I)[i]?.getD .nil=I e.key[i]:=by simp [h]
   have hwi:(v.ws.map I)[i]?.getD .nil=I v.ws[i]:=by simp [h']
   generalize v.ws[i]=w at *
   generalize e.key[i]=k at *
   by_cases c0:k<0
   ·rw [show decide (0<=k)=false by simp;omega,Bool.false_and,Bool.false_and] at hf;rw [<- hf,Bool.false_and]
    repeat' ((conv=>whnf);first|exact trivial|(refine nv_ (I k) (by first|exact hki) ?_)|refine sC c0 ?_|refine aD1 ?_|refine rb0 ?_|refine aS ?_|refine nT_ ?_)
   ·rw [show decide (0<=k)=true by simp;omega,Bool.true_and] at hf
    by_cases c1:k<2^w.toNat
    ·rw [decide_eq_true c1,Bool.true_and] at hf;have hge: ¬k>=IntKind.wrap .i64 (1 * 2^(min w.toNat (IntKind.bits .i64))):=by rw [hs];omega
     repeat' ((conv=>whnf);first|(refine nv_ (I k) (by first|exact hki) ?_)|(refine nv_ (I w) (by first|exact hwi) ?_)|refine su c0 ?_|refine su hge ?_|refine aD1 ?_|(refine And.intro (by first|exact uH _|exact uo _|(omega;done)|fail) ?_)|refine aS ?_|refine nT_ ?_)
     exact ⟨i+1,⟨h,hf⟩,by omega,by repeat' (first|exact wJ|refine And.intro ?_ ?_)⟩
    ·rw [decide_eq_false c1,Bool.false_and] at hf;have hge:k>=IntKind.wrap .i64 (1 * 2^(min w.toNat (IntKind.bits .i64))):=by rw [hs];omega
     rw [<- hf,Bool.false_and]
     repeat' ((conv=>whnf);first|exact trivial|(refine nv_ (I k) (by first|exact hki) ?_)|(refine nv_ (I w) (by first|exact hwi) ?_)|refine su c0 ?_|refine sC hge ?_|refine aD1 ?_|refine rb0 ?_|(refine And.intro (by first|exact uH _|exact uo _|(omega;done)|fail) ?_)|refine aS ?_|refine nT_ ?_)
  ·have e1:vG e.key v.ws=true:=by
    rw [<- hf,List.drop_eq_nil_of_le h,List.drop_eq_nil_of_le (by omega)];rfl
   repeat' ((conv=>whnf);first|refine aD0 ?_|refine aS ?_|fail)
   exact ⟨(),e1,by repeat' (first|exact wJ|refine And.intro ?_ ?_)⟩
 rintro - hf;rw [hf,Bool.true_and];unfold AM;have L9:=El before 117 (.cptr (uk e) 0) (fun x=>decide (x.var=e.var)&&decide (x.n=e.n)) hb fun i h=>I7 before[i] e
 generalize (before.any fun x=>decide (x.var=e.var)&&decide (x.n=e.n))=b at *
 by_cases f2:v.fam=2
 ·rw [if_pos f2]
  by_cases hz:e.n=0
  ·rw [decide_eq_true hz]
   repeat' ((conv=>whnf);first|exact trivial|refine sE f2 ?_|refine sE hz ?_|refine rb1 ?_|refine aS ?_|refine nT_ ?_)
  ·rw [decide_eq_false hz]
   repeat' ((conv=>whnf);first|exact trivial|refine sE f2 ?_|refine sD hz ?_|refine rb0 ?_|refine aS ?_|refine nT_ ?_)
 rw [if_neg f2]
 by_cases f3:v.fam=3
 ·rw [if_pos f3]
  by_cases c1:e.n>=v.n
  ·rw [show decide (v.n<=e.n)=true by simpa using c1,Bool.true_and]
   by_cases c2:e.n<=v.m
   ·rw [decide_eq_true c2,Bool.true_and]
    repeat' ((conv=>whnf);first|exact trivial|refine sD f2 ?_|refine sE f3 ?_|refine sC c1 ?_|refine sC c2 ?_|refine uc _ (L9) ?_|refine rbx ?_|refine aS ?_|refine nT_ ?_)
   ·rw [decide_eq_false c2,Bool.false_and]
    repeat' ((conv=>whnf);first|exact trivial|refine sD f2 ?_|refine sE f3 ?_|refine sC c1 ?_|refine su c2 ?_|refine rb0 ?_|refine aS ?_|refine nT_ ?_)
  ·rw [show decide (v.n<=e.n)=false by simp;omega,Bool.false_and,Bool.false_and]
   repeat' ((conv=>whnf);first|exact trivial|refine sD f2 ?_|refine sE f3 ?_|refine su c1 ?_|refine rb0 ?_|refine aS ?_|refine nT_ ?_)
 rw [if_neg f3]
 by_cases f4:v.fam=4
 ·rw [if_pos f4]
  by_cases c1:v.n=0
  ·rw [decide_eq_true c1,Bool.true_or]
   repeat' ((conv=>whnf);first|exact trivial|refine sD f2 ?_|refine sD f3 ?_|refine sE f4 ?_|refine sE c1 ?_|refine rb1 ?_|refine aS ?_|refine nT_ ?_)
  ·rw [decide_eq_false c1,Bool.false_or]
   by_cases c2:e.n<=v.n
   ·rw [decide_eq_true c2]
    repeat' ((conv=>whnf);first|exact trivial|refine sD f2 ?_|refine sD f3 ?_|refine sE f4 ?_|refine sD c1 ?_|refine sC c2 ?_|refine rb1 ?_|refine aS ?_|refine nT_ ?_)
   ·rw [decide_eq_false c2]
    repeat' ((conv=>whnf);first|exact trivial|refine sD f2 ?_|refine sD f3 ?_|refine sE f4 ?_|refine sD c1 ?_|refine su c2 ?_|refine rb0 ?_|refine aS ?_|refine nT_ ?_)
 rw [if_neg f4]
 repeat' ((conv=>whnf);first|exact trivial|refine sD f2 ?_|refine sD f3 ?_|refine sD f4 ?_|refine rb1 ?_|refine aS ?_|refine nT_ ?_)
theorem JN(v:RV)(hv:VOk v)(e:RE)(_:kOk e)(before:List RE)(hb:before.length<2^60):DCalls Tryz.prog 66 [.agg (uK v),.agg (uk e),esT before] (.bool (xt v e before)):=by
 refine dl2 mixed [.tmp 6] [.bool _] Tryz.func66 l66 ?_;have hkl:((e.key.map I).length:Int)=e.key.length:=by rw [List.length_map]
 have hwl:((v.ws.map I).length:Int)=v.ws.length:=by rw [List.length_map]
 have hvl:=hv.len;unfold xt
 by_cases hl:e.key.length=v.ws.length
 case neg=>
  have hf:vG e.key v.ws=false:=by
   cases hc:vG e.key v.ws with
   |false=>rfl
   |true=>exact absurd (zX hc) hl
  have hn:((e.key.map I).length:Int)≠((v.ws.map I).length:Int):=by omega
  rw [hf,Bool.and_false,Bool.false_and]
  repeat' ((conv=>whnf);first|exact trivial|refine sG hn ?_|refine rb0 ?_|(refine And.intro (by first|exact uH _|exact uo _) ?_)|refine aS ?_|refine nT_ ?_)
 have hn:((e.key.map I).length:Int)=((v.ws.map I).length:Int):=by omega
 cases vk:Ai e with
 |false=>
  rw [Bool.false_and,Bool.false_and];have hor:=Aj.1 vk
  by_cases h0:e.n<0
  ·repeat' ((conv=>whnf);first|exact trivial|refine sF hn ?_|refine sC h0 ?_|refine rb0 ?_|(refine And.intro (by first|exact uH _|exact uo _) ?_)|refine aS ?_|refine nT_ ?_)
  by_cases h1:e.n>65535
  ·repeat' ((conv=>whnf);first|exact trivial|refine sF hn ?_|refine su h0 ?_|refine sC h1 ?_|refine rb0 ?_|(refine And.intro (by first|exact uH _|exact uo _) ?_)|refine aS ?_|refine nT_ ?_)
  by_cases h2:e.at_<0
  ·repeat' ((conv=>whnf);first|exact trivial|refine sF hn ?_|refine su h0 ?_|refine su h1 ?_|refine sC h2 ?_|refine rb0 ?_|(refine And.intro (by first|exact uH _|exact uo _) ?_)|refine aS ?_|refine nT_ ?_)
  have h3:e.at_>1073741824:=by omega
  repeat' ((conv=>whnf);first|exact trivial|refine sF hn ?_|refine su h0 ?_|refine su h1 ?_|refine su h2 ?_|refine sC h3 ?_|refine rb0 ?_|(refine And.intro (by first|exact uH _|exact uo _) ?_)|refine aS ?_|refine nT_ ?_)
 |true=>
 have hno: ¬(e.n<0\/e.n>65535\/e.at_<0\/e.at_>1073741824):=fun h=>by rw [Aj.2 h] at vk;cases vk
 have h0: ¬e.n<0:=by omega
 have h1: ¬e.n>65535:=by omega
 have h2: ¬e.at_<0:=by omega
 have h3: ¬e.at_>1073741824:=by omega
 rw [Bool.true_and]
 repeat' ((conv=>whnf);first|refine sF hn ?_|refine su h0 ?_|refine su h1 ?_|refine su h2 ?_|refine su h3 ?_|(refine And.intro (by first|exact uH _|exact uo _) ?_)|refine aS ?_|refine nT_ ?_)
 refine tx 0 (α:=Nat) (β:=Unit) (fun i=>{sl:=[(2,.t (esT before)),(3,.ptr 3 0),(4,.ptr 4 0),(7,.t (I i))],bx:=[(3,.d 5 (uK v)),(4,.d 4 (uk e))]})
  (fun i=>i<=e.key.length/\vG (e.key.drop i) (v.ws.drop i)=vG e.key v.ws) (fun i=>e.key.length - i) (fun _=>{sl:=[(2,.t (esT before)),(3,.ptr 3 0),(4,.ptr 4 0)],bx:=[(3,.d 5 (uK v)),(4,.d 4 (uk e))]}) (fun _=>vG e.key v.ws=true) 0 ⟨by omega,rfl⟩ ?_ ?_ ?_
 ·repeat' (first|exact wJ|refine And.intro ?_ ?_)
 ·rintro i ⟨hi,hf⟩;rcases Nat.lt_or_ge i e.key.length with h|h
  ·have h':i<v.ws.length:=by omega
   have hlt:(i:Int)<((e.key.map I).length:Int):=by omega
   rw [CU h h'] at hf;obtain ⟨w1,w2⟩:=hv.w v.ws[i] (List.getElem_mem h');have hki:(e.key.map I)[i]?.getD .nil=I e.key[i]:=by simp [h]
   have hwi:(v.ws.map I)[i]?.getD .nil=I (v.ws[i].toNat:Nat):=by
    rw [show ((v.ws[i].toNat:Nat):Int)=v.ws[i] by omega];simp [h']
   have hp:=Gn v.ws[i].toNat (by omega);have ep:((2^v.ws[i].toNat:Nat):Int)=2^v.ws[i].toNat:=by simp
   generalize v.ws[i].toNat=w at *
   generalize e.key[i]=k at *
   by_cases c0:k<0
   ·rw [show decide (0<=k)=false by simp;omega,Bool.false_and,Bool.false_and] at hf;rw [<- hf,Bool.false_and]
    repeat' ((conv=>whnf);first|exact trivial|refine sC hlt ?_|(refine nv_ (I k) (by first|exact hki) ?_)|refine sC c0 ?_|refine rb0 ?_|refine aS ?_|refine nT_ ?_)
   ·rw [show decide (0<=k)=true by simp;omega,Bool.true_and] at hf
    by_cases c1:k<2^w
    ·rw [decide_eq_true c1,Bool.true_and] at hf;have hge: ¬k>=((2^w:Nat):Int):=by omega
     repeat' ((conv=>whnf);first|refine sC hlt ?_|(refine nv_ (I k) (by first|exact hki) ?_)|(refine nv_ (I (w:Nat)) (by first|exact hwi) ?_)|refine uc _ (hp) ?_|refine su c0 ?_|refine su hge ?_|refine aS ?_|refine nT_ ?_)
     exact ⟨i+1,⟨h,hf⟩,by omega,by repeat' (first|exact wJ|refine And.intro ?_ ?_)⟩
    ·rw [decide_eq_false c1,Bool.false_and] at hf;have hge:k>=((2^w:Nat):Int):=by omega
     rw [<- hf,Bool.false_and]
     repeat' ((conv=>whnf);first|exact trivial|refine sC hlt ?_|(refine nv_ (I k) (by first|exact hki) ?_)|(refine nv_ (I (w:Nat)) (by first|exact hwi) ?_)|refine uc _ (hp) ?_|refine su c0 ?_|refine sC hge ?_|refine rb0 ?_|refine aS ?_|refine nT_ ?_)
  ·have e1:vG e.key v.ws=true:=by
    rw [<- hf,List.drop_eq_nil_of_le h,List.drop_eq_nil_of_le (by omega)];rfl
   have hlt: ¬(i:Int)<((e.key.map I).length:Int):=by omega
   repeat' ((conv=>whnf);first|refine su hlt ?_|refine aS ?_|refine nT_ ?_)
   exact ⟨(),e1,by repeat' (first|exact wJ|refine And.intro ?_ ?_)⟩
 rintro - hf;rw [hf,Bool.true_and];unfold AM
 by_cases f2:v.fam=2
 ·rw [if_pos f2]
  by_cases hz:e.n=0
  ·rw [decide_eq_true hz]
   repeat' ((conv=>whnf);first|exact trivial|refine sE f2 ?_|refine sE hz ?_|refine rb1 ?_|refine aS ?_|refine nT_ ?_)
  ·rw [decide_eq_false hz]
   repeat' ((conv=>whnf);first|exact trivial|refine sE f2 ?_|refine sD hz ?_|refine rb0 ?_|refine aS ?_|refine nT_ ?_)
 rw [if_neg f2]
 by_cases f3:v.fam=3
 ·rw [if_pos f3]
  repeat' ((conv=>whnf);first|refine sD f2 ?_|refine sE f3 ?_|refine aS ?_|refine nT_ ?_)
  have hbl:((before.map um).length:Int)=before.length:=by rw [List.length_map]
  refine tx 3 (α:=Nat) (β:=Unit) (fun i=>{sl:=[(2,.t (esT before)),(3,.ptr 3 0),(4,.ptr 4 0),(8,.t (I i))],bx:=[(3,.d 5 (uK v)),(4,.d 4 (uk e))]})
   (fun i=>i<=before.length/\ ∀j (h:j<before.length),j<i->(decide (before[j].var=e.var)&&decide (before[j].n=e.n))=false) (fun i=>before.length - i) (fun _=>{sl:=[(3,.ptr 3 0),(4,.ptr 4 0)],bx:=[(3,.d 5 (uK v)),(4,.d 4 (uk e))]}) (fun _=>(before.any fun x=>decide (x.var=e.var)&&decide (x.n=e.n))=false) 0 ⟨by omega,fun j h hj=>by omega⟩ ?_ ?_ ?_
  ·repeat' (first|exact wJ|refine And.intro ?_ ?_)
  ·rintro i ⟨hi,hp⟩;rcases Nat.lt_or_ge i before.length with h|h
   ·have hlt:(i:Int)<((before.map um).length:Int):=by omega
    have hS:=eqS before[i].var e.var;have DG:(decide (before[i].var=e.var)&&decide (before[i].n=e.n))=true->(decide (v.n<=e.n)&&decide (e.n<=v.m)&& !(before.any fun x=>decide (x.var=e.var)&&decide (x.n=e.n)))=false:=fun hh=>by
     have:(before.any fun x=>decide (x.var=e.var)&&decide (x.n=e.n))=true:=List.any_eq_true.2 ⟨before[i],List.getElem_mem h,hh⟩
     rw [this];simp
    have next:(decide (before[i].var=e.var)&&decide (before[i].n=e.n))=false->i+1<=before.length/\ ∀j (h:j<before.length),j<i+1->(decide (before[j].var=e.var)&&decide (before[j].n=e.n))=false:=fun hh=>by
     refine ⟨h,fun j hj hlt=>?_⟩;rcases Nat.lt_or_ge j i with h4|h4
     ·exact hp j hj h4
     ·obtain rfl:j=i:=by omega
      exact hh
    by_cases c1:before[i].var=e.var
    ·rw [decide_eq_true c1] at hS DG next
     by_cases c2:before[i].n=e.n
     ·rw [decide_eq_true c2] at DG;rw [DG rfl]
      repeat' ((conv=>whnf);first|exact trivial|refine sC hlt ?_|(refine nv_ (.agg (uk before[i])) (by first|exact uN h) ?_)|refine nb_ _ hS ?_|refine sE c2 ?_|refine rb0 ?_|refine aS ?_|refine nT_ ?_)
     ·rw [decide_eq_false c2] at next
      repeat' ((conv=>whnf);first|refine sC hlt ?_|(refine nv_ (.agg (uk before[i])) (by first|exact uN h) ?_)|refine nb_ _ hS ?_|refine sD c2 ?_|refine aS ?_|refine nT_ ?_)
      exact ⟨i+1,next rfl,by omega,by repeat' (first|exact wJ|refine And.intro ?_ ?_)⟩
    ·rw [decide_eq_false c1] at hS next
     repeat' ((conv=>whnf);first|refine sC hlt ?_|(refine nv_ (.agg (uk before[i])) (by first|exact uN h) ?_)|refine nb_ _ hS ?_|refine aS ?_|refine nT_ ?_)
     exact ⟨i+1,next rfl,by omega,by repeat' (first|exact wJ|refine And.intro ?_ ?_)⟩
   ·have hlt: ¬(i:Int)<((before.map um).length:Int):=by omega
    repeat' ((conv=>whnf);first|refine su hlt ?_|refine aS ?_|fail)
    refine ⟨(),?_,by repeat' (first|exact wJ|refine And.intro ?_ ?_)⟩;rw [List.any_eq_false];intro x hx;obtain ⟨j,hj,rfl⟩:=List.getElem_of_mem hx;simpa using hp j hj (by omega)
  rintro - DG;rw [DG]
  by_cases c1:e.n>=v.n
  ·rw [show decide (v.n<=e.n)=true by simpa using c1,Bool.true_and]
   by_cases c2:e.n<=v.m
   ·rw [decide_eq_true c2]
    repeat' ((conv=>whnf);first|exact trivial|refine sC c1 ?_|refine sC c2 ?_|refine rb1 ?_|refine aS ?_|refine nT_ ?_)
   ·rw [decide_eq_false c2]
    repeat' ((conv=>whnf);first|exact trivial|refine sC c1 ?_|refine su c2 ?_|refine rb0 ?_|refine aS ?_|refine nT_ ?_)
  ·rw [show decide (v.n<=e.n)=false by simp;omega]
   repeat' ((conv=>whnf);first|exact trivial|refine su c1 ?_|refine rb0 ?_|refine aS ?_|refine nT_ ?_)
 rw [if_neg f3]
 by_cases f4:v.fam=4
 ·rw [if_pos f4]
  by_cases c1:v.n=0
  ·rw [decide_eq_true c1,Bool.true_or]
   repeat' ((conv=>whnf);first|exact trivial|refine sD f2 ?_|refine sD f3 ?_|refine sE f4 ?_|refine sE c1 ?_|refine rb1 ?_|refine aS ?_|refine nT_ ?_)
  ·rw [decide_eq_false c1,Bool.false_or]
   by_cases c2:e.n<=v.n
   ·rw [decide_eq_true c2]
    repeat' ((conv=>whnf);first|exact trivial|refine sD f2 ?_|refine sD f3 ?_|refine sE f4 ?_|refine sD c1 ?_|refine sC c2 ?_|refine rb1 ?_|refine aS ?_|refine nT_ ?_)
   ·rw [decide_eq_false c2]
    repeat' ((conv=>whnf);first|exact trivial|refine sD f2 ?_|refine sD f3 ?_|refine sE f4 ?_|refine sD c1 ?_|refine su c2 ?_|refine rb0 ?_|refine aS ?_|refine nT_ ?_)
 rw [if_neg f4]
 repeat' ((conv=>whnf);first|exact trivial|refine sD f2 ?_|refine sD f3 ?_|refine sD f4 ?_|refine rb1 ?_|refine aS ?_|refine nT_ ?_)
theorem DO(vars:List RV)(name:ByteArray):(we (Ae name) vars= -1/\varOf vars name=none)\/ ∃(i:Nat) (h:i<vars.length),we (Ae name) vars=i/\varOf vars name=some vars[i]:=AR (Ae name) vars
theorem CL{vars:List RV}{st:List RE}{i:Nat}(h:i<st.length):zQ vars (st.take i) (st.drop i)=if zm vars (st.take i) st[i]=0 then zQ vars (st.take (i+1)) (st.drop (i+1)) else zm vars (st.take i) st[i]:=by
 rw [List.drop_eq_getElem_cons h,List.take_succ_eq_append_getElem h];rfl
theorem Cb{st:List RE}{i:Nat}(h:i<st.length):yC (st.take i) st[i]=(decide (0<i)&&decide (uz (st[i - 1]'(by omega)) st[i]≠ -1)):=by
 unfold yC;cases i with
 |zero=>simp
 |succ i=>
  have:(st.take (i+1)).getLast? =some (st[i]'(by omega)):=by rw [List.take_succ_eq_append_getElem (by omega),List.getLast?_append];simp
  rw [this];simp
theorem ye{st:List RE}{i:Nat}:T.slice 4 (((st.map um).take i).drop 0)=esT (st.take i):=by rw [List.drop_zero, <-List.map_take]
theorem EI(vars:List RV)(hvl:vars.length<2^60)(hv: ∀v∈vars,VOk v)(st:List RE)(hl:st.length<2^60)(hk: ∀e∈st,kOk e):DCalls Tryz.prog 14 [vsT vars,esT st] (I (zn vars st)):=by
 refine dl2 mixed [.tmp 4] [I _] Tryz.func14 l14 ?_;have hn:((st.map um).length:Int)=st.length:=by rw [List.length_map]
 skip
 refine tT (α:=Nat) (fun i=>{sl:=[(0,.t (vsT vars)),(1,.t (esT st)),(5,.t (I i))],bx:=[]})
  (fun i=>i<=st.length/\zQ vars (st.take i) (st.drop i)=zn vars st) (fun i=>st.length - i) 0 ⟨by omega,rfl⟩ ?_ ?_
 ·repeat' (first|exact wJ|refine And.intro ?_ ?_)
 rintro i ⟨hi,hc⟩;rcases Nat.lt_or_ge i st.length with h|h
 ·have hlt:(i:Int)<((st.map um).length:Int):=by omega
  rw [CL h] at hc;have hV:=FB vars st[i].var hvl;have hkE:=hk st[i] (List.getElem_mem h);have hg:=uN h;have hgs:((st.map um)[i]?.getD .nil)= .agg (uk st[i]):=hg;have wP:=Cb h;have hck:zm vars (st.take i) st[i]=match varOf vars st[i].var with
   |none=>4
   |some v=>if xt v st[i] (st.take i)=false then 1 else if yC (st.take i) st[i]=true then 10 else if 100<=uD (st.take i) st[i].var then 2 else 0:=rfl
  rcases DO vars st[i].var with ⟨hix,hvo⟩|⟨k,hkl,hix,hvo⟩
  ·rw [hix] at hV;rw [hvo] at hck;dsimp only at hck;rw [hck,if_neg (by decide)] at hc;rw [<- hc]
   repeat' ((conv=>whnf);first|exact trivial|refine sC hlt ?_|(refine nv_ (.agg (uk st[i])) (by first|exact uN h) ?_)|refine uc _ (hV) ?_|refine aD1 ?_|refine rix ?_|refine aS ?_|refine nT_ ?_)
  ·rw [hix] at hV;rw [hvo] at hck;dsimp only at hck;have hF:=JN vars[k] (hv _ (List.getElem_mem hkl)) st[i] hkE (st.take i) (by rw [List.length_take];omega);have yq: ¬((k:Nat):Int)<0:=by omega
   cases hf:xt vars[k] st[i] (st.take i) with
   |false=>
    rw [hf] at hF;rw [if_pos hf] at hck;rw [hck,if_neg (by decide)] at hc;rw [<- hc]
    repeat' ((conv=>whnf);first|exact trivial|refine sC hlt ?_|(refine nv_ (.agg (uk st[i])) (by first|exact uN h) ?_)|refine uc _ (hV) ?_|refine su yq ?_|(refine nv_ (.agg (uK vars[k])) (by first|exact xA hkl) ?_)|(refine nv_ (esT (st.take i)) (by first|exact ye) ?_)|refine uc _ (hF) ?_|refine rix ?_|refine aS ?_|refine nT_ ?_)
   |true=>
    rw [hf] at hF;rw [if_neg (show ¬xt vars[k] st[i] (st.take i)=false by simp [hf])] at hck;have GY:=EJ (st.take i) st[i].var (by rw [List.length_take];omega);have hcl:=za (st:=st.take i) (v:=st[i].var);rw [List.length_take] at hcl
    by_cases c0:0<i
    ·have hi0:(i:Int)>0:=by omega
     have hp:i - 1<st.length:=by omega
     have ew:IntKind.wrap .i64 ((i:Int) - 1)=((i - 1:Nat):Int):=by rw [nW] <;> omega
     have hC:=C1 (st[i - 1]'hp) st[i] (hk _ (List.getElem_mem hp)) hkE;have hr:=uv.r (st[i - 1]'hp) st[i];have hgp:((st.map um)[((i:Int) - 1).toNat]?.getD .nil)= .agg (uk (st[i - 1]'hp)):=by rw [show ((i:Int) - 1).toNat=i - 1 by omega];exact uN hp
     rw [decide_eq_true c0,Bool.true_and] at wP;generalize hce:uz (st[i - 1]'hp) st[i]=c at *
     by_cases c1:c= -1
     ·rw [show decide (c≠ -1)=false by simp [c1]] at wP;have hge: ¬c>=0:=by omega
      rw [if_neg (by simp [wP])] at hck
      by_cases c2:100<=uD (st.take i) st[i].var
      ·rw [if_pos c2] at hck;rw [hck,if_neg (by decide)] at hc;have yS:((uD (st.take i) st[i].var:Nat):Int)>=100:=by omega
       rw [<- hc]
       repeat' ((conv=>whnf);first|exact trivial|refine sC hlt ?_|refine sC hi0 ?_|(refine nv_ (.agg (uk st[i])) (by first|exact uN h) ?_)|(refine nv_ (.agg (uk (st[i - 1]'hp))) (by first|((rw [ew];exact uN hp);done)|fail) ?_)|refine uc _ (hV) ?_|refine su yq ?_|(refine nv_ (.agg (uK vars[k])) (by first|exact xA hkl) ?_)|(refine nv_ (esT (st.take i)) (by first|exact ye) ?_)|refine uc _ (hF) ?_|refine uc _ (hC) ?_|refine su hge ?_|refine uc _ (GY) ?_|refine sC yS ?_|refine rix ?_|(refine And.intro (by first|(omega;done)|((rw [ew];omega);done)|fail) ?_)|refine aS ?_|refine nT_ ?_)
      ·rw [if_neg c2] at hck;rw [hck,if_pos rfl] at hc;have yS: ¬((uD (st.take i) st[i].var:Nat):Int)>=100:=by omega
       repeat' ((conv=>whnf);first|refine sC hlt ?_|refine sC hi0 ?_|(refine nv_ (.agg (uk st[i])) (by first|exact uN h) ?_)|(refine nv_ (.agg (uk (st[i - 1]'hp))) (by first|((rw [ew];exact uN hp);done)|fail) ?_)|refine uc _ (hV) ?_|refine su yq ?_|(refine nv_ (.agg (uK vars[k])) (by first|exact xA hkl) ?_)|(refine nv_ (esT (st.take i)) (by first|exact ye) ?_)|refine uc _ (hF) ?_|refine uc _ (hC) ?_|refine su hge ?_|refine uc _ (GY) ?_|refine su yS ?_|(refine And.intro (by first|(omega;done)|((rw [ew];omega);done)|fail) ?_)|refine aS ?_|refine nT_ ?_)
       exact ⟨i+1,⟨h,hc⟩,by omega,by repeat' (first|exact wJ|refine And.intro ?_ ?_)⟩
     ·rw [show decide (c≠ -1)=true by simp [c1]] at wP;have hge:c>=0:=by omega
      rw [if_pos wP] at hck;rw [hck,if_neg (by decide)] at hc;rw [<- hc]
      repeat' ((conv=>whnf);first|exact trivial|refine sC hlt ?_|refine sC hi0 ?_|(refine nv_ (.agg (uk st[i])) (by first|exact uN h) ?_)|(refine nv_ (.agg (uk (st[i - 1]'hp))) (by first|((rw [ew];exact uN hp);done)|fail) ?_)|refine uc _ (hV) ?_|refine su yq ?_|(refine nv_ (.agg (uK vars[k])) (by first|exact xA hkl) ?_)|(refine nv_ (esT (st.take i)) (by first|exact ye) ?_)|refine uc _ (hF) ?_|refine uc _ (hC) ?_|refine sC hge ?_|refine rix ?_|(refine And.intro (by first|(omega;done)|((rw [ew];omega);done)|fail) ?_)|refine aS ?_|refine nT_ ?_)
    ·have hi0: ¬(i:Int)>0:=by omega
     rw [decide_eq_false c0,Bool.false_and] at wP;rw [if_neg (by simp [wP])] at hck;have c2: ¬100<=uD (st.take i) st[i].var:=by omega
     rw [if_neg c2] at hck;rw [hck,if_pos rfl] at hc;have yS: ¬((uD (st.take i) st[i].var:Nat):Int)>=100:=by omega
     repeat' ((conv=>whnf);first|refine sC hlt ?_|refine su hi0 ?_|(refine nv_ (.agg (uk st[i])) (by first|exact uN h) ?_)|refine uc _ (hV) ?_|refine su yq ?_|(refine nv_ (.agg (uK vars[k])) (by first|exact xA hkl) ?_)|(refine nv_ (esT (st.take i)) (by first|exact ye) ?_)|refine uc _ (hF) ?_|refine uc _ (GY) ?_|refine su yS ?_|refine aS ?_|refine nT_ ?_)
     exact ⟨i+1,⟨h,hc⟩,by omega,by repeat' (first|exact wJ|refine And.intro ?_ ?_)⟩
 ·have hlt: ¬(i:Int)<((st.map um).length:Int):=by omega
  obtain rfl:i=st.length:=by omega
  rw [<- hc,List.drop_length]
  repeat' ((conv=>whnf);first|refine su hlt ?_|refine rix ?_|refine aS ?_|exact trivial)
end Go.ST
end
