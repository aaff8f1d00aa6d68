/- Joined by program: parts of a data level over the model, of the program's functions over it, and of the statement's proof. -/
import Derived.Test.YtdfkadeceaepeaaGreatDoorProg
import Derived.Test.YtdfkadeceaepeaaGreatDoorGc
import Derived.KernelRfl
import Derived.Sort.Walk0
import Derived.Stop.LaidErr
import Derived.Lib.LaidTab
set_option maxRecDepth 100000
set_option maxHeartbeats 8000000
noncomputable section
namespace Go.DL
abbrev Kc (n:Int):O:=.const (.int .i64 n)
abbrev Zi (n:Int):T:=.int .i64 n
abbrev Ui (n:Int):T:=.int .u8 n
abbrev tm (n:Nat):O:=.tmp n
abbrev mv (d s:Nat):DI:=⟨some d,.mov (.tmp s),none,[]⟩
abbrev mF (d s g:Nat):DI:=⟨some d,.mov (.tmp s),some (g,false),[]⟩
abbrev mT (d s g:Nat):DI:=⟨some d,.mov (.tmp s),some (g,true),[]⟩
abbrev oo (d:Nat) (p:DOp):DI:=⟨some d,p,none,[]⟩
abbrev oF (d g:Nat) (p:DOp):DI:=⟨some d,p,some (g,false),[]⟩
abbrev oT (d g:Nat) (p:DOp):DI:=⟨some d,p,some (g,true),[]⟩
abbrev o0 (p:DOp):DI:=⟨none,p,none,[]⟩
abbrev ld (d a:Nat):DI:=⟨some d,.load 1 false (.tmp a),none,[]⟩
abbrev lA (d n a:Nat):DI:=⟨some d,.load n true (.tmp a),none,[]⟩
abbrev fa (d k a:Nat):DI:=⟨some d,.offA k (.tmp a),none,[]⟩
abbrev ix (d z a b:Nat):DI:=⟨some d,.idxL z (.tmp a) (.tmp b),none,[]⟩
abbrev ln (d a:Nat):DI:=⟨some d,.len (.tmp a),none,[]⟩
abbrev kT:O:=.const (.bool true)
abbrev kF:O:=.const (.bool false)
abbrev S0:T:=.str ⟨#[]⟩
abbrev Z0:T:=.int .i64 0
end Go.DL
namespace Go.MM
open Go Go.DL Go.Proofs
def c11:aY:=(.seq (.region [oo 2 (.mov (Kc 0))] []) (.seq (.seq (.region [mv 9 0,ln 10 9,oo 11 (.bin .gtr (tm 10) (Kc 16))] []) (.cond (tm 11) (.seq (.region [oo 2 (.mov (Kc 2))] []) .ret) .skip)) (.seq (.seq (.region [oo 3 (.mov (Kc 0))] []) (.block 0 (.loop (.seq (.seq (.region [mv 12 3,mv 13 0,ln 14 13,oo 15 (.bin .lss (tm 12) (tm 14))] []) (.cond (tm 15) .skip (.exit 0))) (.seq (.block 1 (.seq (.region [mv 18 0,mv 19 3,ix 20 3 18 19,fa 21 0 20,ld 22 21,oo 23 (.call 64 [tm 22]),mv 4 23] []) (.seq (.seq (.region [mv 24 4,oo 25 (.not (tm 24)),mv 26 25,mF 27 0 26,mF 28 3 26,oF 29 26 (.idxL 3 (tm 27) (tm 28)),oF 30 26 (.offA 0 (tm 29)),oF 31 26 (.load 1 false (tm 30)),⟨some 32,.bin .eql (tm 31) (.const (.str ⟨#[112,111,114,116]⟩)),some (26,false),[]⟩,oo 33 (.pick (tm 26) kT (tm 32))] []) (.cond (tm 33) (.seq (.region [oo 2 (.mov (Kc 4))] []) .ret) .skip)) (.seq (.seq (.region [oo 5 (.mov (Kc 0))] []) (.block 2 (.loop (.seq (.seq (.region [mv 34 5,mv 35 3,oo 36 (.bin .lss (tm 34) (tm 35))] []) (.cond (tm 36) .skip (.exit 2))) (.seq (.block 3 (.seq (.region [mv 39 0,mv 40 5,ix 41 3 39 40,fa 42 0 41,ld 43 42,mv 44 0,mv 45 3,ix 46 3 44 45,fa 47 0 46,ld 48 47,oo 49 (.bin .eql (tm 43) (tm 48))] []) (.cond (tm 49) (.seq (.region [oo 2 (.mov (Kc 4))] []) .ret) .skip))) (.region [mv 37 5,oo 38 (.bin .add (tm 37) (Kc 1)),mv 5 38] [])))))) (.seq (.region [mv 50 0,mv 51 3,ix 52 3 50 51,lA 53 3 52,oo 54 (.call 65 [tm 53]),mv 6 54] []) (.seq (.seq (.region [mv 55 6,oo 56 (.not (tm 55))] []) (.cond (tm 56) (.seq (.region [oo 2 (.mov (Kc 1))] []) .ret) .skip)) (.seq (.region [oo 7 (.mov (Kc 0))] []) (.block 4 (.loop (.seq (.seq (.region [mv 57 7,mv 58 3,oo 59 (.bin .lss (tm 57) (tm 58))] []) (.cond (tm 59) .skip (.exit 4))) (.seq (.block 5 (.seq (.region [mv 62 0,mv 63 7,ix 64 3 62 63,lA 65 3 64,mv 66 0,mv 67 3,ix 68 3 66 67,lA 69 3 68,oo 70 (.call 66 [(tm 65),(tm 69)]),mv 8 70] []) (.seq (.region [mv 71 8] []) (.cond (tm 71) (.seq (.region [oo 2 (.mov (Kc 1))] []) .ret) .skip)))) (.region [mv 60 7,oo 61 (.bin .add (tm 60) (Kc 1)),mv 7 61] [])))))))))))) (.region [mv 16 3,oo 17 (.bin .add (tm 16) (Kc 1)),mv 3 17] [])))))) (.seq (.region [oo 2 (.mov (Kc 0))] []) .ret))))
theorem l11:(Tryz.f11.body.bind (bD Tryz.prog 72 []))=some c11:=by kernel_rfl
def c64:aY:=(.seq (.region [oo 2 (.mov kF)] []) (.seq (.seq (.region [oo 3 (.mov (Kc 0))] []) (.block 0 (.loop (.seq (.seq (.region [mv 6 3,mv 7 0,oo 8 (.lenS (tm 7)),oo 9 (.bin .lss (tm 6) (tm 8))] []) (.cond (tm 9) .skip (.exit 0))) (.seq (.block 1 (.seq (.region [mv 12 0,mv 13 3,oo 14 (.idxS (tm 12) (tm 13)),oo 15 (.bin .geq (tm 14) (.const (Ui 97))),mv 16 15,mT 17 0 16,mT 18 3 16,oT 19 16 (.idxS (tm 17) (tm 18)),oT 20 16 (.bin .leq (tm 19) (.const (Ui 122))),oo 21 (.pick (tm 16) (tm 20) kF),mv 4 21] []) (.seq (.region [mv 22 0,mv 23 3,oo 24 (.idxS (tm 22) (tm 23)),oo 25 (.bin .geq (tm 24) (.const (Ui 48))),mv 26 25,mT 27 0 26,mT 28 3 26,oT 29 26 (.idxS (tm 27) (tm 28)),oT 30 26 (.bin .leq (tm 29) (.const (Ui 57))),oo 31 (.pick (tm 26) (tm 30) kF),mv 32 31,mF 33 0 32,mF 34 3 32,oF 35 32 (.idxS (tm 33) (tm 34)),oF 36 32 (.bin .eql (tm 35) (.const (Ui 95))),oo 37 (.pick (tm 32) kT (tm 36)),mv 5 37] []) (.seq (.region [mv 38 4,oo 39 (.not (tm 38)),mv 40 39,mT 41 5 40,oT 42 40 (.not (tm 41)),mT 43 42 40,mF 44 3 43,oF 45 43 (.bin .eql (tm 44) (Kc 0)),oT 46 40 (.pick (tm 43) kT (tm 45)),oo 47 (.pick (tm 40) (tm 46) kF)] []) (.cond (tm 47) (.seq (.region [oo 2 (.mov kF)] []) .ret) .skip))))) (.region [mv 10 3,oo 11 (.bin .add (tm 10) (Kc 1)),mv 3 11] [])))))) (.seq (.region [mv 48 0,oo 49 (.lenS (tm 48)),oo 50 (.bin .geq (tm 49) (Kc 1)),mv 51 50,mT 52 0 51,oT 53 51 (.lenS (tm 52)),oT 54 51 (.bin .leq (tm 53) (Kc 24)),oo 55 (.pick (tm 51) (tm 54) kF),mv 2 55] []) .ret)))
theorem l64:(Tryz.f64.body.bind (bD Tryz.prog 56 []))=some c64:=by kernel_rfl
def c65:aY:=(.seq (.region [oo 1 (.box 3 (tm 0)),oo 2 (.mov kF)] []) (.seq (.region [fa 3 2 1,ld 4 3,oo 5 (.bin .geq (tm 4) (Kc 1)),mv 6 5,oT 7 6 (.offA 2 (tm 1)),oT 8 6 (.load 1 false (tm 7)),oT 9 6 (.bin .leq (tm 8) (Kc 16)),oo 10 (.pick (tm 6) (tm 9) kF),mv 11 10,oT 12 11 (.offA 1 (tm 1)),oT 13 11 (.load 1 false (tm 12)),oT 14 11 (.bin .geq (tm 13) (Kc 16)),oo 15 (.pick (tm 11) (tm 14) kF),mv 16 15,oT 17 16 (.offA 1 (tm 1)),oT 18 16 (.load 1 false (tm 17)),oT 19 16 (.bin .leq (tm 18) (Kc 143)),oo 20 (.pick (tm 16) (tm 19) kF),mv 21 20,oT 22 21 (.offA 1 (tm 1)),oT 23 21 (.load 1 false (tm 22)),oT 24 21 (.bin .rem (tm 23) (Kc 16)),oT 25 21 (.offA 2 (tm 1)),oT 26 21 (.load 1 false (tm 25)),oT 27 21 (.bin .add (tm 24) (tm 26)),oT 28 21 (.bin .leq (tm 27) (Kc 16)),oo 29 (.pick (tm 21) (tm 28) kF),mv 2 29] []) .ret))
theorem l65:(Tryz.f65.body.bind (bD Tryz.prog 30 []))=some c65:=by kernel_rfl
def c66:aY:=(.seq (.region [oo 2 (.box 3 (tm 0)),oo 3 (.box 3 (tm 1)),oo 4 (.mov kF)] []) (.seq (.region [fa 5 1 2,ld 6 5,fa 7 1 3,ld 8 7,fa 9 2 3,ld 10 9,oo 11 (.bin .add (tm 8) (tm 10)),oo 12 (.bin .lss (tm 6) (tm 11)),mv 13 12,oT 14 13 (.offA 1 (tm 3)),oT 15 13 (.load 1 false (tm 14)),oT 16 13 (.offA 1 (tm 2)),oT 17 13 (.load 1 false (tm 16)),oT 18 13 (.offA 2 (tm 2)),oT 19 13 (.load 1 false (tm 18)),oT 20 13 (.bin .add (tm 17) (tm 19)),oT 21 13 (.bin .lss (tm 15) (tm 20)),oo 22 (.pick (tm 13) (tm 21) kF),mv 4 22] []) .ret))
theorem l66:(Tryz.f66.body.bind (bD Tryz.prog 23 []))=some c66:=by kernel_rfl
def c74:aY:=(.seq (.region [oo 3 (.box 1 (tm 1)),⟨some 4,.alloc [S0,Z0,Z0],none,[]⟩,oo 5 (.mov kF)] []) (.seq (.seq (.region [ld 7 3,oo 8 (.call 118 []),oo 9 (.fld 0 1 false (tm 8)),oo 10 (.bin .eql (tm 7) (tm 9))] []) (.cond (tm 10) (.seq (.region [oo 11 (.call 118 []),o0 (.store 3 (tm 4) (tm 11)),oo 5 (.mov kT)] []) .ret) .skip)) (.seq (.region [mv 12 0,oo 13 (.mkfn 120 [tm 3]),oo 14 (.call 119 [(tm 12),(tm 13)]),mv 6 14] []) (.seq (.seq (.region [mv 15 6,oo 16 (.bin .lss (tm 15) (Kc 0))] []) (.cond (tm 16) (.seq (.region [⟨some 17,.build [S0,Z0,Z0] [],none,[]⟩,o0 (.store 3 (tm 4) (tm 17)),oo 5 (.mov kF)] []) .ret) .skip)) (.seq (.region [mv 18 0,mv 19 6,ix 20 3 18 19,lA 21 3 20,o0 (.store 3 (tm 4) (tm 21)),oo 5 (.mov kT)] []) .ret)))))
theorem l74:(Tryz.f74.body.bind (bD Tryz.prog 22 []))=some c74:=by kernel_rfl
def c34:aY:=(.seq (.region [oo 1 (.box 9 (tm 0)),oo 2 (.alloc [Z0,Z0])] []) (.seq (.region [oo 5 (.build [Z0,Z0] [(0,1,(Kc 1)),(1,1,(Kc 1))]),oo 3 (.alloc [Z0,Z0]),o0 (.store 2 (tm 3) (tm 5))] []) (.seq (.seq (.region [fa 6 0 1,ld 7 6,oo 8 (.bin .eql (tm 7) (Kc 1))] []) (.cond (tm 8) (.region [lA 9 2 3,fa 10 1 1,lA 11 5 10,oo 12 (.call 67 [tm 11]),oo 13 (.call 94 [(tm 9),(tm 12)]),o0 (.store 2 (tm 3) (tm 13))] []) .skip)) (.seq (.seq (.region [oo 4 (.mov (Kc 0))] []) (.block 0 (.loop (.seq (.seq (.region [mv 14 4,fa 15 8 1,ld 16 15,ln 17 16,oo 18 (.bin .lss (tm 14) (tm 17))] []) (.cond (tm 18) .skip (.exit 0))) (.seq (.block 1 (.region [lA 21 2 3,fa 22 8 1,ld 23 22,mv 24 4,ix 25 9 23 24,lA 26 9 25,oo 27 (.call 34 [tm 26]),oo 28 (.call 94 [(tm 21),(tm 27)]),o0 (.store 2 (tm 3) (tm 28))] [])) (.region [mv 19 4,oo 20 (.bin .add (tm 19) (Kc 1)),mv 4 20] [])))))) (.seq (.region [lA 29 2 3,o0 (.store 2 (tm 2) (tm 29))] []) .ret)))))
theorem l34:(Tryz.f34.body.bind (bD Tryz.prog 30 []))=some c34:=by kernel_rfl
def Kb:aY:=(.seq (.region [⟨some 0,.alloc [S0,Z0,Z0],none,[]⟩] []) (.seq (.region [⟨some 1,.build [S0,Z0,Z0] [(0,1,(.const (.str ⟨#[112,111,114,116]⟩))),(2,1,(Kc 16))],none,[]⟩,o0 (.store 3 (tm 0) (tm 1))] []) .ret))
theorem Lg:(Tryz.f118.body.bind (bD Tryz.prog 2 []))=some Kb:=by kernel_rfl
def Kd:aY:=(.seq (.region [oo 4 (.mov (Kc 0))] []) (.seq (.seq (.region [mv 6 0,ln 7 6,oo 8 (.mov (Kc 0))] []) (.block 0 (.loop (.seq (.region [oo 9 (.bin .lss (tm 8) (tm 7))] []) (.seq (.cond (tm 9) .skip (.exit 0)) (.seq (.block 1 (.seq (.region [mv 10 8,mv 5 10] []) (.seq (.region [mv 11 1,mv 12 0,mv 13 5,ix 14 3 12 13,lA 15 3 14,oo 16 (.b8 (tm 11) [tm 15])] []) (.cond (tm 16) (.seq (.region [mv 17 5,mv 4 17] []) .ret) .skip)))) (.region [oo 18 (.bin .add (tm 8) (Kc 1)),mv 8 18] []))))))) (.seq (.region [oo 4 (.mov (.const (.int .i64 (-1))))] []) .ret)))
theorem Lh:(Tryz.f119.body.bind (bD Tryz.prog 19 []))=some Kd:=by kernel_rfl
def Ke:aY:=(.seq (.region [oo 2 (.box 3 (tm 0)),oo 3 (.mov kF)] []) (.seq (.region [fa 4 0 2,ld 5 4,ld 6 1,oo 7 (.bin .eql (tm 5) (tm 6)),mv 3 7] []) .ret))
theorem Li:(Tryz.f120.body.bind (bD Tryz.prog 8 []))=some Ke:=by kernel_rfl
def c75:aY:=(.seq (.region [oo 1 (.box 3 (tm 0)),oo 2 (.mov (Kc 0))] []) (.seq (.region [fa 3 2 1,ld 4 3,oo 5 (.bin .shl (Kc 1) (tm 4)),oo 6 (.bin .sub (tm 5) (Kc 1)),mv 2 6] []) .ret))
theorem l75:(Tryz.f75.body.bind (bD Tryz.prog 7 []))=some c75:=by kernel_rfl
def c94:aY:=(.seq (.region [oo 2 (.box 2 (tm 0)),oo 3 (.box 2 (tm 1)),oo 4 (.alloc [Z0,Z0])] []) (.seq (.region [fa 5 0 2,ld 6 5,fa 7 0 3,ld 8 7,oo 9 (.bin .add (tm 6) (tm 8)),fa 10 1 2,ld 11 10,fa 12 1 3,ld 13 12,oo 14 (.bin .add (tm 13) (Kc 1)),oo 15 (.maxI (tm 11) (tm 14)),oo 16 (.build [Z0,Z0] [(0,1,(tm 9)),(1,1,(tm 15))]),o0 (.store 2 (tm 4) (tm 16))] []) .ret))
theorem l94:(Tryz.f94.body.bind (bD Tryz.prog 17 []))=some c94:=by kernel_rfl
def c67:aY:=(.seq (.region [oo 1 (.box 5 (tm 0)),oo 2 (.alloc [Z0,Z0])] []) (.seq (.region [oo 5 (.build [Z0,Z0] [(0,1,(Kc 1)),(1,1,(Kc 1))]),oo 3 (.alloc [Z0,Z0]),o0 (.store 2 (tm 3) (tm 5))] []) (.seq (.seq (.region [oo 4 (.mov (Kc 0))] []) (.block 0 (.loop (.seq (.seq (.region [mv 6 4,fa 7 4 1,ld 8 7,ln 9 8,oo 10 (.bin .lss (tm 6) (tm 9))] []) (.cond (tm 10) .skip (.exit 0))) (.seq (.block 1 (.region [lA 13 2 3,fa 14 4 1,ld 15 14,mv 16 4,ix 17 5 15 16,lA 18 5 17,oo 19 (.call 67 [tm 18]),oo 20 (.call 94 [(tm 13),(tm 19)]),o0 (.store 2 (tm 3) (tm 20))] [])) (.region [mv 11 4,oo 12 (.bin .add (tm 11) (Kc 1)),mv 4 12] [])))))) (.seq (.region [lA 21 2 3,o0 (.store 2 (tm 2) (tm 21))] []) .ret))))
theorem l67:(Tryz.f67.body.bind (bD Tryz.prog 22 []))=some c67:=by kernel_rfl
end Go.MM
end
section
namespace Go.MM
open Go Go.DL
def wordsG:List ByteArray:=[⟨#[97,110,100]⟩,⟨#[97,110,121]⟩,⟨#[97,116]⟩,⟨#[98,97,99,107]⟩,⟨#[98,111,120]⟩,⟨#[98,117,114,115,116]⟩,⟨#[98,121]⟩,⟨#[99,97,112,97,99,105,116,121]⟩,⟨#[99,101,105,108,105,110,103]⟩,⟨#[99,104,101,99,107]⟩,⟨#[99,111,110,116,114,97,99,116]⟩,⟨#[99,111,117,110,116]⟩,⟨#[100,101,109,97,110,100]⟩,⟨#[100,114,111,112]⟩,⟨#[101,97,99,104]⟩,⟨#[101,100,103,101]⟩,⟨#[101,110,116,114,105,101,115]⟩,⟨#[102,97,108,115,101]⟩,⟨#[102,105,101,108,100]⟩,⟨#[102,108,111,111,114]⟩,⟨#[102,114,111,109]⟩,⟨#[105,100]⟩,⟨#[105,110]⟩,⟨#[105,110,110,101,114]⟩,⟨#[105,110,116,111]⟩,⟨#[108,105,110,107]⟩,⟨#[110,101,116,119,111,114,107]⟩,⟨#[110,111,100,101]⟩,⟨#[110,111,116]⟩,⟨#[111,112,101,110]⟩,⟨#[111,114]⟩,⟨#[112,97,116,104]⟩,⟨#[112,111,114,116]⟩,⟨#[112,114,105,99,101]⟩,⟨#[114,111,117,116,101]⟩,⟨#[114,117,108,101,115]⟩,⟨#[115,116,97,103,101]⟩,⟨#[116,97,107,101]⟩,⟨#[116,101,110,97,110,116]⟩,⟨#[116,104,101,110]⟩,⟨#[116,105,109,101]⟩,⟨#[116,111]⟩,⟨#[116,111,107,101,110]⟩,⟨#[116,114,97,110,115,108,97,116,101]⟩,⟨#[116,114,117,101]⟩,⟨#[118,105,97]⟩,⟨#[119,105,100,116,104]⟩,⟨#[119,105,114,101]⟩,⟨#[119,105,116,104,105,110]⟩]
instance : Glb := ⟨fun g => match g with | 0 => some (wordsG.map .str) | _ => none⟩
end Go.MM
end
section
namespace Go.MM
open Go Go.DL Go.Proofs
theorem mixed:Tryz.prog.follows .mixedOrders=true:=by kernel_rfl
abbrev I (n:Int):T:=.int .i64 n
end Go.MM
end
section
namespace Go.MM
open Go Go.DL Go.Proofs
end Go.MM
end
section
namespace Go.MM
open Go Go.DL Go.Proofs
end Go.MM
end
section
namespace Go.MM
open Go Go.DL Go.Proofs
theorem JZ {n:Nat} (h:n<2^63):IntKind.wrap .i64 (n:Int)=n:=mG (by omega) (by omega)
end Go.MM
end
section
namespace Go.MM
open Go Go.DL Go.Proofs
structure Fd where
 name:ByteArray
 a:Nat
 w:Nat
deriving Inhabited
def fd (f:Fd):T:=.agg [.str f.name,I f.a,I f.w]
structure FOk (f:Fd):Prop where
 a:f.a<160
 w1:1≤f.w
 w2:f.a % 16+f.w≤16
theorem Ji {w:Nat} (h:w≤16):2^w≤65536:=Nat.pow_le_pow_right (by decide) h
theorem t97 (f:Fd) (h:FOk f):DCalls Tryz.prog 75 [fd f] (I (2^f.w - 1:Nat)):=by
 refine qO (rs:=[.tmp 2]) mixed Tryz.func75 l75 rfl rfl rfl (r:=[I (2^f.w - 1:Nat)]) (nlZ rfl) ?_
 have hw:f.w≤16:=by have:=h.w2;omega
 have hp:=Nat.two_pow_pos f.w
 have:=Ji hw
 refine And.intro rfl ?_
 refine sr (I f.w) (by decide) rfl ?_
 refine And.intro (by omega) ?_
 refine ⟨congrArg (fun n=>some (I n)) ?_,trivial⟩
 have e:(1:Int) * 2^(min (f.w:Int).toNat (IntKind.bits .i64))=((2^f.w:Nat):Int):=by
  have:min (f.w:Int).toNat (IntKind.bits .i64)=f.w:=by show min _ 64=_;simp;omega
  rw [this];push_cast;rw [Int.one_mul]
 rw [e,JZ (by omega),mG] <;> omega
end Go.MM
end
section
namespace Go.MM
open Go Go.DL Go.Proofs
end Go.MM
end
section
namespace Go.MM
open Go Go.DL Go.Proofs
def ta:ByteArray:=⟨#[112,111,114,116]⟩
def zS:Fd:=⟨ta,0,16⟩
def CY:Fd:=⟨⟨#[]⟩,0,0⟩
def sC (a b:ByteArray):Bool:=a.data.toList==b.data.toList
theorem sR (a b:ByteArray):(a.toList==b.toList)=sC a b:=by unfold sC;rw [ByteArray.toList_eq,ByteArray.toList_eq]
def fds (l:List Fd):T:=.slice 3 (l.map fd)
def findF (l:List Fd) (s:ByteArray):Option Fd:=if sC s ta then some zS else l.find? fun f=>sC f.name s
def xq (l:List Fd) (s:ByteArray):T:=match findF l s with
 |some f=>.tup [fd f,.bool true]
 |none=>.tup [fd CY,.bool false]
theorem t94:DCalls Tryz.prog 118 [] (fd zS):=by
 refine qO (rs:=[.cell 0 88]) mixed Tryz.func118 Lg rfl rfl rfl (r:=[fd zS]) (nlZ rfl) ?_
 refine And.intro trivial ?_
 refine And.intro ⟨rfl,by decide⟩ ?_
 exact ⟨rfl,trivial⟩
theorem t96 (f:Fd) (s:ByteArray):DCalls Tryz.prog 120 [fd f,.cptr [.str s] 0] (.bool (sC f.name s)):=by
 refine qO (rs:=[.tmp 3]) mixed Tryz.func120 Li rfl rfl rfl (r:=[.bool (sC f.name s)]) (nlZ rfl) ?_
 refine And.intro rfl ?_
 refine sr (.str f.name) (by decide) rfl ?_
 refine sr (.str s) (Nat.lt_succ_self 0) rfl ?_
 refine rW (sC f.name s) trivial (sR _ _) ?_
 exact ⟨rfl,trivial⟩
def wJ (l:List Fd) (s:ByteArray):Int:=match l.findIdx? fun f=>sC f.name s with
 |some i=>i
 |none=> -1
theorem t95 (l:List Fd) (s:ByteArray) (hl:l.length<2^60):DCalls Tryz.prog 119 [fds l,.clos 120 [.cptr [.str s] 0]] (I (wJ l s)):=by
 refine qO (rs:=[.tmp 4]) mixed Tryz.func119 Lh rfl rfl rfl (r:=[I (wJ l s)]) (nlZ rfl) ?_
 refine rq (α:=Nat) (fun i=>{sl:=[(0,.t (fds l)),(1,.t (.clos 120 [.cptr [.str s] 0])),(7,.t (I l.length)),(8,.t (I i))],bx:=[]}) (fun i=>i≤l.length∧ ∀j (h:j<l.length),j<i→sC l[j].name s=false) (fun i=>l.length - i) 0 (by simp) ?_ ?_
 ·exact ⟨⟨.same _,.same _,leI (by simp),.same _,trivial⟩,trivial,trivial,rfl,fun _ _ _=>trivial,rfl⟩
 rintro i ⟨hi,hp⟩
 refine rV trivial (fun hq=>?_) (fun hq=>?_)
 ·have h1:i<l.length:=by simpa using hq
  refine sr (fd l[i]) (by simpa using h1) (by simp [h1]) ?_
  refine sr (fd l[i]) rfl rfl ?_
  refine rE _ (t96 l[i] s) ?_
  cases hm:sC l[i].name s with
  |true=>
   have:wJ l s=i:=by
    unfold wJ
    rw [List.findIdx?_eq_some_iff_getElem.2 ⟨h1,hm,fun j hj=>by simp [hp j (by omega) hj]⟩]
   exact ⟨congrArg (fun n=>some (I n)) this.symm,trivial⟩
  |false=>
   refine ⟨i+1,⟨h1,fun j hj hlt=>?_⟩,by omega,?_⟩
   ·rcases Nat.lt_or_ge j i with h4|h4
    ·exact hp j hj h4
    ·obtain rfl:j=i:=by omega
     exact hm
   ·exact ⟨⟨.same _,.same _,.same _,leI (by rw [mG] <;> omega),trivial⟩,trivial,trivial,rfl,fun _ _ _=>trivial,rfl⟩
 ·have hge:l.length≤i:=by simpa using hq
  have:wJ l s= -1:=by
   unfold wJ
   rw [List.findIdx?_eq_none_iff.2 fun f hf=>by
    obtain ⟨j,hj,rfl⟩:=List.mem_iff_getElem.1 hf
    exact hp j hj (by omega)]
  exact ⟨congrArg (fun n=>some (I n)) this.symm,trivial⟩
theorem En (l:List Fd) (s:ByteArray):(wJ l s= -1∧l.find? (fun f=>sC f.name s)=none)∨ ∃(i:Nat) (h:i<l.length),wJ l s=i∧l.find? (fun f=>sC f.name s)=some l[i]:=by
 unfold wJ
 cases hf:l.findIdx? fun f=>sC f.name s with
 |none=>exact .inl ⟨rfl,by rw [List.find?_eq_none];intro f hm;simpa using List.findIdx?_eq_none_iff.1 hf f hm⟩
 |some i=>
  obtain ⟨h1,h2,h3⟩:=List.findIdx?_eq_some_iff_getElem.1 hf
  refine .inr ⟨i,h1,rfl,?_⟩
  rw [List.find?_eq_some_iff_getElem]
  exact ⟨h2,i,h1,rfl,fun j hj=>by simpa using h3 j hj⟩
theorem t74 (l:List Fd) (s:ByteArray) (hl:l.length<2^60):DCalls Tryz.prog 74 [fds l,.str s] (xq l s):=by
 unfold xq findF
 have go: ∀(f:Fd) (b:Bool),wpC Tryz.prog c74 (eU [fds l,.str s]) (nW (dF Tryz.prog) [.cell 4 88,.tmp 5] [fd f,.bool b])→DCalls Tryz.prog 74 [fds l,.str s] (.tup [fd f,.bool b]):=fun f b h=>
  qO (rs:=[.cell 4 88,.tmp 5]) mixed Tryz.func74 l74 rfl rfl rfl (r:=[fd f,.bool b]) (nlZ rfl) h
 by_cases hp:sC s ta=true
 ·rw [if_pos hp]
  refine go _ _ ?_
  refine And.intro trivial ?_
  refine sr (.str s) (by decide) rfl ?_
  refine rE _ t94 ?_
  refine sr (.str ta) (by decide) rfl ?_
  refine rW true trivial ((sR _ _).trans hp) ?_
  refine rE _ t94 ?_
  refine And.intro ⟨rfl,by decide⟩ ?_
  exact ⟨rfl,rfl,trivial⟩
 ·rw [if_neg hp]
  have hp:sC s ta=false:=by simpa using hp
  have pre: ∀(f:Fd) (b:Bool),(∃ i,wJ l s=i∧(i= -1∧f=CY∧b=false∨ ∃(k:Nat) (h:k<l.length),i=k∧f=l[k]∧b=true))→wpC Tryz.prog c74 (eU [fds l,.str s]) (nW (dF Tryz.prog) [.cell 4 88,.tmp 5] [fd f,.bool b]):=fun f b ⟨i,hi,h⟩=>by
   refine And.intro trivial ?_
   refine sr (.str s) (by decide) rfl ?_
   refine rE _ t94 ?_
   refine sr (.str ta) (by decide) rfl ?_
   refine rW false trivial ((sR _ _).trans hp) ?_
   refine ⟨I i,hi▸t95 l s hl,rfl,?_⟩
   rcases h with ⟨rfl,rfl,rfl⟩|⟨k,hk,rfl,rfl,rfl⟩
   ·refine rW true trivial (by decide) ?_
    refine And.intro trivial ?_
    refine And.intro ⟨rfl,by decide⟩ ?_
    exact ⟨rfl,rfl,trivial⟩
   ·refine rW false trivial (by simp) ?_
    refine sr (fd l[k]) (by simpa using hk) (by simp [hk]) ?_
    refine sr (fd l[k]) rfl rfl ?_
    refine And.intro ⟨rfl,by decide⟩ ?_
    exact ⟨rfl,rfl,trivial⟩
  rcases En l s with ⟨h1,h2⟩|⟨k,hk,h1,h2⟩
  ·rw [h2]
   exact go _ _ (pre _ _ ⟨-1,h1,.inl ⟨rfl,rfl,rfl⟩⟩)
  ·rw [h2]
   exact go _ _ (pre _ _ ⟨k,h1,.inr ⟨k,hk,rfl,rfl,rfl⟩⟩)
end Go.MM
end
section
namespace Go.MM
open Go Go.DL Go.Proofs
abbrev nm0:T:=.str ⟨#[]⟩
def fld (l:List Fd) (f:ByteArray):Fd:=(findF l f).getD CY
structure LOk (l:List Fd):Prop where
 len:l.length<2^60
 ok: ∀f∈l,FOk f
theorem GX:FOk zS:=⟨by decide,by decide,by decide⟩
theorem LOk.find {l:List Fd} (h:LOk l) {s:ByteArray} {f:Fd} (hf:findF l s=some f):FOk f:=by
 unfold findF at hf
 split at hf
 ·cases hf;exact GX
 ·exact h.ok f (List.mem_of_find?_eq_some hf)
end Go.MM
end
section
namespace Go.MM
open Go Go.DL Go.Proofs
end Go.MM
end
section
namespace Go.MM
open Go Go.DL Go.Proofs
inductive RP where
 |mk (kind:Int) (field:ByteArray) (n m:Int) (args:List RP)
namespace RP
def kind:RP→Int|.mk k _ _ _ _=>k
def field:RP→ByteArray|.mk _ f _ _ _=>f
def n:RP→Int|.mk _ _ n _ _=>n
def m:RP→Int|.mk _ _ _ m _=>m
def args:RP→List RP|.mk _ _ _ _ a=>a
end RP
mutual
def sN:RP→T
 |.mk k f n m a=>.agg [I k,.str f,I n,I m,.slice 5 (BU a)]
def BU:List RP→List T
 |[]=>[]
 |r::rs=>sN r::BU rs
end
theorem z7: ∀l:List RP,BU l=l.map sN
 |[]=>rfl
 |r::rs=>congrArg (sN r:: ·) (z7 rs)
def sB:RP→List T
 |.mk k f n m a=>[I k,.str f,I n,I m,.slice 5 (a.map sN)]
theorem sG (r:RP):sN r= .agg (sB r):=by
 cases r;simp only [sN,sB,z7]
theorem sH (r:RP):(sB r).length=5:=by cases r;rfl
inductive RO where
 |mk (kind:Int) (pred:RP) (field:ByteArray) (n:Int) (args:List RO)
namespace RO
def kind:RO→Int|.mk k _ _ _ _=>k
def pred:RO→RP|.mk _ p _ _ _=>p
def field:RO→ByteArray|.mk _ _ f _ _=>f
def n:RO→Int|.mk _ _ _ n _=>n
def args:RO→List RO|.mk _ _ _ _ a=>a
end RO
mutual
def s4:RO→T
 |.mk k p f n a=>.agg (I k::(sB p++[.str f,I n,.slice 9 (BV a)]))
def BV:List RO→List T
 |[]=>[]
 |r::rs=>s4 r::BV rs
end
theorem z8: ∀l:List RO,BV l=l.map s4
 |[]=>rfl
 |r::rs=>congrArg (s4 r:: ·) (z8 rs)
def sA:RO→List T
 |.mk k p f n a=>I k::(sB p++[.str f,I n,.slice 9 (a.map s4)])
theorem sK (r:RO):s4 r= .agg (sA r):=by
 cases r;simp only [s4,sA,z8]
theorem sE (r:RO):(sA r).length=9:=by cases r;simp [sA,sH]
mutual
def RP.nodes:RP→Nat
 |.mk _ _ _ _ a=>1+sJ a
def sJ:List RP→Nat
 |[]=>0
 |r::rs=>r.nodes+sJ rs
end
mutual
def RP.depth:RP→Nat
 |.mk _ _ _ _ a=>1+tC a
def tC:List RP→Nat
 |[]=>0
 |r::rs=>max r.depth (tC rs)
end
mutual
theorem RP.vi: ∀r:RP,r.depth≤r.nodes
 |.mk _ _ _ _ a=>by have:=vU a;simp only [RP.depth,RP.nodes];omega
theorem vU: ∀l:List RP,tC l≤sJ l
 |[]=>Nat.le_refl _
 |r::rs=>by have:=RP.vi r;have:=vU rs;simp only [tC,sJ];omega
end
theorem tQ: ∀{l:List RP} {j:Nat} (h:j<l.length),sJ (l.take (j+1))=sJ (l.take j)+l[j].nodes
 |r::rs,0,h=>by simp [sJ]
 |r::rs,j+1,h=>by
  have:=tQ (l:=rs) (j:=j) (by simpa using h)
  simp only [List.take_succ_cons,sJ,List.getElem_cons_succ]
  omega
theorem we: ∀{l:List RP} {j:Nat} (h:j<l.length),tC (l.take (j+1))=max (tC (l.take j)) l[j].depth
 |r::rs,0,h=>by simp [tC]
 |r::rs,j+1,h=>by
  have:=we (l:=rs) (j:=j) (by simpa using h)
  simp only [List.take_succ_cons,tC,List.getElem_cons_succ]
  omega
theorem tP: ∀{l:List RP} {j:Nat},sJ (l.take j)≤sJ l
 |[],j=>by simp
 |r::rs,0=>by simp [sJ]
 |r::rs,j+1=>by
  have:=tP (l:=rs) (j:=j)
  simp only [List.take_succ_cons,sJ]
  omega
theorem RP.ux (r:RP):1≤r.nodes:=by cases r;simp only [RP.nodes];omega
theorem uk: ∀l:List RP,l.length≤sJ l
 |[]=>Nat.le_refl _
 |r::rs=>by have:=uk rs;have:=r.ux;simp only [sJ,List.length_cons];omega
def sz (n d:Nat):T:=.agg [I n,I d]
theorem t102 (a b c d:Nat) (h1:a+c<2^62) (_:b<2^62) (h3:d<2^62):DCalls Tryz.prog 94 [sz a b,sz c d] (sz (a+c) (max b (d+1))):=by
 refine qO (rs:=[.cell 4 51]) mixed Tryz.func94 l94 rfl rfl rfl (r:=[sz (a+c) (max b (d+1))]) (nlZ rfl) ?_
 repeat' ((conv=>whnf);first|refine nT_ ?_|refine aS ?_|fail)
 refine And.intro (congrArg some ?_) trivial
 simp (disch:=omega) only [mG,aN,List.take,List.drop,List.nil_append,List.cons_append]
 unfold sz I
 have e:(if (d:Int)+1>(b:Int) then (d:Int)+1 else (b:Int))=((max b (d+1):Nat):Int):=by split <;> omega
 rw [e,Int.natCast_add]
theorem t103 (N:Nat): ∀r:RP,r.nodes≤N→N<2^60→DCalls Tryz.prog 67 [.agg (sB r)] (sz r.nodes r.depth):=by
 induction N with
 |zero=>intro r h;have:=r.ux;omega
 |succ N ih=>
  rintro ⟨k,f,n,m,l⟩ hr hN
  refine qO (rs:=[.cell 2 51]) mixed Tryz.func67 l67 rfl rfl rfl (r:=[sz _ _]) (nlZ rfl) ?_
  simp only [RP.nodes,RP.depth] at hr ⊢
  repeat' ((conv=>whnf);first|refine aS ?_|fail)
  refine rq (α:=Nat) (fun i=>{sl:=[(1,.ptr 1 0),(2,.ptr 2 0),(3,.ptr 3 0),(4,.t (I i))],bx:=[(1,.d 5 (sB (.mk k f n m l))),(2,.d 2 [I 0,I 0]),(3,.d 2 [I (1+sJ (l.take i):Nat),I (1+tC (l.take i):Nat)])]})
   (fun i=>i≤l.length) (fun i=>l.length - i) 0 (by omega) ?_ ?_
  ·repeat' (first|exact trivial|exact LeV.same _|exact LeB.same _|exact rfl|exact fun _ _ _=>trivial|refine And.intro ?_ ?_)
  rintro i hi
  rcases Nat.lt_or_ge i l.length with h|h
  ·have hn:=tQ h
   have hd:=we h
   have hm:=tP (l:=l) (j:=i+1)
   have hp:=l[i].ux
   have hl:=uk l
   have hdn:=l[i].vi
   have hd1:=vU (l.take i)
   repeat' ((conv=>whnf);first|(refine nv_ (.agg (sB l[i])) (by first|(simp [h,sG];done)|fail) ?_)|refine rE _ (ih l[i] (by omega) (by omega)) ?_|refine rE _ (t102 _ _ _ _ (by omega) (by omega) (by omega)) ?_|refine nT_ ?_|refine aD1 ?_|(refine And.intro (by first|exact sH _|fail) ?_)|refine aS ?_|fail)
   refine ⟨i+1,by omega,by omega,?_⟩
   repeat' (first|exact trivial|exact LeV.same _|exact LeB.same _|exact rfl|exact fun _ _ _=>trivial|exact lI|refine su ?_|refine And.intro ?_ ?_)
   rw [hn,hd,show 1+(sJ (l.take i)+l[i].nodes)=1+sJ (l.take i)+l[i].nodes by omega,show 1+max (tC (l.take i)) l[i].depth=max (1+tC (l.take i)) (l[i].depth+1) by omega]
   rfl
  ·have:i=l.length:=by omega
   subst this
   rw [List.take_length]
   repeat' ((conv=>whnf);first|exact trivial|refine nT_ ?_|refine aD0 ?_|refine aS ?_|fail)
end Go.MM
end
section
namespace Go.MM
open Go Go.DL Go.Proofs
def Be:List ByteArray:=[⟨#[97,110,100]⟩,
 ⟨#[97,110,121]⟩,
 ⟨#[97,116]⟩,
 ⟨#[98,97,99,107]⟩,
 ⟨#[98,111,120]⟩,
 ⟨#[98,117,114,115,116]⟩,
 ⟨#[98,121]⟩,
 ⟨#[99,97,112,97,99,105,116,121]⟩,
 ⟨#[99,101,105,108,105,110,103]⟩,
 ⟨#[99,104,101,99,107]⟩,
 ⟨#[99,111,110,116,114,97,99,116]⟩,
 ⟨#[99,111,117,110,116]⟩,
 ⟨#[100,101,109,97,110,100]⟩,
 ⟨#[100,114,111,112]⟩,
 ⟨#[101,97,99,104]⟩,
 ⟨#[101,100,103,101]⟩,
 ⟨#[101,110,116,114,105,101,115]⟩,
 ⟨#[102,97,108,115,101]⟩,
 ⟨#[102,105,101,108,100]⟩,
 ⟨#[102,108,111,111,114]⟩,
 ⟨#[102,114,111,109]⟩,
 ⟨#[105,100]⟩,
 ⟨#[105,110]⟩,
 ⟨#[105,110,110,101,114]⟩,
 ⟨#[105,110,116,111]⟩,
 ⟨#[108,105,110,107]⟩,
 ⟨#[110,101,116,119,111,114,107]⟩,
 ⟨#[110,111,100,101]⟩,
 ⟨#[110,111,116]⟩,
 ⟨#[111,112,101,110]⟩,
 ⟨#[111,114]⟩,
 ⟨#[112,97,116,104]⟩,
 ⟨#[112,111,114,116]⟩,
 ⟨#[112,114,105,99,101]⟩,
 ⟨#[114,111,117,116,101]⟩,
 ⟨#[114,117,108,101,115]⟩,
 ⟨#[115,116,97,103,101]⟩,
 ⟨#[116,97,107,101]⟩,
 ⟨#[116,101,110,97,110,116]⟩,
 ⟨#[116,104,101,110]⟩,
 ⟨#[116,105,109,101]⟩,
 ⟨#[116,111]⟩,
 ⟨#[116,111,107,101,110]⟩,
 ⟨#[116,114,97,110,115,108,97,116,101]⟩,
 ⟨#[116,114,117,101]⟩,
 ⟨#[118,105,97]⟩,
 ⟨#[119,105,100,116,104]⟩,
 ⟨#[119,105,114,101]⟩,
 ⟨#[119,105,116,104,105,110]⟩]
def uj (c:Int):Bool:=decide (97≤c)&&decide (c≤122)
def vN (c:Int):Bool:=decide (48≤c)&&decide (c≤57)
def wF (c:Int):Bool:=uj c||vN c||c==95
def tR (s:ByteArray) (i:Nat):Int:=((s.toList[i]?.getD 0).toNat:Int)
abbrev U (n:Int):T:=.int .u8 n
def yd (s:ByteArray):Bool:=Be.any fun w=>sC w s
def uu:List UInt8→Nat
 |[]=>0
 |b::bs=>if wF (b.toNat:Int) then 1+uu bs else 0
theorem xS: ∀{l:List UInt8} {n:Nat},n≤l.length→(∀ j,j<n→wF ((l[j]?.getD 0).toNat:Int)=true)→(n=l.length∨wF ((l[n]?.getD 0).toNat:Int)=false)→uu l=n
 |[],n,hn,_,_=>by simp at hn;simp [uu,hn]
 |b::bs,0,hn,_,h=>by
  rcases h with h|h
  ·simp at h
  ·simp at h;simp [uu,h]
 |b::bs,n+1,hn,hp,h=>by
  have h0:=hp 0 (by omega)
  simp at h0
  have:=xS (l:=bs) (n:=n) (by simpa using hn) (fun j hj=>by simpa using hp (j+1) (by omega)) (by simpa using h)
  simp [uu,h0,this];omega
theorem vJ (s:ByteArray):s.toList.length=s.size:=by rw [ByteArray.toList_eq];rfl
def wm (s:ByteArray):Bool:=decide (0<s.size)&&decide (s.size≤24)&&uj (tR s 0)&&(uu s.toList==s.size)&& !yd s
def tH (s:ByteArray):Bool:=wm s||sC s ta
end Go.MM
end
section
namespace Go.MM
open Go Go.DL Go.Proofs
abbrev e0:ByteArray:=⟨#[]⟩
def uI:RP→Bool
 |.mk k f n m a=>(k==0)&&sC f e0&&(n==0)&&(m==0)&&(a.length==0)
def ue (n:Int):Bool:=decide (0≤n)&&decide (n≤65535)
def ye (f:ByteArray) (n m:Int):Bool:=sC f e0&&(n==0)&&(m==0)
def EO (k:Int):Nat:=if k=6 then 1 else if k=7∨k=8 then 2 else 0
def okP (k:Int) (f:ByteArray) (n m:Int):Bool:=
 if k=1∨k=2 then ye f n m
 else if k=3 then tH f&&ue n&&(m==0)
 else if k=4 then tH f&&ue n&&decide (0≤m)&&decide (m≤16)
 else if k=5 then tH f&&decide (0≤n)&&decide (n≤m)&&decide (m≤65535)
 else if k=6∨k=7∨k=8 then ye f n m
 else if k=9 then sC f e0&&decide (0≤n)&&decide (n<m)&&decide (m≤1073741824)
 else false
mutual
def tx:RP→Bool
 |.mk k f n m a=>okP k f n m&&(a.length==EO k)&&xu a
def xu:List RP→Bool
 |[]=>true
 |r::rs=>tx r&&xu rs
end
mutual
def vO:RP→Prop
 |.mk _ f _ _ a=>f.size<2^62∧wU a
def wU:List RP→Prop
 |[]=>True
 |r::rs=>vO r∧wU rs
end
theorem yr: ∀{l:List RP},wU l→ ∀(i:Nat) (h:i<l.length),vO l[i]
 |[],_,i,h=>by simp at h
 |r::rs,h,i,hi=>by
  cases i with
  |zero=>exact h.1
  |succ i=>simpa using yr h.2 i (by simpa using hi)
end Go.MM
end
section
namespace Go.MM
open Go Go.DL Go.Proofs
mutual
def RO.wt:RO→Nat
 |.mk _ p _ _ a=>1+p.nodes+td a
def td:List RO→Nat
 |[]=>0
 |r::rs=>r.wt+td rs
end
mutual
def RO.size:RO→Nat
 |.mk k p _ _ a=>1+(if k=1 then p.nodes else 0)+tq a
def tq:List RO→Nat
 |[]=>0
 |r::rs=>r.size+tq rs
end
mutual
def RO.deep:RO→Nat
 |.mk k p _ _ a=>1+max (if k=1 then p.depth else 0) (tk a)
def tk:List RO→Nat
 |[]=>0
 |r::rs=>max r.deep (tk rs)
end
mutual
theorem RO.size_le: ∀r:RO,r.size≤r.wt
 |.mk k p _ _ a=>by have:=tZ a;simp only [RO.size,RO.wt];split <;> omega
theorem tZ: ∀l:List RO,tq l≤td l
 |[]=>Nat.le_refl _
 |r::rs=>by have:=RO.size_le r;have:=tZ rs;simp only [tq,td];omega
end
mutual
theorem RO.x7: ∀r:RO,r.deep≤r.wt
 |.mk k p _ _ a=>by have:=uQ a;have:=p.vi;simp only [RO.deep,RO.wt];split <;> omega
theorem uQ: ∀l:List RO,tk l≤td l
 |[]=>Nat.le_refl _
 |r::rs=>by have:=RO.x7 r;have:=uQ rs;simp only [tk,td];omega
end
theorem uA: ∀{l:List RO} {j:Nat} (h:j<l.length),td (l.take (j+1))=td (l.take j)+l[j].wt
 |r::rs,0,h=>by simp [td]
 |r::rs,j+1,h=>by
  have:=uA (l:=rs) (j:=j) (by simpa using h)
  simp only [List.take_succ_cons,td,List.getElem_cons_succ]
  omega
theorem vI: ∀{l:List RO} {j:Nat} (h:j<l.length),tq (l.take (j+1))=tq (l.take j)+l[j].size
 |r::rs,0,h=>by simp [tq]
 |r::rs,j+1,h=>by
  have:=vI (l:=rs) (j:=j) (by simpa using h)
  simp only [List.take_succ_cons,tq,List.getElem_cons_succ]
  omega
theorem vz: ∀{l:List RO} {j:Nat} (h:j<l.length),tk (l.take (j+1))=max (tk (l.take j)) l[j].deep
 |r::rs,0,h=>by simp [tk]
 |r::rs,j+1,h=>by
  have:=vz (l:=rs) (j:=j) (by simpa using h)
  simp only [List.take_succ_cons,tk,List.getElem_cons_succ]
  omega
theorem ua: ∀{l:List RO} {j:Nat},td (l.take j)≤td l
 |[],j=>by simp
 |r::rs,0=>by simp [td]
 |r::rs,j+1=>by
  have:=ua (l:=rs) (j:=j)
  simp only [List.take_succ_cons,td]
  omega
theorem RO.xg (r:RO):1≤r.wt:=by cases r;simp only [RO.wt];omega
theorem vu: ∀l:List RO,l.length≤td l
 |[]=>Nat.le_refl _
 |r::rs=>by have:=vu rs;have:=r.xg;simp only [td,List.length_cons];omega
theorem two {a b c d:Nat} (h1:a=c) (h2:b=d):[I (a:Int),I (b:Int)]=[I (c:Int),I (d:Int)]:=by rw [h1,h2]
theorem t89 (N:Nat): ∀r:RO,r.wt≤N→N<2^60→DCalls Tryz.prog 34 [.agg (sA r)] (sz r.size r.deep):=by
 induction N with
 |zero=>intro r h;have:=r.xg;omega
 |succ N ih=>
  rintro ⟨k,⟨pk,pf,pn,pm,pa⟩,f,n,l⟩ hr hN
  refine qO (rs:=[.cell 2 51]) mixed Tryz.func34 l34 rfl rfl rfl (r:=[sz _ _]) (nlZ rfl) ?_
  simp only [RO.size,RO.deep,RO.wt] at hr ⊢
  have h103:=t103 _ (.mk pk pf pn pm pa) (Nat.le_refl _) (by omega)
  have hpd:=(RP.mk pk pf pn pm pa).vi
  have hlen:=vu l
  by_cases hk:k=1
  ·simp only [hk,if_true]
   repeat' ((conv=>whnf);first|refine rE _ (h103) ?_|refine rE _ (t102 1 1 _ _ (by omega) (by omega) (by omega)) ?_|refine nT_ ?_|refine aE1 ?_|refine aS ?_|fail)
   refine rq (α:=Nat) (fun i=>{sl:=[(1,.ptr 1 0),(2,.ptr 2 0),(3,.ptr 3 0),(4,.t (I i))],bx:=[(1,.d 9 (sA (.mk 1 (.mk pk pf pn pm pa) f n l))),(2,.d 2 [I 0,I 0]),(3,.d 2 [I (1+(RP.mk pk pf pn pm pa).nodes+tq (l.take i):Nat),I (1+max (RP.mk pk pf pn pm pa).depth (tk (l.take i)):Nat)])]})
    (fun i=>i≤l.length) (fun i=>l.length - i) 0 (by omega) ?_ ?_
   ·repeat' (first|exact trivial|exact LeV.same _|exact LeB.same _|exact rfl|exact fun _ _ _=>trivial|refine su ?_|refine And.intro ?_ ?_)
    all_goals exact two (by simp [tq]) (by simp [tk];try omega)
   rintro i hi
   rcases Nat.lt_or_ge i l.length with h|h
   ·have hn:=vI h
    have hd:=vz h
    have hw:=uA h
    have hm:=ua (l:=l) (j:=i+1)
    have hp:=l[i].xg
    have h1:=l[i].size_le
    have h2:=l[i].x7
    have h3:=uQ (l.take i)
    have h4:=tZ (l.take i)
    repeat' ((conv=>whnf);first|(refine nv_ (.agg (sA l[i])) (by first|(simp [h,sK];done)|fail) ?_)|refine rE _ (ih l[i] (by omega) (by omega)) ?_|refine rE _ (t102 _ _ _ _ (by omega) (by omega) (by omega)) ?_|refine nT_ ?_|refine aD1 ?_|(refine And.intro (by first|exact sE _|fail) ?_)|refine aS ?_|fail)
    refine ⟨i+1,by omega,by omega,?_⟩
    repeat' (first|exact trivial|exact LeV.same _|exact LeB.same _|exact rfl|exact fun _ _ _=>trivial|exact lI|refine su ?_|refine And.intro ?_ ?_)
    exact two (by omega) (by omega)
   ·have:i=l.length:=by omega
    subst this
    rw [List.take_length]
    repeat' ((conv=>whnf);first|exact trivial|refine nT_ ?_|refine aD0 ?_|refine aS ?_|fail)
  ·simp only [hk,if_false]
   repeat' ((conv=>whnf);first|refine nT_ ?_|refine aE0 ?_|refine aS ?_|fail)
   refine rq (α:=Nat) (fun i=>{sl:=[(1,.ptr 1 0),(2,.ptr 2 0),(3,.ptr 3 0),(4,.t (I i))],bx:=[(1,.d 9 (sA (.mk k (.mk pk pf pn pm pa) f n l))),(2,.d 2 [I 0,I 0]),(3,.d 2 [I (1+0+tq (l.take i):Nat),I (1+max 0 (tk (l.take i)):Nat)])]})
    (fun i=>i≤l.length) (fun i=>l.length - i) 0 (by omega) ?_ ?_
   ·repeat' (first|exact trivial|exact LeV.same _|exact LeB.same _|exact rfl|exact fun _ _ _=>trivial|refine And.intro ?_ ?_)
    all_goals exact two (by simp [tq]) (by simp [tk];try omega)
   rintro i hi
   rcases Nat.lt_or_ge i l.length with h|h
   ·have hn:=vI h
    have hd:=vz h
    have hw:=uA h
    have hm:=ua (l:=l) (j:=i+1)
    have hp:=l[i].xg
    have h1:=l[i].size_le
    have h2:=l[i].x7
    have h3:=uQ (l.take i)
    have h4:=tZ (l.take i)
    repeat' ((conv=>whnf);first|(refine nv_ (.agg (sA l[i])) (by first|(simp [h,sK];done)|fail) ?_)|refine rE _ (ih l[i] (by omega) (by omega)) ?_|refine rE _ (t102 _ _ _ _ (by omega) (by omega) (by omega)) ?_|refine nT_ ?_|refine aD1 ?_|(refine And.intro (by first|exact sE _|fail) ?_)|refine aS ?_|fail)
    refine ⟨i+1,by omega,by omega,?_⟩
    repeat' (first|exact trivial|exact LeV.same _|exact LeB.same _|exact rfl|exact fun _ _ _=>trivial|exact lI|refine su ?_|refine And.intro ?_ ?_)
    exact two (by omega) (by omega)
   ·have:i=l.length:=by omega
    subst this
    rw [List.take_length]
    repeat' ((conv=>whnf);first|exact trivial|refine nT_ ?_|refine aD0 ?_|refine aS ?_|fail)
def uP (n d:Nat):Int:=if n≤200∧d≤20 then 0 else 2
def wz (e:Int) (b:Bool):Int:=if e=0 then (if b then 0 else 1) else e
def x4 (k:Int):Nat:=if k=3∨k=4 then 2 else if k=5 then 1 else 0
def wB (f:ByteArray) (n:Int):Bool:=sC f e0&&(n==0)
def okO (k:Int) (p:RP) (f:ByteArray) (n:Int):Bool:=
 if k=1 then tx p&&wB f n
 else if k=2 then tH f&&uI p&&decide (0≤n)&&decide (n≤65535)
 else if k=3∨k=4∨k=5 then uI p&&wB f n
 else false
mutual
def sX:RO→Bool
 |.mk k p f n a=>okO k p f n&&(a.length==x4 k)&&uO a
def uO:List RO→Bool
 |[]=>true
 |r::rs=>sX r&&uO rs
end
mutual
def tX:RO→Prop
 |.mk _ p f _ a=>vO p∧f.size<2^62∧wQ a
def wQ:List RO→Prop
 |[]=>True
 |r::rs=>tX r∧wQ rs
end
theorem yq: ∀{l:List RO},wQ l→ ∀(i:Nat) (h:i<l.length),tX l[i]
 |[],_,i,h=>by simp at h
 |r::rs,h,i,hi=>by
  cases i with
  |zero=>exact h.1
  |succ i=>simpa using yq h.2 i (by simpa using hi)
def tG (r:RO):Int:=wz (uP r.size r.deep) (sX r)
end Go.MM
end
section
namespace Go.MM
open Go Go.DL Go.Proofs
structure RF where
 name:ByteArray
 a:Int
 w:Int
deriving Inhabited
def tK (f:RF):List T:=[.str f.name,I f.a,I f.w]
def uc (f:RF):T:=.agg (tK f)
def vV (l:List RF):T:=.slice 3 (l.map uc)
def at8 (s:ByteArray) (i:Nat):Bool:=uj (tR s i)||((vN (tR s i)||tR s i==95)&& !(i==0))
def zW (s:ByteArray):Bool:=(List.range s.size).all fun i=>at8 s i
def vB (s:ByteArray):Bool:=zW s&&(decide (1≤s.size)&&decide (s.size≤24))
theorem t69 (s:ByteArray) (hs:s.size<2^62):DCalls Tryz.prog 64 [.str s] (.bool (vB s)):=by
 refine qO (rs:=[.tmp 2]) mixed Tryz.func64 l64 rfl rfl rfl (r:=[.bool _]) (nlZ rfl) ?_
 skip
 refine rq (α:=Nat) (fun i=>{sl:=[(0,.t (.str s)),(3,.t (I i))],bx:=[]})
  (fun i=>i≤s.size∧ ∀j,j<i→at8 s j=true) (fun i=>s.size - i) 0 (by simp) ?_ ?_
 ·repeat' (first|exact trivial|exact LeV.same _|exact rfl|exact fun _ _ _=>trivial|refine And.intro ?_ ?_)
 rintro i ⟨hi,hp⟩
 rcases Nat.lt_or_ge i s.size with h|h
 ·have good:at8 s i=true→i+1≤s.size∧ ∀j,j<i+1→at8 s j=true:=fun hb=>by
   refine ⟨h,fun j hj=>?_⟩
   rcases Nat.lt_or_ge j i with h4|h4
   ·exact hp j h4
   ·obtain rfl:j=i:=by omega
    exact hb
  have bad:at8 s i=false→vB s=false:=fun hb=>by
   unfold vB
   have:zW s=false:=by
    unfold zW
    rw [List.all_eq_false]
    exact ⟨i,by simpa using h,by simp [hb]⟩
   rw [this];rfl
  have bad':at8 s i=false→false=vB s:=fun hb=>(bad hb).symm
  clear bad
  rw [show at8 s i=(uj (tR s i)||((vN (tR s i)||tR s i==95)&& !(i==0))) from rfl] at good bad'
  have hc:((s.toList[i]?.getD 0).toNat:Int)=tR s i:=rfl
  generalize vB s=N at *
  generalize tR s i=c at *
  repeat' ((conv=>whnf);first|(refine nv_ (U c) (by first|exact congrArg U hc|fail) ?_)|(exact rb (x:=false) (bad' (by simp [uj,vN];omega)) trivial)|(exact ⟨i+1,good (by simp [uj,vN];omega),by omega,by (repeat' (first|exact trivial|exact LeV.same _|exact rfl|exact fun _ _ _=>trivial|exact lI|refine And.intro ?_ ?_));done⟩)|refine aE0 ?_|refine aD1 ?_|refine aD0 ?_|refine nE_ (fun hq=>?_) (fun hq=>?_)|refine nD_ (fun hq=>?_) (fun hq=>?_)|refine aS ?_|fail)
 ·have e:zW s=true:=by
   unfold zW
   rw [List.all_eq_true]
   intro j hj
   exact hp j (by simp at hj;omega)
  unfold vB
  rw [e]
  repeat' ((conv=>whnf);first|exact trivial|refine aD0 ?_|refine nD_ (fun hq=>?_) (fun hq=>?_)|refine rb1 ?_|refine rb0 ?_|refine aS ?_|fail)
def uK (f:RF):Bool:=decide (1≤f.w)&&decide (f.w≤16)&&decide (16≤f.a)&&decide (f.a≤143)&&decide (f.a % 16+f.w≤16)
theorem HJ {a:Int} (h:0≤a):a.tmod 16=a % 16:=Int.tmod_eq_emod_of_nonneg h
theorem t70 (f:RF):DCalls Tryz.prog 65 [uc f] (.bool (uK f)):=by
 obtain ⟨s,a,w⟩:=f
 refine qO (rs:=[.tmp 2]) mixed Tryz.func65 l65 rfl rfl rfl (r:=[.bool _]) (nlZ rfl) ?_
 simp only [uK]
 by_cases h16:16≤a
 ·have e:=HJ (a:=a) (by omega)
  by_cases h1:1≤w
  ·by_cases h2:w≤16
   ·by_cases h3:a≤143
    ·have e2:IntKind.wrap .i64 (a.tmod 16+w)=a % 16+w:=by rw [e,mG] <;> omega
     have e3:(decide (1≤w)&&decide (w≤16)&&decide (16≤a)&&decide (a≤143)&&decide (a % 16+w≤16))=decide (a % 16+w≤16):=by simp [h16,h1,h2,h3]
     rw [e3]
     by_cases h4:a % 16+w≤16
     ·repeat' ((conv=>whnf);first|exact trivial|(refine qv (by rw [e2];exact h4) ?_)|refine nT_ ?_|refine aD1 ?_|refine rb1 ?_|refine aS ?_|fail)
     ·repeat' ((conv=>whnf);first|exact trivial|(refine qu (by rw [e2];exact h4) ?_)|refine nT_ ?_|refine aD1 ?_|refine rb0 ?_|refine aS ?_|fail)
    ·repeat' ((conv=>whnf);first|exact trivial|refine nT_ ?_|refine aD1 ?_|refine aD0 ?_|refine rb0 ?_|refine aS ?_|fail)
   ·repeat' ((conv=>whnf);first|exact trivial|refine nT_ ?_|refine aD1 ?_|refine aD0 ?_|refine rb0 ?_|refine aS ?_|fail)
  ·repeat' ((conv=>whnf);first|exact trivial|refine nT_ ?_|refine aD0 ?_|refine rb0 ?_|refine aS ?_|fail)
 ·repeat' ((conv=>whnf);first|exact trivial|refine nT_ ?_|refine aD0 ?_|refine nD_ (fun hq=>?_) (fun hq=>?_)|refine rb0 ?_|refine aS ?_|fail)
def w7 (f:RF):Prop:= -1000≤f.a∧f.a≤1000∧ -1000≤f.w∧f.w≤1000
def uB (f g:RF):Bool:=decide (f.a<g.a+g.w)&&decide (g.a<f.a+f.w)
theorem t71 (f g:RF) (hf:w7 f) (hg:w7 g):DCalls Tryz.prog 66 [uc f,uc g] (.bool (uB f g)):=by
 obtain ⟨s,a,w⟩:=f
 obtain ⟨s',b,v⟩:=g
 simp only [w7] at hf hg
 refine qO (rs:=[.tmp 4]) mixed Tryz.func66 l66 rfl rfl rfl (r:=[.bool _]) (nlZ rfl) ?_
 simp only [uB]
 have e1:IntKind.wrap .i64 (b+v)=b+v:=mG (by omega) (by omega)
 have e2:IntKind.wrap .i64 (a+w)=a+w:=mG (by omega) (by omega)
 by_cases h1:a<b+v
 ·by_cases h2:b<a+w
  ·repeat' ((conv=>whnf);first|exact trivial|(refine qv (by rw [e1];exact h1) ?_)|(refine qv (by rw [e2];exact h2) ?_)|refine nT_ ?_|refine rb1 ?_|refine aS ?_|fail)
  ·repeat' ((conv=>whnf);first|exact trivial|(refine qv (by rw [e1];exact h1) ?_)|(refine qu (by rw [e2];exact h2) ?_)|refine nT_ ?_|refine rb0 ?_|refine aS ?_|fail)
 ·repeat' ((conv=>whnf);first|exact trivial|(refine qu (by rw [e1];exact h1) ?_)|refine nT_ ?_|refine rb0 ?_|refine aS ?_|fail)
def tw (l:List RF) (i:Nat) (f:RF):Int:=
 if vB f.name=false∨sC f.name ta=true then 4
 else if ((l.take i).any fun g=>sC g.name f.name)=true then 4
 else if uK f=false then 1
 else if ((l.take i).any fun g=>uB g f)=true then 1 else 0
def sI:List Int→Int
 |[]=>0
 |x::xs=>if x≠0 then x else sI xs
theorem xr: ∀{l:List Int} {i:Nat} (h:i<l.length),(∀ j (hj:j<l.length),j<i→l[j]=0)→l[i]≠0→sI l=l[i]
 |x::xs,0,h,_,h0=>by simp at h0;simp [sI,h0]
 |x::xs,i+1,h,hz,h0=>by
  have hx:x=0:=hz 0 (by simp) (by omega)
  simp only [sI,hx,ne_eq,not_true_eq_false,if_false]
  exact xr (by simpa using h) (fun j hj hlt=>hz (j+1) (by simpa using hj) (by omega)) (by simpa using h0)
theorem xI: ∀{l:List Int},(∀ j (hj:j<l.length),l[j]=0)→sI l=0
 |[],_=>rfl
 |x::xs,hz=>by
  have hx:x=0:=hz 0 (by simp)
  simp only [sI,hx,ne_eq,not_true_eq_false,if_false]
  exact xI fun j hj=>hz (j+1) (by simpa using hj)
def wN (l:List RF):Int:=if l.length>16 then 2 else sI (l.mapIdx fun i f=>tw l i f)
theorem xN {f:RF} (h:uK f=true):w7 f:=by
 simp [uK] at h
 unfold w7;omega
theorem vf {p:RF→Bool} {l:List RF} {i:Nat} (hi:i≤l.length):((l.take i).any p=true)↔ ∃j, ∃h:j<l.length,j<i∧p l[j]=true:=by
 rw [List.any_eq_true]
 constructor
 ·rintro ⟨x,hx,hp⟩
  obtain ⟨j,hj,rfl⟩:=List.getElem_of_mem hx
  simp at hj
  exact ⟨j,by omega,by omega,by simpa using hp⟩
 ·rintro ⟨j,h,hji,hp⟩
  exact ⟨l[j],List.mem_take_iff_getElem.2 ⟨j,by omega,rfl⟩,hp⟩
theorem t47 (l:List RF) (hl:l.length<2^60) (hn: ∀f∈l,f.name.size<2^62):DCalls Tryz.prog 11 [vV l] (I (wN l)):=by
 refine qO (rs:=[.tmp 2]) mixed Tryz.func11 l11 rfl rfl rfl (r:=[.int _ _]) (nlZ rfl) ?_
 unfold wN
 by_cases h16:l.length>16
 ·rw [if_pos h16];repeat' ((conv=>whnf);first|exact trivial|refine aD1 ?_|refine rix ?_|refine aS ?_|fail)
 rw [if_neg h16]
 repeat' ((conv=>whnf);first|refine aD0 ?_|refine aS ?_|fail)
 refine rq (α:=Nat) (fun i=>{sl:=[(0,.t (vV l)),(3,.t (I i))],bx:=[]})
  (fun i=>i≤l.length∧ ∀j (h:j<l.length),j<i→tw l j l[j]=0) (fun i=>l.length - i) 0 (by simp) ?_ ?_
 ·repeat' (first|exact trivial|exact LeV.same _|exact rfl|exact fun _ _ _=>trivial|refine And.intro ?_ ?_)
 rintro i ⟨hi,hp⟩
 rcases Nat.lt_or_ge i l.length with h|h
 ·have res: ∀e,tw l i l[i]=e→e≠0→sI (l.mapIdx fun i f=>tw l i f)=e:=fun e he h0=>by
   have:=xr (l:=l.mapIdx fun i f=>tw l i f) (i:=i) (by simpa using h) (fun j hj hlt=>by simpa using hp j (by simpa using hj) hlt) (by simpa [he] using h0)
   rw [this];simpa using he
  have next:tw l i l[i]=0→i+1≤l.length∧ ∀j (h:j<l.length),j<i+1→tw l j l[j]=0:=fun h0=>by
   refine ⟨h,fun j hj hlt=>?_⟩
   rcases Nat.lt_or_ge j i with h4|h4
   ·exact hp j hj h4
   ·obtain rfl:j=i:=by omega
    exact h0
  have small: ∀k (hk:k<l.length),k<i→w7 l[k]:=fun k hk hlt=>by
   have:=hp k hk hlt
   unfold tw at this
   split at this; ·omega
   split at this; ·omega
   split at this; ·omega
   rename_i h3
   exact xN (by simpa using h3)
  have c69:=t69 l[i].name (hn _ (List.getElem_mem h))
  have c70:=t70 l[i]
  have s1:=sR l[i].name ta
  cases hA:vB l[i].name with
  |false=>
   rw [hA] at c69
   rw [res 4 (by unfold tw;simp [hA]) (by decide)]
   repeat' ((conv=>whnf);first|exact trivial|(refine nv_ (.agg (tK l[i])) (by first|(simp [h,uc];done)|fail) ?_)|refine rE _ (c69) ?_|refine nT_ ?_|refine aD1 ?_|refine rix ?_|refine aS ?_|fail)
  |true=>
  rw [hA] at c69
  cases hB:sC l[i].name ta with
  |true=>
   rw [hB] at s1
   rw [res 4 (by unfold tw;simp [hB]) (by decide)]
   repeat' ((conv=>whnf);first|exact trivial|(refine nv_ (.agg (tK l[i])) (by first|(simp [h,uc];done)|fail) ?_)|refine rE _ (c69) ?_|refine nb_ true s1 ?_|refine nT_ ?_|refine aD1 ?_|refine rix ?_|refine aS ?_|fail)
  |false=>
  rw [hB] at s1
  repeat' ((conv=>whnf);first|(refine nv_ (.agg (tK l[i])) (by first|(simp [h,uc];done)|fail) ?_)|refine rE _ (c69) ?_|refine nb_ false s1 ?_|refine nT_ ?_|refine aD1 ?_|refine aS ?_|fail)
  refine rq (α:=Nat) (fun k=>{sl:=[(0,.t (vV l)),(3,.t (I i)),(5,.t (I k))],bx:=[]})
   (fun k=>k≤i∧ ∀j (hj:j<l.length),j<k→sC l[j].name l[i].name=false) (fun k=>i - k) 0 (by simp) ?_ ?_
  ·repeat' (first|exact trivial|exact LeV.same _|exact rfl|exact fun _ _ _=>trivial|refine And.intro ?_ ?_)
  rintro k ⟨hk,hpk⟩
  rcases Nat.lt_or_ge k i with hki|hki
  ·have hkl:k<l.length:=by omega
   have s2:=sR l[k].name l[i].name
   cases hC:sC l[k].name l[i].name with
   |true=>
    rw [hC] at s2
    rw [res 4 (by unfold tw;rw [if_neg (by simp [hA,hB]),if_pos ((vf (by omega)).2 ⟨k,hkl,hki,hC⟩)]) (by decide)]
    repeat' ((conv=>whnf);first|exact trivial|(refine nv_ (.agg (tK l[k])) (by first|(simp [hkl,uc];done)|fail) ?_)|(refine nv_ (.agg (tK l[i])) (by first|(simp [h,uc];done)|fail) ?_)|refine nb_ true s2 ?_|refine nT_ ?_|refine aD1 ?_|refine rix ?_|refine aS ?_|fail)
   |false=>
    rw [hC] at s2
    repeat' ((conv=>whnf);first|(refine nv_ (.agg (tK l[k])) (by first|(simp [hkl,uc];done)|fail) ?_)|(refine nv_ (.agg (tK l[i])) (by first|(simp [h,uc];done)|fail) ?_)|refine nb_ false s2 ?_|refine nT_ ?_|refine aD1 ?_|refine aS ?_|fail)
    refine ⟨k+1,⟨by omega,fun j hj hlt=>?_⟩,by omega,?_⟩
    ·rcases Nat.lt_or_ge j k with h4|h4
     ·exact hpk j hj h4
     ·obtain rfl:j=k:=by omega
      exact hC
    ·repeat' (first|exact trivial|exact LeV.same _|exact rfl|exact fun _ _ _=>trivial|exact lI|refine And.intro ?_ ?_)
  obtain rfl:k=i:=by omega
  have any1: ¬((l.take k).any fun g=>sC g.name l[k].name)=true:=fun hx=>by
   obtain ⟨j,hj,hji,hjp⟩:=(vf hi).1 hx
   rw [hpk j hj hji] at hjp;cases hjp
  cases hD:uK l[k] with
  |false=>
   rw [hD] at c70
   rw [res 1 (by unfold tw;rw [if_neg (by simp [hA,hB]),if_neg any1,if_pos hD]) (by decide)]
   repeat' ((conv=>whnf);first|exact trivial|(refine nv_ (.agg (tK l[k])) (by first|(simp [h,uc];done)|fail) ?_)|refine rE _ (c70) ?_|refine nT_ ?_|refine aD0 ?_|refine rix ?_|refine aS ?_|fail)
  |true=>
  rw [hD] at c70
  have smk:=xN hD
  repeat' ((conv=>whnf);first|(refine nv_ (.agg (tK l[k])) (by first|(simp [h,uc];done)|fail) ?_)|refine rE _ (c70) ?_|refine nT_ ?_|refine aD0 ?_|refine aS ?_|fail)
  refine rq (α:=Nat) (fun m=>{sl:=[(0,.t (vV l)),(3,.t (I k)),(7,.t (I m))],bx:=[]})
   (fun m=>m≤k∧ ∀j (hj:j<l.length),j<m→uB l[j] l[k]=false) (fun m=>k - m) 0 (by simp) ?_ ?_
  ·repeat' (first|exact trivial|exact LeV.same _|exact rfl|exact fun _ _ _=>trivial|refine And.intro ?_ ?_)
  rintro m ⟨hm,hpm⟩
  rcases Nat.lt_or_ge m k with hmi|hmi
  ·have hml:m<l.length:=by omega
   have c71:=t71 l[m] l[k] (small m hml hmi) smk
   cases hC:uB l[m] l[k] with
   |true=>
    rw [hC] at c71
    rw [res 1 (by unfold tw;rw [if_neg (by simp [hA,hB]),if_neg any1,if_neg (by simp [hD]),if_pos ((vf (by omega)).2 ⟨m,hml,hmi,hC⟩)]) (by decide)]
    repeat' ((conv=>whnf);first|exact trivial|(refine nv_ (.agg (tK l[m])) (by first|(simp [hml,uc];done)|fail) ?_)|(refine nv_ (.agg (tK l[k])) (by first|(simp [h,uc];done)|fail) ?_)|refine rE _ (c71) ?_|refine nT_ ?_|refine aD1 ?_|refine rix ?_|refine aS ?_|fail)
   |false=>
    rw [hC] at c71
    repeat' ((conv=>whnf);first|(refine nv_ (.agg (tK l[m])) (by first|(simp [hml,uc];done)|fail) ?_)|(refine nv_ (.agg (tK l[k])) (by first|(simp [h,uc];done)|fail) ?_)|refine rE _ (c71) ?_|refine nT_ ?_|refine aD1 ?_|refine aS ?_|fail)
    refine ⟨m+1,⟨by omega,fun j hj hlt=>?_⟩,by omega,?_⟩
    ·rcases Nat.lt_or_ge j m with h4|h4
     ·exact hpm j hj h4
     ·obtain rfl:j=m:=by omega
      exact hC
    ·repeat' (first|exact trivial|exact LeV.same _|exact rfl|exact fun _ _ _=>trivial|exact lI|refine And.intro ?_ ?_)
  obtain rfl:m=k:=by omega
  have any2: ¬((l.take m).any fun g=>uB g l[m])=true:=fun hx=>by
   obtain ⟨j,hj,hji,hjp⟩:=(vf hi).1 hx
   rw [hpm j hj hji] at hjp;cases hjp
  have e0:tw l m l[m]=0:=by unfold tw;rw [if_neg (by simp [hA,hB]),if_neg any1,if_neg (by simp [hD]),if_neg any2]
  repeat' ((conv=>whnf);first|(exact ⟨m+1,next e0,by omega,by (repeat' (first|exact trivial|exact LeV.same _|exact rfl|exact fun _ _ _=>trivial|exact lI|refine And.intro ?_ ?_));done⟩)|refine aD0 ?_|refine aS ?_|fail)
 ·rw [xI fun j hj=>by simpa using hp j (by simpa using hj) (by simp at hj;omega)]
  repeat' ((conv=>whnf);first|exact trivial|refine aD0 ?_|refine rix ?_|refine aS ?_|fail)
end Go.MM
end
section
namespace Go.MM
open Go Go.DL Go.Proofs
mutual
def vP:RP→List RP
 |.mk k f n m a=>.mk k f n m a::wa a
def wa:List RP→List RP
 |[]=>[]
 |r::rs=>vP r++wa rs
end
mutual
theorem u7: ∀r:RP,(vP r).length=r.nodes
 |.mk k f n m a=>by simp only [vP,List.length_cons,yt a,RP.nodes];omega
theorem yt: ∀l:List RP,(wa l).length=sJ l
 |[]=>rfl
 |r::rs=>by simp only [wa,List.length_append,u7 r,yt rs,sJ]
end
mutual
def tz:RO→List RO
 |.mk k p f n a=>.mk k p f n a::um a
def um:List RO→List RO
 |[]=>[]
 |r::rs=>tz r++um rs
end
mutual
def RO.cnt:RO→Nat
 |.mk _ _ _ _ a=>1+x6 a
def x6:List RO→Nat
 |[]=>0
 |r::rs=>r.cnt+x6 rs
end
mutual
theorem RO.wc: ∀r:RO,r.cnt≤r.wt
 |.mk k p _ _ a=>by have:=zZ a;simp only [RO.cnt,RO.wt];omega
theorem zZ: ∀l:List RO,x6 l≤td l
 |[]=>Nat.le_refl _
 |r::rs=>by have:=RO.wc r;have:=zZ rs;simp only [x6,td];omega
end
mutual
theorem uf: ∀r:RO,(tz r).length=r.cnt
 |.mk k p f n a=>by simp only [tz,List.length_cons,yu a,RO.cnt];omega
theorem yu: ∀l:List RO,(um l).length=x6 l
 |[]=>rfl
 |r::rs=>by simp only [um,List.length_append,uf r,yu rs,x6]
end
end Go.MM
end
section
namespace Go.MM
open Go Go.DL Go.Proofs
mutual
theorem uU: ∀r:RO, ∀x∈tz r,x.wt≤r.wt
 |.mk k p f n a=>fun x hx=>by
  simp only [tz,List.mem_cons] at hx
  rcases hx with rfl|hx
  ·exact Nat.le_refl _
  ·have:=yU a x hx;simp only [RO.wt];omega
theorem yU: ∀l:List RO, ∀x∈um l,x.wt≤td l
 |[]=>fun x hx=>by simp [um] at hx
 |r::rs=>fun x hx=>by
  simp only [um,List.mem_append] at hx
  simp only [td]
  rcases hx with hx|hx
  ·have:=uU r x hx;omega
  ·have:=yU rs x hx;omega
end
def RF.fd (f:RF):Fd:=⟨f.name,f.a.toNat,f.w.toNat⟩
structure Checked (l:List RF):Prop where
 len:l.length≤16
 name: ∀f∈l,vB f.name=true
 port: ∀f∈l,sC f.name ta=false
 place: ∀f∈l,uK f=true
 uniq: ∀i j (hi:i<l.length) (hj:j<l.length),j<i→sC l[j].name l[i].name=false
 apart: ∀i j (hi:i<l.length) (hj:j<l.length),j<i→uB l[j] l[i]=false
theorem yp: ∀{l:List Int},sI l=0→ ∀x∈l,x=0
 |[],_,x,hx=>by cases hx
 |y::ys,h,x,hx=>by
  simp only [sI] at h
  split at h
  ·rename_i hy;exact absurd h hy
  ·rename_i hy
   rcases List.mem_cons.1 hx with rfl|hx
   ·exact Decidable.not_not.1 hy
   ·exact yp h x hx
theorem BO {l:List RF} (h:wN l=0):Checked l:=by
 unfold wN at h
 split at h
 ·cases h
 rename_i hlen
 have hz: ∀i (hi:i<l.length),tw l i l[i]=0:=fun i hi=>yp h _ (List.mem_iff_getElem.2 ⟨i,by simpa using hi,by simp⟩)
 have key: ∀i (hi:i<l.length),(¬ (vB l[i].name=false∨sC l[i].name ta=true))∧(¬ ((l.take i).any fun g=>sC g.name l[i].name)=true)∧(¬ uK l[i]=false)∧ ¬((l.take i).any fun g=>uB g l[i])=true:=fun i hi=>by
  have:=hz i hi
  unfold tw at this
  split at this; ·cases this
  split at this; ·cases this
  split at this; ·cases this
  split at this; ·cases this
  rename_i h1 h2 h3 h4
  exact ⟨h1,h2,h3,h4⟩
 refine ⟨by omega,fun f hf=>?_,fun f hf=>?_,fun f hf=>?_,fun i j hi hj hji=>?_,fun i j hi hj hji=>?_⟩
 ·obtain ⟨i,hi,rfl⟩:=List.getElem_of_mem hf
  have:=(key i hi).1;simp at this;exact this.1
 ·obtain ⟨i,hi,rfl⟩:=List.getElem_of_mem hf
  have:=(key i hi).1;simp at this;exact this.2
 ·obtain ⟨i,hi,rfl⟩:=List.getElem_of_mem hf
  have:=(key i hi).2.2.1;simpa using this
 ·have:=(key i hi).2.1
  rw [vf (by omega)] at this
  cases hs:sC l[j].name l[i].name with
  |false=>rfl
  |true=>exact absurd ⟨j,hj,hji,hs⟩ this
 ·have:=(key i hi).2.2.2
  rw [vf (by omega)] at this
  cases hs:uB l[j] l[i] with
  |false=>rfl
  |true=>exact absurd ⟨j,hj,hji,hs⟩ this
theorem Checked.fds {l:List RF} (h:Checked l):vV l=MM.fds (l.map RF.fd):=by
 unfold vV MM.fds
 rw [List.map_map]
 congr 1
 refine List.map_congr_left fun f hf=>?_
 have:=h.place f hf
 simp [uK] at this
 obtain ⟨s,a,w⟩:=f
 simp only at this
 simp only [uc,tK,Function.comp,MM.fd,RF.fd]
 rw [Int.toNat_of_nonneg (by omega),Int.toNat_of_nonneg (by omega)]
theorem Checked.ok {l:List RF} (h:Checked l):LOk (l.map RF.fd):=by
 refine ⟨by have:=h.len;simp;omega,fun f hf=>?_⟩
 obtain ⟨g,hg,rfl⟩:=List.mem_map.1 hf
 have:=h.place g hg
 simp [uK] at this
 exact ⟨by simp only [RF.fd];omega,by simp only [RF.fd];omega,by simp only [RF.fd];omega⟩
end Go.MM
end
section
namespace Go.MM
open Go Go.DL Go.Proofs
theorem yi:Tryz.prog.underlying 23=some (.slice 25):=by kernel_rfl
theorem yj:Tryz.prog.underlying 26=some (.slice 28):=by kernel_rfl
theorem zX:Tryz.prog.cellsOf 3=1:=by kernel_rfl
theorem wh {us:List T} (h:cE Tryz.prog 3 us): ∃n,us=[I n]∧(Lit.int .i64 n).wf=true:=by
 cases h with
 |int h n hw=>rw [Tryz.underlying3] at h;cases h;exact ⟨n,rfl,hw⟩
 |bool h|str h|nil h|slice h|struct h|array h=>rw [Tryz.underlying3] at h;cases h
end Go.MM
end
section
namespace Go.MM
open Go Go.DL Go.Proofs
theorem yL:Tryz.prog.cellsOf 9=1:=by kernel_rfl
theorem FK:Tryz.prog.cellsOf 23=1:=by kernel_rfl
theorem zk:Tryz.prog.cellsOf 25=5:=by kernel_rfl
theorem FM:Tryz.prog.cellsOf 26=1:=by kernel_rfl
theorem Bu:Tryz.prog.cellsOf 28=9:=by kernel_rfl
theorem Bv:Tryz.prog.cellsOf 88=3:=by kernel_rfl
theorem L6 (us:List T):mkT Tryz.prog 25 us= .agg us:=by unfold mkT;rw [Tryz.underlying25]
theorem GW (us:List T):mkT Tryz.prog 28 us= .agg us:=by unfold mkT;rw [Tryz.underlying28]
theorem L7 (us:List T):mkT Tryz.prog 88 us= .agg us:=by unfold mkT;rw [Tryz.underlying88]
theorem L9:Tryz.prog.underlying 9=some .string:=by kernel_rfl
theorem Aj {us:List T} (h:cE Tryz.prog 9 us): ∃s,us=[.str s]:=by
 cases h with
 |str h s hs=>exact ⟨s,rfl⟩
 |bool h|int h|nil h|slice h|struct h|array h=>rw [L9] at h;cases h
def RdP (us:List T):Prop:= ∃r:RP,dp us (sB r)∧r.nodes≤aV us∧(aV us<2^62→vO r)
def J1 (us:List T):Prop:= ∃rs:List RP,dp us [.slice 5 (rs.map sN)]∧sJ rs+1≤aV us∧(aV us<2^62→wU rs)
theorem F2 {xs:List (List T)} (h: ∀x∈xs,RdP x): ∃rs:List RP,rs.length=xs.length∧(∀ (i:Nat) (x:List T) (r:RP),xs[i]? =some x→rs[i]? =some r→dp x (sB r))∧sJ rs≤aV (xs.map .agg)∧(aV (xs.map .agg)<2^62→wU rs):=by
 induction xs with
 |nil=>exact ⟨[],rfl,by simp,by simp [sJ],fun _=>trivial⟩
 |cons x xs ih=>
  obtain ⟨r,h1,h2,h3⟩:=h x (by simp)
  obtain ⟨rs,k1,k2,k3,k4⟩:=ih fun y hy=>h y (by simp [hy])
  refine ⟨r::rs,by simp [k1],fun i a b ha hb=>?_,?_,fun hb=>?_⟩
  ·cases i with
   |zero=>simp at ha hb;subst ha;subst hb;exact h1
   |succ i=>exact k2 i a b (by simpa using ha) (by simpa using hb)
  ·simp only [sJ,List.map_cons,aV,T.bulk];omega
  ·simp only [List.map_cons,aV,T.bulk] at hb
   exact ⟨h3 (by omega),k4 (by omega)⟩
theorem B8 {us:List T} (h:us.length=5): ∃a b c d e,us=[a,b,c,d,e]:=by
 match us,h with
 |[a,b,c,d,e],_=>exact ⟨a,b,c,d,e,rfl⟩
theorem F3 {t:TypeId} {us:List T} (h:cE Tryz.prog t us):(t=25→RdP us)∧(t=23→J1 us):=by
 induction h with
 |bool h b=>exact ⟨fun e=>(by subst e;rw [Tryz.underlying25] at h;cases h),fun e=>(by subst e;rw [yi] at h;cases h)⟩
 |int h n hw=>exact ⟨fun e=>(by subst e;rw [Tryz.underlying25] at h;cases h),fun e=>(by subst e;rw [yi] at h;cases h)⟩
 |str h s hs=>exact ⟨fun e=>(by subst e;rw [Tryz.underlying25] at h;cases h),fun e=>(by subst e;rw [yi] at h;cases h)⟩
 |array h us hl hf ih=>exact ⟨fun e=>(by subst e;rw [Tryz.underlying25] at h;cases h),fun e=>(by subst e;rw [yi] at h;cases h)⟩
 |nil h=>
  refine ⟨fun e=>(by subst e;rw [Tryz.underlying25] at h;cases h),fun e=>?_⟩
  exact ⟨[],.cons (Les.nil 5) rfl .nil,by simp [sJ,aV,T.bulk],fun _=>trivial⟩
 |slice h xs hx hl ih=>
  refine ⟨fun e=>(by subst e;rw [Tryz.underlying25] at h;cases h),fun e=>?_⟩
  subst e
  rw [yi] at h
  cases h
  obtain ⟨rs,k1,k2,k3,k4⟩:=F2 (xs:=xs) fun x hm=>(ih x hm).1 rfl
  have em:xs.map (mkT Tryz.prog 25)=xs.map .agg:=List.map_congr_left fun x _=>L6 x
  rw [em,zk]
  refine ⟨rs,.cons (Les.slice (by simp [k1]) fun i x y hx hy=>?_) rfl .nil,by simp only [aV,T.bulk];omega,fun hb=>k4 (by simp only [aV,T.bulk] at hb;omega)⟩
  rw [List.getElem?_map] at hx hy
  obtain ⟨x',hx',rfl⟩:=Option.map_eq_some_iff.1 hx
  obtain ⟨r',hr',rfl⟩:=Option.map_eq_some_iff.1 hy
  rw [sG]
  exact ⟨k2 i x' r' hx' hr',sH r'⟩
 |struct h us hl hf ih=>
  refine ⟨fun e=>?_,fun e=>(by subst e;rw [yi] at h;cases h)⟩
  subst e
  rw [Tryz.underlying25] at h
  cases h
  rw [zk] at hl
  obtain ⟨a,b,c,d,e,rfl⟩:=B8 hl
  have f0:=hf ⟨ "Kind",3,0,false, "", "",0⟩ (by simp)
  have f1:=hf ⟨ "Field",9,1,false, "", "",8⟩ (by simp)
  have f2:=hf ⟨ "N",3,2,false, "", "",24⟩ (by simp)
  have f3:=hf ⟨ "M",3,3,false, "", "",32⟩ (by simp)
  have f4:=(ih ⟨ "Args",23,4,false, "", "",40⟩ (by simp)).2 rfl
  simp only [zX,yL,FK,List.drop,List.take] at f0 f1 f2 f3 f4
  obtain ⟨k,e0,_⟩:=wh f0
  obtain ⟨s,e1⟩:=Aj f1
  obtain ⟨n,e2,_⟩:=wh f2
  obtain ⟨m,e3,_⟩:=wh f3
  obtain ⟨rs,g1,g2,g3⟩:=f4
  simp only [List.cons.injEq,and_true] at e0 e1 e2 e3
  subst e0;subst e1;subst e2;subst e3
  refine ⟨.mk k s n m rs,.cons (Les.refl _) rfl (.cons (Les.refl _) rfl (.cons (Les.refl _) rfl (.cons (Les.refl _) rfl g1))),?_,fun hb=>?_⟩
  ·simp only [RP.nodes,aV,T.bulk] at g2 ⊢;omega
  ·simp only [aV,T.bulk] at g3 hb
   exact ⟨by omega,g3 (by omega)⟩
def RdO (us:List T):Prop:= ∃r:RO,dp us (sA r)∧r.wt≤aV us∧(aV us<2^62→tX r)
def J0 (us:List T):Prop:= ∃rs:List RO,dp us [.slice 9 (rs.map s4)]∧td rs+1≤aV us∧(aV us<2^62→wQ rs)
theorem F0 {xs:List (List T)} (h: ∀x∈xs,RdO x): ∃rs:List RO,rs.length=xs.length∧(∀ (i:Nat) (x:List T) (r:RO),xs[i]? =some x→rs[i]? =some r→dp x (sA r))∧td rs≤aV (xs.map .agg)∧(aV (xs.map .agg)<2^62→wQ rs):=by
 induction xs with
 |nil=>exact ⟨[],rfl,by simp,by simp [td],fun _=>trivial⟩
 |cons x xs ih=>
  obtain ⟨r,h1,h2,h3⟩:=h x (by simp)
  obtain ⟨rs,k1,k2,k3,k4⟩:=ih fun y hy=>h y (by simp [hy])
  refine ⟨r::rs,by simp [k1],fun i a b ha hb=>?_,?_,fun hb=>?_⟩
  ·cases i with
   |zero=>simp at ha hb;subst ha;subst hb;exact h1
   |succ i=>exact k2 i a b (by simpa using ha) (by simpa using hb)
  ·simp only [td,List.map_cons,aV,T.bulk];omega
  ·simp only [List.map_cons,aV,T.bulk] at hb
   exact ⟨h3 (by omega),k4 (by omega)⟩
theorem IB {us:List T} (h:us.length=9): ∃a b c d e f g i j,us=[a,b,c,d,e,f,g,i,j]:=by
 match us,h with
 |[a,b,c,d,e,f,g,i,j],_=>exact ⟨a,b,c,d,e,f,g,i,j,rfl⟩
theorem dp.JY {a b c d e:T} {r:RP} (h:dp [a,b,c,d,e] (sB r)) {x y:T} {xs ys:List T} (k:dp (x::xs) (y::ys)):dp (a::b::c::d::e::x::xs) (sB r++y::ys):=dp.append h k
theorem DY {t:TypeId} {us:List T} (h:cE Tryz.prog t us):(t=28→RdO us)∧(t=26→J0 us):=by
 induction h with
 |bool h b=>exact ⟨fun e=>(by subst e;rw [Tryz.underlying28] at h;cases h),fun e=>(by subst e;rw [yj] at h;cases h)⟩
 |int h n hw=>exact ⟨fun e=>(by subst e;rw [Tryz.underlying28] at h;cases h),fun e=>(by subst e;rw [yj] at h;cases h)⟩
 |str h s hs=>exact ⟨fun e=>(by subst e;rw [Tryz.underlying28] at h;cases h),fun e=>(by subst e;rw [yj] at h;cases h)⟩
 |array h us hl hf ih=>exact ⟨fun e=>(by subst e;rw [Tryz.underlying28] at h;cases h),fun e=>(by subst e;rw [yj] at h;cases h)⟩
 |nil h=>
  refine ⟨fun e=>(by subst e;rw [Tryz.underlying28] at h;cases h),fun e=>?_⟩
  exact ⟨[],.cons (Les.nil 9) rfl .nil,by simp [td,aV,T.bulk],fun _=>trivial⟩
 |slice h xs hx hl ih=>
  refine ⟨fun e=>(by subst e;rw [Tryz.underlying28] at h;cases h),fun e=>?_⟩
  subst e
  rw [yj] at h
  cases h
  obtain ⟨rs,k1,k2,k3,k4⟩:=F0 (xs:=xs) fun x hm=>(ih x hm).1 rfl
  have em:xs.map (mkT Tryz.prog 28)=xs.map .agg:=List.map_congr_left fun x _=>GW x
  rw [em,Bu]
  refine ⟨rs,.cons (Les.slice (by simp [k1]) fun i x y hx hy=>?_) rfl .nil,by simp only [aV,T.bulk];omega,fun hb=>k4 (by simp only [aV,T.bulk] at hb;omega)⟩
  rw [List.getElem?_map] at hx hy
  obtain ⟨x',hx',rfl⟩:=Option.map_eq_some_iff.1 hx
  obtain ⟨r',hr',rfl⟩:=Option.map_eq_some_iff.1 hy
  rw [sK]
  exact ⟨k2 i x' r' hx' hr',sE r'⟩
 |struct h us hl hf ih=>
  refine ⟨fun e=>?_,fun e=>(by subst e;rw [yj] at h;cases h)⟩
  subst e
  rw [Tryz.underlying28] at h
  cases h
  rw [Bu] at hl
  obtain ⟨a,b,c,d,e,f,g,i,j,rfl⟩:=IB hl
  have f0:=hf ⟨ "Kind",3,0,false, "", "",0⟩ (by simp)
  have f1:=(F3 (hf ⟨ "Pred",25,1,false, "", "",8⟩ (by simp))).1 rfl
  have f2:=hf ⟨ "Field",9,6,false, "", "",72⟩ (by simp)
  have f3:=hf ⟨ "N",3,7,false, "", "",88⟩ (by simp)
  have f4:=(ih ⟨ "Args",26,8,false, "", "",96⟩ (by simp)).2 rfl
  simp only [zX,yL,zk,FM,List.drop,List.take] at f0 f1 f2 f3 f4
  obtain ⟨k,e0,_⟩:=wh f0
  obtain ⟨p,p1,p2,p3⟩:=f1
  obtain ⟨s,e1⟩:=Aj f2
  obtain ⟨n,e2,_⟩:=wh f3
  obtain ⟨rs,g1,g2,g3⟩:=f4
  simp only [List.cons.injEq,and_true] at e0 e1 e2
  subst e0;subst e1;subst e2
  refine ⟨.mk k p s n rs,.cons (Les.refl _) rfl (dp.JY p1 (.cons (Les.refl _) rfl (.cons (Les.refl _) rfl g1))),?_,fun hb=>?_⟩
  ·simp only [RO.wt,aV,T.bulk] at p2 g2 ⊢;omega
  ·simp only [aV,T.bulk] at p3 g3 hb
   exact ⟨p3 (by omega),by omega,g3 (by omega)⟩
theorem EC {us:List T} (h:cE Tryz.prog 88 us): ∃f:RF,us=tK f∧f.name.size<aV us:=by
 cases h with
 |struct h us hl hf=>
  rw [Tryz.underlying88] at h
  cases h
  rw [Bv] at hl
  match us,hl with
  |[a,b,c],_=>
   have f0:=hf ⟨ "Name",9,0,false, "", "",0⟩ (by simp)
   have f1:=hf ⟨ "At",3,1,false, "", "",16⟩ (by simp)
   have f2:=hf ⟨ "Width",3,2,false, "", "",24⟩ (by simp)
   simp only [zX,yL,List.drop,List.take] at f0 f1 f2
   obtain ⟨s,e0⟩:=Aj f0
   obtain ⟨n,e1,_⟩:=wh f1
   obtain ⟨m,e2,_⟩:=wh f2
   simp only [List.cons.injEq,and_true] at e0 e1 e2
   subst e0;subst e1;subst e2
   exact ⟨⟨s,n,m⟩,rfl,by simp [aV,T.bulk];omega⟩
 |int h|bool h|str h|nil h|slice h|array h=>rw [Tryz.underlying88] at h;cases h
theorem DX {us:List T} (h:cE Tryz.prog 22 us): ∃l:List RF,Les (mkT Tryz.prog 22 us) (vV l)∧l.length≤aV us∧ ∀f∈l,f.name.size<aV us:=by
 have e: ∀t,mkT Tryz.prog 22 [t]=t:=fun t=>by unfold mkT;rw [Tryz.underlying22];rfl
 cases h with
 |nil h=>exact ⟨[],by rw [e];exact Les.nil 3,by simp,by simp⟩
 |slice h xs hx hl=>
  rw [Tryz.underlying22] at h
  cases h
  rw [e,Bv]
  have em:xs.map (mkT Tryz.prog 88)=xs.map .agg:=List.map_congr_left fun x _=>L7 x
  rw [em]
  have key: ∃l:List RF,l.length=xs.length∧xs.map .agg=l.map uc∧l.length≤aV (xs.map .agg)∧ ∀f∈l,f.name.size<aV (xs.map .agg):=by
   clear hl em
   induction xs with
   |nil=>exact ⟨[],rfl,rfl,by simp,by simp⟩
   |cons x xs ih=>
    obtain ⟨f,h1,h2⟩:=EC (hx x (by simp))
    obtain ⟨l,k1,k2,k3,k4⟩:=ih fun y hy=>hx y (by simp [hy])
    refine ⟨f::l,by simp [k1],by simp only [List.map_cons,k2,h1];rfl,by simp only [List.map_cons,aV,T.bulk,List.length_cons];omega,fun g hg=>?_⟩
    simp only [List.map_cons,aV,T.bulk]
    rcases List.mem_cons.1 hg with rfl|hg
    ·omega
    ·have:=k4 g hg;omega
  obtain ⟨l,k1,k2,k3,k4⟩:=key
  refine ⟨l,by rw [k2];exact Les.refl _,by simp only [aV,T.bulk];omega,fun f hf=>by simp only [aV,T.bulk];have:=k4 f hf;omega⟩
 |int h|bool h|str h|array h|struct h=>rw [Tryz.underlying22] at h;cases h
end Go.MM
end
section
namespace Go.TY
instance memBA (a : ByteArray) (l : List ByteArray) : Decidable (a ∈ l) := @List.instDecidableMemOfLawfulBEq ByteArray instBEqOfDecidableEq inferInstance a l
structure Lin {α:Type} (lt:α→α→Bool):Prop where
 irr: ∀a,lt a a=false
 tr: ∀a b c,lt a b=true→lt b c=true→lt a c=true
 tot: ∀a b,lt a b=false→lt b a=false→a=b
section
variable {α:Type} {lt:α→α→Bool}
theorem Lin.ne (h:Lin lt) {a b:α} (hl:lt a b=true):a≠b:=fun e=>by
 subst e;rw [h.irr] at hl;cases hl
theorem Lin.asym (h:Lin lt) {a b:α} (hl:lt a b=true):lt b a=false:=by
 cases e:lt b a with
 |false=>rfl
 |true=>have:=h.tr _ _ _ hl e;rw [h.irr] at this;cases this
variable [DecidableEq α]
def put (lt:α→α→Bool):List α→α→List α
 |[],s=>[s]
 |x::xs,s=>if lt x s=true then x::put lt xs s else s::(x::xs).filter fun y=> !decide (y=s)
def Inc (lt:α→α→Bool) (l:List α):Prop:=l.Pairwise fun a b=>lt a b=true
theorem zn {l:List α} {s x:α}:x∈put lt l s↔x=s∨x∈l:=by
 induction l with
 |nil=>simp [put]
 |cons y ys ih=>
  unfold put
  by_cases hl:lt y s=true
  ·rw [if_pos hl,List.mem_cons,ih,List.mem_cons]
   exact ⟨fun h=>by rcases h with h|h|h <;> simp [h],fun h=>by rcases h with h|h|h <;> simp [h]⟩
  ·rw [if_neg hl,List.mem_cons,List.mem_filter]
   by_cases hx:x=s
   ·simp [hx]
   ·simp [hx]
theorem Inc.put (h:Lin lt) {l:List α} (hl:Inc lt l) (s:α):Inc lt (put lt l s):=by
 induction l with
 |nil=>simp [TY.put,Inc]
 |cons y ys ih=>
  have h2:=List.pairwise_cons.1 hl
  unfold TY.put
  by_cases hys:lt y s=true
  ·rw [if_pos hys]
   refine List.pairwise_cons.2 ⟨fun z hz=>?_,ih h2.2⟩
   rcases zn.1 hz with rfl|hz
   ·exact hys
   ·exact h2.1 z hz
  ·rw [if_neg hys]
   have hys':lt y s=false:=by simpa using hys
   refine List.pairwise_cons.2 ⟨fun z hz=>?_,hl.filter _⟩
   obtain ⟨h3,h4⟩:=List.mem_filter.1 hz
   have hzs:z≠s:=by simpa using h4
   cases e:lt s z with
   |true=>rfl
   |false=>
    exfalso
    cases e2:lt z s with
    |false=>exact hzs (h.tot _ _ e2 e)
    |true=>
     rcases List.mem_cons.1 h3 with rfl|h3
     ·rw [hys'] at e2;cases e2
     ·have:=h.tr _ _ _ (h2.1 z h3) e2
      rw [hys'] at this;cases this
theorem Inc.ext (h:Lin lt): ∀{a b:List α},Inc lt a→Inc lt b→(∀ x,x∈a↔x∈b)→a=b
 |[],[],_,_,_=>rfl
 |[],y::ys,_,_,hm=>by have:=(hm y).2 (by simp);simp at this
 |x::xs,[],_,_,hm=>by have:=(hm x).1 (by simp);simp at this
 |x::xs,y::ys,ha,hb,hm=>by
  have h1:=List.pairwise_cons.1 ha
  have h2:=List.pairwise_cons.1 hb
  have e:x=y:=by
   by_cases e:x=y
   ·exact e
   ·exfalso
    have hx:x∈ys:=by have:=(hm x).1 (by simp);simpa [e] using this
    have hy:y∈xs:=by have:=(hm y).2 (by simp);simpa [show ¬y=x from fun h=>e h.symm] using this
    have l1:=h1.1 y hy
    have l2:=h2.1 x hx
    rw [h.asym l1] at l2;cases l2
  subst e
  rw [Inc.ext h h1.2 h2.2 fun z=>?_]
  have:=hm z
  simp only [List.mem_cons] at this
  by_cases e:z=x
  ·subst e
   exact ⟨fun hz=>absurd rfl (h.ne (h1.1 z hz)),fun hz=>absurd rfl (h.ne (h2.1 z hz))⟩
  ·simpa [e] using this
def tB (lt:α→α→Bool) (l:List α):List α:=l.foldl (put lt) []
theorem Bn {l:List α}: ∀{acc:List α} {x:α},x∈l.foldl (put lt) acc↔x∈acc∨x∈l:=by
 induction l with
 |nil=>simp
 |cons y ys ih=>
  intro acc x
  rw [List.foldl_cons,ih,zn,List.mem_cons]
  exact ⟨fun h=>by rcases h with (h|h)|h <;> simp [h],fun h=>by rcases h with h|h|h <;> simp [h]⟩
theorem uD {l:List α} {x:α}:x∈tB lt l↔x∈l:=by simp [tB,Bn]
theorem Bk (h:Lin lt) {l:List α}: ∀{acc:List α},Inc lt acc→Inc lt (l.foldl (put lt) acc):=by
 induction l with
 |nil=>exact fun h=>h
 |cons y ys ih=>intro acc ha;exact ih (ha.put h y)
theorem xx (h:Lin lt) (l:List α):Inc lt (tB lt l):=Bk h List.Pairwise.nil
theorem vR (h:Lin lt) {a b:List α} (hm: ∀x,x∈a↔x∈b):tB lt a=tB lt b:=
 Inc.ext h (xx h a) (xx h b) fun x=>by rw [uD,uD,hm]
def once:List α→List α→List α
 |acc,[]=>acc
 |acc,x::xs=>once (if x∈acc then acc else acc++[x]) xs
theorem vk: ∀{l acc:List α} {x:α},x∈once acc l↔x∈acc∨x∈l
 |[],acc,x=>by simp [once]
 |y::ys,acc,x=>by
  unfold once
  rw [vk,List.mem_cons]
  by_cases h:y∈acc
  ·rw [if_pos h]
   exact ⟨fun h=>by rcases h with h|h <;> simp [h],fun k=>by rcases k with k|rfl|k <;> simp [*]⟩
  ·rw [if_neg h]
   simp [or_assoc]
theorem uE: ∀{l acc:List α},acc.Nodup→(once acc l).Nodup
 |[],_,h=>h
 |y::ys,acc,h=>by
  unfold once
  refine uE ?_
  by_cases hc:y∈acc
  ·rw [if_pos hc];exact h
  ·rw [if_neg hc]
   refine List.nodup_append.2 ⟨h,by simp,fun a ha b hb e=>hc ?_⟩
   rw [List.mem_singleton.1 hb] at e
   subst e
   exact ha
theorem yD (h:Lin lt) {a zs:List α} (hn:zs.Nodup) (hs:zs.Pairwise fun x y=>lt y x=false) (hm: ∀x,x∈zs↔x∈a):zs=tB lt a:=by
 refine Inc.ext h ?_ (xx h a) fun x=>by rw [hm,uD]
 refine (hs.and (List.nodup_iff_pairwise_ne.1 hn)).imp fun {x y} hxy=>?_
 cases e:lt x y with
 |true=>rfl
 |false=>exact absurd (h.tot _ _ e hxy.1) hxy.2
end
def ltI (a b:Int):Bool:=decide (a<b)
theorem Ev:Lin ltI where
 irr:=fun a=>by simp [ltI]
 tr:=fun a b c h k=>by simp only [ltI,decide_eq_true_eq] at *;omega
 tot:=fun a b h k=>by simp only [ltI,decide_eq_false_iff_not] at *;omega
def ltS (a b:ByteArray):Bool:=Op.bytesLess a.toList b.toList
theorem zA {a b:ByteArray} (h:a.toList=b.toList):a=b:=by
 rw [ByteArray.toList_eq,ByteArray.toList_eq] at h
 exact ByteArray.ext (Array.ext' h)
theorem wk:Lin ltS where
 irr:=fun a=>by simp [ltS,Go.Proofs.bytesLess_eq]
 tr:=fun a b c h k=>by
  simp only [ltS,Go.Proofs.bytesLess_eq,decide_eq_true_eq] at *
  exact List.lt_trans h k
 tot:=fun a b h k=>by
  simp only [ltS,Go.Proofs.bytesLess_eq,decide_eq_false_iff_not,List.not_lt] at *
  exact zA (List.le_antisymm k h)
end Go.TY
end
section
namespace Go.TY
open Go Go.DL Go.MM
abbrev Fd:=Go.MM.Fd
structure RS where
 kind:Int
 var:ByteArray
 key:List ByteArray
 field:ByteArray
 n:Int
 m:Int
def sZ (s:RS):List T:=[I s.kind,.str s.var,.slice 1 (s.key.map .str),.str s.field,I s.n,I s.m]
structure RV where
 name:ByteArray
 fam:Int
 ws:List Int
 n:Int
 m:Int
 deriving DecidableEq
def vM (v:RV):List T:=[.str v.name,I v.fam,.slice 1 (v.ws.map I),I v.n,I v.m]
def sQ (v:RV):T:=.agg (vM v)
def RS.own (s:RS):Bool:=s.kind==4||s.kind==6
def tL (k:Int):Int:=if k=1 then 1 else if k=2∨k=3 then 2 else if k=4∨k=5 then 3 else 4
def sV (l:List Fd) (s:RS):List Int:=s.key.map fun k=>((fld l k).w:Int)
def vOf (l:List Fd) (s:RS):RV:=⟨s.var,tL s.kind,sV l s,if s.own then s.n else 0,if s.own then s.m else 0⟩
def vL (l:List Fd) (s t:RS):Bool:= !(s.own&&t.own&&((s.n !=t.n)||(s.m !=t.m)))&&((sV l s==sV l t)&&(tL s.kind==tL t.kind))
theorem tU {l:List Fd} {s t:RS}:vL l s t=true↔(s.own=true→t.own=true→s.n=t.n∧s.m=t.m)∧sV l s=sV l t∧tL s.kind=tL t.kind:=by
 unfold vL
 cases h1:s.own <;> cases h2:t.own <;> simp
theorem Bg {l:List Fd} (s:RS):vL l s s=true:=by rw [tU];simp
theorem Bh {l:List Fd} {s t:RS} (h:vL l s t=true):vL l t s=true:=by
 rw [tU] at *
 exact ⟨fun a b=>⟨(h.1 b a).1.symm,(h.1 b a).2.symm⟩,h.2.1.symm,h.2.2.symm⟩
def PW (l:List Fd) (ss:List RS):Prop:=ss.Pairwise fun s t=>s.var=t.var→vL l s t=true
theorem PW.all {l:List Fd} {ss:List RS} (h:PW l ss): ∀s∈ss, ∀t∈ss,s.var=t.var→vL l s t=true:=by
 induction ss with
 |nil=>intro s hs;simp at hs
 |cons x xs ih=>
  have h2:=List.pairwise_cons.1 h
  intro s hs t ht e
  rcases List.mem_cons.1 hs with e1|hs'
  ·rcases List.mem_cons.1 ht with e2|ht'
   ·rw [e1,e2];exact Bg _
   ·subst e1;exact h2.1 t ht' e
  ·rcases List.mem_cons.1 ht with e2|ht'
   ·subst e2;exact Bh (h2.1 s hs' e.symm)
   ·exact ih h2.2 s hs' t ht' e
theorem Bt {l:List Fd} {ss:List RS} {t:RS}:PW l (ss++[t])↔PW l ss∧ ∀s∈ss,s.var=t.var→vL l s t=true:=by
 unfold PW
 rw [List.pairwise_append]
 exact ⟨fun h=>⟨h.1,fun s hs=>h.2.2 s hs t (by simp)⟩,fun h=>⟨h.1,by simp,fun a ha b hb=>by rw [List.mem_singleton.1 hb];exact h.2 a ha⟩⟩
def tg (ss:List RS) (name:ByteArray):Option RS:=ss.find? fun s=>decide (s.var=name)&&s.own
def vT (l:List Fd) (ss:List RS) (name:ByteArray):Option RV:=match ss.find? fun s=>decide (s.var=name) with
 |none=>none
 |some s=>some ⟨name,tL s.kind,sV l s,((tg ss name).map (·.n)).getD 0,((tg ss name).map (·.m)).getD 0⟩
structure VS where
 all:List RV
 num:List (ByteArray×Bool)
def s8 (all:List RV) (name:ByteArray):Option RV:=all.find? fun v=>decide (v.name=name)
def uy (v:RV):List RV→List RV
 |[]=>[v]
 |x::xs=>if x.name=v.name then v::xs else x::uy v xs
def tT (num:List (ByteArray×Bool)) (name:ByteArray):Option Bool:=(num.find? fun p=>decide (p.1=name)).map (·.2)
def wL (name:ByteArray) (b:Bool):List (ByteArray×Bool)→List (ByteArray×Bool)
 |[]=>[(name,b)]
 |x::xs=>if x.1=name then (name,b)::xs else x::wL name b xs
theorem wA {v:RV} {all:List RV} {name:ByteArray}:s8 (uy v all) name=if v.name=name then some v else s8 all name:=by
 induction all with
 |nil=>unfold uy s8;by_cases h:v.name=name <;> simp [h]
 |cons x xs ih=>
  unfold uy
  by_cases hx:x.name=v.name
  ·rw [if_pos hx]
   unfold s8
   by_cases h:v.name=name
   ·simp [h]
   ·have: ¬x.name=name:=fun e=>h (hx.symm.trans e)
    simp [h,this]
  ·rw [if_neg hx]
   unfold s8 at ih ⊢
   rw [List.find?_cons,List.find?_cons,ih]
   by_cases h:x.name=name
   ·have: ¬v.name=name:=fun e=>hx (h.trans e.symm)
    simp [h,this]
   ·simp [h]
theorem C0 {n:ByteArray} {b:Bool} {num:List (ByteArray×Bool)} {name:ByteArray}:tT (wL n b num) name=if n=name then some b else tT num name:=by
 induction num with
 |nil=>unfold wL tT;by_cases h:n=name <;> simp [h]
 |cons x xs ih=>
  unfold wL
  by_cases hx:x.1=n
  ·rw [if_pos hx]
   unfold tT
   by_cases h:n=name
   ·simp [h]
   ·have: ¬x.1=name:=fun e=>h (hx.symm.trans e)
    simp [h,this]
  ·rw [if_neg hx]
   unfold tT at ih ⊢
   rw [List.find?_cons,List.find?_cons]
   by_cases h:x.1=name
   ·have: ¬n=name:=fun e=>hx (h.trans e.symm)
    simp [h,this]
   ·simp only [h,decide_false];exact ih
theorem y0 {v:RV} {all:List RV}:(uy v all).map (·.name)=if v.name∈all.map (·.name) then all.map (·.name) else all.map (·.name)++[v.name]:=by
 induction all with
 |nil=>simp [uy]
 |cons x xs ih=>
  unfold uy
  by_cases hx:x.name=v.name
  ·rw [if_pos hx,if_pos (by rw [List.map_cons,hx];exact List.mem_cons_self)];simp [hx]
  ·rw [if_neg hx,List.map_cons,ih,List.map_cons]
   by_cases hm:v.name∈xs.map (·.name)
   ·rw [if_pos hm,if_pos (List.mem_cons_of_mem _ hm)]
   ·rw [if_neg hm,if_neg (fun h=>by
     rcases List.mem_cons.1 h with h|h
     ·exact hx h.symm
     ·exact hm h)]
    rfl
def uL (l:List Fd) (st:VS) (s:RS):Option VS:=
 let num:=wL s.var (((tT st.num s.var).getD false)||s.own) st.num
 match s8 st.all s.var with
 |none=>some ⟨uy (vOf l s) st.all,num⟩
 |some old=>if (old.fam !=tL s.kind)|| !(old.ws==sV l s)||(s.own&&((tT st.num s.var).getD false)&&((old.n !=s.n)||(old.m !=s.m))) then none
  else some ⟨if s.own then uy (vOf l s) st.all else st.all,num⟩
def tV (l:List Fd):VS→List RS→Option VS
 |st,[]=>some st
 |st,s::ss=>(uL l st s).bind fun st=>tV l st ss
structure xh (l:List Fd) (ss:List RS) (st:VS):Prop where
 pw:PW l ss
 look: ∀name,s8 st.all name=vT l ss name
 num: ∀name,(tT st.num name).getD false=(tg ss name).isSome
 names:st.all.map (·.name)=once [] (ss.map (·.var))
theorem uS {α:Type} [DecidableEq α]: ∀{xs acc:List α} {y:α},once acc (xs++[y])=(if y∈once acc xs then once acc xs else once acc xs++[y])
 |[],acc,y=>rfl
 |x::xs,acc,y=>by
  rw [List.cons_append]
  unfold once
  exact uS
theorem uw {α:Type} {p:α→Bool} {ss:List α} {t:α}:(ss++[t]).find? p=match ss.find? p with
  |some s=>some s
  |none=>if p t=true then some t else none:=by
 rw [List.find?_append]
 cases ss.find? p with
 |some s=>rfl
 |none=>simp [List.find?_cons];cases p t <;> rfl
theorem xh.step {l:List Fd} {ss:List RS} {st:VS} (h:xh l ss st) (t:RS):
  (PW l (ss++[t])→ ∃st',uL l st t=some st'∧xh l (ss++[t]) st')∧(¬ PW l (ss++[t])→uL l st t=none):=by
 have hl:=h.look t.var
 have hn:=h.num t.var
 have hsome: ∀s0,ss.find? (fun s=>decide (s.var=t.var))=some s0→s0∈ss∧s0.var=t.var:=fun s0 h0=>⟨List.mem_of_find?_eq_some h0,by simpa using List.find?_some h0⟩
 have hown: ∀s1,tg ss t.var=some s1→s1∈ss∧s1.var=t.var∧s1.own=true:=fun s1 h1=>⟨List.mem_of_find?_eq_some h1,by simpa using List.find?_some h1⟩
 have hpw:=h.pw.all
 have lookO: ∀(x:List RV) name, ¬t.var=name→s8 x name=s8 st.all name→s8 x name=vT l (ss++[t]) name:=fun x name hne hx=>by
  rw [hx,h.look name]
  unfold vT tg
  rw [uw,uw]
  simp only [hne,decide_false,Bool.false_and]
  cases ss.find? fun s=>decide (s.var=name) with
  |none=>rfl
  |some s=>simp only;cases ss.find? fun s=>decide (s.var=name)&&s.own <;> rfl
 have numI: ∀name,(tT (wL t.var (((tT st.num t.var).getD false)||t.own) st.num) name).getD false=(tg (ss++[t]) name).isSome:=fun name=>by
  rw [C0]
  unfold tg
  rw [uw]
  by_cases hne:t.var=name
  ·subst hne
   rw [if_pos rfl,Option.getD_some,hn]
   unfold tg
   cases ss.find? fun s=>decide (s.var=t.var)&&s.own with
   |some s=>simp
   |none=>cases ho:t.own <;> simp []
  ·rw [if_neg hne,h.num name]
   unfold tg
   simp only [hne,decide_false,Bool.false_and]
   cases ss.find? fun s=>decide (s.var=name)&&s.own <;> rfl
 unfold uL
 dsimp only
 cases hf:ss.find? (fun s=>decide (s.var=t.var)) with
 |none=>
  have hno: ∀s∈ss, ¬s.var=t.var:=fun s hs=>by
   have:=List.find?_eq_none.1 hf s hs;simpa using this
  have hlk:s8 st.all t.var=none:=by rw [hl];unfold vT;rw [hf]
  rw [hlk]
  have hp2:PW l (ss++[t]):=Bt.2 ⟨h.pw,fun s hs e=>absurd e (hno s hs)⟩
  refine ⟨fun _=>⟨_,rfl,hp2,fun name=>?_,numI,?_⟩,fun hc=>absurd hp2 hc⟩
  ·by_cases hne:t.var=name
   ·subst hne
    rw [wA]
    have h0:tg ss t.var=none:=by
     unfold tg
     rw [List.find?_eq_none]
     intro s hs;simp [hno s hs]
    unfold vT
    rw [uw,hf]
    have:(vOf l t).name=t.var:=rfl
    rw [if_pos this]
    simp only [decide_true,if_true]
    unfold tg at h0 ⊢
    rw [uw,h0]
    simp only [decide_true,Bool.true_and,vOf]
    cases t.own <;> rfl
   ·refine lookO _ name hne ?_
    rw [wA]
    exact if_neg hne
  ·show (uy (vOf l t) st.all).map (·.name)=_
   rw [y0,h.names,List.map_append,List.map_cons,List.map_nil,uS]
   rfl
 |some s0=>
  obtain ⟨m0,v0⟩:=hsome s0 hf
  have hlk:s8 st.all t.var=some ⟨t.var,tL s0.kind,sV l s0,((tg ss t.var).map (·.n)).getD 0,((tg ss t.var).map (·.m)).getD 0⟩:=by rw [hl];unfold vT;rw [hf]
  rw [hlk]
  dsimp only
  have key:PW l (ss++[t])↔(tL s0.kind=tL t.kind∧sV l s0=sV l t)∧(t.own=true→ ∀s1,tg ss t.var=some s1→s1.n=t.n∧s1.m=t.m):=by
   rw [Bt]
   constructor
   ·rintro ⟨_,ha⟩
    have h0:=tU.1 (ha s0 m0 v0)
    exact ⟨⟨h0.2.2,h0.2.1⟩,fun ho s1 h1=>by
     obtain ⟨k1,k2,k3⟩:=hown s1 h1
     exact (tU.1 (ha s1 k1 k2)).1 k3 ho⟩
   ·rintro ⟨⟨f1,f2⟩,f3⟩
    refine ⟨h.pw,fun s hs e=>tU.2 ⟨fun hso hto=>?_,?_,?_⟩⟩
    ·have:(tg ss t.var).isSome=true:=by
      unfold tg
      rw [List.find?_isSome]
      exact ⟨s,hs,by simp [e,hso]⟩
     obtain ⟨s1,h1⟩:=Option.isSome_iff_exists.1 this
     obtain ⟨k1,k2,k3⟩:=hown s1 h1
     have h4:=(tU.1 (hpw s hs s1 k1 (e.trans k2.symm))).1 hso k3
     have h5:=f3 hto s1 h1
     exact ⟨h4.1.trans h5.1,h4.2.trans h5.2⟩
    ·exact (tU.1 (hpw s hs s0 m0 (e.trans v0.symm))).2.1.trans f2
    ·exact (tU.1 (hpw s hs s0 m0 (e.trans v0.symm))).2.2.trans f1
  have cond:((tL s0.kind !=tL t.kind)|| !(sV l s0==sV l t)||(t.own&&((tT st.num t.var).getD false)&&((((tg ss t.var).map (·.n)).getD 0 !=t.n)||(((tg ss t.var).map (·.m)).getD 0 !=t.m))))=true↔ ¬PW l (ss++[t]):=by
   rw [key,hn]
   cases ho:tg ss t.var with
   |none=>simp;exact ⟨fun h=>by rcases h with h|h <;> simp [h],fun h=>by
     by_cases e:tL s0.kind=tL t.kind
     ·exact Or.inr (h e)
     ·exact Or.inl e⟩
   |some s1=>
    simp only [Option.map_some,Option.getD_some,Option.isSome_some,Bool.and_true,Bool.or_eq_true,Bool.and_eq_true,bne_iff_ne,ne_eq,Bool.not_eq_true',beq_eq_false_iff_ne,Option.some.injEq]
    constructor
    ·rintro ((h|h)|⟨h1,h2⟩) ⟨⟨k1,k2⟩,k3⟩
     ·exact h k1
     ·exact h k2
     ·have:=k3 h1 s1 rfl
      rcases h2 with h2|h2
      ·exact h2 this.1
      ·exact h2 this.2
    ·intro hn'
     by_cases e1:tL s0.kind=tL t.kind
     ·by_cases e2:sV l s0=sV l t
      ·by_cases e3:t.own=true
       ·refine Or.inr ⟨e3,?_⟩
        by_cases e4:s1.n=t.n
        ·refine Or.inr fun e5=>hn' ⟨⟨e1,e2⟩,fun _ s h=>by rw [← h];exact ⟨e4,e5⟩⟩
        ·exact Or.inl e4
       ·exact absurd ⟨⟨e1,e2⟩,fun h=>absurd h e3⟩ hn'
      ·exact Or.inl (Or.inr e2)
     ·exact Or.inl (Or.inl e1)
  constructor
  ·intro hp
   rw [if_neg (fun hc=>cond.1 hc hp)]
   obtain ⟨⟨f1,f2⟩,f3⟩:=key.1 hp
   refine ⟨_,rfl,hp,fun name=>?_,numI,?_⟩
   ·by_cases hne:t.var=name
    ·subst hne
     have hs:vT l (ss++[t]) t.var=some ⟨t.var,tL s0.kind,sV l s0,((tg (ss++[t]) t.var).map (·.n)).getD 0,((tg (ss++[t]) t.var).map (·.m)).getD 0⟩:=by
      unfold vT
      rw [uw,hf]
     have ho:tg (ss++[t]) t.var=match tg ss t.var with
       |some s=>some s
       |none=>if t.own=true then some t else none:=by
      unfold tg
      rw [uw]
      simp only [decide_true,Bool.true_and]
      cases ss.find? fun s=>decide (s.var=t.var)&&s.own <;> rfl
     rw [hs,ho]
     show s8 (if t.own=true then uy (vOf l t) st.all else st.all) t.var=_
     cases hto:t.own with
     |false=>
      simp only [Bool.false_eq_true,if_false]
      rw [hlk]
      cases tg ss t.var <;> rfl
     |true=>
      simp only [if_true]
      rw [wA,if_pos (show (vOf l t).name=t.var from rfl)]
      unfold vOf
      rw [hto,f1,f2]
      cases ho2:tg ss t.var with
      |none=>rfl
      |some s1=>
       obtain ⟨k1,k2⟩:=f3 hto s1 ho2
       simp [k1,k2]
    ·refine lookO _ name hne ?_
     show s8 (if t.own=true then uy (vOf l t) st.all else st.all) name=_
     cases t.own with
     |false=>rfl
     |true=>
      simp only [if_true]
      rw [wA]
      exact if_neg hne
   ·show (if t.own=true then uy (vOf l t) st.all else st.all).map (·.name)=_
    have hc:t.var∈once [] (ss.map (·.var)):=by
     rw [vk]
     exact Or.inr (List.mem_map.2 ⟨s0,m0,v0⟩)
    rw [List.map_append,List.map_cons,List.map_nil,uS,if_pos hc]
    cases t.own with
    |false=>exact h.names
    |true=>
     simp only [if_true]
     rw [y0,h.names]
     exact if_pos (show (vOf l t).name∈_ from hc)
  ·intro hp
   rw [if_pos (cond.2 hp)]
theorem zf {l:List Fd}: ∀{ts ss:List RS} {st:VS},xh l ss st→(PW l (ss++ts)→ ∃st',tV l st ts=some st'∧xh l (ss++ts) st')∧(¬ PW l (ss++ts)→tV l st ts=none)
 |[],ss,st,h=>by
  rw [List.append_nil]
  exact ⟨fun _=>⟨st,rfl,h⟩,fun hn=>absurd h.pw hn⟩
 |t::ts,ss,st,h=>by
  have hs:=h.step t
  have e:ss++t::ts=(ss++[t])++ts:=by simp
  rw [e]
  by_cases hp:PW l (ss++[t])
  ·obtain ⟨st',h1,h2⟩:=hs.1 hp
   have:=zf (ts:=ts) h2
   unfold tV
   rw [h1,Option.bind_some]
   exact this
  ·have hnp: ¬PW l ((ss++[t])++ts):=fun hq=>hp (List.Pairwise.sublist (List.sublist_append_left _ _) hq)
   refine ⟨fun hq=>absurd hq hnp,fun _=>?_⟩
   unfold tV
   rw [hs.2 hp];rfl
theorem xh.start {l:List Fd}:xh l [] ⟨[],[]⟩:=⟨List.Pairwise.nil,fun _=>rfl,fun _=>rfl,rfl⟩
def ti (ss:List RS):List RS:=ss.filter fun s=>s.kind !=0
end Go.TY
end
section
namespace Go.TY
open Go Go.DL Go.MM Go.Proofs
structure RG where
 pol:RO
 st:RS
def sL (g:RG):List T:=sA g.pol++sZ g.st
def tJ (g:RG):T:=.agg (sL g)
theorem sO (g:RG):(sL g).length=15:=by simp [sL,sE,sZ]
structure SmS (B:Nat) (s:RS):Prop where
 var:s.var.size<B
 field:s.field.size<B
 keys: ∀k∈s.key,k.size<B
 len:s.key.length<B
theorem SmS.mono {B B':Nat} {s:RS} (h:SmS B s) (hb:B≤B'):SmS B' s:=⟨by have:=h.var;omega,by have:=h.field;omega,fun k hk=>by have:=h.keys k hk;omega,by have:=h.len;omega⟩
structure SmG (B:Nat) (g:RG):Prop where
 st:SmS B g.st
 wt:g.pol.wt≤B
 names:B≤2^61→tX g.pol
end Go.TY
end
section
namespace Go.TY
open Go Go.DL Go.MM Go.Proofs Go.RowKit
def typesT:List TypeId:=[22,88,25,23,28,26,31,29,61,56,66,46,9,3,4,5]
theorem typesT_ok:eP Tryz.prog typesT=true:=by kernel_rfl
theorem aPol {us:List T} (h:cE Tryz.prog 28 us) (hb:aV us≤1048576): ∃r,Les (mkT Tryz.prog 28 us) (.agg (sA r))∧r.wt≤1048576∧tX r:=by
 obtain ⟨r,r1,r2,r3⟩:=(DY h).1 rfl
 exact ⟨r,by rw [GW];exact Les.agg r1,by omega,r3 (by omega)⟩
theorem aFields {us:List T} (h:cE Tryz.prog 22 us) (hb:aV us≤1048576): ∃l,Les (mkT Tryz.prog 22 us) (vV l)∧l.length<2^60∧ ∀f∈l,f.name.size<2^62:=by
 obtain ⟨l,h1,h2,h3⟩:=DX h
 exact ⟨l,h1,by omega,fun f hf=>by have:=h3 f hf;omega⟩
def CW {H:Type} (ss:List ByteArray):DataW H:=.agg (ss.map fun s=>.lit (.string s.data.toList))
theorem zK {H:Type} {enc:TypeId×Value→H} {P:Program} {w:World} {base:Nat} {sp:Nat→Bool} {held:Bool} {fuel:Nat} {t e:TypeId} {n:Nat} {cs:List Value} {ss:List ByteArray} {p:List MemPlace}
  (ht:P.underlying t=some (.array n e)) (he:P.underlying e=some .string) (hce:P.cellsOf e=1) (hct:P.cellsOf t=n)
  (h:DataW.trod enc P w base sp held fuel t cs=some (CW ss,p)):cs=ss.map fun z=>Value.string z:=by
 cases fuel with
 |zero=>simp [DataW.trod] at h
 |succ fuel=>
  simp only [DataW.trod,ht,hce,hct,Nat.mul_one] at h
  split at h
  ·rename_i hl
   obtain ⟨xs,hm,hx⟩:=Option.map_eq_some_iff.1 h
   have hxs:xs.map (·.1)=ss.map fun s=>(DataW.lit (.string s.data.toList):DataW H):=by
    have:=congrArg Prod.fst hx
    simpa [CW] using this
   have hxl:xs.length=n:=by simpa using Lib.mapM_length hm
   have hzl:ss.length=n:=by
    have:=congrArg List.length hxs
    simp at this
    omega
   apply List.ext_getElem?
   intro i
   by_cases hi:i<n
   ·obtain ⟨b,hb,hf⟩:=Lib.mapM_at hm i i (by simp [hi])
    obtain ⟨z,hc,rfl,_⟩:=DataW.trod_string he hf
    have h1:cs[i]? =some (.string z):=by
     have:=congrArg (·[0]?) hc
     simpa [List.getElem?_take,List.getElem?_drop] using this
    have h2:(xs.map (·.1))[i]? =some (DataW.lit (.string z.data.toList):DataW H):=by simp [hb]
    rw [hxs] at h2
    simp only [List.getElem?_map,Option.map_eq_some_iff,DataW.lit.injEq,Lit.string.injEq] at h2
    obtain ⟨z',hz',e⟩:=h2
    have e:z'=z:=ByteArray.ext (Array.ext' e)
    simp [h1,hz',e]
   ·rw [List.getElem?_eq_none (by omega),List.getElem?_eq_none (by simp;omega)]
  ·cases h
theorem Bb {P:Program} {W:World} {name:String} {ss:List ByteArray} {rest:List (String×DataW Unit)} {g:Nat} {t e:TypeId} {n:Nat}
  (hg:P.globalNamed name=some g) (hty:(P.globals[g]?).map (·.type)=some t) (ht:P.underlying t=some (.array n e)) (he:P.underlying e=some .string) (hce:P.cellsOf e=1) (hct:P.cellsOf t=n)
  (h:laidMet P ((name,CW ss)::rest) W):W.var? P name=some (ss.map fun z=>Value.string z).toArray:=by
 obtain ⟨ps,⟨g',t',cs,fuel,p,q,hg',ht',hvar,hd,_,_⟩,_⟩:=h
 obtain rfl:=Option.some.inj (hg.symm.trans hg')
 obtain rfl:=Option.some.inj (hty.symm.trans ht')
 rw [hvar, ←zK ht he hce hct hd]
theorem By:Tryz.prog.globalNamed "interlace/token.words" =some 0:=by kernel_rfl
theorem Bj:(Tryz.prog.globals[0]?).map (·.type)=some 185:=by kernel_rfl
theorem Ei:Tryz.prog.cellsOf 185=49:=by kernel_rfl
theorem globOk_words {W:World} (h:laidMet Tryz.prog [("interlace/token.words",CW wordsG)] W):bM (fun b _=>b<W.heap.size) W:=fun g cs hg=>by
 match g,hg with
 |0,hg=>
  cases hg
  have hv:=Bb By Bj Tryz.underlying185 Tryz.underlying9 yL Ei h
  have hc: ∀i,i<wordsG.length→W.cell? ⟨0,i,none⟩=some (.string (wordsG.getD i e0)):=fun i hi=>by
   have:=World.var?_cell By hv i
   simpa [List.getD,hi] using this
  have lt:0<W.heap.size:=by
   have:=hc 0 (by decide)
   unfold World.cell? at this
   rcases Nat.lt_or_ge 0 W.heap.size with h|h
   ·exact h
   ·simp [Array.getElem?_eq_none h] at this
  refine ⟨lt,fun i=>.string (wordsG.getD i e0),fun i t ht=>?_⟩
  rw [List.getElem?_map,Option.map_eq_some_iff] at ht
  obtain ⟨z,hz,rfl⟩:=ht
  have hi:=(gsZ hz).1
  have e:wordsG.getD i e0=z:=by simp [List.getD,hz]
  exact ⟨hc i hi,lt,rfl,rfl,by show Rep _ _ (.string (wordsG.getD i e0)) _;rw [e];exact .str z⟩
end Go.TY
end
section
namespace Go.TY
open Go Go.DL Go.MM
mutual
def tc:RP→List RP
 |.mk k f n m a=>.mk k f n m a::sU a
def sU:List RP→List RP
 |[]=>[]
 |r::rs=>tc r++sU rs
end
theorem wX (r:RP):tc r=r::sU r.args:=by cases r;simp [tc,RP.args]
theorem xP: ∀(a b:List RP),sU (a++b)=sU a++sU b
 |[],_=>by simp [sU]
 |r::a,b=>by rw [List.cons_append,sU,sU,xP a b,List.append_assoc]
theorem DW (r:RP):sU [r]=tc r:=by simp [sU]
theorem yZ {l:List RP} {j:Nat} (h:j<l.length):sU (l.take (j+1))=sU (l.take j)++tc l[j]:=by
 rw [List.take_succ_eq_append_getElem h,xP,DW]
theorem DV {l:List RP} {r:RP} (h:r∈l):(tc r).length≤(sU l).length:=by
 induction l with
 |nil=>simp at h
 |cons x l ih=>
  rw [sU,List.length_append]
  rcases List.mem_cons.1 h with rfl|h
  ·omega
  ·have:=ih h;omega
theorem DT {l:List RP} {j i:Nat} {x:RP} (h:j<l.length) (hx:(tc l[j])[i]? =some x):(sU l)[(sU (l.take j)).length+i]? =some x:=by
 have e:sU l=sU (l.take j)++(tc l[j]++sU (l.drop (j+1))):=by
  conv=>lhs;rw [← List.take_append_drop (j+1) l]
  rw [xP,yZ h,List.append_assoc]
 have hi:=(gsZ hx).1
 rw [e,List.getElem?_append_right (by omega),Nat.add_sub_cancel_left,List.getElem?_append_left hi]
 exact hx
theorem DU {l:List RP} {j:Nat} (h:j<l.length):(tc l[j]).length≤(sU l).length:=DV (List.getElem_mem h)
theorem Av: ∀(l:List RP),l.length≤(sU l).length
 |[]=>Nat.zero_le _
 |r::l=>by
  have:=Av l
  rw [sU,wX,List.cons_append,List.length_cons,List.length_cons,List.length_append];omega
def sS:RO→List T
 |.mk k p f n a=>[I k,I p.kind,.str p.field,I p.n,I p.m,.slice 5 (p.args.map sN),.str f,I n,.slice 9 (a.map s4)]
theorem uv (r:RO):sS r=sA r:=by
 obtain ⟨k,⟨pk,pf,pn,pm,pa⟩,f,n,a⟩:=r;rfl
abbrev uq (r:RO):T:=s4 r
theorem sM (r:RO):uq r= .agg (sS r):=by rw [uv,uq,sK]
theorem tu (r:RO):(sS r).length=9:=by cases r;rfl
mutual
def sD:RO→List RO
 |.mk k p f n a=>.mk k p f n a::sP a
def sP:List RO→List RO
 |[]=>[]
 |r::rs=>sD r++sP rs
end
theorem wW (r:RO):sD r=r::sP r.args:=by cases r;simp [sD,RO.args]
theorem xO: ∀(a b:List RO),sP (a++b)=sP a++sP b
 |[],_=>by simp [sP]
 |r::a,b=>by rw [List.cons_append,sP,sP,xO a b,List.append_assoc]
theorem DS (r:RO):sP [r]=sD r:=by simp [sP]
theorem yY {l:List RO} {j:Nat} (h:j<l.length):sP (l.take (j+1))=sP (l.take j)++sD l[j]:=by
 rw [List.take_succ_eq_append_getElem h,xO,DS]
theorem DR {l:List RO} {r:RO} (h:r∈l):(sD r).length≤(sP l).length:=by
 induction l with
 |nil=>simp at h
 |cons x l ih=>
  rw [sP,List.length_append]
  rcases List.mem_cons.1 h with rfl|h
  ·omega
  ·have:=ih h;omega
theorem DP {l:List RO} {j i:Nat} {x:RO} (h:j<l.length) (hx:(sD l[j])[i]? =some x):(sP l)[(sP (l.take j)).length+i]? =some x:=by
 have e:sP l=sP (l.take j)++(sD l[j]++sP (l.drop (j+1))):=by
  conv=>lhs;rw [← List.take_append_drop (j+1) l]
  rw [xO,yY h,List.append_assoc]
 have hi:=(gsZ hx).1
 rw [e,List.getElem?_append_right (by omega),Nat.add_sub_cancel_left,List.getElem?_append_left hi]
 exact hx
theorem DQ {l:List RO} {j:Nat} (h:j<l.length):(sD l[j]).length≤(sP l).length:=DR (List.getElem_mem h)
theorem Au: ∀(l:List RO),l.length≤(sP l).length
 |[]=>Nat.zero_le _
 |r::l=>by
  have:=Au l
  rw [sP,wW,List.cons_append,List.length_cons,List.length_cons,List.length_append];omega
end Go.TY
end
noncomputable section
namespace Go.TY
open Go Go.DL Go.Proofs
theorem mx:Tryz.prog.follows .mixedOrders=true:=by kernel_rfl
def zj:Code:=(Tryz.f145.body).getD .skip
theorem Ip:Tryz.f145.body=some zj:=by kernel_rfl
def AA:Code:=ir [0] zj
def Dg:aY:=(.region [oo 2 (.box 1 (tm 0))] [])
theorem G2:bD Tryz.prog 8 [] AA=some Dg:=by kernel_rfl
theorem GA [Glb] {st:St} {Q:aB→St→Prop} (hw:wpC Tryz.prog Dg st Q):aI Tryz.prog 8 AA st Q:=aI.low mx G2 (by kernel_rfl) (by kernel_rfl) hw
def AG:Code:=ir [1,0] zj
def Dl:aY:=(.region [oo 3 (.alloc [.nilfn])] [])
theorem G7:bD Tryz.prog 8 [] AG=some Dl:=by kernel_rfl
theorem GG [Glb] {st:St} {Q:aB→St→Prop} (hw:wpC Tryz.prog Dl st Q):aI Tryz.prog 8 AG st Q:=aI.low mx G7 (by kernel_rfl) (by kernel_rfl) hw
def AJ:Code:=ir [1,1,0] zj
def Dr:aY:=(.region [oo 4 (.mkfn 146 [(tm 2),(tm 3)]),o0 (.store 1 (tm 3) (tm 4))] [])
theorem Hb:bD Tryz.prog 8 [] AJ=some Dr:=by kernel_rfl
theorem GJ [Glb] {st:St} {Q:aB→St→Prop} (hw:wpC Tryz.prog Dr st Q):aI Tryz.prog 8 AJ st Q:=aI.low mx Hb (by kernel_rfl) (by kernel_rfl) hw
def y9:Code:=ir [1,1,1] zj
theorem Gl:y9= .region 3 (sy y9) false:=by kernel_rfl
theorem HP [Glb] {st:St} {Q:aB→St→Prop} (hw:aA Tryz.prog [⟨some 5,.load 1 false (.tmp 3),none,[]⟩,⟨some 6,.load 5 true (.tmp 1),none,[]⟩] st fun s0=>gR Tryz.prog (ev s0.sl (.tmp 5)) (List.map (ev s0.sl) [(.tmp 6)]) (some 7) s0 fun s1=>aA Tryz.prog [] s1 (Q .normal)):aI Tryz.prog 8 y9 st Q:=by
 rw [Gl]
 exact aI.rB (k1:=[0,1]) (k:=2) (k2:=[]) (by kernel_rfl) (by kernel_rfl) (by kernel_rfl) (by kernel_rfl) (by kernel_rfl) (X:=.tmp 5) (az:= #[.tmp 6]) (ats:= #[25]) (d:=7) (by kernel_rfl) rfl rfl (by decide) hw
theorem K4:zj=(.seq AA (.seq AG (.seq AJ y9))):=by kernel_rfl
def vh:Code:=(Tryz.f146.body).getD .skip
theorem Iq:Tryz.f146.body=some vh:=by kernel_rfl
def AB:Code:=ir [0] vh
def Dh:aY:=(.region [oo 3 (.box 5 (tm 0)),oo 4 (.mov kF)] [])
theorem G3:bD Tryz.prog 23 [] AB=some Dh:=by kernel_rfl
theorem GB [Glb] {st:St} {Q:aB→St→Prop} (hw:wpC Tryz.prog Dh st Q):aI Tryz.prog 23 AB st Q:=aI.low mx G3 (by kernel_rfl) (by kernel_rfl) hw
def y7:Code:=ir [1,0,0] vh
theorem Gj:y7= .region 1 (sy y7) false:=by kernel_rfl
theorem HN [Glb] {st:St} {Q:aB→St→Prop} (hw:aA Tryz.prog [⟨some 7,.load 1 false (.tmp 1),none,[]⟩,⟨some 8,.load 5 true (.tmp 3),none,[]⟩] st fun s0=>gR Tryz.prog (ev s0.sl (.tmp 7)) (List.map (ev s0.sl) [(.tmp 8)]) (some 9) s0 fun s1=>aA Tryz.prog [⟨some 10,.not (.tmp 9),none,[]⟩] s1 (Q .normal)):aI Tryz.prog 23 y7 st Q:=by
 rw [Gj]
 exact aI.rB (k1:=[0,1]) (k:=2) (k2:=[3]) (by kernel_rfl) (by kernel_rfl) (by kernel_rfl) (by kernel_rfl) (by kernel_rfl) (X:=.tmp 7) (az:= #[.tmp 8]) (ats:= #[25]) (d:=9) (by kernel_rfl) rfl rfl (by decide) hw
def AK:Code:=ir [1,0,1] vh
def Dt:aY:=(.cond (tm 10) (.seq (.region [oo 4 (.mov kF)] []) .ret) .skip)
theorem Hc:bD Tryz.prog 23 [] AK=some Dt:=by kernel_rfl
theorem C3 [Glb] {st:St} {Q:aB→St→Prop} (hw:wpC Tryz.prog Dt st Q):aI Tryz.prog 23 AK st Q:=aI.low mx Hc (by kernel_rfl) (by kernel_rfl) hw
def AM:Code:=ir [1,1,0,0] vh
def Dw:aY:=(.region [fa 11 4 3,ld 12 11,ln 13 12,oo 14 (.mov (Kc 0))] [])
theorem Hf:bD Tryz.prog 23 [] AM=some Dw:=by kernel_rfl
theorem GM [Glb] {st:St} {Q:aB→St→Prop} (hw:wpC Tryz.prog Dw st Q):aI Tryz.prog 23 AM st Q:=aI.low mx Hf (by kernel_rfl) (by kernel_rfl) hw
def AO:Code:=ir [1,1,0,1,0,0,0] vh
def Dz:aY:=(.region [oo 15 (.bin .lss (tm 14) (tm 13))] [])
theorem Hi:bD Tryz.prog 23 [] AO=some Dz:=by kernel_rfl
theorem GP [Glb] {st:St} {Q:aB→St→Prop} (hw:wpC Tryz.prog Dz st Q):aI Tryz.prog 23 AO st Q:=aI.low mx Hi (by kernel_rfl) (by kernel_rfl) hw
def AQ:Code:=ir [1,1,0,1,0,0,1,0] vh
def DC:aY:=(.cond (tm 15) .skip (.exit 0))
theorem Hl:bD Tryz.prog 23 [] AQ=some DC:=by kernel_rfl
theorem C5 [Glb] {st:St} {Q:aB→St→Prop} (hw:wpC Tryz.prog DC st Q):aI Tryz.prog 23 AQ st Q:=aI.low mx Hl (by kernel_rfl) (by kernel_rfl) hw
def AS:Code:=ir [1,1,0,1,0,0,1,1,0,0,0] vh
def DE:aY:=(.region [ix 16 5 12 14,lA 17 5 16,⟨some 6,.alloc [Z0,S0,Z0,Z0,.nil],none,[]⟩,o0 (.store 5 (tm 6) (tm 17))] [])
theorem Hn:bD Tryz.prog 23 [] AS=some DE:=by kernel_rfl
theorem GS [Glb] {st:St} {Q:aB→St→Prop} (hw:wpC Tryz.prog DE st Q):aI Tryz.prog 23 AS st Q:=aI.low mx Hn (by kernel_rfl) (by kernel_rfl) hw
def zb:Code:=ir [1,1,0,1,0,0,1,1,0,0,1,0] vh
theorem Gp:zb= .region 6 (sy zb) false:=by kernel_rfl
theorem HS [Glb] {st:St} {Q:aB→St→Prop} (hw:aA Tryz.prog [⟨some 18,.load 1 false (.tmp 2),none,[]⟩,⟨some 19,.load 5 true (.tmp 6),none,[]⟩] st fun s0=>gR Tryz.prog (ev s0.sl (.tmp 18)) (List.map (ev s0.sl) [(.tmp 19)]) (some 20) s0 fun s1=>aA Tryz.prog [⟨some 21,.not (.tmp 20),none,[]⟩] s1 (Q .normal)):aI Tryz.prog 23 zb st Q:=by
 rw [Gp]
 exact aI.rB (k1:=[0,1]) (k:=2) (k2:=[3]) (by kernel_rfl) (by kernel_rfl) (by kernel_rfl) (by kernel_rfl) (by kernel_rfl) (X:=.tmp 18) (az:= #[.tmp 19]) (ats:= #[25]) (d:=20) (by kernel_rfl) rfl rfl (by decide) hw
def AV:Code:=ir [1,1,0,1,0,0,1,1,0,0,1,1] vh
def DH:aY:=(.cond (tm 21) (.seq (.region [oo 4 (.mov kF)] []) .ret) .skip)
theorem Hq:bD Tryz.prog 23 [] AV=some DH:=by kernel_rfl
theorem C8 [Glb] {st:St} {Q:aB→St→Prop} (hw:wpC Tryz.prog DH st Q):aI Tryz.prog 23 AV st Q:=aI.low mx Hq (by kernel_rfl) (by kernel_rfl) hw
def AX:Code:=ir [1,1,0,1,0,0,1,1,1] vh
def DK:aY:=(.region [oo 22 (.bin .add (tm 14) (Kc 1)),mv 14 22] [])
theorem Hs:bD Tryz.prog 23 [] AX=some DK:=by kernel_rfl
theorem GV [Glb] {st:St} {Q:aB→St→Prop} (hw:wpC Tryz.prog DK st Q):aI Tryz.prog 23 AX st Q:=aI.low mx Hs (by kernel_rfl) (by kernel_rfl) hw
def zw:Code:=ir [1,1,1] vh
def BF:aY:=(.seq (.region [oo 4 (.mov kT)] []) .ret)
theorem FZ:bD Tryz.prog 23 [] zw=some BF:=by kernel_rfl
theorem FX [Glb] {st:St} {Q:aB→St→Prop} (hw:wpC Tryz.prog BF st Q):aI Tryz.prog 23 zw st Q:=aI.low mx FZ (by kernel_rfl) (by kernel_rfl) hw
theorem K5:vh=(.seq AB (.seq (.seq y7 AK) (.seq (.seq AM (.block 0 (.loop (.seq AO (.seq AQ (.seq (.block 1 (.seq AS (.seq zb AV))) AX)))))) zw))):=by kernel_rfl
def zi:Code:=(Tryz.f116.body).getD .skip
theorem Il:Tryz.f116.body=some zi:=by kernel_rfl
def Ax:Code:=ir [0] zi
def Dc:aY:=(.region [oo 2 (.box 1 (tm 0))] [])
theorem GZ:bD Tryz.prog 8 [] Ax=some Dc:=by kernel_rfl
theorem Gx [Glb] {st:St} {Q:aB→St→Prop} (hw:wpC Tryz.prog Dc st Q):aI Tryz.prog 8 Ax st Q:=aI.low mx GZ (by kernel_rfl) (by kernel_rfl) hw
def AE:Code:=ir [1,0] zi
def Dj:aY:=(.region [oo 3 (.alloc [.nilfn])] [])
theorem G5:bD Tryz.prog 8 [] AE=some Dj:=by kernel_rfl
theorem GD [Glb] {st:St} {Q:aB→St→Prop} (hw:wpC Tryz.prog Dj st Q):aI Tryz.prog 8 AE st Q:=aI.low mx G5 (by kernel_rfl) (by kernel_rfl) hw
def AH:Code:=ir [1,1,0] zi
def Dm:aY:=(.region [oo 4 (.mkfn 117 [(tm 2),(tm 3)]),o0 (.store 1 (tm 3) (tm 4))] [])
theorem G8:bD Tryz.prog 8 [] AH=some Dm:=by kernel_rfl
theorem GH [Glb] {st:St} {Q:aB→St→Prop} (hw:wpC Tryz.prog Dm st Q):aI Tryz.prog 8 AH st Q:=aI.low mx G8 (by kernel_rfl) (by kernel_rfl) hw
def y8:Code:=ir [1,1,1] zi
theorem Gk:y8= .region 3 (sy y8) false:=by kernel_rfl
theorem HO [Glb] {st:St} {Q:aB→St→Prop} (hw:aA Tryz.prog [⟨some 5,.load 1 false (.tmp 3),none,[]⟩,⟨some 6,.load 9 true (.tmp 1),none,[]⟩] st fun s0=>gR Tryz.prog (ev s0.sl (.tmp 5)) (List.map (ev s0.sl) [(.tmp 6)]) (some 7) s0 fun s1=>aA Tryz.prog [] s1 (Q .normal)):aI Tryz.prog 8 y8 st Q:=by
 rw [Gk]
 exact aI.rB (k1:=[0,1]) (k:=2) (k2:=[]) (by kernel_rfl) (by kernel_rfl) (by kernel_rfl) (by kernel_rfl) (by kernel_rfl) (X:=.tmp 5) (az:= #[.tmp 6]) (ats:= #[28]) (d:=7) (by kernel_rfl) rfl rfl (by decide) hw
theorem K1:zi=(.seq Ax (.seq AE (.seq AH y8))):=by kernel_rfl
def vg:Code:=(Tryz.f117.body).getD .skip
theorem Im:Tryz.f117.body=some vg:=by kernel_rfl
def Ay:Code:=ir [0] vg
def De:aY:=(.region [oo 3 (.box 9 (tm 0)),oo 4 (.mov kF)] [])
theorem G0:bD Tryz.prog 23 [] Ay=some De:=by kernel_rfl
theorem Gy [Glb] {st:St} {Q:aB→St→Prop} (hw:wpC Tryz.prog De st Q):aI Tryz.prog 23 Ay st Q:=aI.low mx G0 (by kernel_rfl) (by kernel_rfl) hw
def y6:Code:=ir [1,0,0] vg
theorem Gi:y6= .region 1 (sy y6) false:=by kernel_rfl
theorem HM [Glb] {st:St} {Q:aB→St→Prop} (hw:aA Tryz.prog [⟨some 7,.load 1 false (.tmp 1),none,[]⟩,⟨some 8,.load 9 true (.tmp 3),none,[]⟩] st fun s0=>gR Tryz.prog (ev s0.sl (.tmp 7)) (List.map (ev s0.sl) [(.tmp 8)]) (some 9) s0 fun s1=>aA Tryz.prog [⟨some 10,.not (.tmp 9),none,[]⟩] s1 (Q .normal)):aI Tryz.prog 23 y6 st Q:=by
 rw [Gi]
 exact aI.rB (k1:=[0,1]) (k:=2) (k2:=[3]) (by kernel_rfl) (by kernel_rfl) (by kernel_rfl) (by kernel_rfl) (by kernel_rfl) (X:=.tmp 7) (az:= #[.tmp 8]) (ats:= #[28]) (d:=9) (by kernel_rfl) rfl rfl (by decide) hw
def AI:Code:=ir [1,0,1] vg
def Dp:aY:=(.cond (tm 10) (.seq (.region [oo 4 (.mov kF)] []) .ret) .skip)
theorem G9:bD Tryz.prog 23 [] AI=some Dp:=by kernel_rfl
theorem C2 [Glb] {st:St} {Q:aB→St→Prop} (hw:wpC Tryz.prog Dp st Q):aI Tryz.prog 23 AI st Q:=aI.low mx G9 (by kernel_rfl) (by kernel_rfl) hw
def AL:Code:=ir [1,1,0,0] vg
def Du:aY:=(.region [fa 11 8 3,ld 12 11,ln 13 12,oo 14 (.mov (Kc 0))] [])
theorem Hd:bD Tryz.prog 23 [] AL=some Du:=by kernel_rfl
theorem GK [Glb] {st:St} {Q:aB→St→Prop} (hw:wpC Tryz.prog Du st Q):aI Tryz.prog 23 AL st Q:=aI.low mx Hd (by kernel_rfl) (by kernel_rfl) hw
def AN:Code:=ir [1,1,0,1,0,0,0] vg
def Dx:aY:=(.region [oo 15 (.bin .lss (tm 14) (tm 13))] [])
theorem Hg:bD Tryz.prog 23 [] AN=some Dx:=by kernel_rfl
theorem GN [Glb] {st:St} {Q:aB→St→Prop} (hw:wpC Tryz.prog Dx st Q):aI Tryz.prog 23 AN st Q:=aI.low mx Hg (by kernel_rfl) (by kernel_rfl) hw
def AP:Code:=ir [1,1,0,1,0,0,1,0] vg
def DA:aY:=(.cond (tm 15) .skip (.exit 0))
theorem Hj:bD Tryz.prog 23 [] AP=some DA:=by kernel_rfl
theorem C4 [Glb] {st:St} {Q:aB→St→Prop} (hw:wpC Tryz.prog DA st Q):aI Tryz.prog 23 AP st Q:=aI.low mx Hj (by kernel_rfl) (by kernel_rfl) hw
def AR:Code:=ir [1,1,0,1,0,0,1,1,0,0,0] vg
def DD:aY:=(.region [ix 16 9 12 14,lA 17 9 16,⟨some 6,.alloc [Z0,Z0,S0,Z0,Z0,.nil,S0,Z0,.nil],none,[]⟩,o0 (.store 9 (tm 6) (tm 17))] [])
theorem Hm:bD Tryz.prog 23 [] AR=some DD:=by kernel_rfl
theorem GR [Glb] {st:St} {Q:aB→St→Prop} (hw:wpC Tryz.prog DD st Q):aI Tryz.prog 23 AR st Q:=aI.low mx Hm (by kernel_rfl) (by kernel_rfl) hw
def za:Code:=ir [1,1,0,1,0,0,1,1,0,0,1,0] vg
theorem Gn:za= .region 6 (sy za) false:=by kernel_rfl
theorem HR [Glb] {st:St} {Q:aB→St→Prop} (hw:aA Tryz.prog [⟨some 18,.load 1 false (.tmp 2),none,[]⟩,⟨some 19,.load 9 true (.tmp 6),none,[]⟩] st fun s0=>gR Tryz.prog (ev s0.sl (.tmp 18)) (List.map (ev s0.sl) [(.tmp 19)]) (some 20) s0 fun s1=>aA Tryz.prog [⟨some 21,.not (.tmp 20),none,[]⟩] s1 (Q .normal)):aI Tryz.prog 23 za st Q:=by
 rw [Gn]
 exact aI.rB (k1:=[0,1]) (k:=2) (k2:=[3]) (by kernel_rfl) (by kernel_rfl) (by kernel_rfl) (by kernel_rfl) (by kernel_rfl) (X:=.tmp 18) (az:= #[.tmp 19]) (ats:= #[28]) (d:=20) (by kernel_rfl) rfl rfl (by decide) hw
def AU:Code:=ir [1,1,0,1,0,0,1,1,0,0,1,1] vg
def DG:aY:=(.cond (tm 21) (.seq (.region [oo 4 (.mov kF)] []) .ret) .skip)
theorem Hp:bD Tryz.prog 23 [] AU=some DG:=by kernel_rfl
theorem C7 [Glb] {st:St} {Q:aB→St→Prop} (hw:wpC Tryz.prog DG st Q):aI Tryz.prog 23 AU st Q:=aI.low mx Hp (by kernel_rfl) (by kernel_rfl) hw
def AW:Code:=ir [1,1,0,1,0,0,1,1,1] vg
def DJ:aY:=(.region [oo 22 (.bin .add (tm 14) (Kc 1)),mv 14 22] [])
theorem Hr:bD Tryz.prog 23 [] AW=some DJ:=by kernel_rfl
theorem GU [Glb] {st:St} {Q:aB→St→Prop} (hw:wpC Tryz.prog DJ st Q):aI Tryz.prog 23 AW st Q:=aI.low mx Hr (by kernel_rfl) (by kernel_rfl) hw
def zu:Code:=ir [1,1,1] vg
def BE:aY:=(.seq (.region [oo 4 (.mov kT)] []) .ret)
theorem FY:bD Tryz.prog 23 [] zu=some BE:=by kernel_rfl
theorem FW [Glb] {st:St} {Q:aB→St→Prop} (hw:wpC Tryz.prog BE st Q):aI Tryz.prog 23 zu st Q:=aI.low mx FY (by kernel_rfl) (by kernel_rfl) hw
theorem K2:vg=(.seq Ay (.seq (.seq y6 AI) (.seq (.seq AL (.block 0 (.loop (.seq AN (.seq AP (.seq (.block 1 (.seq AR (.seq za AU))) AW)))))) zu))):=by kernel_rfl
def wG:Code:=(Tryz.f130.body).getD .skip
theorem Io:Tryz.f130.body=some wG:=by kernel_rfl
def Az:Code:=ir [0] wG
def Df:aY:=(.region [oo 2 (.box 1 (tm 0))] [])
theorem G1:bD Tryz.prog 19 [] Az=some Df:=by kernel_rfl
theorem Gz [Glb] {st:St} {Q:aB→St→Prop} (hw:wpC Tryz.prog Df st Q):aI Tryz.prog 19 Az st Q:=aI.low mx G1 (by kernel_rfl) (by kernel_rfl) hw
def AF:Code:=ir [1,0] wG
def Dk:aY:=(.region [lA 5 9 1,oo 6 (.call 73 [tm 5])] [])
theorem G6:bD Tryz.prog 19 [] AF=some Dk:=by kernel_rfl
theorem GF [Glb] {st:St} {Q:aB→St→Prop} (hw:wpC Tryz.prog Dk st Q):aI Tryz.prog 19 AF st Q:=aI.low mx G6 (by kernel_rfl) (by kernel_rfl) hw
def xT:Code:=ir [1,1,0,0] wG
def Dq:aY:=(.region [⟨some 3,.alloc [Z0,Z0,S0,Z0,Z0,.nil,S0,Z0,.nil],none,[]⟩,o0 (.store 9 (tm 3) (tm 7))] [])
theorem Ha:bD Tryz.prog 19 [] xT=some Dq:=by kernel_rfl
theorem GI [Glb] {st:St} {Q:aB→St→Prop} (hw:wpC Tryz.prog Dq st Q):aI Tryz.prog 19 xT st Q:=aI.low mx Ha (by kernel_rfl) (by kernel_rfl) hw
def xU:Code:=ir [1,1,0,1,0,0] wG
def Dv:aY:=(.seq (.region [fa 8 0 3,ld 9 8,oo 10 (.bin .neq (tm 9) (Kc 1))] []) (.cond (tm 10) (.exit 1) .skip))
theorem He:bD Tryz.prog 19 [] xU=some Dv:=by kernel_rfl
theorem GL [Glb] {st:St} {Q:aB→St→Prop} (hw:wpC Tryz.prog Dv st Q):aI Tryz.prog 19 xU st Q:=aI.low mx He (by kernel_rfl) (by kernel_rfl) hw
def xV:Code:=ir [1,1,0,1,0,1,0] wG
def Dy:aY:=(.region [fa 11 1 3,lA 12 5 11,oo 13 (.call 109 [tm 12])] [])
theorem Hh:bD Tryz.prog 19 [] xV=some Dy:=by kernel_rfl
theorem GO [Glb] {st:St} {Q:aB→St→Prop} (hw:wpC Tryz.prog Dy st Q):aI Tryz.prog 19 xV st Q:=aI.low mx Hh (by kernel_rfl) (by kernel_rfl) hw
def wY:Code:=ir [1,1,0,1,0,1,1,0,0] wG
def DB:aY:=(.region [⟨some 4,.alloc [Z0,S0,Z0,Z0,.nil],none,[]⟩,o0 (.store 5 (tm 4) (tm 14))] [])
theorem Hk:bD Tryz.prog 19 [] wY=some DB:=by kernel_rfl
theorem GQ [Glb] {st:St} {Q:aB→St→Prop} (hw:wpC Tryz.prog DB st Q):aI Tryz.prog 19 wY st Q:=aI.low mx Hk (by kernel_rfl) (by kernel_rfl) hw
def wq:Code:=ir [1,1,0,1,0,1,1,0,1,0,0] wG
theorem Gm:wq= .region 6 (sy wq) false:=by kernel_rfl
theorem HQ [Glb] {st:St} {Q:aB→St→Prop} (hw:aA Tryz.prog [⟨some 15,.load 1 false (.tmp 2),none,[]⟩,⟨some 16,.load 5 true (.tmp 4),none,[]⟩] st fun s0=>gR Tryz.prog (ev s0.sl (.tmp 15)) (List.map (ev s0.sl) [(.tmp 16)]) (some 17) s0 fun s1=>aA Tryz.prog [⟨some 18,.not (.tmp 17),none,[]⟩] s1 (Q .normal)):aI Tryz.prog 19 wq st Q:=by
 rw [Gm]
 exact aI.rB (k1:=[0,1]) (k:=2) (k2:=[3]) (by kernel_rfl) (by kernel_rfl) (by kernel_rfl) (by kernel_rfl) (by kernel_rfl) (X:=.tmp 15) (az:= #[.tmp 16]) (ats:= #[25]) (d:=17) (by kernel_rfl) rfl rfl (by decide) hw
def wZ:Code:=ir [1,1,0,1,0,1,1,0,1,0,1] wG
def DF:aY:=(.cond (tm 18) .ret .skip)
theorem Ho:bD Tryz.prog 19 [] wZ=some DF:=by kernel_rfl
theorem C6 [Glb] {st:St} {Q:aB→St→Prop} (hw:wpC Tryz.prog DF st Q):aI Tryz.prog 19 wZ st Q:=aI.low mx Ho (by kernel_rfl) (by kernel_rfl) hw
theorem K3:wG=(.seq Az (.seq AF (.block 0 (.rangeFunc (.tmp 6) #[7] xT (.block 1 (.seq xU (.seq xV (.block 2 (.rangeFunc (.tmp 13) #[14] wY (.block 3 (.seq wq wZ))))))))))):=by kernel_rfl
def b69:Code:=(Tryz.f69.body).getD .skip
theorem KZ:Tryz.f69.body=some b69:=by kernel_rfl
def Ci:Code:=ir [0] b69
def EZ:aY:=(.region [oo 2 (.box 1 (tm 0)),oo 3 (.box 5 (tm 1)),oo 4 (.alloc [Z0])] [])
theorem Jo:bD Tryz.prog 49 [] Ci=some EZ:=by kernel_rfl
theorem II [Glb] {st:St} {Q:aB→St→Prop} (hw:wpC Tryz.prog EZ st Q):aI Tryz.prog 49 Ci st Q:=aI.low mx Jo (by kernel_rfl) (by kernel_rfl) hw
def Co:Code:=ir [1,0,0] b69
def Fb:aY:=(.region [lA 9 5 3,oo 10 (.call 109 [tm 9])] [])
theorem Ju:bD Tryz.prog 49 [] Co=some Fb:=by kernel_rfl
theorem IQ [Glb] {st:St} {Q:aB→St→Prop} (hw:wpC Tryz.prog Fb st Q):aI Tryz.prog 49 Co st Q:=aI.low mx Ju (by kernel_rfl) (by kernel_rfl) hw
def Cu:Code:=ir [1,0,1,0,0] b69
def Fi:aY:=(.region [⟨some 5,.alloc [Z0,S0,Z0,Z0,.nil],none,[]⟩,o0 (.store 5 (tm 5) (tm 11))] [])
theorem JA:bD Tryz.prog 49 [] Cu=some Fi:=by kernel_rfl
theorem IX [Glb] {st:St} {Q:aB→St→Prop} (hw:wpC Tryz.prog Fi st Q):aI Tryz.prog 49 Cu st Q:=aI.low mx JA (by kernel_rfl) (by kernel_rfl) hw
def CA:Code:=ir [1,0,1,0,1] b69
def Fp:aY:=(.block 1 (.seq (.seq (.region [fa 12 1 5,ld 13 12,⟨some 14,.bin .eql (tm 13) (.const S0),none,[]⟩] []) (.cond (tm 14) (.exit 1) .skip)) (.seq (.region [ld 16 2,fa 17 1 5,ld 18 17,oo 19 (.call 74 [(tm 16),(tm 18)]),mv 15 19,oo 20 (.ext (tm 15) 0),oo 21 (.ext (tm 15) 1),⟨some 6,.alloc [S0,Z0,Z0],none,[]⟩,o0 (.store 3 (tm 6) (tm 20)),mv 7 21] []) (.seq (.region [fa 22 2 5,ld 23 22,mv 8 23] []) (.seq (.seq (.region [fa 24 0 5,ld 25 24,oo 26 (.bin .eql (tm 25) (Kc 5))] []) (.cond (tm 26) (.region [fa 27 3 5,ld 28 27,mv 8 28] []) .skip)) (.block 2 (.seq (.region [mv 30 7,oo 31 (.not (tm 30)),mv 29 31] []) (.cond (tm 29) (.seq (.region [o0 (.store 1 (tm 4) (Kc 4))] []) .ret) (.seq (.region [mv 33 8,lA 34 3 6,oo 35 (.call 75 [tm 34]),oo 36 (.bin .gtr (tm 33) (tm 35)),mv 37 36,oF 38 37 (.offA 0 (tm 5)),oF 39 37 (.load 1 false (tm 38)),oF 40 37 (.bin .eql (tm 39) (Kc 4)),mF 41 40 37,oT 42 41 (.offA 3 (tm 5)),oT 43 41 (.load 1 false (tm 42)),oT 44 41 (.offA 2 (tm 6)),oT 45 41 (.load 1 false (tm 44)),oT 46 41 (.bin .gtr (tm 43) (tm 45)),oF 47 37 (.pick (tm 41) (tm 46) kF),oo 48 (.pick (tm 37) kT (tm 47)),mv 32 48] []) (.cond (tm 32) (.seq (.region [o0 (.store 1 (tm 4) (Kc 1))] []) .ret) .skip))))))))))
theorem JG:bD Tryz.prog 49 [] CA=some Fp:=by kernel_rfl
theorem I3 [Glb] {st:St} {Q:aB→St→Prop} (hw:wpC Tryz.prog Fp st Q):aI Tryz.prog 49 CA st Q:=aI.low mx JG (by kernel_rfl) (by kernel_rfl) hw
def CG:Code:=ir [1,1] b69
def Fw:aY:=(.seq (.region [o0 (.store 1 (tm 4) (Kc 0))] []) .ret)
theorem JM:bD Tryz.prog 49 [] CG=some Fw:=by kernel_rfl
theorem I8 [Glb] {st:St} {Q:aB→St→Prop} (hw:wpC Tryz.prog Fw st Q):aI Tryz.prog 49 CG st Q:=aI.low mx JM (by kernel_rfl) (by kernel_rfl) hw
theorem k69:b69=(.seq Ci (.seq (.seq Co (.block 0 (.rangeFunc (.tmp 10) #[11] Cu CA))) CG)):=by kernel_rfl
def b17:Code:=(Tryz.f17.body).getD .skip
theorem KU:Tryz.f17.body=some b17:=by kernel_rfl
def Cd:Code:=ir [0] b17
def EU:aY:=(.region [oo 2 (.box 1 (tm 0)),oo 3 (.box 9 (tm 1)),oo 4 (.alloc [Z0])] [])
theorem Jj:bD Tryz.prog 47 [] Cd=some EU:=by kernel_rfl
theorem IC [Glb] {st:St} {Q:aB→St→Prop} (hw:wpC Tryz.prog EU st Q):aI Tryz.prog 47 Cd st Q:=aI.low mx Jj (by kernel_rfl) (by kernel_rfl) hw
def Cj:Code:=ir [1,0] b17
def E0:aY:=(.seq (.region [lA 10 9 3,oo 11 (.call 72 [tm 10]),mv 5 11] []) (.seq (.region [mv 12 5,oo 13 (.bin .neq (tm 12) (Kc 0))] []) (.cond (tm 13) (.seq (.region [mv 14 5,o0 (.store 1 (tm 4) (tm 14))] []) .ret) .skip)))
theorem Jp:bD Tryz.prog 47 [] Cj=some E0:=by kernel_rfl
theorem IJ [Glb] {st:St} {Q:aB→St→Prop} (hw:wpC Tryz.prog E0 st Q):aI Tryz.prog 47 Cj st Q:=aI.low mx Jp (by kernel_rfl) (by kernel_rfl) hw
def Cp:Code:=ir [1,1,0,0] b17
def Fc:aY:=(.region [lA 15 9 3,oo 16 (.call 73 [tm 15])] [])
theorem Jv:bD Tryz.prog 47 [] Cp=some Fc:=by kernel_rfl
theorem IS [Glb] {st:St} {Q:aB→St→Prop} (hw:wpC Tryz.prog Fc st Q):aI Tryz.prog 47 Cp st Q:=aI.low mx Jv (by kernel_rfl) (by kernel_rfl) hw
def Cv:Code:=ir [1,1,0,1,0,0] b17
def Fj:aY:=(.region [⟨some 6,.alloc [Z0,Z0,S0,Z0,Z0,.nil,S0,Z0,.nil],none,[]⟩,o0 (.store 9 (tm 6) (tm 17))] [])
theorem JB:bD Tryz.prog 47 [] Cv=some Fj:=by kernel_rfl
theorem IY [Glb] {st:St} {Q:aB→St→Prop} (hw:wpC Tryz.prog Fj st Q):aI Tryz.prog 47 Cv st Q:=aI.low mx JB (by kernel_rfl) (by kernel_rfl) hw
def CB:Code:=ir [1,1,0,1,0,1] b17
def Fq:aY:=(.block 1 (.seq (.region [fa 18 0 6,ld 19 18] []) (.block 2 (.seq (.region [oo 21 (.bin .eql (tm 19) (Kc 1)),mv 20 21] []) (.cond (tm 20) (.seq (.region [ld 22 2,fa 23 1 6,lA 24 5 23,oo 25 (.call 69 [(tm 22),(tm 24)]),mv 7 25] []) (.seq (.region [mv 26 7,oo 27 (.bin .neq (tm 26) (Kc 0))] []) (.cond (tm 27) (.seq (.region [mv 28 7,o0 (.store 1 (tm 4) (tm 28))] []) .ret) .skip))) (.seq (.region [oo 30 (.bin .eql (tm 19) (Kc 2)),mv 29 30] []) (.cond (tm 29) (.seq (.region [ld 32 2,fa 33 6 6,ld 34 33,oo 35 (.call 74 [(tm 32),(tm 34)]),mv 31 35,oo 36 (.ext (tm 31) 0),oo 37 (.ext (tm 31) 1),⟨some 8,.alloc [S0,Z0,Z0],none,[]⟩,o0 (.store 3 (tm 8) (tm 36)),mv 9 37] []) (.block 3 (.seq (.region [mv 39 9,oo 40 (.not (tm 39)),mv 38 40] []) (.cond (tm 38) (.seq (.region [o0 (.store 1 (tm 4) (Kc 4))] []) .ret) (.seq (.region [fa 42 7 6,ld 43 42,lA 44 3 8,oo 45 (.call 75 [tm 44]),oo 46 (.bin .gtr (tm 43) (tm 45)),mv 41 46] []) (.cond (tm 41) (.seq (.region [o0 (.store 1 (tm 4) (Kc 1))] []) .ret) .skip)))))) .skip)))))))
theorem JH:bD Tryz.prog 47 [] CB=some Fq:=by kernel_rfl
theorem I4 [Glb] {st:St} {Q:aB→St→Prop} (hw:wpC Tryz.prog Fq st Q):aI Tryz.prog 47 CB st Q:=aI.low mx JH (by kernel_rfl) (by kernel_rfl) hw
def CH:Code:=ir [1,1,1] b17
def Fx:aY:=(.seq (.region [o0 (.store 1 (tm 4) (Kc 0))] []) .ret)
theorem JN:bD Tryz.prog 47 [] CH=some Fx:=by kernel_rfl
theorem I9 [Glb] {st:St} {Q:aB→St→Prop} (hw:wpC Tryz.prog Fx st Q):aI Tryz.prog 47 CH st Q:=aI.low mx JN (by kernel_rfl) (by kernel_rfl) hw
theorem k17:b17=(.seq Cd (.seq Cj (.seq (.seq Cp (.block 0 (.rangeFunc (.tmp 16) #[17] Cv CB))) CH))):=by kernel_rfl
def b23:Code:=(Tryz.f23.body).getD .skip
theorem KV:Tryz.f23.body=some b23:=by kernel_rfl
def Ce:Code:=ir [0] b23
def EV:aY:=(.region [oo 1 (.box 9 (tm 0)),oo 2 (.mov (.const .nil))] [])
theorem Jk:bD Tryz.prog 18 [] Ce=some EV:=by kernel_rfl
theorem ID [Glb] {st:St} {Q:aB→St→Prop} (hw:wpC Tryz.prog EV st Q):aI Tryz.prog 18 Ce st Q:=aI.low mx Jk (by kernel_rfl) (by kernel_rfl) hw
def Ck:Code:=ir [1,0] b23
def E7:aY:=(.region [oo 5 (.mkmap false [.str]),oo 3 (.alloc [.nilmap]),o0 (.store 1 (tm 3) (tm 5))] [])
theorem Jq:bD Tryz.prog 18 [] Ck=some E7:=by kernel_rfl
theorem IK [Glb] {st:St} {Q:aB→St→Prop} (hw:wpC Tryz.prog E7 st Q):aI Tryz.prog 18 Ck st Q:=aI.low mx Jq (by kernel_rfl) (by kernel_rfl) hw
def Cq:Code:=ir [1,1,0,0] b23
def Fe:aY:=(.region [lA 6 9 1,oo 7 (.call 86 [tm 6])] [])
theorem Jw:bD Tryz.prog 18 [] Cq=some Fe:=by kernel_rfl
theorem IT [Glb] {st:St} {Q:aB→St→Prop} (hw:wpC Tryz.prog Fe st Q):aI Tryz.prog 18 Cq st Q:=aI.low mx Jw (by kernel_rfl) (by kernel_rfl) hw
def Cw:Code:=ir [1,1,0,1,0,0] b23
def Fk:aY:=(.region [⟨some 4,.alloc [Z0,S0,Z0,Z0,.nil],none,[]⟩,o0 (.store 5 (tm 4) (tm 8))] [])
theorem JC:bD Tryz.prog 18 [] Cw=some Fk:=by kernel_rfl
theorem IZ [Glb] {st:St} {Q:aB→St→Prop} (hw:wpC Tryz.prog Fk st Q):aI Tryz.prog 18 Cw st Q:=aI.low mx JC (by kernel_rfl) (by kernel_rfl) hw
def CC:Code:=ir [1,1,0,1,0,1] b23
def Fs:aY:=(.block 1 (.seq (.region [fa 9 1 4,ld 10 9,⟨some 11,.bin .neq (tm 10) (.const S0),none,[]⟩] []) (.cond (tm 11) (.region [ld 12 3,fa 13 1 4,ld 14 13,o0 (.bK false [.str] (tm 12) (tm 14) kT)] []) .skip)))
theorem JI:bD Tryz.prog 18 [] CC=some Fs:=by kernel_rfl
theorem I5 [Glb] {st:St} {Q:aB→St→Prop} (hw:wpC Tryz.prog Fs st Q):aI Tryz.prog 18 CC st Q:=aI.low mx JI (by kernel_rfl) (by kernel_rfl) hw
def CI:Code:=ir [1,1,1] b23
def Fy:aY:=(.seq (.region [ld 15 3,oo 16 (.call 88 [tm 15]),oo 17 (.call 87 [tm 16]),mv 2 17] []) .ret)
theorem JO:bD Tryz.prog 18 [] CI=some Fy:=by kernel_rfl
theorem Ja [Glb] {st:St} {Q:aB→St→Prop} (hw:wpC Tryz.prog Fy st Q):aI Tryz.prog 18 CI st Q:=aI.low mx JO (by kernel_rfl) (by kernel_rfl) hw
theorem k23:b23=(.seq Ce (.seq Ck (.seq (.seq Cq (.block 0 (.rangeFunc (.tmp 7) #[8] Cw CC))) CI))):=by kernel_rfl
def b25:Code:=(Tryz.f25.body).getD .skip
theorem KW:Tryz.f25.body=some b25:=by kernel_rfl
def Cf:Code:=ir [0] b25
def EW:aY:=(.region [oo 1 (.box 9 (tm 0)),oo 2 (.mov (.const .nil))] [])
theorem Jl:bD Tryz.prog 18 [] Cf=some EW:=by kernel_rfl
theorem IE [Glb] {st:St} {Q:aB→St→Prop} (hw:wpC Tryz.prog EW st Q):aI Tryz.prog 18 Cf st Q:=aI.low mx Jl (by kernel_rfl) (by kernel_rfl) hw
def Cl:Code:=ir [1,0] b25
def E8:aY:=(.region [oo 5 (.mkmap false [.str]),oo 3 (.alloc [.nilmap]),o0 (.store 1 (tm 3) (tm 5))] [])
theorem Jr:bD Tryz.prog 18 [] Cl=some E8:=by kernel_rfl
theorem IL [Glb] {st:St} {Q:aB→St→Prop} (hw:wpC Tryz.prog E8 st Q):aI Tryz.prog 18 Cl st Q:=aI.low mx Jr (by kernel_rfl) (by kernel_rfl) hw
def Cr:Code:=ir [1,1,0,0] b25
def Ff:aY:=(.region [lA 6 9 1,oo 7 (.call 73 [tm 6])] [])
theorem Jx:bD Tryz.prog 18 [] Cr=some Ff:=by kernel_rfl
theorem IU [Glb] {st:St} {Q:aB→St→Prop} (hw:wpC Tryz.prog Ff st Q):aI Tryz.prog 18 Cr st Q:=aI.low mx Jx (by kernel_rfl) (by kernel_rfl) hw
def Cx:Code:=ir [1,1,0,1,0,0] b25
def Fl:aY:=(.region [⟨some 4,.alloc [Z0,Z0,S0,Z0,Z0,.nil,S0,Z0,.nil],none,[]⟩,o0 (.store 9 (tm 4) (tm 8))] [])
theorem JD:bD Tryz.prog 18 [] Cx=some Fl:=by kernel_rfl
theorem I0 [Glb] {st:St} {Q:aB→St→Prop} (hw:wpC Tryz.prog Fl st Q):aI Tryz.prog 18 Cx st Q:=aI.low mx JD (by kernel_rfl) (by kernel_rfl) hw
def CD:Code:=ir [1,1,0,1,0,1] b25
def Ft:aY:=(.block 1 (.seq (.region [fa 9 0 4,ld 10 9,oo 11 (.bin .eql (tm 10) (Kc 2))] []) (.cond (tm 11) (.region [ld 12 3,fa 13 6 4,ld 14 13,o0 (.bK false [.str] (tm 12) (tm 14) kT)] []) .skip)))
theorem JJ:bD Tryz.prog 18 [] CD=some Ft:=by kernel_rfl
theorem I6 [Glb] {st:St} {Q:aB→St→Prop} (hw:wpC Tryz.prog Ft st Q):aI Tryz.prog 18 CD st Q:=aI.low mx JJ (by kernel_rfl) (by kernel_rfl) hw
def CJ:Code:=ir [1,1,1] b25
def Fz:aY:=(.seq (.region [ld 15 3,oo 16 (.call 88 [tm 15]),oo 17 (.call 87 [tm 16]),mv 2 17] []) .ret)
theorem JP:bD Tryz.prog 18 [] CJ=some Fz:=by kernel_rfl
theorem Jb [Glb] {st:St} {Q:aB→St→Prop} (hw:wpC Tryz.prog Fz st Q):aI Tryz.prog 18 CJ st Q:=aI.low mx JP (by kernel_rfl) (by kernel_rfl) hw
theorem k25:b25=(.seq Cf (.seq Cl (.seq (.seq Cr (.block 0 (.rangeFunc (.tmp 7) #[8] Cx CD))) CJ))):=by kernel_rfl
def b28:Code:=(Tryz.f28.body).getD .skip
theorem KX:Tryz.f28.body=some b28:=by kernel_rfl
def Cg:Code:=ir [0] b28
def EX:aY:=(.region [oo 1 (.box 9 (tm 0)),oo 2 (.mov (.const .nil))] [])
theorem Jm:bD Tryz.prog 23 [] Cg=some EX:=by kernel_rfl
theorem IF [Glb] {st:St} {Q:aB→St→Prop} (hw:wpC Tryz.prog EX st Q):aI Tryz.prog 23 Cg st Q:=aI.low mx Jm (by kernel_rfl) (by kernel_rfl) hw
def Cm:Code:=ir [1,0] b28
def E9:aY:=(.region [oo 5 (.mkmap false [.int .i64]),oo 3 (.alloc [.nilmap]),o0 (.store 1 (tm 3) (tm 5))] [])
theorem Js:bD Tryz.prog 23 [] Cm=some E9:=by kernel_rfl
theorem IM [Glb] {st:St} {Q:aB→St→Prop} (hw:wpC Tryz.prog E9 st Q):aI Tryz.prog 23 Cm st Q:=aI.low mx Js (by kernel_rfl) (by kernel_rfl) hw
def Cs:Code:=ir [1,1,0,0] b28
def Fg:aY:=(.region [lA 6 9 1,oo 7 (.call 73 [tm 6])] [])
theorem Jy:bD Tryz.prog 23 [] Cs=some Fg:=by kernel_rfl
theorem IV [Glb] {st:St} {Q:aB→St→Prop} (hw:wpC Tryz.prog Fg st Q):aI Tryz.prog 23 Cs st Q:=aI.low mx Jy (by kernel_rfl) (by kernel_rfl) hw
def Cy:Code:=ir [1,1,0,1,0,0] b28
def Fm:aY:=(.region [⟨some 4,.alloc [Z0,Z0,S0,Z0,Z0,.nil,S0,Z0,.nil],none,[]⟩,o0 (.store 9 (tm 4) (tm 8))] [])
theorem JE:bD Tryz.prog 23 [] Cy=some Fm:=by kernel_rfl
theorem I1 [Glb] {st:St} {Q:aB→St→Prop} (hw:wpC Tryz.prog Fm st Q):aI Tryz.prog 23 Cy st Q:=aI.low mx JE (by kernel_rfl) (by kernel_rfl) hw
def CE:Code:=ir [1,1,0,1,0,1] b28
def Fu:aY:=(.block 1 (.seq (.region [fa 9 0 4,ld 10 9,oo 11 (.bin .eql (tm 10) (Kc 2)),mv 12 11,oT 13 12 (.offA 6 (tm 4)),oT 14 12 (.load 1 false (tm 13)),⟨some 15,.bin .eql (tm 14) (.const (.str ⟨#[112,111,114,116]⟩)),some (12,true),[]⟩,oo 16 (.pick (tm 12) (tm 15) kF)] []) (.cond (tm 16) (.region [ld 17 3,fa 18 7 4,ld 19 18,o0 (.bK false [.int .i64] (tm 17) (tm 19) kT)] []) .skip)))
theorem JK:bD Tryz.prog 23 [] CE=some Fu:=by kernel_rfl
theorem I7 [Glb] {st:St} {Q:aB→St→Prop} (hw:wpC Tryz.prog Fu st Q):aI Tryz.prog 23 CE st Q:=aI.low mx JK (by kernel_rfl) (by kernel_rfl) hw
def CK:Code:=ir [1,1,1] b28
def FA:aY:=(.seq (.region [ld 20 3,oo 21 (.call 92 [tm 20]),oo 22 (.call 91 [tm 21]),mv 2 22] []) .ret)
theorem JQ:bD Tryz.prog 23 [] CK=some FA:=by kernel_rfl
theorem Jc [Glb] {st:St} {Q:aB→St→Prop} (hw:wpC Tryz.prog FA st Q):aI Tryz.prog 23 CK st Q:=aI.low mx JQ (by kernel_rfl) (by kernel_rfl) hw
theorem k28:b28=(.seq Cg (.seq Cm (.seq (.seq Cs (.block 0 (.rangeFunc (.tmp 7) #[8] Cy CE))) CK))):=by kernel_rfl
def b57:Code:=(Tryz.f57.body).getD .skip
theorem KY:Tryz.f57.body=some b57:=by kernel_rfl
def Ch:Code:=ir [0] b57
def EY:aY:=(.region [oo 2 (.mov (.const .nil))] [])
theorem Jn:bD Tryz.prog 31 [] Ch=some EY:=by kernel_rfl
theorem IG [Glb] {st:St} {Q:aB→St→Prop} (hw:wpC Tryz.prog EY st Q):aI Tryz.prog 31 Ch st Q:=aI.low mx Jn (by kernel_rfl) (by kernel_rfl) hw
def Cn:Code:=ir [1,0] b57
def Fa:aY:=(.region [oo 7 (.mkmap false [.int .i64]),oo 3 (.alloc [.nilmap]),o0 (.store 1 (tm 3) (tm 7))] [])
theorem Jt:bD Tryz.prog 31 [] Cn=some Fa:=by kernel_rfl
theorem IP [Glb] {st:St} {Q:aB→St→Prop} (hw:wpC Tryz.prog Fa st Q):aI Tryz.prog 31 Cn st Q:=aI.low mx Jt (by kernel_rfl) (by kernel_rfl) hw
def Ct:Code:=ir [1,1,0,0] b57
def Fh:aY:=(.region [mv 8 0,ln 9 8,oo 10 (.mov (Kc 0))] [])
theorem Jz:bD Tryz.prog 31 [] Ct=some Fh:=by kernel_rfl
theorem IW [Glb] {st:St} {Q:aB→St→Prop} (hw:wpC Tryz.prog Fh st Q):aI Tryz.prog 31 Ct st Q:=aI.low mx Jz (by kernel_rfl) (by kernel_rfl) hw
def Cz:Code:=ir [1,1,0,1,0,0,0] b57
def Fo:aY:=(.region [oo 11 (.bin .lss (tm 10) (tm 9))] [])
theorem JF:bD Tryz.prog 31 [] Cz=some Fo:=by kernel_rfl
theorem I2 [Glb] {st:St} {Q:aB→St→Prop} (hw:wpC Tryz.prog Fo st Q):aI Tryz.prog 31 Cz st Q:=aI.low mx JF (by kernel_rfl) (by kernel_rfl) hw
def CF:Code:=ir [1,1,0,1,0,0,1,0] b57
def Fv:aY:=(.cond (tm 11) .skip (.exit 0))
theorem JL:bD Tryz.prog 31 [] CF=some Fv:=by kernel_rfl
theorem ET [Glb] {st:St} {Q:aB→St→Prop} (hw:wpC Tryz.prog Fv st Q):aI Tryz.prog 31 CF st Q:=aI.low mx JL (by kernel_rfl) (by kernel_rfl) hw
def CL:Code:=ir [1,1,0,1,0,0,1,1,0,0,0] b57
def FB:aY:=(.region [ix 12 15 8 10,lA 13 15 12,⟨some 5,.alloc [Z0,Z0,S0,Z0,Z0,.nil,S0,Z0,.nil,Z0,S0,.nil,S0,Z0,Z0],none,[]⟩,o0 (.store 15 (tm 5) (tm 13))] [])
theorem JR:bD Tryz.prog 31 [] CL=some FB:=by kernel_rfl
theorem Jd [Glb] {st:St} {Q:aB→St→Prop} (hw:wpC Tryz.prog FB st Q):aI Tryz.prog 31 CL st Q:=aI.low mx JR (by kernel_rfl) (by kernel_rfl) hw
def CM:Code:=ir [1,1,0,1,0,0,1,1,0,0,1,0] b57
def FC:aY:=(.region [fa 14 0 5,lA 15 9 14,oo 16 (.call 86 [tm 15])] [])
theorem JS:bD Tryz.prog 31 [] CM=some FC:=by kernel_rfl
theorem Je [Glb] {st:St} {Q:aB→St→Prop} (hw:wpC Tryz.prog FC st Q):aI Tryz.prog 31 CM st Q:=aI.low mx JS (by kernel_rfl) (by kernel_rfl) hw
def CN:Code:=ir [1,1,0,1,0,0,1,1,0,0,1,1,0,0] b57
def FD:aY:=(.region [⟨some 6,.alloc [Z0,S0,Z0,Z0,.nil],none,[]⟩,o0 (.store 5 (tm 6) (tm 17))] [])
theorem JT:bD Tryz.prog 31 [] CN=some FD:=by kernel_rfl
theorem Jf [Glb] {st:St} {Q:aB→St→Prop} (hw:wpC Tryz.prog FD st Q):aI Tryz.prog 31 CN st Q:=aI.low mx JT (by kernel_rfl) (by kernel_rfl) hw
def CO:Code:=ir [1,1,0,1,0,0,1,1,0,0,1,1,0,1] b57
def FE:aY:=(.block 3 (.seq (.region [fa 18 0 6,ld 19 18,oo 20 (.bin .eql (tm 19) (Kc 9))] []) (.cond (tm 20) (.region [ld 21 3,fa 22 2 6,ld 23 22,ld 24 3,fa 25 3 6,ld 26 25,o0 (.bK false [.int .i64] (tm 21) (tm 23) kT),o0 (.bK false [.int .i64] (tm 24) (tm 26) kT)] [[],[],[],[],[],[],[3,5],[]]) .skip)))
theorem JU:bD Tryz.prog 31 [] CO=some FE:=by kernel_rfl
theorem Jg [Glb] {st:St} {Q:aB→St→Prop} (hw:wpC Tryz.prog FE st Q):aI Tryz.prog 31 CO st Q:=aI.low mx JU (by kernel_rfl) (by kernel_rfl) hw
def CP:Code:=ir [1,1,0,1,0,0,1,1,1] b57
def FF:aY:=(.region [oo 27 (.bin .add (tm 10) (Kc 1)),mv 10 27] [])
theorem JV:bD Tryz.prog 31 [] CP=some FF:=by kernel_rfl
theorem Jh [Glb] {st:St} {Q:aB→St→Prop} (hw:wpC Tryz.prog FF st Q):aI Tryz.prog 31 CP st Q:=aI.low mx JV (by kernel_rfl) (by kernel_rfl) hw
def AD:Code:=ir [1,1,1] b57
def Di:aY:=(.seq (.region [ld 28 3,oo 29 (.call 92 [tm 28]),oo 30 (.call 91 [tm 29]),mv 2 30] []) .ret)
theorem G4:bD Tryz.prog 31 [] AD=some Di:=by kernel_rfl
theorem GC [Glb] {st:St} {Q:aB→St→Prop} (hw:wpC Tryz.prog Di st Q):aI Tryz.prog 31 AD st Q:=aI.low mx G4 (by kernel_rfl) (by kernel_rfl) hw
theorem k57:b57=(.seq Ch (.seq Cn (.seq (.seq Ct (.block 0 (.loop (.seq Cz (.seq CF (.seq (.block 1 (.seq CL (.seq CM (.block 2 (.rangeFunc (.tmp 16) #[17] CN CO))))) CP)))))) AD))):=by kernel_rfl
end Go.TY
end
section
namespace Go.TY
open Go Go.DL Go.MM Go.Proofs
attribute [local irreducible] aI gR WCM YC
section
variable [Glb]
theorem zh {l:Nat} {rc:Option Code→Loop} {cxo:aa→World→Prop} {own:St} {F:Nat→Prop} {hi:Nat} {xs:List T} {outs:Nat→List (Nat×BX)} {stop:Code→(aa→World→Prop)→List (Nat×BX)→Prop} (G:dR Tryz.prog l rc cxo own F hi xs outs stop) (yb wb:Nat) (hyb:hi≤yb) (hwb:hi≤wb):
  ∀(b:Nat) (r:RP),(tc r).length≤b→b<2^60→ ∀(k m off:Nat) (st:St) (d:Option Nat) (K:St→Prop),(∀ j x,(tc r)[j]? =some x→xs[k+j]? =some (sN x))→AtI qF l (rc none) cxo own F (outs k) m st→
   (∀ n,off≤n→st.bx n=none)→yb<off→wb<off→hi≤off→st.bx yb=some (.v [lV l])→st.bx wb=some (.v [.fn 146 [.ptr yb 0,.ptr wb 0]])→
   K (({st with bx:=aK st.bx (outs (k+(tc r).length))}:St).set d (.t (.bool true)))→
   (∀ c cx' o',stop c cx' o'→K (({st with bx:=aK st.bx o',cx:=dC l (rc (some c)) cx' m }:St).set d (.t (.bool false))))→
   WCM Tryz.prog 146 [.t (sN r),.ptr yb 0,.ptr wb 0] d st K
 |0,r,hb=>by rw [wX] at hb;simp at hb
 |b+1,r,hb=>by
  intro hB k m off st d K hxs hA hfree hyo hwo hio hy hw hK hS
  have ih:=zh G yb wb hyb hwb b
  refine WCM.clean (fun hnb=>?_) (bQ Tryz.func146 rfl rfl)
  refine WCM.run Tryz.func146 Iq rfl off (nlZ rfl) ?_
  rw [K5]
  obtain ⟨kd,f,n,mm,args⟩:=r
  have hA1:=hA.enter [.t (sN (.mk kd f n mm args)),.ptr yb 0,.ptr wb 0] off
  have hf3:=hfree (3+off) (by omega)
  have hnm: ∀{k:Nat} {q:Nat},hi≤q→ ∀p∈outs k,p.1≠q:=fun h p hp e=>by have:=(G.nm _ p hp).1;omega
  have hnms: ∀{c cx o} {q:Nat},stop c cx o→hi≤q→ ∀p∈o,p.1≠q:=fun hs h p hp e=>by have:=(G.nms _ _ _ hs p hp).1;omega
  have hpl:(tc (.mk kd f n mm args)).length=1+(sU args).length:=by rw [wX,List.length_cons];exact Nat.add_comm _ _
  rw [sG] at hA1 ⊢
  have endT: ∀(s2:St),s2.gh=dO st.sl st.gh→s2.cx=dC l (rc none) cxo (m+1)→(∀ q, ¬q∈[3+off]→s2.bx q=aK st.bx (outs (k+(tc (.mk kd f n mm args)).length)) q)→s2.sl 4= .t (.bool true)→
    qJ Tryz.f146.results.toList st.off d (fun s=> ∃fr s',K s'∧DL.Clean st fr s s') .ret s2:=fun s2 h1 h2 h3 h4=>by
   refine ⟨[.t (.bool true)],st.cx,?_,by rw [h2,hA.cx];rfl,by rw [hA.cx];exact qj G.cxo_,[3+off],_,hK,?_⟩
   ·show (match s2.sl 4 with|u=>some [u])=_
    rw [h4]
   ·exact mL (by rw [h1];rfl) (fun j=>by rw [h1];rfl) h3 (fun q hq=>by rw [List.mem_singleton.1 hq];exact ⟨hf3,hnm (by omega)⟩) (G.sf (G.lvA hA.at_) _)
  have endF: ∀(c:Code) (cx':aa→World→Prop) (o':List (Nat×BX)) (s2:St),stop c cx' o'→s2.gh=dO st.sl st.gh→s2.cx=dC l (rc (some c)) cx' (m+1)→(∀ q, ¬q∈[3+off]→s2.bx q=aK st.bx o' q)→s2.sl 4= .t (.bool false)→
    qJ Tryz.f146.results.toList st.off d (fun s=> ∃fr s',K s'∧DL.Clean st fr s s') .ret s2:=fun c cx' o' s2 hs h1 h2 h3 h4=>by
   refine ⟨[.t (.bool false)],dC l (rc (some c)) cx' m,?_,h2,qj (G.cxd _ _ _ hs),[3+off],_,hS c cx' o' hs,?_⟩
   ·show (match s2.sl 4 with|u=>some [u])=_
    rw [h4]
   ·exact mL (by rw [h1];rfl) (fun j=>by rw [h1];rfl) h3 (fun q hq=>by rw [List.mem_singleton.1 hq];exact ⟨hf3,hnms hs (by omega)⟩) (G.sfs (G.lvA hA.at_) _ _ _ hs)
  generalize qJ Tryz.f146.results.toList st.off d (fun s=> ∃fr s',K s'∧DL.Clean st fr s s')=nW at endT endF ⊢
  refine aI.seq (GB (pX (r7 (cs:=sB (.mk kd f n mm args)) rfl rfl hf3 (sg rfl (qW ?_)))))
  refine aI.seq (aI.seq (HN (r8 (b:=yb) rfl ((ae _ _ _ _ (show yb≠3+off by omega)).trans hy) rfl (r9 (b:=3+off) rfl (ah _ _ _) (qW (rS rfl rfl ?_))))))
  have hx0:xs[k]? =some (T.agg (sB (.mk kd f n mm args))):=by rw [← sG];exact hxs 0 _ (by rw [wX];rfl)
  refine G.yld qF k _ (m+1) _ _ _ hx0 (hA1.of rfl rfl (fun q h1=>ae _ _ _ _ (show q≠3+off by have:=G.fh q h1;omega)) (fun p hp=>(ae _ _ _ _ (hnm (show hi≤3+off by omega) p hp)).trans (hA1.at_ p hp)) ⟨off+4,fun q hq=>(ae _ _ _ _ (show q≠3+off by omega)).trans (hfree q (by omega))⟩) ?t (fun c cx' o' hs=> ?f)
  case f=>
   refine sj rfl (qW ?_)
   refine C3 (rN rfl (rr (sg rfl (qW (rP ?_)))))
   refine endF c cx' o' _ hs rfl rfl (fun q hq=>?_) rfl
   exact oZ (ae _ _ _ _ (show q≠3+off from fun e=>hq (by rw [e];simp))) o'
  case t=>
  refine sj rfl (qW ?_)
  refine C3 (rM rfl (rQ ?_))
  let b1:Nat→Option BX:=upd st.bx (3+off) (some (.d 5 (sB (.mk kd f n mm args))))
  have hb13: ∀{k:Nat},aK b1 (outs k) (3+off)=some (.d 5 (sB (.mk kd f n mm args))):=(e7 (hnm (by omega))).trans (ah _ _ _)
  refine aI.seq (aI.seq (GM (pX (rL (b:=3+off) (off:=0) rfl (sb (b:=3+off) (off:=0+4) rfl hb13 (by decide) rfl (sd (xs:=args.map sN) (n:=5) rfl (sg rfl (qW ?_))))))))
  refine aI.block (aI.rY (fun μ s=> ∃j sl,μ=args.length - j∧j≤args.length∧s={sl:=sl,bx:=aK b1 (outs (k+1+(sU (args.take j)).length)),gh:=dO st.sl st.gh,off:=off,cx:=dC l (rc none) cxo (m+1)}∧sl 1= .ptr yb 0∧sl 2= .ptr wb 0∧sl 12= .t (.slice 5 (args.map sN))∧sl 13= .t (I args.length)∧sl 14= .t (I j)) args.length ?_ ?_)
  ·exact ⟨0,_,by omega,by omega,St.ext' rfl rfl rfl rfl hA1.cx,rfl,rfl,rfl,by show V.t (.int .i64 ((args.map sN).length:Int))=_;rw [List.length_map],rfl⟩
  rintro μ s ⟨j,sl,rfl,hj,rfl,e1,e2,e12,e13,e14⟩
  refine aI.clean (fun _=>?_)
  refine aI.seq (GP (pX (se (a:=j) (b:=args.length) e14 e13 (qW ?_))))
  by_cases hlt:j<args.length
  case neg=>
   refine aI.seq (C5 (rM (by show V.t (.bool (decide ((j:Int)<(args.length:Int))))=_;rw [decide_eq_false (by omega)]) (rO ?_)))
   refine ⟨[],{sl:=upd sl 15 .top,bx:=aK b1 (outs (k+1+(sU (args.take j)).length)),gh:=dO st.sl st.gh,off:=off,cx:=dC l (rc none) cxo (m+1)},?_,⟨fun q=>?_,⟨rfl,rfl⟩,rfl,rfl,fun q=>rfl,fun q _=>Or.inl rfl,fun q h=>h,by simp⟩⟩
   ·refine FX (rr (sg rfl (qW (rP ?_))))
    refine endT _ rfl rfl (fun q hq=>?_) rfl
    have hjl:j=args.length:=by omega
    show aK b1 (outs (k+1+(sU (args.take j)).length)) q=_
    rw [hjl,List.take_length,hpl,Nat.add_assoc]
    exact oZ (ae _ _ _ _ (fun e=>hq (by rw [e];simp))) _
   ·by_cases h:q=15
    ·subst h;exact Or.inl (show upd sl 15 V.top 15=V.top from ah _ _ _)
    ·have h1:upd sl 15 V.top q=sl q:=ae _ _ _ _ h
     exact Or.inr ⟨h1.trans (show sl q=upd sl 15 _ q from (ae _ _ _ _ h).symm),Or.inl h1⟩
  refine aI.seq (C5 (rN (by show V.t (.bool (decide ((j:Int)<(args.length:Int))))=_;rw [decide_eq_true (by omega)]) (rQ ?_)))
  have hv:(args.map sN)[((j:Int)).toNat]?.getD .nil=T.agg (sB args[j]):=by
   rw [Int.toNat_natCast,List.getElem?_map,ggZ hlt]
   show sN args[j]=_
   exact sG _
  have hf6: ∀{k:Nat},aK b1 (outs k) (6+off)=none:=(e7 (hnm (by omega))).trans ((ae _ _ _ _ (by omega)).trans (hfree _ (by omega)))
  have hpt:=yZ hlt
  have hpg:=fun i x=>@DT args j i x hlt
  have hpm:=DU hlt
  have hcl:=sH args[j]
  have hec:=sG args[j]
  generalize args[j]=aj at hv hpt hpg hpm hcl hec
  refine aI.seq (aI.block (aI.seq (GS (pX (rJ (xs:=args.map sN) (k:=(j:Int)) e12 e14 ⟨by omega,by rw [List.length_map];omega⟩ hv (sa (cs:=sB aj) rfl hcl (pW hf6 (rp (b:=6+off) (off:=0) rfl (ah _ _ _) rfl ⟨hcl,Nat.le_refl _⟩ (qW ?_)))))))))
  have hbo: ∀{x y:Option BX} {q k:Nat},q≠6+off→upd (upd (aK b1 (outs k)) (6+off) x) (6+off) y q=aK b1 (outs k) q:=fun h=>(ae _ _ _ _ h).trans (ae _ _ _ _ h)
  have hbo2: ∀{k q:Nat},hi≤q→q≠3+off→aK b1 (outs k) q=st.bx q:=fun h h'=>(e7 (hnm h)).trans (ae _ _ _ _ h')
  refine aI.seq (HS (r8 (b:=wb) e2 ((hbo (by omega)).trans ((hbo2 hwb (by omega)).trans hw)) rfl (r9 (b:=6+off) rfl (ah _ _ _) (qW (rR (us':=[.t (sN aj),.ptr yb 0,.ptr wb 0]) rfl (by
   show [V.t (.agg (aN [.int .i64 0,.str ⟨#[]⟩,.int .i64 0,.int .i64 0,.nil] 0 5 (sB aj))),V.ptr yb 0,V.ptr wb 0]=_
   rw [mU (n:=5) rfl,hec]) ?_)))))
  refine ih aj (by omega) (by omega) (k+1+(sU (args.take j)).length) (m+1) (off+7) _ _ _ (fun i x hx=>?_) (hA1.of hA1.cx.symm rfl (fun q h1=>?_) (fun p hp=>?_) ⟨off+7,fun q hq=>?_⟩) (fun q hq=>?_) (by omega) (by omega) (by omega) ?_ ?_ ?t (fun c cx' o' hs=> ?f)
  ·rw [Nat.add_assoc,Nat.add_assoc]
   refine hxs _ x ?_
   rw [wX,Nat.add_comm,List.getElem?_cons_succ]
   exact hpg i x hx
  ·have hq1:=G.fh q h1
   exact (hbo (by omega)).trans ((e7 (fun p hp e=>(G.nm _ p hp).2 (by rw [e];exact h1))).trans (ae _ _ _ _ (by omega)))
  ·exact (hbo (hnm (show hi≤6+off by omega) p hp)).trans (mC (G.nd _) hp)
  ·exact (hbo (by omega)).trans ((hbo2 (by omega) (by omega)).trans (hfree q (by omega)))
  ·exact (hbo (by omega)).trans ((hbo2 (by omega) (by omega)).trans (hfree q (by omega)))
  ·exact (hbo (by omega)).trans ((hbo2 hyb (by omega)).trans hy)
  ·exact (hbo (by omega)).trans ((hbo2 hwb (by omega)).trans hw)
  case f=>
   refine sj rfl (qW ?_)
   refine C8 (rN rfl (rr (sg rfl (qW (rP ?_)))))
   refine ⟨[6+off],{sl:=fun n=>cond (Nat.beq n 4) (.t (.bool false)) .top,bx:=aK (aK b1 (outs (k+1+(sU (args.take j)).length))) o',gh:=dO st.sl st.gh,off:=off,cx:=dC l (rc (some c)) cx' (m+1)},endF c cx' o' _ hs rfl rfl (fun q hq=>?_) rfl,?_⟩
   ·show aK (aK b1 (outs _)) o' q=_
    rw [qY (G.covs _ _ _ hs _)]
    exact oZ (ae _ _ _ _ (fun e=>hq (by rw [e];simp))) _
   ·refine nj (fun q=>?_) rfl (fun q hq=>oZ (hbo (fun e=>hq (by rw [e];simp))) o') (fun q hq=>?_) (G.sfs (G.lvU _ _) _ _ _ hs)
    ·by_cases h:q=4
     ·subst h;exact Or.inr ⟨rfl,Or.inr (.t _)⟩
     ·refine Or.inl ?_
      show cond (Nat.beq q 4) _ _=_
      rw [eS h];rfl
    ·rw [List.mem_singleton.1 hq]
     exact ⟨hf6,hnms hs (by omega)⟩
  case t=>
   refine sj rfl (qW ?_)
   refine C8 (rM rfl (rQ ?_))
   have hge:=Av args
   have hw1:IntKind.i64.wrap ((j:Int)+1)=((j+1:Nat):Int):=by rw [mG (by omega) (by omega)];rfl
   refine GV (pX (rZ (a:=(j:Int)) (b:=1) e14 rfl hw1 (sg rfl (qW ?_))))
   have hix:k+1+(sU (args.take j)).length+(tc aj).length=k+1+(sU (args.take (j+1))).length:=by rw [hpt,List.length_append];omega
   refine ⟨[6+off],{sl:=upd (fun n=>cond (Nat.beq n 1||Nat.beq n 2||Nat.beq n 12||Nat.beq n 13) (sl n) .top) 14 (.t (I (j+1:Nat))),bx:=aK (aK b1 (outs (k+1+(sU (args.take j)).length))) (outs (k+1+(sU (args.take j)).length+(tc aj).length)),gh:=dO st.sl st.gh,off:=off,cx:=dC l (rc none) cxo (m+1)},⟨args.length - (j+1),by omega,j+1,_,rfl,by omega,St.ext' rfl ((qY (G.cov _ _)).trans (congrArg (fun i=>aK b1 (outs i)) hix)) rfl rfl rfl,e1,e2,e12,e13,rfl⟩,?_⟩
   refine nj (fun q=>?_) rfl (fun q hq=>oZ (hbo (fun e=>hq (by rw [e];simp))) _) (fun q hq=>?_) (G.sf (G.lvU _ _) _)
   ·by_cases h14:q=14
    ·subst h14;exact Or.inr ⟨rfl,Or.inr (.t _)⟩
    by_cases h1:q=1
    ·subst h1;exact Or.inr ⟨by (conv=>lhs;whnf);(conv=>rhs;whnf),Or.inl rfl⟩
    by_cases h2:q=2
    ·subst h2;exact Or.inr ⟨by (conv=>lhs;whnf);(conv=>rhs;whnf),Or.inl rfl⟩
    by_cases h12:q=12
    ·subst h12;exact Or.inr ⟨by (conv=>lhs;whnf);(conv=>rhs;whnf),Or.inl rfl⟩
    by_cases h13:q=13
    ·subst h13;exact Or.inr ⟨by (conv=>lhs;whnf);(conv=>rhs;whnf),Or.inl rfl⟩
    refine Or.inl ?_
    show upd _ 14 _ q=_
    rw [ae _ _ _ _ h14]
    show cond (Nat.beq q 1||Nat.beq q 2||Nat.beq q 12||Nat.beq q 13) _ _=_
    rw [eS h1,eS h2,eS h12,eS h13];rfl
   ·rw [List.mem_singleton.1 hq]
    exact ⟨hf6,hnm (by omega)⟩
end
end Go.TY
end
section
namespace Go.TY
open Go Go.DL Go.MM Go.Proofs
attribute [local irreducible] aI gR WCM YC
section
variable [Glb]
theorem zg {l:Nat} {rc:Option Code→Loop} {cxo:aa→World→Prop} {own:St} {F:Nat→Prop} {hi:Nat} {xs:List T} {outs:Nat→List (Nat×BX)} {stop:Code→(aa→World→Prop)→List (Nat×BX)→Prop} (G:dR Tryz.prog l rc cxo own F hi xs outs stop) (yb wb:Nat) (hyb:hi≤yb) (hwb:hi≤wb):
  ∀(b:Nat) (r:RO),(sD r).length≤b→b<2^60→ ∀(k m off:Nat) (st:St) (d:Option Nat) (K:St→Prop),(∀ j x,(sD r)[j]? =some x→xs[k+j]? =some (uq x))→AtI qF l (rc none) cxo own F (outs k) m st→
   (∀ n,off≤n→st.bx n=none)→yb<off→wb<off→hi≤off→st.bx yb=some (.v [lV l])→st.bx wb=some (.v [.fn 117 [.ptr yb 0,.ptr wb 0]])→
   K (({st with bx:=aK st.bx (outs (k+(sD r).length))}:St).set d (.t (.bool true)))→
   (∀ c cx' o',stop c cx' o'→K (({st with bx:=aK st.bx o',cx:=dC l (rc (some c)) cx' m }:St).set d (.t (.bool false))))→
   WCM Tryz.prog 117 [.t (uq r),.ptr yb 0,.ptr wb 0] d st K
 |0,r,hb=>by rw [wW] at hb;simp at hb
 |b+1,r,hb=>by
  intro hB k m off st d K hxs hA hfree hyo hwo hio hy hw hK hS
  have ih:=zg G yb wb hyb hwb b
  refine WCM.clean (fun hnb=>?_) (bQ Tryz.func117 rfl rfl)
  refine WCM.run Tryz.func117 Im rfl off (nlZ rfl) ?_
  rw [K2]
  obtain ⟨kd,f,n,mm,args⟩:=r
  have hA1:=hA.enter [.t (uq (.mk kd f n mm args)),.ptr yb 0,.ptr wb 0] off
  have hf3:=hfree (3+off) (by omega)
  have hnm: ∀{k:Nat} {q:Nat},hi≤q→ ∀p∈outs k,p.1≠q:=fun h p hp e=>by have:=(G.nm _ p hp).1;omega
  have hnms: ∀{c cx o} {q:Nat},stop c cx o→hi≤q→ ∀p∈o,p.1≠q:=fun hs h p hp e=>by have:=(G.nms _ _ _ hs p hp).1;omega
  have hpl:(sD (.mk kd f n mm args)).length=1+(sP args).length:=by rw [wW,List.length_cons];exact Nat.add_comm _ _
  rw [sM] at hA1 ⊢
  have endT: ∀(s2:St),s2.gh=dO st.sl st.gh→s2.cx=dC l (rc none) cxo (m+1)→(∀ q, ¬q∈[3+off]→s2.bx q=aK st.bx (outs (k+(sD (.mk kd f n mm args)).length)) q)→s2.sl 4= .t (.bool true)→
    qJ Tryz.f117.results.toList st.off d (fun s=> ∃fr s',K s'∧DL.Clean st fr s s') .ret s2:=fun s2 h1 h2 h3 h4=>by
   refine ⟨[.t (.bool true)],st.cx,?_,by rw [h2,hA.cx];rfl,by rw [hA.cx];exact qj G.cxo_,[3+off],_,hK,?_⟩
   ·show (match s2.sl 4 with|u=>some [u])=_
    rw [h4]
   ·exact mL (by rw [h1];rfl) (fun j=>by rw [h1];rfl) h3 (fun q hq=>by rw [List.mem_singleton.1 hq];exact ⟨hf3,hnm (by omega)⟩) (G.sf (G.lvA hA.at_) _)
  have endF: ∀(c:Code) (cx':aa→World→Prop) (o':List (Nat×BX)) (s2:St),stop c cx' o'→s2.gh=dO st.sl st.gh→s2.cx=dC l (rc (some c)) cx' (m+1)→(∀ q, ¬q∈[3+off]→s2.bx q=aK st.bx o' q)→s2.sl 4= .t (.bool false)→
    qJ Tryz.f117.results.toList st.off d (fun s=> ∃fr s',K s'∧DL.Clean st fr s s') .ret s2:=fun c cx' o' s2 hs h1 h2 h3 h4=>by
   refine ⟨[.t (.bool false)],dC l (rc (some c)) cx' m,?_,h2,qj (G.cxd _ _ _ hs),[3+off],_,hS c cx' o' hs,?_⟩
   ·show (match s2.sl 4 with|u=>some [u])=_
    rw [h4]
   ·exact mL (by rw [h1];rfl) (fun j=>by rw [h1];rfl) h3 (fun q hq=>by rw [List.mem_singleton.1 hq];exact ⟨hf3,hnms hs (by omega)⟩) (G.sfs (G.lvA hA.at_) _ _ _ hs)
  generalize qJ Tryz.f117.results.toList st.off d (fun s=> ∃fr s',K s'∧DL.Clean st fr s s')=nW at endT endF ⊢
  refine aI.seq (Gy (pX (r7 (cs:=sS (.mk kd f n mm args)) rfl rfl hf3 (sg rfl (qW ?_)))))
  refine aI.seq (aI.seq (HM (r8 (b:=yb) rfl ((ae _ _ _ _ (show yb≠3+off by omega)).trans hy) rfl (r9 (b:=3+off) rfl (ah _ _ _) (qW (rS rfl rfl ?_))))))
  have hx0:xs[k]? =some (T.agg (sS (.mk kd f n mm args))):=by rw [← sM];exact hxs 0 _ (by rw [wW];rfl)
  refine G.yld qF k _ (m+1) _ _ _ hx0 (hA1.of rfl rfl (fun q h1=>ae _ _ _ _ (show q≠3+off by have:=G.fh q h1;omega)) (fun p hp=>(ae _ _ _ _ (hnm (show hi≤3+off by omega) p hp)).trans (hA1.at_ p hp)) ⟨off+4,fun q hq=>(ae _ _ _ _ (show q≠3+off by omega)).trans (hfree q (by omega))⟩) ?t (fun c cx' o' hs=> ?f)
  case f=>
   refine sj rfl (qW ?_)
   refine C2 (rN rfl (rr (sg rfl (qW (rP ?_)))))
   refine endF c cx' o' _ hs rfl rfl (fun q hq=>?_) rfl
   exact oZ (ae _ _ _ _ (show q≠3+off from fun e=>hq (by rw [e];simp))) o'
  case t=>
  refine sj rfl (qW ?_)
  refine C2 (rM rfl (rQ ?_))
  let b1:Nat→Option BX:=upd st.bx (3+off) (some (.d 9 (sS (.mk kd f n mm args))))
  have hb13: ∀{k:Nat},aK b1 (outs k) (3+off)=some (.d 9 (sS (.mk kd f n mm args))):=(e7 (hnm (by omega))).trans (ah _ _ _)
  refine aI.seq (aI.seq (GK (pX (rL (b:=3+off) (off:=0) rfl (sb (b:=3+off) (off:=0+8) rfl hb13 (by decide) rfl (sd (xs:=args.map uq) (n:=9) rfl (sg rfl (qW ?_))))))))
  refine aI.block (aI.rY (fun μ s=> ∃j sl,μ=args.length - j∧j≤args.length∧s={sl:=sl,bx:=aK b1 (outs (k+1+(sP (args.take j)).length)),gh:=dO st.sl st.gh,off:=off,cx:=dC l (rc none) cxo (m+1)}∧sl 1= .ptr yb 0∧sl 2= .ptr wb 0∧sl 12= .t (.slice 9 (args.map uq))∧sl 13= .t (I args.length)∧sl 14= .t (I j)) args.length ?_ ?_)
  ·exact ⟨0,_,by omega,by omega,St.ext' rfl rfl rfl rfl hA1.cx,rfl,rfl,rfl,by show V.t (.int .i64 ((args.map uq).length:Int))=_;rw [List.length_map],rfl⟩
  rintro μ s ⟨j,sl,rfl,hj,rfl,e1,e2,e12,e13,e14⟩
  refine aI.clean (fun _=>?_)
  refine aI.seq (GN (pX (se (a:=j) (b:=args.length) e14 e13 (qW ?_))))
  by_cases hlt:j<args.length
  case neg=>
   refine aI.seq (C4 (rM (by show V.t (.bool (decide ((j:Int)<(args.length:Int))))=_;rw [decide_eq_false (by omega)]) (rO ?_)))
   refine ⟨[],{sl:=upd sl 15 .top,bx:=aK b1 (outs (k+1+(sP (args.take j)).length)),gh:=dO st.sl st.gh,off:=off,cx:=dC l (rc none) cxo (m+1)},?_,⟨fun q=>?_,⟨rfl,rfl⟩,rfl,rfl,fun q=>rfl,fun q _=>Or.inl rfl,fun q h=>h,by simp⟩⟩
   ·refine FW (rr (sg rfl (qW (rP ?_))))
    refine endT _ rfl rfl (fun q hq=>?_) rfl
    have hjl:j=args.length:=by omega
    show aK b1 (outs (k+1+(sP (args.take j)).length)) q=_
    rw [hjl,List.take_length,hpl,Nat.add_assoc]
    exact oZ (ae _ _ _ _ (fun e=>hq (by rw [e];simp))) _
   ·by_cases h:q=15
    ·subst h;exact Or.inl (show upd sl 15 V.top 15=V.top from ah _ _ _)
    ·have h1:upd sl 15 V.top q=sl q:=ae _ _ _ _ h
     exact Or.inr ⟨h1.trans (show sl q=upd sl 15 _ q from (ae _ _ _ _ h).symm),Or.inl h1⟩
  refine aI.seq (C4 (rN (by show V.t (.bool (decide ((j:Int)<(args.length:Int))))=_;rw [decide_eq_true (by omega)]) (rQ ?_)))
  have hv:(args.map uq)[((j:Int)).toNat]?.getD .nil=T.agg (sS args[j]):=by
   rw [Int.toNat_natCast,List.getElem?_map,ggZ hlt]
   show uq args[j]=_
   exact sM _
  have hf6: ∀{k:Nat},aK b1 (outs k) (6+off)=none:=(e7 (hnm (by omega))).trans ((ae _ _ _ _ (by omega)).trans (hfree _ (by omega)))
  have hpt:=yY hlt
  have hpg:=fun i x=>@DP args j i x hlt
  have hpm:=DQ hlt
  have hcl:=tu args[j]
  have hec:=sM args[j]
  generalize args[j]=aj at hv hpt hpg hpm hcl hec
  refine aI.seq (aI.block (aI.seq (GR (pX (rJ (xs:=args.map uq) (k:=(j:Int)) e12 e14 ⟨by omega,by rw [List.length_map];omega⟩ hv (sa (cs:=sS aj) rfl hcl (pW hf6 (rp (b:=6+off) (off:=0) rfl (ah _ _ _) rfl ⟨hcl,Nat.le_refl _⟩ (qW ?_)))))))))
  have hbo: ∀{x y:Option BX} {q k:Nat},q≠6+off→upd (upd (aK b1 (outs k)) (6+off) x) (6+off) y q=aK b1 (outs k) q:=fun h=>(ae _ _ _ _ h).trans (ae _ _ _ _ h)
  have hbo2: ∀{k q:Nat},hi≤q→q≠3+off→aK b1 (outs k) q=st.bx q:=fun h h'=>(e7 (hnm h)).trans (ae _ _ _ _ h')
  refine aI.seq (HR (r8 (b:=wb) e2 ((hbo (by omega)).trans ((hbo2 hwb (by omega)).trans hw)) rfl (r9 (b:=6+off) rfl (ah _ _ _) (qW (rR (us':=[.t (uq aj),.ptr yb 0,.ptr wb 0]) rfl (by
   show [V.t (.agg (aN [.int .i64 0,.int .i64 0,.str ⟨#[]⟩,.int .i64 0,.int .i64 0,.nil,.str ⟨#[]⟩,.int .i64 0,.nil] 0 9 (sS aj))),V.ptr yb 0,V.ptr wb 0]=_
   rw [mU (n:=9) rfl,hec]) ?_)))))
  refine ih aj (by omega) (by omega) (k+1+(sP (args.take j)).length) (m+1) (off+7) _ _ _ (fun i x hx=>?_) (hA1.of hA1.cx.symm rfl (fun q h1=>?_) (fun p hp=>?_) ⟨off+7,fun q hq=>?_⟩) (fun q hq=>?_) (by omega) (by omega) (by omega) ?_ ?_ ?t (fun c cx' o' hs=> ?f)
  ·rw [Nat.add_assoc,Nat.add_assoc]
   refine hxs _ x ?_
   rw [wW,Nat.add_comm,List.getElem?_cons_succ]
   exact hpg i x hx
  ·have hq1:=G.fh q h1
   exact (hbo (by omega)).trans ((e7 (fun p hp e=>(G.nm _ p hp).2 (by rw [e];exact h1))).trans (ae _ _ _ _ (by omega)))
  ·exact (hbo (hnm (show hi≤6+off by omega) p hp)).trans (mC (G.nd _) hp)
  ·exact (hbo (by omega)).trans ((hbo2 (by omega) (by omega)).trans (hfree q (by omega)))
  ·exact (hbo (by omega)).trans ((hbo2 (by omega) (by omega)).trans (hfree q (by omega)))
  ·exact (hbo (by omega)).trans ((hbo2 hyb (by omega)).trans hy)
  ·exact (hbo (by omega)).trans ((hbo2 hwb (by omega)).trans hw)
  case f=>
   refine sj rfl (qW ?_)
   refine C7 (rN rfl (rr (sg rfl (qW (rP ?_)))))
   refine ⟨[6+off],{sl:=fun n=>cond (Nat.beq n 4) (.t (.bool false)) .top,bx:=aK (aK b1 (outs (k+1+(sP (args.take j)).length))) o',gh:=dO st.sl st.gh,off:=off,cx:=dC l (rc (some c)) cx' (m+1)},endF c cx' o' _ hs rfl rfl (fun q hq=>?_) rfl,?_⟩
   ·show aK (aK b1 (outs _)) o' q=_
    rw [qY (G.covs _ _ _ hs _)]
    exact oZ (ae _ _ _ _ (fun e=>hq (by rw [e];simp))) _
   ·refine nj (fun q=>?_) rfl (fun q hq=>oZ (hbo (fun e=>hq (by rw [e];simp))) o') (fun q hq=>?_) (G.sfs (G.lvU _ _) _ _ _ hs)
    ·by_cases h:q=4
     ·subst h;exact Or.inr ⟨rfl,Or.inr (.t _)⟩
     ·refine Or.inl ?_
      show cond (Nat.beq q 4) _ _=_
      rw [eS h];rfl
    ·rw [List.mem_singleton.1 hq]
     exact ⟨hf6,hnms hs (by omega)⟩
  case t=>
   refine sj rfl (qW ?_)
   refine C7 (rM rfl (rQ ?_))
   have hge:=Au args
   have hw1:IntKind.i64.wrap ((j:Int)+1)=((j+1:Nat):Int):=by rw [mG (by omega) (by omega)];rfl
   refine GU (pX (rZ (a:=(j:Int)) (b:=1) e14 rfl hw1 (sg rfl (qW ?_))))
   have hix:k+1+(sP (args.take j)).length+(sD aj).length=k+1+(sP (args.take (j+1))).length:=by rw [hpt,List.length_append];omega
   refine ⟨[6+off],{sl:=upd (fun n=>cond (Nat.beq n 1||Nat.beq n 2||Nat.beq n 12||Nat.beq n 13) (sl n) .top) 14 (.t (I (j+1:Nat))),bx:=aK (aK b1 (outs (k+1+(sP (args.take j)).length))) (outs (k+1+(sP (args.take j)).length+(sD aj).length)),gh:=dO st.sl st.gh,off:=off,cx:=dC l (rc none) cxo (m+1)},⟨args.length - (j+1),by omega,j+1,_,rfl,by omega,St.ext' rfl ((qY (G.cov _ _)).trans (congrArg (fun i=>aK b1 (outs i)) hix)) rfl rfl rfl,e1,e2,e12,e13,rfl⟩,?_⟩
   refine nj (fun q=>?_) rfl (fun q hq=>oZ (hbo (fun e=>hq (by rw [e];simp))) _) (fun q hq=>?_) (G.sf (G.lvU _ _) _)
   ·by_cases h14:q=14
    ·subst h14;exact Or.inr ⟨rfl,Or.inr (.t _)⟩
    by_cases h1:q=1
    ·subst h1;exact Or.inr ⟨by (conv=>lhs;whnf);(conv=>rhs;whnf),Or.inl rfl⟩
    by_cases h2:q=2
    ·subst h2;exact Or.inr ⟨by (conv=>lhs;whnf);(conv=>rhs;whnf),Or.inl rfl⟩
    by_cases h12:q=12
    ·subst h12;exact Or.inr ⟨by (conv=>lhs;whnf);(conv=>rhs;whnf),Or.inl rfl⟩
    by_cases h13:q=13
    ·subst h13;exact Or.inr ⟨by (conv=>lhs;whnf);(conv=>rhs;whnf),Or.inl rfl⟩
    refine Or.inl ?_
    show upd _ 14 _ q=_
    rw [ae _ _ _ _ h14]
    show cond (Nat.beq q 1||Nat.beq q 2||Nat.beq q 12||Nat.beq q 13) _ _=_
    rw [eS h1,eS h2,eS h12,eS h13];rfl
   ·rw [List.mem_singleton.1 hq]
    exact ⟨hf6,hnm (by omega)⟩
end
end Go.TY
end
section
namespace Go.TY
open Go Go.DL Go.MM Go.Proofs
attribute [local irreducible] aI gR WCM YC
section
variable [Glb]
theorem yA {N:Nat} {st:St} {g:Operand} {y:O} {p:Nat} {asg body:Code} (hg:aq g=some y) (r:RP) (hv:ev st.sl y= .t (.clos 145 [.cptr (sB r) 0])) (off:Nat) (F:Nat→Prop) (hi:Nat) (hio:hi≤off) (hB:(tc r).length<2^59) (hfl: ∀n,F n→st.bx n=none) (hfo: ∀n,off≤n→st.bx n=none) (hcn:CxN st.cx)
  {outs:Nat→List (Nat×BX)} {stop:Code→(aa→World→Prop)→List (Nat×BX)→Prop} {Q:aB→St→Prop} (h0: ∀q∈outs 0,st.bx q.1=some q.2)
  (hG: ∀(l D:Nat) (fn:FuncId) (tmps:Array Value),tmps.size=N→dR Tryz.prog l (rcE fn tmps p asg body D) st.cx st F hi ((tc r).map sN) outs stop)
  (hend:Q .normal {st with bx:=aK st.bx (outs (tc r).length)})
  (hstop: ∀c cx' o',stop c cx' o'→(c= .ret∧Q .ret {st with bx:=aK st.bx o',cx:=cx' })∨ ∃id,c= .exit id∧Q (.exit id) {st with bx:=aK st.bx o',cx:=cx' }):
  aI Tryz.prog N (.rangeFunc g #[p] asg body) st Q:=by
 refine aI.clean (fun _=>?_)
 refine aI.range (N:=N) hg (gf:=145) (caps:=[.t (.cptr (sB r) 0)]) (by rw [hv];rfl) Tryz.func145 Ip rfl rfl (nlZ rfl) off hcn (fun l D fn tmps hN=>?_)
 have G:=hG l D fn tmps hN
 rw [K4]
 have hA:AtI qF l (rcE fn tmps p asg body D none) st.cx st F (outs 0) 0 (st.itr l [.t (.cptr (sB r) 0)] off (rdy fn tmps p asg body D)):=
  ⟨rfl,rfl,fun j=>by
   show dO st.sl st.gh (0+0+1+j)=_
   rw [show 0+0+1+j=j+1 by omega];rfl,h0,hfl,off,hfo⟩
 have hnm: ∀{k:Nat} {q:Nat},hi≤q→ ∀p∈outs k,p.1≠q:=fun h p hp e=>by have:=(G.nm _ p hp).1;omega
 have hnms: ∀{c cx o} {q:Nat},stop c cx o→hi≤q→ ∀p∈o,p.1≠q:=fun hs h p hp e=>by have:=(G.nms _ _ _ hs p hp).1;omega
 have hf2:st.bx (2+off)=none:=hfo _ (by omega)
 have hf3:st.bx (3+off)=none:=hfo _ (by omega)
 have fin: ∀{s2:St} {o:List (Nat×BX)} {cx:aa→World→Prop},s2.gh=dO st.sl st.gh→(∀ q, ¬q∈[2+off,3+off]→s2.bx q=aK st.bx o q)→(∀ q∈[2+off,3+off], ∀p∈o,p.1≠q)→(∀ p∈o,bz (fun n=>(st.bx n).isSome=true) p.2)→
   DL.Clean st [2+off,3+off] (s2.bE st.off cx) {st with bx:=aK st.bx o,cx:=cx }:=fun h1 h2 h3 h4=>
  mL (d:=none) (v:=.nil) (by rw [h1];rfl) (fun j=>by rw [h1];rfl) h2 (fun q hq=>⟨by
   rcases List.mem_cons.1 hq with rfl|hq
   ·exact hf2
   ·rw [List.mem_singleton.1 hq];exact hf3,h3 q hq⟩) h4
 refine aI.seq (GA (pX (rH (v:=.func (.yield l) #[] #[]) rfl hf2 (qW ?_))))
 refine aI.seq (GG (pX (pW ((ae _ _ _ _ (show 3+off≠2+off by omega)).trans hf3) (qW ?_))))
 refine aI.seq (GJ (pX (rK rfl (sq (b:=3+off) rfl (ah _ _ _) rfl (qW ?_)))))
 have hbo: ∀{x y z:Option BX} {q:Nat},q≠2+off→q≠3+off→upd (upd (upd st.bx (2+off) x) (3+off) y) (3+off) z q=st.bx q:=fun h1 h2=>(ae _ _ _ _ h2).trans ((ae _ _ _ _ h2).trans (ae _ _ _ _ h1))
 have h23:2+off≠3+off:=by omega
 have hq2: ∀q, ¬q∈[2+off,3+off]→q≠2+off∧q≠3+off:=fun q h=>⟨fun e=>h (by rw [e];simp),fun e=>h (by rw [e];simp)⟩
 refine HP (r8 (b:=3+off) rfl (ah _ _ _) rfl (sa (cs:=sB r) rfl (sH r) (qW (rR (us':=[.t (sN r),.ptr (2+off) 0,.ptr (3+off) 0]) rfl (by rw [sG];rfl) ?_))))
 refine zh G (2+off) (3+off) (by omega) (by omega) (tc r).length r (Nat.le_refl _) (by omega) 0 0 (off+4) _ _ _ (fun j x hx=>by rw [Nat.zero_add,List.getElem?_map,hx];rfl) (hA.of rfl rfl (fun q h1=>hbo (by have:=G.fh q h1;omega) (by have:=G.fh q h1;omega)) (fun q hq=>(hbo (hnm (by omega) q hq) (hnm (by omega) q hq)).trans (h0 q hq)) ⟨off+4,fun q hq=>(hbo (by omega) (by omega)).trans (hfo q (by omega))⟩)
  (fun q hq=>(hbo (by omega) (by omega)).trans (hfo q (by omega))) (by omega) (by omega) (by omega) ((ae _ _ _ _ h23).trans ((ae _ _ _ _ h23).trans (ah _ _ _))) (ah _ _ _) ?t (fun c cx' o' hs=> ?f)
 case t=>
  refine qW ⟨none,st.cx,rfl,G.cxo_,[2+off,3+off],_,?_,fin (o:=outs (tc r).length) rfl (fun q hq=>?_) (fun q hq=>hnm (by
   rcases List.mem_cons.1 hq with rfl|hq
   ·omega
   ·rw [List.mem_singleton.1 hq];omega)) (G.sf (G.lvA h0) _)⟩
  ·exact hend
  ·show aK _ (outs (0+(tc r).length)) q=_
   rw [Nat.zero_add]
   exact oZ (hbo (hq2 q hq).1 (hq2 q hq).2) _
 case f=>
  rcases hstop c cx' o' hs with ⟨rfl,hq⟩|⟨id,rfl,hq⟩
  all_goals
   refine qW ⟨some _,cx',rfl,G.cxd _ _ _ hs,[2+off,3+off],_,hq,fin (o:=o') rfl (fun q hq=>?_) (fun q hq=>hnms hs (by
    rcases List.mem_cons.1 hq with rfl|hq
    ·omega
    ·rw [List.mem_singleton.1 hq];omega)) (G.sfs (G.lvA h0) _ _ _ hs)⟩
   exact oZ (hbo (hq2 q hq).1 (hq2 q hq).2) _
theorem vH {N:Nat} {st:St} {g:Operand} {y:O} {p:Nat} {asg body:Code} (hg:aq g=some y) (r:RO) (hv:ev st.sl y= .t (.clos 116 [.cptr (sS r) 0])) (off:Nat) (F:Nat→Prop) (hi:Nat) (hio:hi≤off) (hB:(sD r).length<2^59) (hfl: ∀n,F n→st.bx n=none) (hfo: ∀n,off≤n→st.bx n=none) (hcn:CxN st.cx)
  {outs:Nat→List (Nat×BX)} {stop:Code→(aa→World→Prop)→List (Nat×BX)→Prop} {Q:aB→St→Prop} (h0: ∀q∈outs 0,st.bx q.1=some q.2)
  (hG: ∀(l D:Nat) (fn:FuncId) (tmps:Array Value),tmps.size=N→dR Tryz.prog l (rcE fn tmps p asg body D) st.cx st F hi ((sD r).map uq) outs stop)
  (hend:Q .normal {st with bx:=aK st.bx (outs (sD r).length)})
  (hstop: ∀c cx' o',stop c cx' o'→(c= .ret∧Q .ret {st with bx:=aK st.bx o',cx:=cx' })∨ ∃id,c= .exit id∧Q (.exit id) {st with bx:=aK st.bx o',cx:=cx' }):
  aI Tryz.prog N (.rangeFunc g #[p] asg body) st Q:=by
 refine aI.clean (fun _=>?_)
 refine aI.range (N:=N) hg (gf:=116) (caps:=[.t (.cptr (sS r) 0)]) (by rw [hv];rfl) Tryz.func116 Il rfl rfl (nlZ rfl) off hcn (fun l D fn tmps hN=>?_)
 have G:=hG l D fn tmps hN
 rw [K1]
 have hA:AtI qF l (rcE fn tmps p asg body D none) st.cx st F (outs 0) 0 (st.itr l [.t (.cptr (sS r) 0)] off (rdy fn tmps p asg body D)):=
  ⟨rfl,rfl,fun j=>by
   show dO st.sl st.gh (0+0+1+j)=_
   rw [show 0+0+1+j=j+1 by omega];rfl,h0,hfl,off,hfo⟩
 have hnm: ∀{k:Nat} {q:Nat},hi≤q→ ∀p∈outs k,p.1≠q:=fun h p hp e=>by have:=(G.nm _ p hp).1;omega
 have hnms: ∀{c cx o} {q:Nat},stop c cx o→hi≤q→ ∀p∈o,p.1≠q:=fun hs h p hp e=>by have:=(G.nms _ _ _ hs p hp).1;omega
 have hf2:st.bx (2+off)=none:=hfo _ (by omega)
 have hf3:st.bx (3+off)=none:=hfo _ (by omega)
 have fin: ∀{s2:St} {o:List (Nat×BX)} {cx:aa→World→Prop},s2.gh=dO st.sl st.gh→(∀ q, ¬q∈[2+off,3+off]→s2.bx q=aK st.bx o q)→(∀ q∈[2+off,3+off], ∀p∈o,p.1≠q)→(∀ p∈o,bz (fun n=>(st.bx n).isSome=true) p.2)→
   DL.Clean st [2+off,3+off] (s2.bE st.off cx) {st with bx:=aK st.bx o,cx:=cx }:=fun h1 h2 h3 h4=>
  mL (d:=none) (v:=.nil) (by rw [h1];rfl) (fun j=>by rw [h1];rfl) h2 (fun q hq=>⟨by
   rcases List.mem_cons.1 hq with rfl|hq
   ·exact hf2
   ·rw [List.mem_singleton.1 hq];exact hf3,h3 q hq⟩) h4
 refine aI.seq (Gx (pX (rH (v:=.func (.yield l) #[] #[]) rfl hf2 (qW ?_))))
 refine aI.seq (GD (pX (pW ((ae _ _ _ _ (show 3+off≠2+off by omega)).trans hf3) (qW ?_))))
 refine aI.seq (GH (pX (rK rfl (sq (b:=3+off) rfl (ah _ _ _) rfl (qW ?_)))))
 have hbo: ∀{x y z:Option BX} {q:Nat},q≠2+off→q≠3+off→upd (upd (upd st.bx (2+off) x) (3+off) y) (3+off) z q=st.bx q:=fun h1 h2=>(ae _ _ _ _ h2).trans ((ae _ _ _ _ h2).trans (ae _ _ _ _ h1))
 have h23:2+off≠3+off:=by omega
 have hq2: ∀q, ¬q∈[2+off,3+off]→q≠2+off∧q≠3+off:=fun q h=>⟨fun e=>h (by rw [e];simp),fun e=>h (by rw [e];simp)⟩
 refine HO (r8 (b:=3+off) rfl (ah _ _ _) rfl (sa (cs:=sS r) rfl (tu r) (qW (rR (us':=[.t (uq r),.ptr (2+off) 0,.ptr (3+off) 0]) rfl (by rw [sM];rfl) ?_))))
 refine zg G (2+off) (3+off) (by omega) (by omega) (sD r).length r (Nat.le_refl _) (by omega) 0 0 (off+4) _ _ _ (fun j x hx=>by rw [Nat.zero_add,List.getElem?_map,hx];rfl) (hA.of rfl rfl (fun q h1=>hbo (by have:=G.fh q h1;omega) (by have:=G.fh q h1;omega)) (fun q hq=>(hbo (hnm (by omega) q hq) (hnm (by omega) q hq)).trans (h0 q hq)) ⟨off+4,fun q hq=>(hbo (by omega) (by omega)).trans (hfo q (by omega))⟩)
  (fun q hq=>(hbo (by omega) (by omega)).trans (hfo q (by omega))) (by omega) (by omega) (by omega) ((ae _ _ _ _ h23).trans ((ae _ _ _ _ h23).trans (ah _ _ _))) (ah _ _ _) ?t (fun c cx' o' hs=> ?f)
 case t=>
  refine qW ⟨none,st.cx,rfl,G.cxo_,[2+off,3+off],_,?_,fin (o:=outs (sD r).length) rfl (fun q hq=>?_) (fun q hq=>hnm (by
   rcases List.mem_cons.1 hq with rfl|hq
   ·omega
   ·rw [List.mem_singleton.1 hq];omega)) (G.sf (G.lvA h0) _)⟩
  ·exact hend
  ·show aK _ (outs (0+(sD r).length)) q=_
   rw [Nat.zero_add]
   exact oZ (hbo (hq2 q hq).1 (hq2 q hq).2) _
 case f=>
  rcases hstop c cx' o' hs with ⟨rfl,hq⟩|⟨id,rfl,hq⟩
  all_goals
   refine qW ⟨some _,cx',rfl,G.cxd _ _ _ hs,[2+off,3+off],_,hq,fin (o:=o') rfl (fun q hq=>?_) (fun q hq=>hnms hs (by
    rcases List.mem_cons.1 hq with rfl|hq
    ·omega
    ·rw [List.mem_singleton.1 hq];omega)) (G.sfs (G.lvA h0) _ _ _ hs)⟩
   exact oZ (hbo (hq2 q hq).1 (hq2 q hq).2) _
end
end Go.TY
end
noncomputable section
namespace Go.TY
open Go Go.DL Go.Proofs
def J7:aY:=(.seq (.region [oo 1 (.box 5 (tm 0)),oo 2 (.mov (.const .nilfn))] []) (.seq (.region [oo 3 (.mkfn 145 [tm 1]),mv 2 3] []) .ret))
theorem Lc:(Tryz.f109.body.bind (bD Tryz.prog 4 []))=some J7:=by kernel_rfl
def c73:aY:=(.seq (.region [oo 1 (.box 9 (tm 0)),oo 2 (.mov (.const .nilfn))] []) (.seq (.region [oo 3 (.mkfn 116 [tm 1]),mv 2 3] []) .ret))
theorem l73:(Tryz.f73.body.bind (bD Tryz.prog 4 []))=some c73:=by kernel_rfl
def c86:aY:=(.seq (.region [oo 1 (.box 9 (tm 0)),oo 2 (.mov (.const .nilfn))] []) (.seq (.region [oo 3 (.mkfn 130 [tm 1]),mv 2 3] []) .ret))
theorem l86:(Tryz.f86.body.bind (bD Tryz.prog 4 []))=some c86:=by kernel_rfl
end Go.TY
end
section
namespace Go.TY
open Go Go.DL Go.MM Go.Proofs
section
variable [Glb]
theorem BN (r:RP):DCalls Tryz.prog 109 [sN r] (.clos 145 [.cptr (sB r) 0]):=by
 rw [sG]
 refine qO (rs:=[.tmp 2]) mx Tryz.func109 Lc rfl rfl rfl (r:=[.clos 145 [.cptr (sB r) 0]]) (nlZ rfl) ?_
 repeat' ((conv=>whnf);first|exact trivial|(refine And.intro (by first|exact sH r|fail) ?_)|refine aS ?_|fail)
theorem yh (r:RO):DCalls Tryz.prog 73 [uq r] (.clos 116 [.cptr (sS r) 0]):=by
 rw [sM]
 refine qO (rs:=[.tmp 2]) mx Tryz.func73 l73 rfl rfl rfl (r:=[.clos 116 [.cptr (sS r) 0]]) (nlZ rfl) ?_
 repeat' ((conv=>whnf);first|exact trivial|(refine And.intro (by first|exact tu r|fail) ?_)|refine aS ?_|fail)
theorem BL (r:RO):DCalls Tryz.prog 86 [uq r] (.clos 130 [.cptr (sS r) 0]):=by
 rw [sM]
 refine qO (rs:=[.tmp 2]) mx Tryz.func86 l86 rfl rfl rfl (r:=[.clos 130 [.cptr (sS r) 0]]) (nlZ rfl) ?_
 repeat' ((conv=>whnf);first|exact trivial|(refine And.intro (by first|exact tu r|fail) ?_)|refine aS ?_|fail)
def ug (o:RO):List RP:=if o.kind=1 then tc o.pred else []
def s9 (r:RO):List RP:=(sD r).flatMap ug
def cnt (r:RO) (k:Nat):Nat:=(((sD r).take k).flatMap ug).length
end
section
theorem El {r:RO} {k:Nat} {o:RO} (h:(sD r)[k]? =some o):cnt r (k+1)=cnt r k+(ug o).length:=by
 obtain ⟨hl,rfl⟩:=gsZ h
 unfold cnt
 rw [List.take_succ_eq_append_getElem hl,List.flatMap_append,List.length_append]
 simp
theorem FO (r:RO):cnt r (sD r).length=(s9 r).length:=by
 unfold cnt s9;rw [List.take_length]
theorem DO {r:RO} {k i:Nat} {o:RO} {t:RP} (h:(sD r)[k]? =some o) (ht:(ug o)[i]? =some t):(s9 r)[cnt r k+i]? =some t:=by
 obtain ⟨hl,rfl⟩:=gsZ h
 obtain ⟨hi,_⟩:=gsZ ht
 unfold s9 cnt
 have e:(sD r).flatMap ug=((sD r).take k).flatMap ug++(ug (sD r)[k]++((sD r).drop (k+1)).flatMap ug):=by
  conv=>lhs;rw [← List.take_append_drop k (sD r),List.flatMap_append,List.drop_eq_getElem_cons hl,List.flatMap_cons]
 rw [e,List.getElem?_append_right (by omega),Nat.add_sub_cancel_left,List.getElem?_append_left hi]
 exact ht
end
section
variable [Glb]
end
end Go.TY
end
section
namespace Go.TY
open Go Go.DL Go.MM Go.Proofs
attribute [local irreducible] aI gR WCM YC
section
variable [Glb]
end
section
theorem vd {b:Nat→Option BX} {n:Nat} {v:BX} {o:List (Nat×BX)} (hb:b n=some v) (ho: ∀p∈o,p.1≠n):aK b ((n,v)::o)=aK b o:=by
 show upd (aK b o) n (some v)=aK b o
 exact qB ((e7 ho).trans hb)
theorem gh2 {sl sl1 sl2:Nat→V} {gh gh1 gh2:Nat→Nat→V} {a b:Nat} (h1: ∀i,gh1 (a+1+i)=dO sl gh i) (h2: ∀i,gh2 (b+1+i)=dO sl1 gh1 i) (i:Nat):dO sl2 gh2 (b+a+4+i)=dO sl gh i:=by
 rw [show b+a+4+i=(b+1+((a+1+i)+1))+1 by omega]
 exact (h2 _).trans (h1 i)
end
section
variable [Glb]
theorem yz {N:Nat} {st:St} {g:Operand} {y:O} {p:Nat} {asg body:Code} (hg:aq g=some y) (r:RO) (hv:ev st.sl y= .t (.clos 130 [.cptr (sS r) 0])) (off:Nat) (F:Nat→Prop) (hi:Nat) (hio:hi≤off) (hB:(sD r).length<2^59) (hBp: ∀o∈sD r,(tc o.pred).length<2^59) (hfl: ∀n,F n→st.bx n=none) (hfo: ∀n,off≤n→st.bx n=none) (hcn:CxN st.cx)
  {outs:Nat→List (Nat×BX)} {stop:Code→(aa→World→Prop)→List (Nat×BX)→Prop} {Q:aB→St→Prop} (h0: ∀q∈outs 0,st.bx q.1=some q.2)
  (hG: ∀(l D:Nat) (fn:FuncId) (tmps:Array Value),tmps.size=N→dR Tryz.prog l (rcE fn tmps p asg body D) st.cx st F hi ((s9 r).map sN) outs stop)
  (hend:Q .normal {st with bx:=aK st.bx (outs (s9 r).length)})
  (hstop: ∀c cx' o',stop c cx' o'→(c= .ret∧Q .ret {st with bx:=aK st.bx o',cx:=cx' })∨ ∃id,c= .exit id∧Q (.exit id) {st with bx:=aK st.bx o',cx:=cx' }):
  aI Tryz.prog N (.rangeFunc g #[p] asg body) st Q:=by
 refine aI.clean (fun _=>?_)
 refine aI.range (N:=N) hg (gf:=130) (caps:=[.t (.cptr (sS r) 0)]) (by rw [hv];rfl) Tryz.func130 Io rfl rfl (nlZ rfl) off hcn (fun l D fn tmps hN=>?_)
 have G:=hG l D fn tmps hN
 rw [K3]
 have hf2:st.bx (2+off)=none:=hfo _ (by omega)
 have hnm: ∀{k:Nat} {q:Nat},hi≤q→ ∀p∈outs k,p.1≠q:=fun h p hp e=>by have:=(G.nm _ p hp).1;omega
 have hnms: ∀{c cx o} {q:Nat},stop c cx o→hi≤q→ ∀p∈o,p.1≠q:=fun hs h p hp e=>by have:=(G.nms _ _ _ hs p hp).1;omega
 refine aI.seq (Gz (pX (rH (v:=.func (.yield l) #[] #[]) rfl hf2 (qW ?_))))
 refine aI.seq (GF (pX (sa (cs:=sS r) rfl (tu r) (rI (ts:=[uq r]) (by rw [sM];rfl) (yh r) (qW ?_)))))
 let b1:Nat→Option BX:=upd st.bx (2+off) (some (.v [lV l]))
 have hb1o: ∀{q:Nat},q≠2+off→b1 q=st.bx q:=fun h=>ae _ _ _ _ h
 let yb:Nat×BX:=(2+off,.v [lV l])
 let rc:=rcE fn tmps p asg body D
 let outs1:Nat→List (Nat×BX):=fun k=>yb::outs (cnt r k)
 let stop1:Code→(aa→World→Prop)→List (Nat×BX)→Prop:=fun c cx' o'=>c= .ret∧ ∃c0 cx0 o0,stop c0 cx0 o0∧cx'=dC l (rc (some c0)) cx0 0∧o'=yb::o0
 have safeY: ∀q:Nat→Prop,bz q yb.2:=fun q c hc=>by
  rw [List.mem_singleton.1 hc];exact .raw _
 have nmY: ∀{k:Nat}, ∀p∈outs k,p.1≠2+off:=hnm (by omega)
 have nmsY: ∀{c cx o},stop c cx o→ ∀p∈o,p.1≠2+off:=fun hs=>hnms hs (by omega)
 have nFY: ¬F (2+off):=fun h=>by have:=G.fh _ h;omega
 let F1:Nat→Prop:=fun n=>F n∨(off+3≤n∧n<off+30)
 have sub1: ∀{hi' lo':Nat} {c:aa→World→Prop} {f:Nat→Nat} {stp:Code→(aa→World→Prop)→List (Nat×BX)→Prop},off+30≤hi'→off+3≤lo'→CxD c→(∀ c cx o',stp c cx o'→CxD cx∧ ∃c0 cx0 o0,stop c0 cx0 o0∧o'=yb::o0)→ph (fun n=>F n∨(lo'≤n∧n<off+30)) hi' c (fun k=>yb::outs (f k)) stp:=fun {hi' lo' c f stp} hh hl hc hst=>
  {fh:=fun n h=>by
    rcases h with h|h
    ·have:=G.fh _ h;omega
    ·omega
   nm:=fun k p hp=>by
    rcases List.mem_cons.1 hp with rfl|hp
    ·exact ⟨by show 2+off<_;omega,fun h=>by
      rcases h with h|h
      ·exact nFY h
      ·have:2+off≥_:=h.1;omega⟩
    ·have h1:=G.nm _ p hp
     exact ⟨by omega,fun h=>by
      rcases h with h|h
      ·exact h1.2 h
      ·omega⟩
   nms:=fun c cx o ho p hp=>by
    obtain ⟨_,c0,cx0,o0,hs0,rfl⟩:=hst _ _ _ ho
    rcases List.mem_cons.1 hp with rfl|hp
    ·exact ⟨by show 2+off<_;omega,fun h=>by
      rcases h with h|h
      ·exact nFY h
      ·have:2+off≥_:=h.1;omega⟩
    ·have h1:=G.nms _ _ _ hs0 p hp
     exact ⟨by omega,fun h=>by
      rcases h with h|h
      ·exact h1.2 h
      ·omega⟩
   cov:=fun k k' p hp=>by
    rcases List.mem_cons.1 hp with rfl|hp
    ·exact ⟨yb,by simp,rfl⟩
    ·obtain ⟨q,hq,e⟩:=G.cov (f k) (f k') p hp
     exact ⟨q,by simp [hq],e⟩
   covs:=fun c cx o ho k p hp=>by
    obtain ⟨_,c0,cx0,o0,hs0,rfl⟩:=hst _ _ _ ho
    rcases List.mem_cons.1 hp with rfl|hp
    ·exact ⟨yb,by simp,rfl⟩
    ·obtain ⟨q,hq,e⟩:=G.covs _ _ _ hs0 (f k) p hp
     exact ⟨q,by simp [hq],e⟩
   safe:=fun k p hp=>by
    rcases List.mem_cons.1 hp with rfl|hp
    ·exact safeY _
    ·exact (G.safe _ p hp).imp fun n ⟨q,hq,e⟩=>by
      obtain ⟨q',hq',e'⟩:=G.cov 0 (f 0) q hq
      exact ⟨q',List.mem_cons_of_mem _ hq',e'.trans e⟩
   safes:=fun c cx o ho p hp=>by
    obtain ⟨_,c0,cx0,o0,hs0,rfl⟩:=hst _ _ _ ho
    rcases List.mem_cons.1 hp with rfl|hp
    ·exact safeY _
    ·exact (G.safes _ _ _ hs0 p hp).imp fun n ⟨q,hq,e⟩=>by
      obtain ⟨q',hq',e'⟩:=G.cov 0 (f 0) q hq
      exact ⟨q',List.mem_cons_of_mem _ hq',e'.trans e⟩
   cxd:=fun c cx o ho=>(hst _ _ _ ho).1
   cxo_:=hc
   nd:=fun k=>List.nodup_cons.2 ⟨fun h=>by
    obtain ⟨p,hp,e⟩:=List.mem_map.1 h
    exact nmY p hp e,G.nd _⟩}
 have cl: ∀{s2:St} {o:List (Nat×BX)} {cx:aa→World→Prop},s2.gh=dO st.sl st.gh→(∀ q,q≠2+off→s2.bx q=aK st.bx o q)→(∀ p∈o,p.1≠2+off)→(∀ p∈o,bz (fun n=>(st.bx n).isSome=true) p.2)→
   DL.Clean st [2+off] (s2.bE st.off cx) {st with bx:=aK st.bx o,cx:=cx }:=fun h1 h2 h3 h4=>
  mL (d:=none) (v:=.nil) (by rw [h1];rfl) (fun j=>by rw [h1];rfl) (fun q hq=>h2 q (fun e=>hq (by rw [e];simp))) (fun q hq=>by rw [List.mem_singleton.1 hq];exact ⟨hf2,h3⟩) h4
 refine aI.block (vH (N:=19) rfl r rfl (off+30) F1 (off+30) (Nat.le_refl _) hB (fun n h=>?_) (fun n h=>(hb1o (by omega)).trans (hfo n (by omega))) (rC hcn) (outs:=outs1) (stop:=stop1) (fun q hq=>?_) (fun l1 D1 fn1 tmps1 hN1=>?_) ?_ (fun c cx' o' h=>?_))
 ·rcases h with h|h
  ·exact (hb1o (fun e=>nFY (by rw [← e];exact h))).trans (hfl n h)
  ·exact (hb1o (by omega)).trans (hfo n (by omega))
 ·rcases List.mem_cons.1 hq with rfl|hq
  ·exact ah _ _ _
  ·exact (hb1o (nmY q hq)).trans (h0 q hq)
 rotate_left
 ·refine ⟨none,st.cx,rfl,G.cxo_,[2+off],_,hend,cl rfl (fun q hq=>?_) nmY (G.sf (G.lvA h0) _)⟩
  show aK b1 (yb::outs (cnt r (sD r).length)) q=_
  rw [vd (b:=b1) (ah _ _ _) nmY,FO]
  exact oZ (hb1o hq) _
 ·obtain ⟨rfl,c0,cx0,o0,hs0,rfl,rfl⟩:=h
  refine Or.inl ⟨rfl,?_⟩
  have hbx: ∀q,q≠2+off→aK b1 (yb::o0) q=aK st.bx o0 q:=fun q hq=>by
   rw [vd (b:=b1) (ah _ _ _) (nmsY hs0)]
   exact oZ (hb1o hq) _
  rcases hstop _ _ _ hs0 with ⟨rfl,hq⟩|⟨id,rfl,hq⟩
  ·exact ⟨some _,cx0,rfl,G.cxd _ _ _ hs0,[2+off],_,hq,cl rfl hbx (nmsY hs0) (G.sfs (G.lvA h0) _ _ _ hs0)⟩
  ·exact ⟨some _,cx0,rfl,G.cxd _ _ _ hs0,[2+off],_,hq,cl rfl hbx (nmsY hs0) (G.sfs (G.lvA h0) _ _ _ hs0)⟩
 refine dR.of (lo:=off+3) (hi:=off+30) (sub1 (Nat.le_refl _) (Nat.le_refl _) (qj G.cxo_) ?_) (fun n h1 h2=>Or.inr ⟨h1,h2⟩) hN1 (by decide) (fun {W1} R1 k x m1 st' hx hA1=>?_)
 ·rintro c cx o' ⟨rfl,c0,cx0,o0,hs0,rfl,rfl⟩
  exact ⟨qj (G.cxd _ _ _ hs0),c0,cx0,o0,hs0,rfl⟩
 obtain ⟨pk,hk,rfl⟩: ∃pk,(sD r)[k]? =some pk∧uq pk=x:=by
  rw [List.getElem?_map,Option.map_eq_some_iff] at hx;exact hx
 have hcs:=El hk
 have hget:=fun i t=>DO (r:=r) (k:=k) (i:=i) (o:=pk) (t:=t) hk
 have hBk:=hBp pk (List.mem_of_getElem? hk)
 have hpd:ug pk=if pk.kind=1 then tc pk.pred else []:=rfl
 generalize ug pk=pd at hcs hget hpd
 have hfr1: ∀n,off+3≤n→n<off+30→st'.bx n=none:=fun n h1 h2=>hA1.fr n (Or.inr ⟨h1,h2⟩)
 have hfr1F: ∀n,F n→st'.bx n=none:=fun n h=>hA1.fr n (Or.inl h)
 obtain ⟨B,htop1⟩:=hA1.top
 have hat1:=hA1.at_
 have hsl2:st'.gh (m1+R1.j) 2= .ptr (2+off) 0:=congrFun hA1.g0 2
 have hgs1:=hA1.gs
 have hcx1:=hA1.cx
 clear hA1
 rw [sM]
 obtain ⟨kd,pr,f,n,args⟩:=pk
 refine GI (pX (pW (hfr1 (3+(off+3)) (by omega) (by omega)) (rp (b:=3+(off+3)) (off:=0) rfl (ah _ _ _) rfl ⟨rfl,Nat.le_refl _⟩ (qW ⟨rfl,_,rfl,?_⟩))))
 have hb0: ∀{u v:Option BX} {q:Nat},q≠3+(off+3)→upd (upd st'.bx (3+(off+3)) u) (3+(off+3)) v q=st'.bx q:=fun h=>(ae _ _ _ _ h).trans (ae _ _ _ _ h)
 refine aI.block (aI.seq (GL (rr (rL (b:=3+(off+3)) (off:=0) rfl (sb (b:=3+(off+3)) (off:=0+0) (t:=I kd) rfl (ah _ _ _) (by decide) rfl (si (a:=kd) (b:=1) rfl rfl (qW ?_)))))))
 by_cases hkd:kd=1
 case neg=>
  refine rN (by show V.t (.bool (kd !=1))=_;rw [bne_iff_ne.2 hkd]) (rO ⟨rfl,_,yb::outs (cnt r (k+1)),rfl,fun q hq=>?_,rfl,rfl⟩)
  have e:cnt r (k+1)=cnt r k:=by rw [hcs,hpd,if_neg (show ¬(RO.mk kd pr f n args).kind=1 from hkd)];rfl
  exact (hb0 (show q≠3+(off+3) from fun h=>hq (by omega))).trans (congrFun ((kx hat1).symm.trans (congrArg (fun j=>aK st'.bx (yb::outs j)) e.symm)) q)
 have hpd:pd=tc pr:=hpd.trans (if_pos hkd)
 subst hpd
 refine rM (by show V.t (.bool (kd !=1))=_;rw [hkd];rfl) (rQ ?_)
 have hprc:T.agg (sB pr)=sN pr:=(sG pr).symm
 refine aI.seq (GO (pX (rL (b:=3+(off+3)) (off:=0) rfl (sc (b:=3+(off+3)) (off:=0) (m:=9) (t:=sN pr) rfl (ah _ _ _) (by decide) (by rw [← hprc];cases pr;rfl) (rI (ts:=[sN pr]) rfl (BN pr) (qW ?_))))))
 let off2:=max B (off+30)
 have ho2:B≤off2∧off+30≤off2:=⟨Nat.le_max_left _ _,Nat.le_max_right _ _⟩
 refine aI.block (yA (N:=19) rfl pr rfl off2 (fun n=>F n∨(off+8≤n∧n<off+30)) off2 (Nat.le_refl _) hBk (fun n h=>?_) (fun n h=>(hb0 (by omega)).trans (htop1 n (by omega))) ?_ (outs:=fun i=>yb::outs (cnt r k+i)) (stop:=fun c cx' o'=>c= .ret∧ ∃c0 cx0 o0,stop c0 cx0 o0∧cx'=cq (W1 (dq l1 (bsy fn1 tmps1 7 xT (.block 1 (.seq xU (.seq xV (.block 2 (.rangeFunc (.tmp 13) #[14] wY (.block 3 (.seq wq wZ))))))) D1) (dC l (rc (some c0)) cx0 0) m1))∧o'=yb::o0) (fun q hq=>?_) (fun l2 D2 fn2 tmps2 hN2=>?_) ?_ (fun c cx' o' h=>?_))
 ·rcases h with h|h
  ·exact (hb0 (by have:=G.fh _ h;omega)).trans (hfr1F n h)
  ·exact (hb0 (by omega)).trans (hfr1 n (by omega) (by omega))
 ·exact Wr.cxN (Wr.pop (R1.comp (Wr.r0 l1 _ m1))) (rC hcn)
 ·refine (hb0 ?_).trans (hat1 q hq)
  rcases List.mem_cons.1 hq with rfl|hq
  ·show 2+off≠_;omega
  ·exact hnm (by omega) q hq
 rotate_left
 ·refine ⟨rfl,_,yb::outs (cnt r (k+1)),rfl,fun q hq=>?_,rfl,rfl⟩
  exact (oZ (hb0 (show q≠3+(off+3) from fun h=>hq (by omega))) (yb::outs (cnt r k+(tc pr).length))).trans (congrArg (fun j=>aK st'.bx (yb::outs j) q) hcs.symm)
 ·obtain ⟨rfl,c0,cx0,o0,hs0,rfl,rfl⟩:=h
  exact Or.inl ⟨rfl,rfl,_,yb::o0,rfl,fun q hq=>oZ (hb0 (show q≠3+(off+3) from fun h=>hq (by omega))) (yb::o0),rfl,c0,cx0,o0,hs0,rfl,rfl⟩
 refine dR.of (lo:=off+8) (hi:=off+30) (sub1 (lo':=off+8) (f:=fun i=>cnt r k+i) (by omega) (by omega) (Wr.cxD (Wr.pop (R1.comp (Wr.r0 l1 _ m1))) (qj G.cxo_)) ?_) (fun n h1 h2=>Or.inr ⟨h1,h2⟩) hN2 (by decide) (fun {W2} R2 i x m2 st'' hx2 hA2=>?_)
 ·rintro c cx o' ⟨rfl,c0,cx0,o0,hs0,rfl,rfl⟩
  exact ⟨Wr.cxD (Wr.pop (R1.comp (Wr.r0 l1 _ m1))) (qj (G.cxd _ _ _ hs0)),c0,cx0,o0,hs0,rfl⟩
 have hex: ∃t,(tc pr)[i]? =some t∧T.agg (sB t)=x:=by
  rw [List.getElem?_map,Option.map_eq_some_iff] at hx2
  obtain ⟨t,h1,h2⟩:=hx2
  exact ⟨t,h1,(sG t).symm.trans h2⟩
 obtain ⟨t,ht,hxe⟩:=hex
 subst hxe
 have hxt:((s9 r).map sN)[cnt r k+i]? =some (sN t):=by rw [List.getElem?_map,hget i t ht];rfl
 have hfr2: ∀n,off+8≤n→n<off+30→st''.bx n=none:=fun n h1 h2=>hA2.fr n (Or.inr ⟨h1,h2⟩)
 have hfr2F: ∀n,F n→st''.bx n=none:=fun n h=>hA2.fr n (Or.inl h)
 have htop2':=hA2.top
 obtain ⟨B2,htop2⟩:=htop2'
 have hat2:=hA2.at_
 have hsl22:st''.gh (m2+R2.j) 2= .ptr (2+off) 0:=(congrFun hA2.g0 2).trans hsl2
 have hgs2:=hA2.gs
 have hcx2:=hA2.cx
 clear hA2
 have hb2: ∀{u v:Option BX} {q:Nat},q≠4+(off+8)→upd (upd st''.bx (4+(off+8)) u) (4+(off+8)) v q=st''.bx q:=fun h=>(ae _ _ _ _ h).trans (ae _ _ _ _ h)
 have hY2:st''.bx (2+off)=some (.v [lV l]):=hat2 yb (by simp)
 refine GQ (pX (pW (hfr2 (4+(off+8)) (by omega) (by omega)) (rp (b:=4+(off+8)) (off:=0) rfl (ah _ _ _) rfl ⟨sH t,Nat.le_refl _⟩ (qW ⟨rfl,_,rfl,?_⟩))))
 refine aI.block (aI.seq (HQ (r8 (b:=2+off) hsl22 ((hb2 (by omega)).trans hY2) rfl (r9 (b:=4+(off+8)) rfl (ah _ _ _) (qW (rS (us':=[.t (sN t)]) rfl (by
   show [V.t (.agg (aN [.int .i64 0,.str ⟨#[]⟩,.int .i64 0,.int .i64 0,.nil] 0 5 (sB t)))]=_
   rw [mU (n:=5) rfl,sG]) ?_))))))
 let R:=Wr.pop (R2.comp ((Wr.r0 l2 (bsy fn2 tmps2 14 wY (.block 3 (.seq wq wZ)) D2) m2).comp (Wr.pop (R1.comp (Wr.r0 l1 (bsy fn1 tmps1 7 xT (.block 1 (.seq xU (.seq xV (.block 2 (.rangeFunc (.tmp 13) #[14] wY (.block 3 (.seq wq wZ))))))) D1) m1)))))
 have hRj:R.j=(m2+R2.j)+(m1+R1.j)+4:=by
  show ((((m1+1)+R1.j)+1+(m2+1))+R2.j)+1=_
  omega
 refine G.yld R (cnt r k+i) (sN t) 0 _ _ _ hxt ⟨rfl,?_,fun j=>?_,fun q hq=>?_,fun q hq=>?_,?_⟩ ?t (fun c cx' o' hs=> ?f)
 ·exact (congrArg (fun k=>dO st''.sl st''.gh k) (show 0+R.j=(m2+R2.j)+(m1+R1.j)+4+0 by omega)).trans (gh2 hgs1 hgs2 0)
 ·exact (congrArg (fun k=>dO st''.sl st''.gh k) (show 0+R.j+1+j=(m2+R2.j)+(m1+R1.j)+4+(j+1) by omega)).trans (gh2 hgs1 hgs2 (j+1))
 ·exact (hb2 (hnm (by omega) q hq)).trans (hat2 q (List.mem_cons_of_mem _ hq))
 ·exact (hb2 (by have:=G.fh _ hq;omega)).trans (hfr2F q hq)
 ·exact ⟨max B2 (off+30),fun q hq=>(hb2 (by omega)).trans (htop2 q (by omega))⟩
 case t=>
  refine sj rfl (qW ?_)
  refine C6 (rM rfl (rQ ?_))
  refine ⟨rfl,_,yb::outs (cnt r k+(i+1)),rfl,fun q hq=>?_,rfl,rfl⟩
  exact (oZ (hb2 (show q≠4+(off+8) from fun h=>hq (by omega))) (outs (cnt r k+i+1))).trans (congrFun (vd hY2 nmY).symm q)
 case f=>
  refine sj rfl (qW ?_)
  refine C6 (rN rfl (rP ?_))
  refine ⟨rfl,_,yb::o',rfl,fun q hq=>?_,rfl,c,cx',o',hs,rfl,rfl⟩
  exact (oZ (hb2 (show q≠4+(off+8) from fun h=>hq (by omega))) o').trans (congrFun (vd hY2 (nmsY hs)).symm q)
end
end Go.TY
end
section
namespace Go.TY
open Go Go.DL Go.MM
def ur (l:List Fd):RP→Int
 |.mk k f n m _=>if sC f e0 then 0 else match findF l f with
   |none=>4
   |some F=>if (if k=5 then m else n)>((2^F.w - 1:Nat):Int)∨(k=4∧m>F.w) then 1 else 0
def xt (l:List Fd) (r:RP):Int:=sI ((vP r).map (ur l))
def yO (l:List Fd) (f:ByteArray) (n:Int):Int:=match findF l f with
 |none=>4
 |some F=>if n>((2^F.w - 1:Nat):Int) then 1 else 0
def tS (l:List Fd):RO→Int
 |.mk k p f n _=>if k=1 then xt l p else if k=2 then yO l f n else 0
def wP (r:RP):Int:=wz (uP r.nodes r.depth) (tx r)
def zT (l:List Fd) (r:RP):Int:=if wP r≠0 then wP r else xt l r
def sY (l:List Fd) (r:RO):Int:=if tG r≠0 then tG r else sI ((tz r).map (tS l))
theorem ED {f:ByteArray} (h:sC f e0=true):f=e0:=by
 unfold sC at h
 have h:f.data.toList=[]:=by simpa using h
 exact ByteArray.ext (Array.ext' h)
theorem Ey {f:ByteArray} (h:tH f=true):sC f e0=false:=by
 cases e:sC f e0 with
 |false=>rfl
 |true=>
  rw [ED e] at h
  have:tH e0=false:=by decide+kernel
  rw [this] at h;cases h
theorem FR {e:Int} {b:Bool} (h:wz e b=0):e=0∧b=true:=by
 unfold wz at h
 by_cases he:e=0
 ·rw [if_pos he] at h
  cases b with
  |true=>exact ⟨he,rfl⟩
  |false=>simp at h
 ·rw [if_neg he] at h;exact absurd h he
def B9 (o:RO):List RP:=if o.kind=1 then vP o.pred else []
def wK (r:RO):List RP:=(tz r).flatMap B9
def u9 (r:RO):List ByteArray:=(wK r).flatMap fun x=>if sC x.field e0 then [] else [x.field]
def reads (r:RO):List ByteArray:=tB ltS (u9 r)
def uG (r:RO):List ByteArray:=(tz r).flatMap fun o=>if o.kind=2 then [o.field] else []
def writes (r:RO):List ByteArray:=tB ltS (uG r)
def DN (r:RO):List Int:=(tz r).flatMap fun o=>if o.kind=2∧sC o.field ta=true then [o.n] else []
def yX (r:RO):List Int:=tB ltI (DN r)
def xc (x:RP):List Int:=if x.kind=9 then [x.n,x.m] else []
def Bc (r:RO):List Int:=(wK r).flatMap xc
mutual
def tf:RO→Nat
 |.mk k p _ _ a=>if k=3 then min ((uH a).getD 0 0+(uH a).getD 1 0) 65536
  else if k=4 then min ((uH a).getD 0 0 * (uH a).getD 1 0) 65536
  else if k=5 then (if (uH a).getD 0 0=0 then 1 else 65536)
  else if k=1∧p.kind=2 then 0 else 1
def uH:List RO→List Nat
 |[]=>[]
 |r::rs=>tf r::uH rs
end
theorem xo (r:RO):tf r≤65536:=by
 obtain ⟨k,p,f,n,a⟩:=r
 rw [tf]
 split
 ·exact Nat.min_le_right _ _
 ·split
  ·exact Nat.min_le_right _ _
  ·split
   ·split <;> omega
   ·split <;> omega
end Go.TY
end
section
namespace Go.TY
open Go Go.DL Go.MM Go.Proofs
mutual
theorem uh: ∀r:RP,tc r=vP r
 |.mk k f n m a=>by rw [tc,vP,yw a]
theorem yw: ∀l:List RP,sU l=wa l
 |[]=>rfl
 |r::rs=>by rw [sU,wa,uh r,yw rs]
end
mutual
theorem s7: ∀r:RO,sD r=tz r
 |.mk k p f n a=>by rw [sD,tz,yv a]
theorem yv: ∀l:List RO,sP l=um l
 |[]=>rfl
 |r::rs=>by rw [sP,um,s7 r,yv rs]
end
def okB (v:List Int) (k:Nat):Bool:=(v.take k).all fun x=>x==0
theorem Aq {v:List Int} {k:Nat} {x:Int} (h:v[k]? =some x):okB v (k+1)=(okB v k&&(x==0)):=by
 obtain ⟨hl,rfl⟩:=gsZ h
 unfold okB
 rw [List.take_succ_eq_append_getElem hl,List.all_append]
 simp
theorem zF {v:List Int} {k:Nat} {x:Int} (h:v[k]? =some x) (hok:okB v k=true) (hx:x≠0):sI v=x:=by
 obtain ⟨hl,rfl⟩:=gsZ h
 refine xr hl (fun j hj hlt=>?_) hx
 unfold okB at hok
 have:=List.all_eq_true.1 hok v[j] (List.mem_take_iff_getElem.2 ⟨j,by omega,rfl⟩)
 simpa using this
theorem BD {v:List Int} (hok:okB v v.length=true):sI v=0:=by
 refine xI fun j hj=>?_
 unfold okB at hok
 rw [List.take_length] at hok
 simpa using List.all_eq_true.1 hok v[j] (List.getElem_mem hj)
attribute [local irreducible] aI gR WCM YC
def tA (l:List Fd) (v:List Int) (k:Nat):List (Nat×BX):=[(2,.d 1 [fds l]),(4,.d 1 (if okB v k then [I 0] else []))]
def wD (l:List Fd) (v:List Int) (c:Code) (o:List (Nat×BX)):Prop:=c= .ret∧sI v≠0∧o=[(2,.d 1 [fds l]),(4,.d 1 [I (sI v)])]
theorem D0 (l:List Fd) (v:List Int):ph (fun n=>10≤n∧n<100) 100 (fun _ _=>True) (tA l v) (fun c cx o=>cx=(fun _ _=>True)∧wD l v c o) where
 fh:=fun n h=>h.2
 nm:=fun k p hp=>by
  simp only [tA,List.mem_cons,List.not_mem_nil,or_false] at hp
  rcases hp with rfl|rfl <;> exact ⟨by dsimp only;omega,by dsimp only;omega⟩
 nms:=fun c cx o ho p hp=>by
  obtain ⟨_,_,_,rfl⟩:=ho
  simp only [List.mem_cons,List.not_mem_nil,or_false] at hp
  rcases hp with rfl|rfl <;> exact ⟨by dsimp only;omega,by dsimp only;omega⟩
 cov:=fun k k' p hp=>by
  simp only [tA,List.mem_cons,List.not_mem_nil,or_false] at hp ⊢
  rcases hp with rfl|rfl
  ·exact ⟨_,Or.inl rfl,rfl⟩
  ·exact ⟨_,Or.inr rfl,rfl⟩
 covs:=fun c cx o ho k p hp=>by
  obtain ⟨_,_,_,rfl⟩:=ho
  simp only [tA,List.mem_cons,List.not_mem_nil,or_false] at hp ⊢
  rcases hp with rfl|rfl
  ·exact ⟨_,Or.inl rfl,rfl⟩
  ·exact ⟨_,Or.inr rfl,rfl⟩
 safe:=fun k p hp=>by
  simp only [tA,List.mem_cons,List.not_mem_nil,or_false] at hp
  rcases hp with rfl|rfl <;> exact trivial
 safes:=fun c cx o ho p hp=>by
  obtain ⟨_,_,_,rfl⟩:=ho
  simp only [List.mem_cons,List.not_mem_nil,or_false] at hp
  rcases hp with rfl|rfl <;> exact trivial
 cxd:=fun c cx o ho=>by rw [ho.1];exact rT
 cxo_:=rT
 nd:=fun k=>by show ([2,4]:List Nat).Nodup;decide
theorem Eb (l:List Fd) (hl:LOk l) (r:RP) (hr:r.nodes<2^40):DCalls Tryz.prog 69 [fds l,.agg (sB r)] (I (xt l r)):=by
 refine qP Tryz.func69 KZ rfl (r:=[I (xt l r)]) (nlZ rfl) ?_
 have hlen:(tc r).length=r.nodes:=by rw [uh,u7]
 unfold xt
 rw [← uh]
 rw [show Tryz.f69.ntmps=49 from rfl,show Tryz.f69.results.toList=[.cell 4 33] from rfl,k69]
 have ht:=BN r
 rw [sG] at ht
 have hfl: ∀k x,((tc r).map (ur l))[k]? =some x→ ∃t,(tc r)[k]? =some t∧ur l t=x:=fun k x h=>by
  rw [List.getElem?_map,Option.map_eq_some_iff] at h;exact h
 generalize hv:(tc r).map (ur l)=v at *
 refine aI.seq (II ?_)
 repeat' ((conv=>whnf);first|(refine And.intro (by first|exact sH _|fail) ?_)|refine aS ?_|fail)
 refine aI.seq (aI.seq (IQ ?_))
 repeat' ((conv=>whnf);first|refine rE _ (ht) ?_|fail)
 refine aI.bP (s:={sl:=[(2,.ptr 2 0),(4,.ptr 4 0),(10,.t (.clos 145 [.cptr (sB r) 0]))],bx:=[(2,.d 1 [fds l]),(4,.d 1 [I 0])]}) (by repeat' (first|exact trivial|exact LeV.same _|exact LeB.same _|exact rfl|exact fun _ _ _=>trivial|refine And.intro ?_ ?_)) ?_
 refine aI.block (yA (N:=49) rfl r rfl 100 (fun n=>10≤n∧n<100) 100 (Nat.le_refl _) (by omega) (fun n h=>rz fun p hp=>?_) (fun n h=>rz fun p hp=>?_) (by exact rU) (outs:=tA l v) (stop:=fun c cx o=>cx=(fun _ _=>True)∧wD l v c o) ?_ (fun l0 D fn tmps hN=>?_) ?_ ?_)
 ·simp only [List.mem_cons,List.not_mem_nil,or_false] at hp
  rcases hp with rfl|rfl <;> (dsimp only;omega)
 ·simp only [List.mem_cons,List.not_mem_nil,or_false] at hp
  rcases hp with rfl|rfl <;> (dsimp only;omega)
 ·intro q hq
  simp only [tA,List.mem_cons,List.not_mem_nil,or_false] at hq
  rcases hq with rfl|rfl <;> rfl
 ·refine dR.top (d:=5) (n:=5) (lo:=10) (hi:=100) (D0 l v) (fun n h1 h2=>⟨h1,h2⟩) hN (by decide) (fun hw=>IX hw) rfl (by decide) (by decide) (fun x hx=>?_) (fun k cs b G C hk hcs=>?_)
  ·obtain ⟨t,_,rfl⟩:=List.mem_map.1 hx
   exact ⟨_,sG t,sH t⟩
  rw [List.getElem?_map,Option.map_eq_some_iff] at hk
  obtain ⟨t,htk,hte⟩:=hk
  rw [sG] at hte
  obtain rfl:sB t=cs:=T.agg.inj hte
  have hvk:v[k]? =some (ur l t):=by rw [← hv,List.getElem?_map,htk];rfl
  have hs:=Aq hvk
  have hfst:=zF hvk
  cases hok:okB v k with
  |false=>exact aI.absurd (n:=4) (m:=1) (ts:=[]) (by show some (BX.d 1 (if okB v k=true then [I 0] else []))=_;rw [hok];rfl) (by decide)
  |true=>
  have ho:tA l v k=[(2,.d 1 [fds l]),(4,.d 1 [I 0])]:=by unfold tA;rw [hok];rfl
  rw [ho]
  rw [hok,Bool.true_and] at hs
  have hfst:=hfst hok
  clear hok ho
  refine I3 ?_
  clear hte
  obtain ⟨kd,f,n,m,args⟩:=t
  have hE:=sR f e0
  have endN: ∀s:St,s.gh=G→s.cx=C→(∀ q, ¬(10≤q∧q<100)→s.bx q=aK b [(2,.d 1 [fds l]),(4,.d 1 [I 0])] q)→ur l (.mk kd f n m args)=0→RB b G C 10 100 (tA l v (k+1)) (wD l v) .normal s:=fun s h1 h2 h3 h4=>by
   refine ⟨h1,h2,_,h3,?_⟩
   unfold tA
   rw [hs,h4];rfl
  have endR: ∀s:St,s.gh=G→s.cx=C→(∀ q, ¬(10≤q∧q<100)→s.bx q=aK b [(2,.d 1 [fds l]),(4,.d 1 [I (ur l (.mk kd f n m args))])] q)→ur l (.mk kd f n m args)≠0→RB b G C 10 100 (tA l v (k+1)) (wD l v) .ret s:=fun s h1 h2 h3 h4=>by
   have e:=hfst h4
   exact ⟨h1,h2,_,h3,rfl,by rw [e];exact h4,by rw [e]⟩
  cases hb:sC f e0 with
  |true=>
   rw [hb] at hE
   have hq:ur l (.mk kd f n m args)=0:=by simp only [ur];rw [if_pos hb]
   repeat' ((conv=>whnf);first|refine nb_ true hE ?_|refine nT_ ?_|refine aS ?_|fail)
   refine endN _ rfl rfl (fun q hq=>?_) hq
   have hm:=qX (b:=b) hq
   show cond (Nat.beq q 15) _ (cond (Nat.beq q 2) _ (cond (Nat.beq q 4) _ (gE 10 100 b q)))=cond (Nat.beq q 2) _ (cond (Nat.beq q 4) _ (b q))
   rw [eS (show q≠15 by omega),hm];rfl
  |false=>
  rw [hb] at hE
  have h74:=t74 l f hl.len
  unfold xq at h74
  have hq:ur l (.mk kd f n m args)=(match findF l f with
   |none=>4
   |some F=>if (if kd=5 then m else n)>((2^F.w - 1:Nat):Int)∨(kd=4∧m>F.w) then 1 else 0):=by simp only [ur];rw [hb];rfl
  generalize ur l (.mk kd f n m args)=x at *
  cases hF:findF l f with
  |none=>
   rw [hF] at h74 hq
   dsimp only at h74 hq
   subst hq
   by_cases h5:kd=5
   all_goals
    repeat' ((conv=>whnf);first|refine nb_ false hE ?_|refine rE _ (h74) ?_|refine qx h5 ?_|refine qw h5 ?_|refine nT_ ?_|refine aS ?_|fail)
    (conv=>whnf)
    refine endR _ rfl rfl (fun q hq=>?_) (by decide)
    have hm:=qX (b:=b) hq
    by_cases h4:q=4
    ·subst h4;rfl
    show cond (Nat.beq q 4) _ (cond (Nat.beq q 16) _ (cond (Nat.beq q 16) _ (cond (Nat.beq q 15) _ (cond (Nat.beq q 2) _ (cond (Nat.beq q 4) _ (gE 10 100 b q))))))=cond (Nat.beq q 2) _ (cond (Nat.beq q 4) _ (b q))
    rw [eS (show q≠15 by omega),eS (show q≠16 by omega),eS h4,hm];rfl
  |some F=>
   rw [hF] at h74 hq
   dsimp only at h74 hq
   have h97:=t97 F (hl.find hF)
   generalize (2^F.w - 1:Nat)=M at *
   have fin: ∀(y:Int),x=y→(y=0∨y=1)→True:=fun _ _ _=>trivial
   by_cases hbad:(if kd=5 then m else n)>(M:Int)∨(kd=4∧m>F.w)
   ·rw [if_pos hbad] at hq
    subst hq
    by_cases h5:kd=5
    ·rw [if_pos h5] at hbad
     have hbad:m>(M:Int):=by omega
     repeat' ((conv=>whnf);first|refine nb_ false hE ?_|refine rE _ (h74) ?_|refine qx h5 ?_|refine rE _ (h97) ?_|refine qv hbad ?_|refine nT_ ?_|refine aS ?_|fail)
     (conv=>whnf)
     refine endR _ rfl rfl (fun q hq=>?_) (by decide)
     have hm:=qX (b:=b) hq
     by_cases h4:q=4
     ·subst h4;rfl
     show cond (Nat.beq q 4) _ (cond (Nat.beq q 16) _ (cond (Nat.beq q 16) _ (cond (Nat.beq q 15) _ (cond (Nat.beq q 2) _ (cond (Nat.beq q 4) _ (gE 10 100 b q))))))=cond (Nat.beq q 2) _ (cond (Nat.beq q 4) _ (b q))
     rw [eS (show q≠15 by omega),eS (show q≠16 by omega),eS h4,hm];rfl
    ·rw [if_neg h5] at hbad
     by_cases hn:n>(M:Int)
     ·repeat' ((conv=>whnf);first|refine nb_ false hE ?_|refine rE _ (h74) ?_|refine qw h5 ?_|refine rE _ (h97) ?_|refine qv hn ?_|refine nT_ ?_|refine aS ?_|fail)
      (conv=>whnf)
      refine endR _ rfl rfl (fun q hq=>?_) (by decide)
      have hm:=qX (b:=b) hq
      by_cases h4:q=4
      ·subst h4;rfl
      show cond (Nat.beq q 4) _ (cond (Nat.beq q 16) _ (cond (Nat.beq q 16) _ (cond (Nat.beq q 15) _ (cond (Nat.beq q 2) _ (cond (Nat.beq q 4) _ (gE 10 100 b q))))))=cond (Nat.beq q 2) _ (cond (Nat.beq q 4) _ (b q))
      rw [eS (show q≠15 by omega),eS (show q≠16 by omega),eS h4,hm];rfl
     ·have h4k:kd=4:=by omega
      have hmw:m>(F.w:Int):=by omega
      repeat' ((conv=>whnf);first|refine nb_ false hE ?_|refine rE _ (h74) ?_|refine qw h5 ?_|refine rE _ (h97) ?_|refine qu hn ?_|refine qx h4k ?_|refine qv hmw ?_|refine nT_ ?_|refine aS ?_|fail)
      (conv=>whnf)
      refine endR _ rfl rfl (fun q hq=>?_) (by decide)
      have hm:=qX (b:=b) hq
      by_cases h4:q=4
      ·subst h4;rfl
      show cond (Nat.beq q 4) _ (cond (Nat.beq q 16) _ (cond (Nat.beq q 16) _ (cond (Nat.beq q 15) _ (cond (Nat.beq q 2) _ (cond (Nat.beq q 4) _ (gE 10 100 b q))))))=cond (Nat.beq q 2) _ (cond (Nat.beq q 4) _ (b q))
      rw [eS (show q≠15 by omega),eS (show q≠16 by omega),eS h4,hm];rfl
   ·rw [if_neg hbad] at hq
    have good: ∀s:St,s.gh=G→s.cx=C→(∀ q,s.bx q=cond (Nat.beq q 16) (s.bx 16) (cond (Nat.beq q 15) (s.bx 15) (cond (Nat.beq q 2) (some (.d 1 [fds l])) (cond (Nat.beq q 4) (some (.d 1 [I 0])) (gE 10 100 b q)))))→RB b G C 10 100 (tA l v (k+1)) (wD l v) .normal s:=fun s h1 h2 h3=>endN s h1 h2 (fun q hq=>by
     have hm:=qX (b:=b) hq
     rw [h3 q,eS (show q≠15 by omega),eS (show q≠16 by omega),hm];rfl) hq
    have r16: ∀(q:Nat) (f:Nat→Option BX) (x y:Option BX),upd (upd f 16 x) 16 y q=cond (Nat.beq q 16) y (f q):=fun q f x y=>by rw [gj];rfl
    by_cases h5:kd=5
    ·rw [if_pos h5] at hbad
     have hbad: ¬m>(M:Int):=by omega
     have h4k:kd≠4:=by omega
     repeat' ((conv=>whnf);first|refine nb_ false hE ?_|refine rE _ (h74) ?_|refine qx h5 ?_|refine rE _ (h97) ?_|refine qu hbad ?_|refine qw h4k ?_|refine nT_ ?_|refine aS ?_|fail)
     (conv=>whnf)
     refine good _ rfl rfl fun q=>?_
     exact (r16 q _ _ _).trans rfl
    ·rw [if_neg h5] at hbad
     have hn: ¬n>(M:Int):=by omega
     by_cases h4k:kd=4
     ·have hmw: ¬m>(F.w:Int):=by omega
      repeat' ((conv=>whnf);first|refine nb_ false hE ?_|refine rE _ (h74) ?_|refine qw h5 ?_|refine rE _ (h97) ?_|refine qu hn ?_|refine qx h4k ?_|refine qu hmw ?_|refine nT_ ?_|refine aS ?_|fail)
      (conv=>whnf)
      refine good _ rfl rfl fun q=>?_
      exact (r16 q _ _ _).trans rfl
     ·repeat' ((conv=>whnf);first|refine nb_ false hE ?_|refine rE _ (h74) ?_|refine qw h5 ?_|refine rE _ (h97) ?_|refine qu hn ?_|refine qw h4k ?_|refine nT_ ?_|refine aS ?_|fail)
      (conv=>whnf)
      refine good _ rfl rfl fun q=>?_
      exact (r16 q _ _ _).trans rfl
 ·have hlv:(tc r).length=v.length:=by rw [← hv,List.length_map]
  rw [hlv]
  cases hok:okB v v.length with
  |false=>exact aI.absurd (n:=4) (m:=1) (ts:=[]) (by show some (BX.d 1 (if okB v v.length=true then [I 0] else []))=_;rw [hok];rfl) (by decide)
  |true=>
   rw [BD hok]
   have ho:tA l v v.length=[(2,.d 1 [fds l]),(4,.d 1 [I 0])]:=by unfold tA;rw [hok];rfl
   rw [ho]
   refine I8 ?_
   repeat' ((conv=>whnf);first|refine aS ?_|fail)
   exact ⟨⟨⟨Nat.lt_succ_self 0,rfl⟩,trivial⟩,fun _ _=>trivial⟩
 ·rintro c cx o ⟨rfl,rfl,hne,rfl⟩
  refine Or.inl ⟨rfl,?_,fun _ _=>trivial⟩
  (conv=>whnf)
  exact ⟨⟨Nat.lt_succ_self 0,rfl⟩,trivial⟩
end Go.TY
end
noncomputable section
namespace Go.TY
open Go Go.DL Go.Proofs
def c68:aY:=(.seq (.region [oo 1 (.box 5 (tm 0)),oo 2 (.mov (Kc 0))] []) (.seq (.region [lA 3 5 1,oo 4 (.call 105 [tm 3]),oo 5 (.mkfn 107 [tm 1]),oo 6 (.call 106 [(tm 4),(tm 5)]),mv 2 6] []) .ret))
theorem l68:(Tryz.f68.body.bind (bD Tryz.prog 7 []))=some c68:=by kernel_rfl
def c72:aY:=(.seq (.region [oo 1 (.box 9 (tm 0)),oo 2 (.mov (Kc 0))] []) (.seq (.region [lA 3 9 1,oo 4 (.call 113 [tm 3]),oo 5 (.mkfn 114 [tm 1]),oo 6 (.call 106 [(tm 4),(tm 5)]),mv 2 6] []) .ret))
theorem l72:(Tryz.f72.body.bind (bD Tryz.prog 7 []))=some c72:=by kernel_rfl
def c79:aY:=(.seq (.region [oo 1 (.box 6 (tm 0)),oo 2 (.mov (Kc 0))] []) (.seq (.seq (.region [lA 3 6 1,oo 4 (.call 123 [tm 3]),oo 5 (.not (tm 4))] []) (.cond (tm 5) (.seq (.region [oo 2 (.mov (Kc 1))] []) .ret) .skip)) (.seq (.region [oo 2 (.mov (Kc 0))] []) .ret)))
theorem l79:(Tryz.f79.body.bind (bD Tryz.prog 6 []))=some c79:=by kernel_rfl
def c95:aY:=(.seq (.region [oo 2 (.mov (Kc 0))] []) (.seq (.seq (.region [mv 7 0,ln 8 7,oo 9 (.bin .gtr (tm 8) (Kc 8))] []) (.cond (tm 9) (.seq (.region [oo 2 (.mov (Kc 2))] []) .ret) .skip)) (.seq (.seq (.region [mv 10 0,ln 11 10,oo 12 (.mov (Kc 0))] []) (.block 0 (.loop (.seq (.region [oo 13 (.bin .lss (tm 12) (tm 11))] []) (.seq (.cond (tm 13) .skip (.exit 0)) (.seq (.block 1 (.seq (.region [ix 14 15 10 12,lA 15 15 14,⟨some 4,.alloc [Z0,Z0,S0,Z0,Z0,.nil,S0,Z0,.nil,Z0,S0,.nil,S0,Z0,Z0],none,[]⟩,o0 (.store 15 (tm 4) (tm 15))] []) (.seq (.seq (.region [fa 16 0 4,lA 17 9 16,oo 18 (.call 72 [tm 17]),mv 5 18] []) (.seq (.region [mv 19 5,oo 20 (.bin .neq (tm 19) (Kc 0))] []) (.cond (tm 20) (.seq (.region [mv 21 5,mv 2 21] []) .ret) .skip))) (.seq (.region [fa 22 9 4,lA 23 6 22,oo 24 (.call 79 [tm 23]),mv 6 24] []) (.seq (.region [mv 25 6,oo 26 (.bin .neq (tm 25) (Kc 0))] []) (.cond (tm 26) (.seq (.region [mv 27 6,mv 2 27] []) .ret) .skip)))))) (.region [oo 28 (.bin .add (tm 12) (Kc 1)),mv 12 28] []))))))) (.seq (.region [oo 2 (.mov (Kc 0))] []) .ret))))
theorem l95:(Tryz.f95.body.bind (bD Tryz.prog 29 []))=some c95:=by kernel_rfl
def J3:aY:=(.seq (.region [oo 1 (.box 5 (tm 0)),oo 2 (.alloc [Z0,Z0])] []) (.seq (.region [fa 3 4 1,ld 4 3,oo 5 (.call 139 [(tm 4),(.const (.clos 105 []))]),o0 (.store 2 (tm 2) (tm 5))] []) .ret))
theorem K8:(Tryz.f105.body.bind (bD Tryz.prog 6 []))=some J3:=by kernel_rfl
def J4:aY:=(.seq (.region [oo 2 (.box 2 (tm 0)),oo 4 (.mov (Kc 0))] []) (.seq (.seq (.region [lA 6 2 2,oo 7 (.call 140 [tm 6]),mv 5 7] []) (.seq (.region [mv 8 5,oo 9 (.bin .neq (tm 8) (Kc 0))] []) (.cond (tm 9) (.seq (.region [mv 10 5,mv 4 10] []) .ret) .skip))) (.seq (.seq (.region [mv 11 1,oo 12 (.b8 (tm 11) []),oo 13 (.not (tm 12))] []) (.cond (tm 13) (.seq (.region [oo 4 (.mov (Kc 1))] []) .ret) .skip)) (.seq (.region [oo 4 (.mov (Kc 0))] []) .ret))))
theorem K9:(Tryz.f106.body.bind (bD Tryz.prog 14 []))=some J4:=by kernel_rfl
def J5:aY:=(.seq (.region [oo 1 (.mov kF)] []) (.seq (.region [lA 2 5 0,oo 3 (.call 108 [tm 2]),mv 1 3] []) .ret))
theorem La:(Tryz.f107.body.bind (bD Tryz.prog 4 []))=some J5:=by kernel_rfl
def J6:aY:=(.seq (.region [oo 1 (.box 5 (tm 0)),oo 2 (.mov kF)] []) (.seq (.cut (.region [fa 4 1 1,ld 5 4,⟨some 6,.bin .eql (tm 5) (.const S0),none,[]⟩,mv 7 6,oT 8 7 (.offA 2 (tm 1)),oT 9 7 (.load 1 false (tm 8)),oT 10 7 (.bin .eql (tm 9) (Kc 0)),oo 11 (.pick (tm 7) (tm 10) kF),mv 12 11,oT 13 12 (.offA 3 (tm 1)),oT 14 12 (.load 1 false (tm 13)),oT 15 12 (.bin .eql (tm 14) (Kc 0)),oo 16 (.pick (tm 12) (tm 15) kF),mv 3 16] [])) (.seq (.seq (.region [fa 17 0 1,ld 18 17] []) (.block 0 (.seq (.seq (.region [oo 20 (.bin .eql (tm 18) (Kc 1)),mv 19 20] []) (.cond (tm 19) .skip (.region [oo 21 (.bin .eql (tm 18) (Kc 2)),mv 19 21] []))) (.cond (tm 19) (.seq (.region [mv 22 3,mv 23 22,oT 24 23 (.offA 4 (tm 1)),oT 25 23 (.load 1 false (tm 24)),oT 26 23 (.len (tm 25)),oT 27 23 (.bin .eql (tm 26) (Kc 0)),oo 28 (.pick (tm 23) (tm 27) kF),mv 2 28] []) .ret) (.seq (.region [oo 30 (.bin .eql (tm 18) (Kc 3)),mv 29 30] []) (.cond (tm 29) (.seq (.region [fa 31 1 1,ld 32 31,oo 33 (.call 141 [tm 32]),mv 34 33,oT 35 34 (.offA 2 (tm 1)),oT 36 34 (.load 1 false (tm 35)),oT 37 34 (.call 142 [tm 36]),oo 38 (.pick (tm 34) (tm 37) kF),mv 39 38,oT 40 39 (.offA 3 (tm 1)),oT 41 39 (.load 1 false (tm 40)),oT 42 39 (.bin .eql (tm 41) (Kc 0)),oo 43 (.pick (tm 39) (tm 42) kF),mv 44 43,oT 45 44 (.offA 4 (tm 1)),oT 46 44 (.load 1 false (tm 45)),oT 47 44 (.len (tm 46)),oT 48 44 (.bin .eql (tm 47) (Kc 0)),oo 49 (.pick (tm 44) (tm 48) kF),mv 2 49] []) .ret) (.seq (.region [oo 51 (.bin .eql (tm 18) (Kc 4)),mv 50 51] []) (.cond (tm 50) (.seq (.region [fa 52 1 1,ld 53 52,oo 54 (.call 141 [tm 53]),mv 55 54,oT 56 55 (.offA 2 (tm 1)),oT 57 55 (.load 1 false (tm 56)),oT 58 55 (.call 142 [tm 57]),oo 59 (.pick (tm 55) (tm 58) kF),mv 60 59,oT 61 60 (.offA 3 (tm 1)),oT 62 60 (.load 1 false (tm 61)),oT 63 60 (.bin .geq (tm 62) (Kc 0)),oo 64 (.pick (tm 60) (tm 63) kF),mv 65 64,oT 66 65 (.offA 3 (tm 1)),oT 67 65 (.load 1 false (tm 66)),oT 68 65 (.bin .leq (tm 67) (Kc 16)),oo 69 (.pick (tm 65) (tm 68) kF),mv 70 69,oT 71 70 (.offA 4 (tm 1)),oT 72 70 (.load 1 false (tm 71)),oT 73 70 (.len (tm 72)),oT 74 70 (.bin .eql (tm 73) (Kc 0)),oo 75 (.pick (tm 70) (tm 74) kF),mv 2 75] []) .ret) (.seq (.region [oo 77 (.bin .eql (tm 18) (Kc 5)),mv 76 77] []) (.cond (tm 76) (.seq (.region [fa 78 1 1,ld 79 78,oo 80 (.call 141 [tm 79]),mv 81 80,oT 82 81 (.offA 2 (tm 1)),oT 83 81 (.load 1 false (tm 82)),oT 84 81 (.call 142 [tm 83]),oo 85 (.pick (tm 81) (tm 84) kF),mv 86 85,oT 87 86 (.offA 3 (tm 1)),oT 88 86 (.load 1 false (tm 87)),oT 89 86 (.call 142 [tm 88]),oo 90 (.pick (tm 86) (tm 89) kF),mv 91 90,oT 92 91 (.offA 2 (tm 1)),oT 93 91 (.load 1 false (tm 92)),oT 94 91 (.offA 3 (tm 1)),oT 95 91 (.load 1 false (tm 94)),oT 96 91 (.bin .leq (tm 93) (tm 95)),oo 97 (.pick (tm 91) (tm 96) kF),mv 98 97,oT 99 98 (.offA 4 (tm 1)),oT 100 98 (.load 1 false (tm 99)),oT 101 98 (.len (tm 100)),oT 102 98 (.bin .eql (tm 101) (Kc 0)),oo 103 (.pick (tm 98) (tm 102) kF),mv 2 103] []) .ret) (.seq (.region [oo 105 (.bin .eql (tm 18) (Kc 9)),mv 104 105] []) (.cond (tm 104) (.seq (.region [fa 106 1 1,ld 107 106,⟨some 108,.bin .eql (tm 107) (.const S0),none,[]⟩,mv 109 108,oT 110 109 (.offA 2 (tm 1)),oT 111 109 (.load 1 false (tm 110)),oT 112 109 (.call 143 [tm 111]),oo 113 (.pick (tm 109) (tm 112) kF),mv 114 113,oT 115 114 (.offA 3 (tm 1)),oT 116 114 (.load 1 false (tm 115)),oT 117 114 (.call 143 [tm 116]),oo 118 (.pick (tm 114) (tm 117) kF),mv 119 118,oT 120 119 (.offA 2 (tm 1)),oT 121 119 (.load 1 false (tm 120)),oT 122 119 (.offA 3 (tm 1)),oT 123 119 (.load 1 false (tm 122)),oT 124 119 (.bin .lss (tm 121) (tm 123)),oo 125 (.pick (tm 119) (tm 124) kF),mv 126 125,oT 127 126 (.offA 4 (tm 1)),oT 128 126 (.load 1 false (tm 127)),oT 129 126 (.len (tm 128)),oT 130 126 (.bin .eql (tm 129) (Kc 0)),oo 131 (.pick (tm 126) (tm 130) kF),mv 2 131] []) .ret) (.seq (.region [oo 133 (.bin .eql (tm 18) (Kc 6)),mv 132 133] []) (.cond (tm 132) (.seq (.region [mv 134 3,mv 135 134,oT 136 135 (.offA 4 (tm 1)),oT 137 135 (.load 1 false (tm 136)),oT 138 135 (.call 144 [(tm 137),(Kc 1),(.const (.clos 108 []))]),oo 139 (.pick (tm 135) (tm 138) kF),mv 2 139] []) .ret) (.seq (.seq (.region [oo 141 (.bin .eql (tm 18) (Kc 7)),mv 140 141] []) (.cond (tm 140) .skip (.region [oo 142 (.bin .eql (tm 18) (Kc 8)),mv 140 142] []))) (.cond (tm 140) (.seq (.region [mv 143 3,mv 144 143,oT 145 144 (.offA 4 (tm 1)),oT 146 144 (.load 1 false (tm 145)),oT 147 144 (.call 144 [(tm 146),(Kc 2),(.const (.clos 108 []))]),oo 148 (.pick (tm 144) (tm 147) kF),mv 2 148] []) .ret) .skip)))))))))))))))) (.seq (.region [oo 2 (.mov kF)] []) .ret))))
theorem Lb:(Tryz.f108.body.bind (bD Tryz.prog 149 [6000001]))=some J6:=by kernel_rfl
def J8:aY:=(.seq (.region [oo 1 (.box 9 (tm 0)),oo 2 (.alloc [Z0,Z0])] []) (.seq (.region [fa 4 8 1,ld 5 4,oo 6 (.call 147 [(tm 5),(.const (.clos 113 []))]),oo 3 (.alloc [Z0,Z0]),o0 (.store 2 (tm 3) (tm 6))] []) (.seq (.seq (.region [fa 7 0 1,ld 8 7,oo 9 (.bin .eql (tm 8) (Kc 1))] []) (.cond (tm 9) (.region [lA 10 2 3,fa 11 1 1,lA 12 5 11,oo 13 (.call 105 [tm 12]),oo 14 (.call 148 [(tm 10),(tm 13)]),o0 (.store 2 (tm 3) (tm 14))] []) .skip)) (.seq (.region [lA 15 2 3,o0 (.store 2 (tm 2) (tm 15))] []) .ret))))
theorem Ld:(Tryz.f113.body.bind (bD Tryz.prog 16 []))=some J8:=by kernel_rfl
def J9:aY:=(.seq (.region [oo 1 (.mov kF)] []) (.seq (.region [lA 2 9 0,oo 3 (.call 115 [tm 2]),mv 1 3] []) .ret))
theorem Le:(Tryz.f114.body.bind (bD Tryz.prog 4 []))=some J9:=by kernel_rfl
def Ka:aY:=(.seq (.region [oo 1 (.box 9 (tm 0)),oo 2 (.mov kF)] []) (.seq (.cut (.region [fa 5 1 1,lA 6 5 5,⟨some 7,.build [Z0,S0,Z0,Z0,.nil] [],none,[]⟩,oo 8 (.call 149 [(tm 6),(tm 7)]),fa 9 6 1,ld 10 9,⟨some 11,.bin .eql (tm 10) (.const S0),none,[]⟩,mv 12 11,oT 13 12 (.offA 7 (tm 1)),oT 14 12 (.load 1 false (tm 13)),oT 15 12 (.bin .eql (tm 14) (Kc 0)),oo 16 (.pick (tm 12) (tm 15) kF),mv 3 8,mv 4 16] [])) (.seq (.seq (.region [fa 17 0 1,ld 18 17] []) (.block 0 (.seq (.region [oo 20 (.bin .eql (tm 18) (Kc 1)),mv 19 20] []) (.cond (tm 19) (.seq (.region [mv 21 4,mv 22 21,oT 23 22 (.offA 8 (tm 1)),oT 24 22 (.load 1 false (tm 23)),oT 25 22 (.len (tm 24)),oT 26 22 (.bin .eql (tm 25) (Kc 0)),oo 27 (.pick (tm 22) (tm 26) kF),mv 28 27,oT 29 28 (.offA 1 (tm 1)),oT 30 28 (.load 5 true (tm 29)),oT 31 28 (.call 108 [tm 30]),oo 32 (.pick (tm 28) (tm 31) kF),mv 2 32] []) .ret) (.seq (.region [oo 34 (.bin .eql (tm 18) (Kc 2)),mv 33 34] []) (.cond (tm 33) (.seq (.region [mv 35 3,mv 36 35,oT 37 36 (.offA 8 (tm 1)),oT 38 36 (.load 1 false (tm 37)),oT 39 36 (.len (tm 38)),oT 40 36 (.bin .eql (tm 39) (Kc 0)),oo 41 (.pick (tm 36) (tm 40) kF),mv 42 41,oT 43 42 (.offA 6 (tm 1)),oT 44 42 (.load 1 false (tm 43)),oT 45 42 (.call 141 [tm 44]),oo 46 (.pick (tm 42) (tm 45) kF),mv 47 46,oT 48 47 (.offA 7 (tm 1)),oT 49 47 (.load 1 false (tm 48)),oT 50 47 (.call 142 [tm 49]),oo 51 (.pick (tm 47) (tm 50) kF),mv 2 51] []) .ret) (.seq (.region [oo 53 (.bin .eql (tm 18) (Kc 5)),mv 52 53] []) (.cond (tm 52) (.seq (.region [mv 54 3,mv 55 54,mT 56 4 55,oo 57 (.pick (tm 55) (tm 56) kF),mv 58 57,oT 59 58 (.offA 8 (tm 1)),oT 60 58 (.load 1 false (tm 59)),oT 61 58 (.call 150 [(tm 60),(Kc 1),(.const (.clos 115 []))]),oo 62 (.pick (tm 58) (tm 61) kF),mv 2 62] []) .ret) (.seq (.seq (.region [oo 64 (.bin .eql (tm 18) (Kc 3)),mv 63 64] []) (.cond (tm 63) .skip (.region [oo 65 (.bin .eql (tm 18) (Kc 4)),mv 63 65] []))) (.cond (tm 63) (.seq (.region [mv 66 3,mv 67 66,mT 68 4 67,oo 69 (.pick (tm 67) (tm 68) kF),mv 70 69,oT 71 70 (.offA 8 (tm 1)),oT 72 70 (.load 1 false (tm 71)),oT 73 70 (.call 150 [(tm 72),(Kc 2),(.const (.clos 115 []))]),oo 74 (.pick (tm 70) (tm 73) kF),mv 2 74] []) .ret) .skip)))))))))) (.seq (.region [oo 2 (.mov kF)] []) .ret))))
theorem Lf:(Tryz.f115.body.bind (bD Tryz.prog 75 [6000001]))=some Ka:=by kernel_rfl
def Kf:aY:=(.seq (.region [oo 1 (.box 6 (tm 0)),oo 2 (.mov kF)] []) (.seq (.seq (.region [lA 4 6 1,⟨some 5,.build [Z0,S0,.nil,S0,Z0,Z0] [],none,[]⟩,oo 6 (.call 151 [(tm 4),(tm 5)])] []) (.cond (tm 6) (.seq (.region [oo 2 (.mov kT)] []) .ret) .skip)) (.seq (.seq (.cut (.region [fa 7 1 1,ld 8 7,oo 9 (.call 152 [tm 8]),oo 10 (.not (tm 9)),mv 11 10,oF 12 11 (.offA 2 (tm 1)),oF 13 11 (.load 1 false (tm 12)),oF 14 11 (.len (tm 13)),oF 15 11 (.bin .eql (tm 14) (Kc 0)),oo 16 (.pick (tm 11) kT (tm 15)),mv 17 16,oF 18 17 (.offA 2 (tm 1)),oF 19 17 (.load 1 false (tm 18)),oF 20 17 (.len (tm 19)),oF 21 17 (.bin .gtr (tm 20) (Kc 4)),oo 22 (.pick (tm 17) kT (tm 21)),mv 23 22,oF 24 23 (.offA 2 (tm 1)),oF 25 23 (.load 1 false (tm 24)),oF 26 23 (.offA 2 (tm 1)),oF 27 23 (.load 1 false (tm 26)),oF 28 23 (.len (tm 27)),oF 29 23 (.call 153 [(tm 25),(tm 28),(.const (.clos 141 []))]),oF 30 23 (.not (tm 29)),oo 31 (.pick (tm 23) kT (tm 30))] [])) (.cond (tm 31) (.seq (.region [oo 2 (.mov kF)] []) .ret) .skip)) (.seq (.cut (.region [fa 32 4 1,ld 33 32,oo 34 (.bin .eql (tm 33) (Kc 0)),mv 35 34,oT 36 35 (.offA 5 (tm 1)),oT 37 35 (.load 1 false (tm 36)),oT 38 35 (.bin .eql (tm 37) (Kc 0)),oo 39 (.pick (tm 35) (tm 38) kF),mv 3 39] [])) (.seq (.seq (.region [fa 40 0 1,ld 41 40] []) (.block 0 (.seq (.region [oo 43 (.bin .eql (tm 41) (Kc 1)),mv 42 43] []) (.cond (tm 42) (.seq (.region [mv 44 3,mv 45 44,oT 46 45 (.offA 3 (tm 1)),oT 47 45 (.load 1 false (tm 46)),⟨some 48,.bin .eql (tm 47) (.const S0),some (45,true),[]⟩,mT 49 48 45,oF 50 49 (.offA 3 (tm 1)),oF 51 49 (.load 1 false (tm 50)),oF 52 49 (.call 141 [tm 51]),oT 53 45 (.pick (tm 49) kT (tm 52)),oo 54 (.pick (tm 45) (tm 53) kF),mv 2 54] []) .ret) (.seq (.region [oo 56 (.bin .eql (tm 41) (Kc 2)),mv 55 56] []) (.cond (tm 55) (.seq (.region [mv 57 3,mv 58 57,oT 59 58 (.offA 3 (tm 1)),oT 60 58 (.load 1 false (tm 59)),⟨some 61,.bin .eql (tm 60) (.const S0),some (58,true),[]⟩,oo 62 (.pick (tm 58) (tm 61) kF),mv 2 62] []) .ret) (.seq (.region [oo 64 (.bin .eql (tm 41) (Kc 3)),mv 63 64] []) (.cond (tm 63) (.seq (.region [fa 65 4 1,ld 66 65,oo 67 (.call 143 [tm 66]),mv 68 67,oT 69 68 (.offA 5 (tm 1)),oT 70 68 (.load 1 false (tm 69)),oT 71 68 (.bin .eql (tm 70) (Kc 0)),oo 72 (.pick (tm 68) (tm 71) kF),mv 73 72,oT 74 73 (.offA 3 (tm 1)),oT 75 73 (.load 1 false (tm 74)),⟨some 76,.bin .eql (tm 75) (.const S0),some (73,true),[]⟩,oo 77 (.pick (tm 73) (tm 76) kF),mv 2 77] []) .ret) (.seq (.region [oo 79 (.bin .eql (tm 41) (Kc 4)),mv 78 79] []) (.cond (tm 78) (.seq (.region [fa 80 3 1,ld 81 80,oo 82 (.call 141 [tm 81]),mv 83 82,oT 84 83 (.offA 4 (tm 1)),oT 85 83 (.load 1 false (tm 84)),oT 86 83 (.call 142 [tm 85]),oo 87 (.pick (tm 83) (tm 86) kF),mv 88 87,oT 89 88 (.offA 5 (tm 1)),oT 90 88 (.load 1 false (tm 89)),oT 91 88 (.call 142 [tm 90]),oo 92 (.pick (tm 88) (tm 91) kF),mv 93 92,oT 94 93 (.offA 4 (tm 1)),oT 95 93 (.load 1 false (tm 94)),oT 96 93 (.offA 5 (tm 1)),oT 97 93 (.load 1 false (tm 96)),oT 98 93 (.bin .leq (tm 95) (tm 97)),oo 99 (.pick (tm 93) (tm 98) kF),mv 2 99] []) .ret) (.seq (.region [oo 101 (.bin .eql (tm 41) (Kc 5)),mv 100 101] []) (.cond (tm 100) (.seq (.region [mv 102 3,mv 103 102,oT 104 103 (.offA 3 (tm 1)),oT 105 103 (.load 1 false (tm 104)),oT 106 103 (.call 141 [tm 105]),oo 107 (.pick (tm 103) (tm 106) kF),mv 2 107] []) .ret) (.seq (.region [oo 109 (.bin .eql (tm 41) (Kc 6)),mv 108 109] []) (.cond (tm 108) (.seq (.region [fa 110 3 1,ld 111 110,⟨some 112,.bin .eql (tm 111) (.const S0),none,[]⟩,mv 113 112,oT 114 113 (.offA 4 (tm 1)),oT 115 113 (.load 1 false (tm 114)),oT 116 113 (.bin .geq (tm 115) (Kc 1)),oo 117 (.pick (tm 113) (tm 116) kF),mv 118 117,oT 119 118 (.offA 4 (tm 1)),oT 120 118 (.load 1 false (tm 119)),oT 121 118 (.call 142 [tm 120]),oo 122 (.pick (tm 118) (tm 121) kF),mv 123 122,oT 124 123 (.offA 5 (tm 1)),oT 125 123 (.load 1 false (tm 124)),oT 126 123 (.bin .geq (tm 125) (Kc 1)),oo 127 (.pick (tm 123) (tm 126) kF),mv 128 127,oT 129 128 (.offA 5 (tm 1)),oT 130 128 (.load 1 false (tm 129)),oT 131 128 (.call 143 [tm 130]),oo 132 (.pick (tm 128) (tm 131) kF),mv 2 132] []) .ret) .skip)))))))))))))) (.seq (.region [oo 2 (.mov kF)] []) .ret))))))
theorem Lj:(Tryz.f123.body.bind (bD Tryz.prog 133 [6000005,6000003]))=some Kf:=by kernel_rfl
def Km:aY:=(.seq (.region [oo 4 (.alloc [Z0,Z0])] []) (.seq (.region [oo 8 (.build [Z0,Z0] [(0,1,(Kc 1)),(1,1,(Kc 1))]),oo 5 (.alloc [Z0,Z0]),o0 (.store 2 (tm 5) (tm 8))] []) (.seq (.seq (.region [mv 9 0,ln 10 9,oo 11 (.mov (Kc 0))] []) (.block 0 (.loop (.seq (.region [oo 12 (.bin .lss (tm 11) (tm 10))] []) (.seq (.cond (tm 12) .skip (.exit 0)) (.seq (.block 1 (.seq (.region [ix 13 5 9 11,lA 14 5 13,⟨some 7,.alloc [Z0,S0,Z0,Z0,.nil],none,[]⟩,o0 (.store 5 (tm 7) (tm 14))] []) (.region [lA 15 2 5,mv 16 1,lA 17 5 7,oo 18 (.b8 (tm 16) [tm 17]),oo 19 (.call 148 [(tm 15),(tm 18)]),o0 (.store 2 (tm 5) (tm 19))] []))) (.region [oo 20 (.bin .add (tm 11) (Kc 1)),mv 11 20] []))))))) (.seq (.region [lA 21 2 5,o0 (.store 2 (tm 4) (tm 21))] []) .ret))))
theorem Ls:(Tryz.f139.body.bind (bD Tryz.prog 22 []))=some Km:=by kernel_rfl
def Kn:aY:=(.seq (.region [oo 1 (.box 2 (tm 0)),oo 2 (.mov (Kc 0))] []) (.seq (.seq (.region [fa 3 0 1,ld 4 3,oo 5 (.bin .gtr (tm 4) (Kc 200)),mv 6 5,oF 7 6 (.offA 1 (tm 1)),oF 8 6 (.load 1 false (tm 7)),oF 9 6 (.bin .gtr (tm 8) (Kc 20)),oo 10 (.pick (tm 6) kT (tm 9))] []) (.cond (tm 10) (.seq (.region [oo 2 (.mov (Kc 2))] []) .ret) .skip)) (.seq (.region [oo 2 (.mov (Kc 0))] []) .ret)))
theorem Lt:(Tryz.f140.body.bind (bD Tryz.prog 11 []))=some Kn:=by kernel_rfl
def Ko:aY:=(.seq (.region [oo 2 (.mov kF)] []) (.seq (.region [mv 3 0,⟨some 4,.bin .eql (tm 3) (.const (.str ⟨#[112,111,114,116]⟩)),none,[]⟩,mv 5 4,mF 6 0 5,oF 7 5 (.call 152 [tm 6]),oo 8 (.pick (tm 5) kT (tm 7)),mv 2 8] []) .ret))
theorem Lu:(Tryz.f141.body.bind (bD Tryz.prog 9 []))=some Ko:=by kernel_rfl
def Kp:aY:=(.seq (.region [oo 2 (.mov kF)] []) (.seq (.region [mv 3 0,oo 4 (.bin .geq (tm 3) (Kc 0)),mv 5 4,mT 6 0 5,oT 7 5 (.bin .leq (tm 6) (Kc 65535)),oo 8 (.pick (tm 5) (tm 7) kF),mv 2 8] []) .ret))
theorem Lv:(Tryz.f142.body.bind (bD Tryz.prog 9 []))=some Kp:=by kernel_rfl
def Kq:aY:=(.seq (.region [oo 2 (.mov kF)] []) (.seq (.region [mv 3 0,oo 4 (.bin .geq (tm 3) (Kc 0)),mv 5 4,mT 6 0 5,oT 7 5 (.bin .leq (tm 6) (Kc 1073741824)),oo 8 (.pick (tm 5) (tm 7) kF),mv 2 8] []) .ret))
theorem Lw:(Tryz.f143.body.bind (bD Tryz.prog 9 []))=some Kq:=by kernel_rfl
def Kr:aY:=(.seq (.region [oo 5 (.box 1 (tm 2)),oo 6 (.mov kF)] []) (.seq (.region [mv 7 0,ln 8 7,mv 9 1,oo 10 (.bin .eql (tm 8) (tm 9)),mv 11 10,mT 12 0 11,oT 13 11 (.mkfn 162 [tm 5]),oT 14 11 (.call 161 [(tm 12),(tm 13)]),oT 15 11 (.not (tm 14)),oo 16 (.pick (tm 11) (tm 15) kF),mv 6 16] []) .ret))
theorem Lx:(Tryz.f144.body.bind (bD Tryz.prog 17 []))=some Kr:=by kernel_rfl
def Ks:aY:=(.seq (.region [oo 4 (.alloc [Z0,Z0])] []) (.seq (.region [oo 8 (.build [Z0,Z0] [(0,1,(Kc 1)),(1,1,(Kc 1))]),oo 5 (.alloc [Z0,Z0]),o0 (.store 2 (tm 5) (tm 8))] []) (.seq (.seq (.region [mv 9 0,ln 10 9,oo 11 (.mov (Kc 0))] []) (.block 0 (.loop (.seq (.region [oo 12 (.bin .lss (tm 11) (tm 10))] []) (.seq (.cond (tm 12) .skip (.exit 0)) (.seq (.block 1 (.seq (.region [ix 13 9 9 11,lA 14 9 13,⟨some 7,.alloc [Z0,Z0,S0,Z0,Z0,.nil,S0,Z0,.nil],none,[]⟩,o0 (.store 9 (tm 7) (tm 14))] []) (.region [lA 15 2 5,mv 16 1,lA 17 9 7,oo 18 (.b8 (tm 16) [tm 17]),oo 19 (.call 148 [(tm 15),(tm 18)]),o0 (.store 2 (tm 5) (tm 19))] []))) (.region [oo 20 (.bin .add (tm 11) (Kc 1)),mv 11 20] []))))))) (.seq (.region [lA 21 2 5,o0 (.store 2 (tm 4) (tm 21))] []) .ret))))
theorem Ly:(Tryz.f147.body.bind (bD Tryz.prog 22 []))=some Ks:=by kernel_rfl
def Kt:aY:=(.seq (.region [oo 2 (.box 2 (tm 0)),oo 3 (.box 2 (tm 1)),oo 4 (.alloc [Z0,Z0])] []) (.seq (.region [fa 5 0 2,ld 6 5,fa 7 0 3,ld 8 7,oo 9 (.bin .add (tm 6) (tm 8)),fa 10 1 2,ld 11 10,fa 12 1 3,ld 13 12,oo 14 (.bin .add (tm 13) (Kc 1)),oo 15 (.maxI (tm 11) (tm 14)),oo 16 (.build [Z0,Z0] [(0,1,(tm 9)),(1,1,(tm 15))]),o0 (.store 2 (tm 4) (tm 16))] []) .ret))
theorem Lz:(Tryz.f148.body.bind (bD Tryz.prog 17 []))=some Kt:=by kernel_rfl
def Ku:aY:=(.seq (.region [oo 2 (.box 5 (tm 0)),oo 3 (.box 5 (tm 1)),oo 4 (.mov kF)] []) (.seq (.region [fa 5 0 2,ld 6 5,fa 7 0 3,ld 8 7,oo 9 (.bin .eql (tm 6) (tm 8)),mv 10 9,oT 11 10 (.offA 1 (tm 2)),oT 12 10 (.load 1 false (tm 11)),oT 13 10 (.offA 1 (tm 3)),oT 14 10 (.load 1 false (tm 13)),oT 15 10 (.bin .eql (tm 12) (tm 14)),oo 16 (.pick (tm 10) (tm 15) kF),mv 17 16,oT 18 17 (.offA 2 (tm 2)),oT 19 17 (.load 1 false (tm 18)),oT 20 17 (.offA 2 (tm 3)),oT 21 17 (.load 1 false (tm 20)),oT 22 17 (.bin .eql (tm 19) (tm 21)),oo 23 (.pick (tm 17) (tm 22) kF),mv 24 23,oT 25 24 (.offA 3 (tm 2)),oT 26 24 (.load 1 false (tm 25)),oT 27 24 (.offA 3 (tm 3)),oT 28 24 (.load 1 false (tm 27)),oT 29 24 (.bin .eql (tm 26) (tm 28)),oo 30 (.pick (tm 24) (tm 29) kF),mv 31 30,oT 32 31 (.offA 4 (tm 2)),oT 33 31 (.load 1 false (tm 32)),oT 34 31 (.offA 4 (tm 3)),oT 35 31 (.load 1 false (tm 34)),oT 36 31 (.call 163 [(tm 33),(tm 35),(.const (.clos 149 []))]),oo 37 (.pick (tm 31) (tm 36) kF),mv 4 37] []) .ret))
theorem LA:(Tryz.f149.body.bind (bD Tryz.prog 38 []))=some Ku:=by kernel_rfl
def Kv:aY:=(.seq (.region [oo 5 (.box 1 (tm 2)),oo 6 (.mov kF)] []) (.seq (.region [mv 7 0,ln 8 7,mv 9 1,oo 10 (.bin .eql (tm 8) (tm 9)),mv 11 10,mT 12 0 11,oT 13 11 (.mkfn 165 [tm 5]),oT 14 11 (.call 164 [(tm 12),(tm 13)]),oT 15 11 (.not (tm 14)),oo 16 (.pick (tm 11) (tm 15) kF),mv 6 16] []) .ret))
theorem LB:(Tryz.f150.body.bind (bD Tryz.prog 17 []))=some Kv:=by kernel_rfl
def Kw:aY:=(.seq (.region [oo 2 (.box 6 (tm 0)),oo 3 (.box 6 (tm 1)),oo 4 (.mov kF)] []) (.seq (.region [fa 5 0 2,ld 6 5,fa 7 0 3,ld 8 7,oo 9 (.bin .eql (tm 6) (tm 8)),mv 10 9,oT 11 10 (.offA 1 (tm 2)),oT 12 10 (.load 1 false (tm 11)),oT 13 10 (.offA 1 (tm 3)),oT 14 10 (.load 1 false (tm 13)),oT 15 10 (.bin .eql (tm 12) (tm 14)),oo 16 (.pick (tm 10) (tm 15) kF),mv 17 16,oT 18 17 (.offA 3 (tm 2)),oT 19 17 (.load 1 false (tm 18)),oT 20 17 (.offA 3 (tm 3)),oT 21 17 (.load 1 false (tm 20)),oT 22 17 (.bin .eql (tm 19) (tm 21)),oo 23 (.pick (tm 17) (tm 22) kF),mv 24 23,oT 25 24 (.offA 4 (tm 2)),oT 26 24 (.load 1 false (tm 25)),oT 27 24 (.offA 4 (tm 3)),oT 28 24 (.load 1 false (tm 27)),oT 29 24 (.bin .eql (tm 26) (tm 28)),oo 30 (.pick (tm 24) (tm 29) kF),mv 31 30,oT 32 31 (.offA 5 (tm 2)),oT 33 31 (.load 1 false (tm 32)),oT 34 31 (.offA 5 (tm 3)),oT 35 31 (.load 1 false (tm 34)),oT 36 31 (.bin .eql (tm 33) (tm 35)),oo 37 (.pick (tm 31) (tm 36) kF),mv 38 37,oT 39 38 (.offA 2 (tm 2)),oT 40 38 (.load 1 false (tm 39)),oT 41 38 (.offA 2 (tm 3)),oT 42 38 (.load 1 false (tm 41)),oT 43 38 (.call 166 [(tm 40),(tm 42)]),oo 44 (.pick (tm 38) (tm 43) kF),mv 4 44] []) .ret))
theorem LC:(Tryz.f151.body.bind (bD Tryz.prog 45 []))=some Kw:=by kernel_rfl
def Kx:aY:=(.seq (.region [oo 2 (.mov kF)] []) (.seq (.region [mv 3 0,oo 4 (.call 167 [tm 3]),mv 2 4] []) .ret))
theorem LD:(Tryz.f152.body.bind (bD Tryz.prog 5 []))=some Kx:=by kernel_rfl
def Ky:aY:=(.seq (.region [oo 5 (.box 1 (tm 2)),oo 6 (.mov kF)] []) (.seq (.region [mv 7 0,ln 8 7,mv 9 1,oo 10 (.bin .eql (tm 8) (tm 9)),mv 11 10,mT 12 0 11,oT 13 11 (.mkfn 168 [tm 5]),oT 14 11 (.call 124 [(tm 12),(tm 13)]),oT 15 11 (.not (tm 14)),oo 16 (.pick (tm 11) (tm 15) kF),mv 6 16] []) .ret))
theorem LF:(Tryz.f153.body.bind (bD Tryz.prog 17 []))=some Ky:=by kernel_rfl
def Kz:aY:=(.seq (.region [oo 4 (.mov (Kc 0))] []) (.seq (.seq (.region [mv 6 0,ln 7 6,oo 8 (.mov (Kc 0))] []) (.block 0 (.loop (.seq (.region [oo 9 (.bin .lss (tm 8) (tm 7))] []) (.seq (.cond (tm 9) .skip (.exit 0)) (.seq (.block 1 (.seq (.region [mv 10 8,mv 5 10] []) (.seq (.region [mv 11 1,mv 12 0,mv 13 5,ix 14 1 12 13,ld 15 14,oo 16 (.b8 (tm 11) [tm 15])] []) (.cond (tm 16) (.seq (.region [mv 17 5,mv 4 17] []) .ret) .skip)))) (.region [oo 18 (.bin .add (tm 8) (Kc 1)),mv 8 18] []))))))) (.seq (.region [oo 4 (.mov (.const (.int .i64 (-1))))] []) .ret)))
theorem LG:(Tryz.f154.body.bind (bD Tryz.prog 19 []))=some Kz:=by kernel_rfl
def KA:aY:=(.seq (.region [oo 4 (.mov kF)] []) (.seq (.region [mv 5 0,mv 6 1,oo 7 (.call 190 [(tm 5),(tm 6)]),oo 8 (.bin .geq (tm 7) (Kc 0)),mv 4 8] []) .ret))
theorem LH:(Tryz.f161.body.bind (bD Tryz.prog 9 []))=some KA:=by kernel_rfl
def KB:aY:=(.seq (.region [oo 2 (.box 5 (tm 0)),oo 3 (.mov kF)] []) (.seq (.region [ld 4 1,lA 5 5 2,oo 6 (.b8 (tm 4) [tm 5]),oo 7 (.not (tm 6)),mv 3 7] []) .ret))
theorem LI:(Tryz.f162.body.bind (bD Tryz.prog 8 []))=some KB:=by kernel_rfl
def KC:aY:=(.seq (.region [oo 6 (.mov kF)] []) (.seq (.seq (.region [mv 10 0,ln 11 10,mv 12 1,ln 13 12,oo 14 (.bin .neq (tm 11) (tm 13))] []) (.cond (tm 14) (.seq (.region [oo 6 (.mov kF)] []) .ret) .skip)) (.seq (.seq (.region [mv 15 0,ln 16 15,oo 17 (.mov (Kc 0))] []) (.block 0 (.loop (.seq (.region [oo 18 (.bin .lss (tm 17) (tm 16))] []) (.seq (.cond (tm 18) .skip (.exit 0)) (.seq (.block 1 (.seq (.region [mv 19 17,ix 20 5 15 17,lA 21 5 20,⟨some 8,.alloc [Z0,S0,Z0,Z0,.nil],none,[]⟩,mv 7 19,o0 (.store 5 (tm 8) (tm 21))] []) (.seq (.region [mv 22 1,mv 23 7,ix 24 5 22 23,lA 25 5 24,⟨some 9,.alloc [Z0,S0,Z0,Z0,.nil],none,[]⟩,o0 (.store 5 (tm 9) (tm 25))] []) (.seq (.region [mv 26 2,lA 27 5 8,lA 28 5 9,oo 29 (.b8 (tm 26) [(tm 27),(tm 28)]),oo 30 (.not (tm 29))] []) (.cond (tm 30) (.seq (.region [oo 6 (.mov kF)] []) .ret) .skip))))) (.region [oo 31 (.bin .add (tm 17) (Kc 1)),mv 17 31] []))))))) (.seq (.region [oo 6 (.mov kT)] []) .ret))))
theorem LJ:(Tryz.f163.body.bind (bD Tryz.prog 32 []))=some KC:=by kernel_rfl
def KD:aY:=(.seq (.region [oo 4 (.mov kF)] []) (.seq (.region [mv 5 0,mv 6 1,oo 7 (.call 191 [(tm 5),(tm 6)]),oo 8 (.bin .geq (tm 7) (Kc 0)),mv 4 8] []) .ret))
theorem LK:(Tryz.f164.body.bind (bD Tryz.prog 9 []))=some KD:=by kernel_rfl
def KE:aY:=(.seq (.region [oo 2 (.box 9 (tm 0)),oo 3 (.mov kF)] []) (.seq (.region [ld 4 1,lA 5 9 2,oo 6 (.b8 (tm 4) [tm 5]),oo 7 (.not (tm 6)),mv 3 7] []) .ret))
theorem LL:(Tryz.f165.body.bind (bD Tryz.prog 8 []))=some KE:=by kernel_rfl
def KF:aY:=(.seq (.region [oo 4 (.mov kF)] []) (.seq (.seq (.region [mv 6 0,ln 7 6,mv 8 1,ln 9 8,oo 10 (.bin .neq (tm 7) (tm 9))] []) (.cond (tm 10) (.seq (.region [oo 4 (.mov kF)] []) .ret) .skip)) (.seq (.seq (.region [mv 11 0,ln 12 11,oo 13 (.mov (Kc 0))] []) (.block 0 (.loop (.seq (.region [oo 14 (.bin .lss (tm 13) (tm 12))] []) (.seq (.cond (tm 14) .skip (.exit 0)) (.seq (.block 1 (.seq (.region [mv 15 13,mv 5 15] []) (.seq (.region [mv 16 0,mv 17 5,ix 18 1 16 17,ld 19 18,mv 20 1,mv 21 5,ix 22 1 20 21,ld 23 22,oo 24 (.bin .neq (tm 19) (tm 23))] []) (.cond (tm 24) (.seq (.region [oo 4 (.mov kF)] []) .ret) .skip)))) (.region [oo 25 (.bin .add (tm 13) (Kc 1)),mv 13 25] []))))))) (.seq (.region [oo 4 (.mov kT)] []) .ret))))
theorem LM:(Tryz.f166.body.bind (bD Tryz.prog 26 []))=some KF:=by kernel_rfl
def KG:aY:=(.seq (.region [oo 2 (.mov kF)] []) (.seq (.seq (.region [mv 5 0,⟨some 6,.bin .eql (tm 5) (.const S0),none,[]⟩,mv 7 6,mF 8 0 7,oF 9 7 (.lenS (tm 8)),oF 10 7 (.bin .gtr (tm 9) (Kc 24)),oo 11 (.pick (tm 7) kT (tm 10)),mv 12 11,mF 13 0 12,oF 14 12 (.idxS (tm 13) (Kc 0)),oF 15 12 (.call 192 [tm 14]),oF 16 12 (.not (tm 15)),oo 17 (.pick (tm 12) kT (tm 16))] []) (.cond (tm 17) (.seq (.region [oo 2 (.mov kF)] []) .ret) .skip)) (.seq (.region [oo 19 (.sliceA 49 1 (.const (.glob 0 0)) none none),mv 20 0,oo 21 (.call 193 [(tm 19),(tm 20)]),mv 18 21,oo 22 (.ext (tm 18) 0),oo 23 (.ext (tm 18) 1),mv 3 22,mv 4 23] []) (.seq (.region [mv 24 4,oo 25 (.not (tm 24)),mv 26 25,mT 27 0 26,oT 28 26 (.call 194 [(tm 27),(.const (.clos 195 []))]),mT 29 0 26,oT 30 26 (.bin .eql (tm 28) (tm 29)),oo 31 (.pick (tm 26) (tm 30) kF),mv 2 31] []) .ret))))
theorem LN:(Tryz.f167.body.bind (bD Tryz.prog 32 []))=some KG:=by kernel_rfl
def KH:aY:=(.seq (.region [oo 3 (.mov kF)] []) (.seq (.region [ld 4 1,mv 5 0,oo 6 (.b8 (tm 4) [tm 5]),oo 7 (.not (tm 6)),mv 3 7] []) .ret))
theorem LO:(Tryz.f168.body.bind (bD Tryz.prog 8 []))=some KH:=by kernel_rfl
def KJ:aY:=(.seq (.region [oo 4 (.mov (Kc 0))] []) (.seq (.seq (.region [mv 6 0,ln 7 6,oo 8 (.mov (Kc 0))] []) (.block 0 (.loop (.seq (.region [oo 9 (.bin .lss (tm 8) (tm 7))] []) (.seq (.cond (tm 9) .skip (.exit 0)) (.seq (.block 1 (.seq (.region [mv 10 8,mv 5 10] []) (.seq (.region [mv 11 1,mv 12 0,mv 13 5,ix 14 5 12 13,lA 15 5 14,oo 16 (.b8 (tm 11) [tm 15])] []) (.cond (tm 16) (.seq (.region [mv 17 5,mv 4 17] []) .ret) .skip)))) (.region [oo 18 (.bin .add (tm 8) (Kc 1)),mv 8 18] []))))))) (.seq (.region [oo 4 (.mov (.const (.int .i64 (-1))))] []) .ret)))
theorem LQ:(Tryz.f190.body.bind (bD Tryz.prog 19 []))=some KJ:=by kernel_rfl
def KK:aY:=(.seq (.region [oo 4 (.mov (Kc 0))] []) (.seq (.seq (.region [mv 6 0,ln 7 6,oo 8 (.mov (Kc 0))] []) (.block 0 (.loop (.seq (.region [oo 9 (.bin .lss (tm 8) (tm 7))] []) (.seq (.cond (tm 9) .skip (.exit 0)) (.seq (.block 1 (.seq (.region [mv 10 8,mv 5 10] []) (.seq (.region [mv 11 1,mv 12 0,mv 13 5,ix 14 9 12 13,lA 15 9 14,oo 16 (.b8 (tm 11) [tm 15])] []) (.cond (tm 16) (.seq (.region [mv 17 5,mv 4 17] []) .ret) .skip)))) (.region [oo 18 (.bin .add (tm 8) (Kc 1)),mv 8 18] []))))))) (.seq (.region [oo 4 (.mov (.const (.int .i64 (-1))))] []) .ret)))
theorem LR:(Tryz.f191.body.bind (bD Tryz.prog 19 []))=some KK:=by kernel_rfl
def KL:aY:=(.seq (.region [oo 2 (.mov kF)] []) (.seq (.region [mv 3 0,oo 4 (.call 210 [(tm 3),(.const (Ui 97)),(.const (Ui 122))]),mv 2 4] []) .ret))
theorem LS:(Tryz.f192.body.bind (bD Tryz.prog 5 []))=some KL:=by kernel_rfl
def KM:aY:=(.seq (.region [oo 4 (.mov (Kc 0)),oo 5 (.mov kF)] []) (.seq (.region [mv 10 0,ln 11 10,mv 6 11] []) (.seq (.region [mv 12 6,oo 7 (.mov (Kc 0)),mv 8 12] []) (.seq (.block 0 (.loop (.seq (.seq (.region [mv 13 7,mv 14 8,oo 15 (.bin .lss (tm 13) (tm 14))] []) (.cond (tm 15) .skip (.exit 0))) (.block 1 (.seq (.region [mv 16 7,mv 17 8,oo 18 (.bin .add (tm 16) (tm 17)),oo 19 (.conv .u64 (tm 18)),oo 20 (.bin .shr (tm 19) (.const (.int .u64 1))),oo 21 (.conv .i64 (tm 20)),mv 9 21] []) (.seq (.region [mv 22 0,mv 23 9,ix 24 1 22 23,ld 25 24,mv 26 1,oo 27 (.call 176 [(tm 25),(tm 26)])] []) (.cond (tm 27) (.region [mv 28 9,oo 29 (.bin .add (tm 28) (Kc 1)),mv 7 29] []) (.region [mv 30 9,mv 8 30] [])))))))) (.seq (.region [mv 31 7,mv 32 7,mv 33 6,oo 34 (.bin .lss (tm 32) (tm 33)),mv 35 34,mT 36 0 35,mT 37 7 35,oT 38 35 (.idxL 1 (tm 36) (tm 37)),oT 39 35 (.load 1 false (tm 38)),mT 40 1 35,oT 41 35 (.bin .eql (tm 39) (tm 40)),mT 42 41 35,mF 43 0 42,mF 44 7 42,oF 45 42 (.idxL 1 (tm 43) (tm 44)),oF 46 42 (.load 1 false (tm 45)),oF 47 42 (.call 211 [tm 46]),mF 48 47 42,mT 49 1 48,oT 50 48 (.call 211 [tm 49]),oF 51 42 (.pick (tm 48) (tm 50) kF),oT 52 35 (.pick (tm 42) kT (tm 51)),oo 53 (.pick (tm 35) (tm 52) kF),mv 4 31,mv 5 53] []) .ret)))))
theorem LU:(Tryz.f193.body.bind (bD Tryz.prog 54 []))=some KM:=by kernel_rfl
def KN:aY:=(.seq (.region [⟨some 4,.mov (.const S0),none,[]⟩] []) (.seq (.region [oo 5 (.mov (Kc 0))] []) (.seq (.block 0 (.loop (.seq (.seq (.region [mv 6 5,mv 7 0,oo 8 (.lenS (tm 7)),oo 9 (.bin .lss (tm 6) (tm 8)),mv 10 9,mT 11 1 10,mT 12 0 10,mT 13 5 10,oT 14 10 (.sliceS (tm 12) (some (tm 13)) none),oT 15 10 (.b8 (tm 11) [tm 14]),oo 16 (.pick (tm 10) (tm 15) kF)] []) (.cond (tm 16) .skip (.exit 0))) (.block 1 (.region [mv 17 5,oo 18 (.bin .add (tm 17) (Kc 1)),mv 5 18] []))))) (.seq (.region [mv 19 0,mv 20 5,oo 21 (.sliceS (tm 19) none (some (tm 20))),mv 4 21] []) .ret))))
theorem LV:(Tryz.f194.body.bind (bD Tryz.prog 22 []))=some KN:=by kernel_rfl
def KO:aY:=(.seq (.region [oo 2 (.mov kF)] []) (.seq (.region [mv 3 0,oo 4 (.idxS (tm 3) (Kc 0)),oo 5 (.call 196 [tm 4]),mv 2 5] []) .ret))
theorem LW:(Tryz.f195.body.bind (bD Tryz.prog 6 []))=some KO:=by kernel_rfl
def KP:aY:=(.seq (.region [oo 2 (.mov kF)] []) (.seq (.region [mv 3 0,oo 4 (.call 192 [tm 3]),mv 5 4,mF 6 0 5,oF 7 5 (.call 212 [tm 6]),oo 8 (.pick (tm 5) kT (tm 7)),mv 9 8,mF 10 0 9,oF 11 9 (.bin .eql (tm 10) (.const (Ui 95))),oo 12 (.pick (tm 9) kT (tm 11)),mv 2 12] []) .ret))
theorem LX:(Tryz.f196.body.bind (bD Tryz.prog 13 []))=some KP:=by kernel_rfl
def KI:aY:=(.seq (.region [oo 4 (.mov kF)] []) (.seq (.region [mv 5 0,oo 6 (.call 205 [tm 5]),mv 7 6,mT 8 1 7,oT 9 7 (.call 205 [tm 8]),oT 10 7 (.not (tm 9)),oo 11 (.pick (tm 7) (tm 10) kF),mv 12 11,mF 13 0 12,mF 14 1 12,oF 15 12 (.bin .lss (tm 13) (tm 14)),oo 16 (.pick (tm 12) kT (tm 15)),mv 4 16] []) .ret))
theorem LP:(Tryz.f176.body.bind (bD Tryz.prog 17 []))=some KI:=by kernel_rfl
def KQ:aY:=(.seq (.region [oo 2 (.mov kF)] []) (.seq (.region [mv 3 0,mv 4 0,oo 5 (.bin .neq (tm 3) (tm 4)),mv 2 5] []) .ret))
theorem LY:(Tryz.f205.body.bind (bD Tryz.prog 6 []))=some KQ:=by kernel_rfl
def KR:aY:=(.seq (.region [oo 6 (.mov kF)] []) (.seq (.region [mv 7 0,mv 8 1,oo 9 (.bin .geq (tm 7) (tm 8)),mv 10 9,mT 11 0 10,mT 12 2 10,oT 13 10 (.bin .leq (tm 11) (tm 12)),oo 14 (.pick (tm 10) (tm 13) kF),mv 6 14] []) .ret))
theorem LZ:(Tryz.f210.body.bind (bD Tryz.prog 15 []))=some KR:=by kernel_rfl
def KS:aY:=(.seq (.region [oo 2 (.mov kF)] []) (.seq (.region [mv 3 0,mv 4 0,oo 5 (.bin .neq (tm 3) (tm 4)),mv 2 5] []) .ret))
theorem L0:(Tryz.f211.body.bind (bD Tryz.prog 6 []))=some KS:=by kernel_rfl
def KT:aY:=(.seq (.region [oo 2 (.mov kF)] []) (.seq (.region [mv 3 0,oo 4 (.call 210 [(tm 3),(.const (Ui 48)),(.const (Ui 57))]),mv 2 4] []) .ret))
theorem L5:(Tryz.f212.body.bind (bD Tryz.prog 5 []))=some KT:=by kernel_rfl
def Kg:aY:=(.seq (.region [oo 4 (.mov kF)] []) (.seq (.region [mv 5 0,mv 6 1,oo 7 (.call 154 [(tm 5),(tm 6)]),oo 8 (.bin .geq (tm 7) (Kc 0)),mv 4 8] []) .ret))
theorem Lk:(Tryz.f124.body.bind (bD Tryz.prog 9 []))=some Kg:=by kernel_rfl
end Go.TY
end
section
namespace Go.TY
open Go Go.DL Go.MM Go.Proofs
theorem Ba (c lo hi:Int):DCalls Tryz.prog 210 [U c,U lo,U hi] (.bool (decide (lo≤c)&&decide (c≤hi))):=by
 refine qO (rs:=[.tmp 6]) mixed Tryz.func210 LZ rfl rfl rfl (r:=[.bool _]) (nlZ rfl) ?_
 repeat' ((conv=>whnf);first|exact trivial|refine nD_ (fun hq=>?_) (fun hq=>?_)|refine rb1 ?_|refine rb0 ?_|refine aS ?_|fail)
theorem zd (c:Int):DCalls Tryz.prog 192 [U c] (.bool (uj c)):=by
 refine qO (rs:=[.tmp 2]) mixed Tryz.func192 LS rfl rfl rfl (r:=[.bool _]) (nlZ rfl) ?_
 have h:=Ba c 97 122
 unfold uj
 repeat' ((conv=>whnf);first|exact trivial|refine rE _ (h) ?_|refine rbx ?_|fail)
theorem Ee (c:Int):DCalls Tryz.prog 212 [U c] (.bool (vN c)):=by
 refine qO (rs:=[.tmp 2]) mixed Tryz.func212 L5 rfl rfl rfl (r:=[.bool _]) (nlZ rfl) ?_
 have h:=Ba c 48 57
 unfold vN
 repeat' ((conv=>whnf);first|exact trivial|refine rE _ (h) ?_|refine rbx ?_|fail)
theorem A8 (c:Int):DCalls Tryz.prog 196 [U c] (.bool (wF c)):=by
 refine qO (rs:=[.tmp 2]) mixed Tryz.func196 LX rfl rfl rfl (r:=[.bool _]) (nlZ rfl) ?_
 unfold wF
 have h1:=zd c
 have h2:=Ee c
 generalize uj c=a at *
 generalize vN c=b at *
 cases a <;> cases b
 all_goals repeat' ((conv=>whnf);first|exact trivial|refine rE _ (h1) ?_|refine rE _ (h2) ?_|refine nE_ (fun hq=>?_) (fun hq=>?_)|refine rb1 ?_|refine rb0 ?_|refine aS ?_|fail)
theorem F8 (s:ByteArray) (hs:0<s.size):DCalls Tryz.prog 195 [.str s] (.bool (wF (tR s 0))):=by
 refine qO (rs:=[.tmp 2]) mixed Tryz.func195 LW rfl rfl rfl (r:=[.bool _]) (nlZ rfl) ?_
 have h1:=A8 (tR s 0)
 repeat' ((conv=>whnf);first|exact trivial|refine rE _ (h1) ?_|refine nT_ ?_|refine rbx ?_|refine aS ?_|fail)
theorem zL (s:ByteArray) (i:Nat) (hi:i<s.size):tR (s.extract i s.size) 0=tR s i:=by
 unfold tR
 rw [ByteArray.toList_eq,ByteArray.toList_eq]
 have:0<s.size - i:=by omega
 have h2:i<s.data.size:=hi
 simp [ByteArray.data_extract,this]
 rw [Array.getElem?_eq_getElem h2];rfl
theorem extract_size (s:ByteArray) (i:Nat) (hi:i<s.size):0<(s.extract i s.size).size:=by
 rw [ByteArray.size_extract];omega
theorem zt: ∀l:List UInt8,uu l≤l.length
 |[]=>Nat.le_refl _
 |b::bs=>by
  have:=zt bs
  unfold uu
  split
  ·rw [List.length_cons];omega
  ·exact Nat.zero_le _
theorem EH (s:ByteArray) (hs:s.size<2^62):DCalls Tryz.prog 194 [.str s,.clos 195 []] (.str (s.extract 0 (uu s.toList))):=by
 refine qO (rs:=[.tmp 4]) mixed Tryz.func194 LV rfl rfl rfl (r:=[.str _]) (nlZ rfl) ?_
 have hl:=vJ s
 skip
 refine qZ 0 (α:=Nat) (β:=Unit) (fun i=>{sl:=[(0,.t (.str s)),(1,.t (.clos 195 [])),(5,.t (I i))],bx:=[]})
  (fun i=>i≤s.size∧ ∀j,j<i→wF (tR s j)=true) (fun i=>s.size - i) (fun _=>{sl:=[(0,.t (.str s)),(5,.t (I (uu s.toList)))],bx:=[]}) (fun _=>True) 0 (by simp) ?_ ?_ ?_
 ·repeat' (first|exact trivial|exact LeV.same _|exact rfl|exact fun _ _ _=>trivial|refine And.intro ?_ ?_)
 ·rintro i ⟨hi,hp⟩
  rcases Nat.lt_or_ge i s.size with h|h
  ·have h0:=F8 (s.extract i s.size) (extract_size s i h)
   rw [zL s i h] at h0
   cases hb:wF (tR s i) with
   |true=>
    rw [hb] at h0
    repeat' ((conv=>whnf);first|(refine nv_ (.str (s.extract i s.size)) (by first|(simp;done)|fail) ?_)|refine rE _ (h0) ?_|refine aD1 ?_|refine aS ?_|fail)
    refine ⟨i+1,⟨h,fun j hj=>?_⟩,by omega,?_⟩
    ·rcases Nat.lt_or_ge j i with h4|h4
     ·exact hp j h4
     ·obtain rfl:j=i:=by omega
      exact hb
    ·repeat' (first|exact trivial|exact LeV.same _|exact rfl|exact fun _ _ _=>trivial|exact lI|refine And.intro ?_ ?_)
   |false=>
    rw [hb] at h0
    have e:uu s.toList=i:=xS (by omega) hp (.inr hb)
    repeat' ((conv=>whnf);first|(refine nv_ (.str (s.extract i s.size)) (by first|(simp;done)|fail) ?_)|refine rE _ (h0) ?_|refine aD1 ?_|refine aS ?_|fail)
    refine ⟨(),trivial,?_⟩
    repeat' (first|(exact leI (by rw [e]))|exact trivial|exact LeV.same _|exact rfl|exact fun _ _ _=>trivial|refine And.intro ?_ ?_)
  ·have e:uu s.toList=i:=xS (by omega) hp (.inl (by omega))
   repeat' ((conv=>whnf);first|refine aD0 ?_|refine aS ?_|fail)
   refine ⟨(),trivial,?_⟩
   repeat' (first|(exact leI (by rw [e]))|exact trivial|exact LeV.same _|exact rfl|exact fun _ _ _=>trivial|refine And.intro ?_ ?_)
 ·rintro _ _
  have hr:uu s.toList≤s.toList.length:=zt _
  repeat' ((conv=>whnf);first|exact trivial|(refine nv_ (.str (s.extract 0 (uu s.toList))) (by first|(simp;done)|fail) ?_)|refine aS ?_|fail)
theorem A7 (s:ByteArray):DCalls Tryz.prog 205 [.str s] (.bool false):=by
 refine qO (rs:=[.tmp 2]) mixed Tryz.func205 LY rfl rfl rfl (r:=[.bool false]) (nlZ rfl) ?_
 repeat' ((conv=>whnf);first|exact trivial|refine nb_ false (by simp) ?_|refine rb0 ?_|refine aS ?_|fail)
theorem A6 (s:ByteArray):DCalls Tryz.prog 211 [.str s] (.bool false):=by
 refine qO (rs:=[.tmp 2]) mixed Tryz.func211 L0 rfl rfl rfl (r:=[.bool false]) (nlZ rfl) ?_
 repeat' ((conv=>whnf);first|exact trivial|refine nb_ false (by simp) ?_|refine rb0 ?_|refine aS ?_|fail)
theorem F7 (a b:ByteArray):DCalls Tryz.prog 176 [.str a,.str b] (.bool (ltS a b)):=by
 refine qO (rs:=[.tmp 4]) mixed Tryz.func176 LP rfl rfl rfl (r:=[.bool _]) (nlZ rfl) ?_
 have h1:=A7 a
 have h2:=A7 b
 repeat' ((conv=>whnf);first|exact trivial|refine rE _ (h1) ?_|refine nb_ (ltS a b) rfl ?_|refine rbx ?_|refine aS ?_|fail)
def uM (xs:List ByteArray) (s:ByteArray):Nat:=(xs.takeWhile fun x=>ltS x s).length
theorem FN (xs:List ByteArray) (s:ByteArray):uM xs s≤xs.length:=by
 unfold uM
 exact (List.takeWhile_prefix _).length_le
theorem xj {s:ByteArray}: ∀{xs:List ByteArray} (_:Inc ltS xs) {m:Nat} (h:m<xs.length),ltS xs[m] s=true↔m<uM xs s
 |[],_,m,h=>by simp at h
 |x::xs,hi,m,h=>by
  have h2:=List.pairwise_cons.1 hi
  unfold uM
  rw [List.takeWhile_cons]
  cases hx:ltS x s with
  |true=>
   simp only [if_true,List.length_cons]
   cases m with
   |zero=>simp [hx]
   |succ m=>
    have:=xj (s:=s) h2.2 (m:=m) (by simpa using h)
    unfold uM at this
    simp only [List.getElem_cons_succ]
    rw [this];omega
  |false=>
   simp only [Bool.false_eq_true,if_false,List.length_nil,Nat.not_lt_zero,iff_false,Bool.not_eq_true]
   cases m with
   |zero=>simpa using hx
   |succ m=>
    have hm:m<xs.length:=by simpa using h
    simp only [List.getElem_cons_succ]
    cases e:ltS xs[m] s with
    |false=>rfl
    |true=>
     have:=wk.tr _ _ _ (h2.1 xs[m] (List.getElem_mem _)) e
     rw [hx] at this;cases this
theorem Ek {s:ByteArray} {xs:List ByteArray} (hi:Inc ltS xs):s∈xs↔ ∃h:uM xs s<xs.length,xs[uM xs s]=s:=by
 constructor
 ·intro hm
  obtain ⟨m,hm,e⟩:=List.getElem_of_mem hm
  have h1: ¬m<uM xs s:=fun h=>by
   have:=(xj hi hm).2 h
   rw [e,wk.irr] at this;cases this
  have h2:uM xs s<xs.length:=by omega
  refine ⟨h2,?_⟩
  by_cases h3:uM xs s=m
  ·simp only [h3,e]
  ·exfalso
   have h4:uM xs s<m:=by omega
   have h5:=List.pairwise_iff_getElem.1 hi _ _ h2 hm h4
   rw [e] at h5
   have:=(xj hi h2).1 h5
   omega
 ·rintro ⟨h,e⟩
  rw [← e];exact List.getElem_mem h
theorem EF (xs:List ByteArray) (s:ByteArray) (hi:Inc ltS xs) (hl:xs.length<2^40):
  DCalls Tryz.prog 193 [.slice 1 (xs.map .str),.str s] (.tup [I (uM xs s),.bool (decide (s∈xs))]):=by
 refine qO (rs:=[.tmp 4,.tmp 5]) mixed Tryz.func193 LU rfl rfl rfl (r:=[I (uM xs s),.bool (decide (s∈xs))]) (nlZ rfl) ?_
 have hble:=FN xs s
 have hm:=Ek (s:=s) hi
 have hkk:=fun m h=>@xj s xs hi m h
 generalize uM xs s=cn at *
 skip
 refine qZ 0 (α:=Nat×Nat) (β:=Unit) (fun p=>{sl:=[(0,.t (.slice 1 (xs.map .str))),(1,.t (.str s)),(6,.t (I xs.length)),(7,.t (I p.1)),(8,.t (I p.2))],bx:=[]})
  (fun p=>p.1≤cn∧cn≤p.2∧p.2≤xs.length) (fun p=>p.2 - p.1) (fun _=>{sl:=[(0,.t (.slice 1 (xs.map .str))),(1,.t (.str s)),(6,.t (I xs.length)),(7,.t (I (cn)))],bx:=[]}) (fun _=>True) (0,xs.length) (by simp;omega) ?_ ?_ ?_
 ·repeat' (first|(exact leI (by simp))|exact trivial|exact LeV.same _|exact rfl|exact fun _ _ _=>trivial|refine And.intro ?_ ?_)
 ·rintro ⟨i,j⟩ ⟨h1,h2,h3⟩
  dsimp only at h1 h2 h3
  by_cases hij:i<j
  case neg=>
   repeat' ((conv=>whnf);first|refine aD0 ?_|refine aS ?_|fail)
   refine ⟨(),trivial,?_⟩
   repeat' (first|(exact leI (by show (cn:Int)=(i:Int);omega))|exact trivial|exact LeV.same _|exact rfl|exact fun _ _ _=>trivial|refine And.intro ?_ ?_)
  have e1:IntKind.wrap .i64 ((IntKind.wrap .u64 (IntKind.wrap .i64 ((i:Int)+(j:Int)))).fdiv (2^(min (1:Int).toNat (IntKind.bits .u64))))=(((i+j) / 2:Nat):Int):=by
   rw [mG (n:=(i:Int)+j) (by omega) (by omega)]
   have u1: ∀n:Int,0≤n→n<18446744073709551616→IntKind.wrap .u64 n=n:=fun n h0 h1=>by
    unfold IntKind.wrap
    simp [IntKind.bits,IntKind.signed]
    omega
   rw [u1 ((i:Int)+j) (by omega) (by omega)]
   have e2:((i:Int)+(j:Int)).fdiv (2^(min (1:Int).toNat (IntKind.bits .u64)))=(((i+j) / 2:Nat):Int):=by
    show ((i:Int)+(j:Int)).fdiv 2=_
    rw [Int.fdiv_eq_ediv_of_nonneg _ (by omega)];omega
   rw [e2,mG (by omega) (by omega)]
  have h4:(i+j) / 2<xs.length:=by omega
  have hk:=hkk _ h4
  have hL:=F7 xs[(i+j) / 2] s
  generalize ltS xs[(i+j) / 2] s=b at *
  cases b
  case true=>
   have:(i+j) / 2<cn:=hk.1 rfl
   repeat' ((conv=>whnf);first|(refine nv_ (.str xs[(i+j) / 2]) (by first|((dsimp only;rw [e1,Int.toNat_natCast];simp [h4]);done)|fail) ?_)|refine rE _ (hL) ?_|refine nT_ ?_|refine aD1 ?_|(refine And.intro (by first|((dsimp only;rw [e1];simp;omega);done)|fail) ?_)|refine aS ?_|fail)
   refine ⟨((i+j) / 2+1,j),⟨this,h2,h3⟩,by simp;omega,?_⟩
   repeat' (first|(exact leI (by dsimp only;rw [e1,mG] <;> omega))|exact trivial|exact LeV.same _|exact rfl|exact fun _ _ _=>trivial|refine And.intro ?_ ?_)
  case false=>
   have: ¬(i+j) / 2<cn:=fun h=>by have:=hk.2 h;cases this
   repeat' ((conv=>whnf);first|(refine nv_ (.str xs[(i+j) / 2]) (by first|((dsimp only;rw [e1,Int.toNat_natCast];simp [h4]);done)|fail) ?_)|refine rE _ (hL) ?_|refine nT_ ?_|refine aD1 ?_|(refine And.intro (by first|((dsimp only;rw [e1];simp;omega);done)|fail) ?_)|refine aS ?_|fail)
   refine ⟨(i,(i+j) / 2),⟨h1,by simp;omega,by simp;omega⟩,by simp;omega,?_⟩
   repeat' (first|(exact leI (by dsimp only;rw [e1]))|exact trivial|exact LeV.same _|exact rfl|exact fun _ _ _=>trivial|refine And.intro ?_ ?_)
 ·rintro _ _
  by_cases hc:cn<xs.length
  ·have hN:=A6 xs[cn]
   have hN2:=A6 s
   by_cases e:xs[cn]=s
   ·have e2:decide (s∈xs)=true:=decide_eq_true (hm.2 ⟨hc,e⟩)
    rw [e2]
    repeat' ((conv=>whnf);first|exact trivial|(refine nv_ (.str xs[cn]) (by first|(simp [hc];done)|fail) ?_)|refine nb_ true ((congrArg (fun z:ByteArray=>z.toList==s.toList) e).trans (by simp)) ?_|refine nT_ ?_|refine aD1 ?_|refine rb1 ?_|refine rix ?_|refine aS ?_|fail)
   ·have e2:decide (s∈xs)=false:=decide_eq_false fun h=>by
     obtain ⟨_,k⟩:=hm.1 h;exact absurd k e
    rw [e2]
    repeat' ((conv=>whnf);first|exact trivial|(refine nv_ (.str xs[cn]) (by first|(simp [hc];done)|fail) ?_)|refine nb_ false (by simpa using fun h=>e (zA h)) ?_|refine rE _ (hN) ?_|refine nT_ ?_|refine aD1 ?_|refine rb0 ?_|refine rix ?_|refine aS ?_|fail)
  ·have e2:decide (s∈xs)=false:=decide_eq_false fun h=>by
    obtain ⟨k,_⟩:=hm.1 h;exact absurd k hc
   rw [e2]
   repeat' ((conv=>whnf);first|exact trivial|refine aD0 ?_|refine rb0 ?_|refine rix ?_|refine aS ?_|fail)
theorem Eh:Inc ltS wordsG:=by
 unfold Inc
 decide+kernel
theorem tj {a b:ByteArray}:sC a b=true↔a=b:=by
 constructor
 ·intro h
  unfold sC at h
  exact ByteArray.ext (Array.ext' (by simpa using h))
 ·intro h
  subst h
  unfold sC;simp
theorem EM (s:ByteArray):decide (s∈wordsG)=yd s:=by
 have e:wordsG=Be:=by decide+kernel
 rw [e]
 unfold yd
 cases h:Be.any fun w=>sC w s with
 |true=>
  obtain ⟨w,hw,hs⟩:=List.any_eq_true.1 h
  rw [← tj.1 hs]
  exact decide_eq_true hw
 |false=>
  rw [List.any_eq_false] at h
  exact decide_eq_false fun hm=>h s hm (tj.2 rfl)
theorem DZ {s:ByteArray} (h:s.size=0):s=e0:=by
 have:s.data.toList=[]:=List.eq_nil_of_length_eq_zero h
 exact ByteArray.ext (Array.ext' this)
theorem HD (s:ByteArray) (hs:s.size<2^62):DCalls Tryz.prog 167 [.str s] (.bool (wm s)):=by
 refine qO (rs:=[.tmp 2]) mixed Tryz.func167 LN rfl rfl rfl (r:=[.bool _]) (nlZ rfl) ?_
 unfold wm
 have h1:=zd (tR s 0)
 have h2:=EF wordsG s Eh (by decide)
 rw [EM] at h2
 have h3:=EH s hs
 have hr:=zt s.toList
 have hsz:=vJ s
 have hpre:((s.extract 0 (uu s.toList)).toList==s.toList)=(uu s.toList==s.size):=by
  by_cases e:uu s.toList=s.size
  ·rw [e]
   have:s.extract 0 s.size=s:=ByteArray.ext (by rw [ByteArray.data_extract];exact Array.extract_eq_self_of_le (Nat.le_refl _))
   rw [this];simp
  ·have h1:(s.extract 0 (uu s.toList)).toList≠s.toList:=fun h=>by
    have:=congrArg List.length h
    rw [vJ,vJ,ByteArray.size_extract] at this
    omega
   rw [beq_false_of_ne h1,beq_false_of_ne e]
 generalize uj (tR s 0)=a at *
 generalize yd s=w at *
 generalize uM wordsG s=cn at *
 by_cases hz:s.size=0
 ·have:s=e0:=DZ hz
  subst this
  repeat' ((conv=>whnf);first|exact trivial|refine nb_ true (show (e0.toList==e0.toList)=true by simp) ?_|refine rb0 ?_|refine aS ?_|fail)
 ·have hne:(s.toList==(⟨#[]⟩:ByteArray).toList)=false:=by
   have:s.toList≠[]:=fun h=>by rw [h] at hsz;simp at hsz;omega
   simpa using this
  by_cases h24:s.size≤24
  ·simp only [h24,show 0<s.size by omega,decide_true,Bool.true_and]
   cases a <;> cases w <;> repeat' ((conv=>whnf);first|exact trivial|refine nb_ _ hne ?_|refine rE _ (h1) ?_|(refine nv_ (.slice 1 (wordsG.map .str)) (by first|(rfl;done)|fail) ?_)|refine rE _ (h2) ?_|refine rE _ (h3) ?_|refine nb_ _ hpre ?_|refine nT_ ?_|refine aD0 ?_|refine rb0 ?_|refine rbx ?_|refine aS ?_|fail)
  ·simp only [h24,decide_false,Bool.and_false,Bool.false_and]
   repeat' ((conv=>whnf);first|exact trivial|refine nb_ _ hne ?_|refine aD1 ?_|refine rb0 ?_|refine aS ?_|fail)
theorem A1 (s:ByteArray) (hs:s.size<2^62):DCalls Tryz.prog 152 [.str s] (.bool (wm s)):=by
 refine qO (rs:=[.tmp 2]) mixed Tryz.func152 LD rfl rfl rfl (r:=[.bool _]) (nlZ rfl) ?_
 have h1:=HD s hs
 repeat' ((conv=>whnf);first|exact trivial|refine rE _ (h1) ?_|refine rbx ?_|fail)
theorem xC (s:ByteArray) (hs:s.size<2^62):DCalls Tryz.prog 141 [.str s] (.bool (tH s)):=by
 refine qO (rs:=[.tmp 2]) mixed Tryz.func141 Lu rfl rfl rfl (r:=[.bool _]) (nlZ rfl) ?_
 have h1:=A1 s hs
 unfold tH
 have h2:=sR s ta
 generalize wm s=a at *
 generalize sC s ta=b at *
 cases a <;> cases b <;> repeat' ((conv=>whnf);first|exact trivial|refine rE _ (h1) ?_|refine nb_ _ h2 ?_|refine rb1 ?_|refine rb0 ?_|refine aS ?_|fail)
end Go.TY
end
section
namespace Go.TY
open Go Go.DL Go.MM Go.Proofs
theorem A9 (a b c d:Nat) (h1:a+c<2^62) (_:b<2^62) (h3:d<2^62):DCalls Tryz.prog 148 [sz a b,sz c d] (sz (a+c) (max b (d+1))):=by
 refine qO (rs:=[.cell 4 131]) mixed Tryz.func148 Lz rfl rfl rfl (r:=[sz (a+c) (max b (d+1))]) (nlZ rfl) ?_
 repeat' ((conv=>whnf);first|refine nT_ ?_|refine aS ?_|fail)
 refine And.intro (congrArg some ?_) trivial
 simp (disch:=omega) only [mG,aN,List.take,List.drop,List.nil_append,List.cons_append]
 unfold sz I
 have e:(if (d:Int)+1>(b:Int) then (d:Int)+1 else (b:Int))=((max b (d+1):Nat):Int):=by split <;> omega
 rw [e,Int.natCast_add]
theorem Ga (n d:Nat):DCalls Tryz.prog 140 [sz n d] (I (uP n d)):=by
 refine qO (rs:=[.tmp 2]) mixed Tryz.func140 Lt rfl rfl rfl (r:=[.int _ _]) (nlZ rfl) ?_
 unfold uP
 by_cases h:n≤200
 ·by_cases h2:d≤20
  ·rw [if_pos ⟨h,h2⟩];repeat' ((conv=>whnf);first|exact trivial|refine nT_ ?_|refine aD0 ?_|refine rix ?_|refine aS ?_|fail)
  ·rw [if_neg (by omega)];repeat' ((conv=>whnf);first|exact trivial|refine nT_ ?_|refine aD1 ?_|refine aD0 ?_|refine rix ?_|refine aS ?_|fail)
 ·rw [if_neg (by omega)];repeat' ((conv=>whnf);first|exact trivial|refine nT_ ?_|refine aD1 ?_|refine rix ?_|refine aS ?_|fail)
theorem HG (l:List RP) (hl:sJ l<2^60) (ih: ∀(i:Nat) (h:i<l.length),DCalls Tryz.prog 105 [.agg (sB l[i])] (sz l[i].nodes l[i].depth)):
  DCalls Tryz.prog 139 [.slice 5 (l.map sN),.clos 105 []] (sz (1+sJ l) (1+tC l)):=by
 refine qO (rs:=[.cell 4 131]) mixed Tryz.func139 Ls rfl rfl rfl (r:=[sz _ _]) (nlZ rfl) ?_
 repeat' ((conv=>whnf);first|refine aS ?_|fail)
 refine rq (α:=Nat) (fun i=>{sl:=[(1,.t (.clos 105 [])),(4,.ptr 4 0),(5,.ptr 5 0),(9,.t (.slice 5 (l.map sN))),(10,.t (I l.length)),(11,.t (I i))],bx:=[(4,.d 2 [I 0,I 0]),(5,.d 2 [I (1+sJ (l.take i):Nat),I (1+tC (l.take i):Nat)])]})
  (fun i=>i≤l.length) (fun i=>l.length - i) 0 (by omega) ?_ ?_
 ·repeat' (first|(exact leI (by simp))|exact trivial|exact LeV.same _|exact LeB.same _|exact rfl|exact fun _ _ _=>trivial|refine And.intro ?_ ?_)
 rintro i hi
 rcases Nat.lt_or_ge i l.length with h|h
 ·have hn:=tQ h
  have hd:=we h
  have hm:=tP (l:=l) (j:=i+1)
  have hdn:=l[i].vi
  have hd1:=vU (l.take i)
  have hln:=uk l
  have hw:=A9 (1+sJ (l.take i)) (1+tC (l.take i)) l[i].nodes l[i].depth (by omega) (by omega) (by omega)
  have hi0:DCalls Tryz.prog 105 [.agg (aN [I 0,.str ⟨#[]⟩,I 0,I 0,.nil] 0 5 (sB l[i]))] (sz l[i].nodes l[i].depth):=by rw [mU (n:=5) rfl];exact ih i h
  repeat' ((conv=>whnf);first|(refine nv_ (.agg (sB l[i])) (by first|(simp [h,sG];done)|fail) ?_)|refine rE _ (hi0) ?_|refine rE _ (hw) ?_|refine nT_ ?_|refine aD1 ?_|(refine And.intro (by first|exact sH _|exact ⟨sH _,nlZ rfl⟩|fail) ?_)|refine aS ?_|fail)
  refine ⟨i+1,by omega,by omega,?_⟩
  repeat' (first|exact trivial|exact LeV.same _|exact LeB.same _|exact rfl|exact fun _ _ _=>trivial|exact lI|refine su ?_|refine And.intro ?_ ?_)
  rw [hn,hd,show 1+(sJ (l.take i)+l[i].nodes)=1+sJ (l.take i)+l[i].nodes by omega,show 1+max (tC (l.take i)) l[i].depth=max (1+tC (l.take i)) (l[i].depth+1) by omega]
  rfl
 ·have:i=l.length:=by omega
  subst this
  rw [List.take_length]
  repeat' ((conv=>whnf);first|exact trivial|refine aD0 ?_|refine aS ?_|fail)
theorem BM (N:Nat): ∀r:RP,r.nodes≤N→N<2^60→DCalls Tryz.prog 105 [.agg (sB r)] (sz r.nodes r.depth):=by
 induction N with
 |zero=>intro r h;have:=r.ux;omega
 |succ N ih=>
  rintro ⟨k,f,n,m,l⟩ hr hN
  refine qO (rs:=[.cell 2 131]) mixed Tryz.func105 K8 rfl rfl rfl (r:=[sz _ _]) (nlZ rfl) ?_
  simp only [RP.nodes,RP.depth] at hr ⊢
  have h1:=HG l (by omega) fun i h=>ih l[i] (by
   have hn:=tQ h
   have hm:=tP (l:=l) (j:=i+1)
   omega) (by omega)
  repeat' ((conv=>whnf);first|exact trivial|refine rE _ (h1) ?_|refine nT_ ?_|(refine And.intro (by first|exact sH _|fail) ?_)|refine aS ?_|fail)
theorem HF (l:List RO) (hl:td l<2^60) (ih: ∀(i:Nat) (h:i<l.length),DCalls Tryz.prog 113 [.agg (sA l[i])] (sz l[i].size l[i].deep)):
  DCalls Tryz.prog 147 [.slice 9 (l.map s4),.clos 113 []] (sz (1+tq l) (1+tk l)):=by
 refine qO (rs:=[.cell 4 131]) mixed Tryz.func147 Ly rfl rfl rfl (r:=[sz _ _]) (nlZ rfl) ?_
 repeat' ((conv=>whnf);first|refine aS ?_|fail)
 refine rq (α:=Nat) (fun i=>{sl:=[(1,.t (.clos 113 [])),(4,.ptr 4 0),(5,.ptr 5 0),(9,.t (.slice 9 (l.map s4))),(10,.t (I l.length)),(11,.t (I i))],bx:=[(4,.d 2 [I 0,I 0]),(5,.d 2 [I (1+tq (l.take i):Nat),I (1+tk (l.take i):Nat)])]})
  (fun i=>i≤l.length) (fun i=>l.length - i) 0 (by omega) ?_ ?_
 ·repeat' (first|(exact leI (by simp))|exact trivial|exact LeV.same _|exact LeB.same _|exact rfl|exact fun _ _ _=>trivial|refine And.intro ?_ ?_)
 rintro i hi
 rcases Nat.lt_or_ge i l.length with h|h
 ·have hn:=vI h
  have hd:=vz h
  have hsz:=tZ l
  have hsm:=tZ (l.take (i+1))
  have hwm:=ua (l:=l) (j:=i+1)
  have hdn:=l[i].x7
  have hsn:=l[i].size_le
  have hd1:=uQ (l.take i)
  have hs1:=tZ (l.take i)
  have hwm1:=ua (l:=l) (j:=i)
  have hwt:=uA h
  have hln:=vu l
  have hw:=A9 (1+tq (l.take i)) (1+tk (l.take i)) l[i].size l[i].deep (by omega) (by omega) (by omega)
  have hi0:DCalls Tryz.prog 113 [.agg (aN [I 0,I 0,.str ⟨#[]⟩,I 0,I 0,.nil,.str ⟨#[]⟩,I 0,.nil] 0 9 (sA l[i]))] (sz l[i].size l[i].deep):=by rw [mU (n:=9) rfl];exact ih i h
  repeat' ((conv=>whnf);first|(refine nv_ (.agg (sA l[i])) (by first|(simp [h,sK];done)|fail) ?_)|refine rE _ (hi0) ?_|refine rE _ (hw) ?_|refine nT_ ?_|refine aD1 ?_|(refine And.intro (by first|exact sE _|exact ⟨sE _,nlZ rfl⟩|fail) ?_)|refine aS ?_|fail)
  refine ⟨i+1,by omega,by omega,?_⟩
  repeat' (first|exact trivial|exact LeV.same _|exact LeB.same _|exact rfl|exact fun _ _ _=>trivial|exact lI|refine su ?_|refine And.intro ?_ ?_)
  rw [hn,hd,show 1+(tq (l.take i)+l[i].size)=1+tq (l.take i)+l[i].size by omega,show 1+max (tk (l.take i)) l[i].deep=max (1+tk (l.take i)) (l[i].deep+1) by omega]
  rfl
 ·have:i=l.length:=by omega
  subst this
  rw [List.take_length]
  repeat' ((conv=>whnf);first|exact trivial|refine aD0 ?_|refine aS ?_|fail)
theorem Gb (N:Nat): ∀r:RO,r.wt≤N→N<2^60→DCalls Tryz.prog 113 [.agg (sA r)] (sz r.size r.deep):=by
 induction N with
 |zero=>intro r h;obtain ⟨k,p,f,n,a⟩:=r;simp only [RO.wt] at h;omega
 |succ N ih=>
  rintro ⟨k,⟨pk,pf,pn,pm,pa⟩,f,n,l⟩ hr hN
  refine qO (rs:=[.cell 2 131]) mixed Tryz.func113 Ld rfl rfl rfl (r:=[sz _ _]) (nlZ rfl) ?_
  simp only [RO.wt] at hr
  have h1:=HF l (by omega) fun i h=>ih l[i] (by
   have hn:=uA h
   have hm:=ua (l:=l) (j:=i+1)
   omega) (by omega)
  have h2:=BM _ (.mk pk pf pn pm pa) (Nat.le_refl _) (by omega)
  have hs:=tZ l
  have hd:=uQ l
  have hdp:=(RP.mk pk pf pn pm pa).vi
  by_cases hk:k=1
  ·subst hk
   have h3:=A9 (1+tq l) (1+tk l) (RP.mk pk pf pn pm pa).nodes (RP.mk pk pf pn pm pa).depth (by omega) (by omega) (by omega)
   have e1:(RO.mk 1 (.mk pk pf pn pm pa) f n l).size=1+tq l+(RP.mk pk pf pn pm pa).nodes:=by rw [RO.size,if_pos rfl];omega
   have e2:(RO.mk 1 (.mk pk pf pn pm pa) f n l).deep=max (1+tk l) ((RP.mk pk pf pn pm pa).depth+1):=by rw [RO.deep,if_pos rfl];omega
   rw [e1,e2]
   repeat' ((conv=>whnf);first|exact trivial|refine rE _ (h1) ?_|refine rE _ (h2) ?_|refine rE _ (h3) ?_|refine nT_ ?_|refine aE1 ?_|(refine And.intro (by first|exact sE _|fail) ?_)|refine aS ?_|fail)
  ·have e1:(RO.mk k (.mk pk pf pn pm pa) f n l).size=1+tq l:=by rw [RO.size,if_neg hk]
   have e2:(RO.mk k (.mk pk pf pn pm pa) f n l).deep=1+tk l:=by rw [RO.deep,if_neg hk];omega
   rw [e1,e2]
   repeat' ((conv=>whnf);first|exact trivial|refine rE _ (h1) ?_|refine nT_ ?_|refine aE0 ?_|(refine And.intro (by first|exact sE _|fail) ?_)|refine aS ?_|fail)
def uX {α:Type} (p:α→Bool) (xs:List α):Int:=match xs.findIdx? p with
 |some i=>(i:Int)
 |none=> -1
theorem x9 {α:Type} {p:α→Bool} {xs:List α} {i:Nat} (h:i<xs.length) (hb:p xs[i]=true) (hp: ∀j (h:j<xs.length),j<i→p xs[j]=false):uX p xs=i:=by
 unfold uX
 have:xs.findIdx? p=some i:=List.findIdx?_eq_some_iff_getElem.2 ⟨h,hb,fun j hj=>by simp [hp j (by omega) hj]⟩
 rw [this]
theorem yc {α:Type} {p:α→Bool} {xs:List α} (hp: ∀j (h:j<xs.length),p xs[j]=false):uX p xs= -1:=by
 unfold uX
 have:xs.findIdx? p=none:=List.findIdx?_eq_none_iff.2 fun x hx=>by
  obtain ⟨j,hj,rfl⟩:=List.getElem_of_mem hx
  exact hp j hj
 rw [this]
theorem xw {α:Type} (p:α→Bool) (xs:List α):xs.any p=decide (uX p xs≥0):=by
 unfold uX
 cases h:xs.findIdx? p with
 |none=>
  have:=List.findIdx?_eq_none_iff.1 h
  simpa using this
 |some i=>
  obtain ⟨h1,h2,_⟩:=List.findIdx?_eq_some_iff_getElem.1 h
  have:xs.any p=true:=List.any_eq_true.2 ⟨xs[i],List.getElem_mem h1,h2⟩
  rw [this];simp
theorem CV (xs:List RP) (f:FuncId) (c:T) (p:RP→Bool) (hl:xs.length<2^60) (hc: ∀(i:Nat) (h:i<xs.length),DCalls Tryz.prog f [.agg (sB xs[i]),c] (.bool (p xs[i]))):
  DCalls Tryz.prog 190 [.slice 5 (xs.map sN),.clos f [c]] (I (uX p xs)):=by
 refine qO (rs:=[.tmp 4]) mixed Tryz.func190 LQ rfl rfl rfl (r:=[.int _ _]) (nlZ rfl) ?_
 skip
 refine rq (α:=Nat) (fun i=>{sl:=[(0,.t (.slice 5 (xs.map sN))),(1,.t (.clos f [c])),(6,.t (.slice 5 (xs.map sN))),(7,.t (I xs.length)),(8,.t (I i))],bx:=[]})
  (fun i=>i≤xs.length∧ ∀j (h:j<xs.length),j<i→p xs[j]=false) (fun i=>xs.length - i) 0 (by simp) ?_ ?_
 ·repeat' (first|(exact leI (by simp))|exact trivial|exact LeV.same _|exact rfl|exact fun _ _ _=>trivial|refine And.intro ?_ ?_)
 rintro i ⟨hi,hp⟩
 rcases Nat.lt_or_ge i xs.length with h|h
 ·have h0:=hc i h
  cases hb:p xs[i] with
  |true=>
   rw [hb] at h0
   rw [x9 h hb hp]
   repeat' ((conv=>whnf);first|exact trivial|(refine nv_ (.agg (sB xs[i])) (by first|(simp [h,sG];done)|fail) ?_)|refine rE _ (h0) ?_|refine nT_ ?_|refine aD1 ?_|refine rix ?_|(refine And.intro (by first|exact sH _|fail) ?_)|refine aS ?_|fail)
  |false=>
   rw [hb] at h0
   repeat' ((conv=>whnf);first|(refine nv_ (.agg (sB xs[i])) (by first|(simp [h,sG];done)|fail) ?_)|refine rE _ (h0) ?_|refine nT_ ?_|refine aD1 ?_|(refine And.intro (by first|exact sH _|fail) ?_)|refine aS ?_|fail)
   refine ⟨i+1,⟨h,fun j hj hlt=>?_⟩,by omega,?_⟩
   ·rcases Nat.lt_or_ge j i with h4|h4
    ·exact hp j hj h4
    ·obtain rfl:j=i:=by omega
     exact hb
   ·repeat' (first|exact trivial|exact LeV.same _|exact rfl|exact fun _ _ _=>trivial|exact lI|refine And.intro ?_ ?_)
 ·rw [yc fun j hj=>hp j hj (by omega)]
  repeat' ((conv=>whnf);first|exact trivial|refine aD0 ?_|refine rix ?_|refine aS ?_|fail)
theorem CU (xs:List RP) (f:FuncId) (c:T) (p:RP→Bool) (hl:xs.length<2^60) (hc: ∀(i:Nat) (h:i<xs.length),DCalls Tryz.prog f [.agg (sB xs[i]),c] (.bool (p xs[i]))):
  DCalls Tryz.prog 161 [.slice 5 (xs.map sN),.clos f [c]] (.bool (xs.any p)):=by
 refine qO (rs:=[.tmp 4]) mixed Tryz.func161 LH rfl rfl rfl (r:=[.bool _]) (nlZ rfl) ?_
 have h1:=CV xs f c p hl hc
 rw [xw p xs]
 generalize uX p xs=k at *
 repeat' ((conv=>whnf);first|exact trivial|refine rE _ (h1) ?_|refine nD_ (fun hq=>?_) (fun hq=>?_)|refine rb1 ?_|refine rb0 ?_|refine aS ?_|fail)
theorem Br (x:RP) (f:FuncId) (b:Bool) (hc:DCalls Tryz.prog f [.agg (sB x)] (.bool b)):
  DCalls Tryz.prog 162 [.agg (sB x),.cptr [.clos f []] 0] (.bool !b):=by
 refine qO (rs:=[.tmp 3]) mixed Tryz.func162 LI rfl rfl rfl (r:=[.bool _]) (nlZ rfl) ?_
 repeat' ((conv=>whnf);first|exact trivial|refine rE _ (hc) ?_|refine nT_ ?_|refine rbx ?_|(refine And.intro (by first|exact sH _|fail) ?_)|refine aS ?_|fail)
theorem A2 (xs:List RP) (f:FuncId) (n:Int) (p:RP→Bool) (hl:xs.length<2^60) (hc: ∀(i:Nat) (h:i<xs.length),DCalls Tryz.prog f [.agg (sB xs[i])] (.bool (p xs[i]))):
  DCalls Tryz.prog 144 [.slice 5 (xs.map sN),I n,.clos f []] (.bool (((xs.length:Int)==n)&&xs.all p)):=by
 refine qO (rs:=[.tmp 6]) mixed Tryz.func144 Lx rfl rfl rfl (r:=[.bool _]) (nlZ rfl) ?_
 have h1:=CU xs 162 (.cptr [.clos f []] 0) (fun x=> !p x) hl fun i h=>Br xs[i] f (p xs[i]) (hc i h)
 have e:xs.all p= !(xs.any fun x=> !p x):=by rw [List.all_eq_not_any_not]
 rw [e]
 generalize (xs.any fun x=> !p x)=b at *
 by_cases hn:(xs.length:Int)=n
 ·repeat' ((conv=>whnf);first|exact trivial|refine rE _ (h1) ?_|refine aE1 ?_|refine rbx ?_|refine aS ?_|fail)
 ·repeat' ((conv=>whnf);first|exact trivial|refine aE0 ?_|refine rb0 ?_|refine aS ?_|fail)
theorem A4 (xs:List RO) (f:FuncId) (c:T) (p:RO→Bool) (hl:xs.length<2^60) (hc: ∀(i:Nat) (h:i<xs.length),DCalls Tryz.prog f [.agg (sA xs[i]),c] (.bool (p xs[i]))):
  DCalls Tryz.prog 191 [.slice 9 (xs.map s4),.clos f [c]] (I (uX p xs)):=by
 refine qO (rs:=[.tmp 4]) mixed Tryz.func191 LR rfl rfl rfl (r:=[.int _ _]) (nlZ rfl) ?_
 skip
 refine rq (α:=Nat) (fun i=>{sl:=[(0,.t (.slice 9 (xs.map s4))),(1,.t (.clos f [c])),(6,.t (.slice 9 (xs.map s4))),(7,.t (I xs.length)),(8,.t (I i))],bx:=[]})
  (fun i=>i≤xs.length∧ ∀j (h:j<xs.length),j<i→p xs[j]=false) (fun i=>xs.length - i) 0 (by simp) ?_ ?_
 ·repeat' (first|(exact leI (by simp))|exact trivial|exact LeV.same _|exact rfl|exact fun _ _ _=>trivial|refine And.intro ?_ ?_)
 rintro i ⟨hi,hp⟩
 rcases Nat.lt_or_ge i xs.length with h|h
 ·have h0:=hc i h
  cases hb:p xs[i] with
  |true=>
   rw [hb] at h0
   rw [x9 h hb hp]
   repeat' ((conv=>whnf);first|exact trivial|(refine nv_ (.agg (sA xs[i])) (by first|(simp [h,sK];done)|fail) ?_)|refine rE _ (h0) ?_|refine nT_ ?_|refine aD1 ?_|refine rix ?_|(refine And.intro (by first|exact sE _|fail) ?_)|refine aS ?_|fail)
  |false=>
   rw [hb] at h0
   repeat' ((conv=>whnf);first|(refine nv_ (.agg (sA xs[i])) (by first|(simp [h,sK];done)|fail) ?_)|refine rE _ (h0) ?_|refine nT_ ?_|refine aD1 ?_|(refine And.intro (by first|exact sE _|fail) ?_)|refine aS ?_|fail)
   refine ⟨i+1,⟨h,fun j hj hlt=>?_⟩,by omega,?_⟩
   ·rcases Nat.lt_or_ge j i with h4|h4
    ·exact hp j hj h4
    ·obtain rfl:j=i:=by omega
     exact hb
   ·repeat' (first|exact trivial|exact LeV.same _|exact rfl|exact fun _ _ _=>trivial|exact lI|refine And.intro ?_ ?_)
 ·rw [yc fun j hj=>hp j hj (by omega)]
  repeat' ((conv=>whnf);first|exact trivial|refine aD0 ?_|refine rix ?_|refine aS ?_|fail)
theorem A3 (xs:List RO) (f:FuncId) (c:T) (p:RO→Bool) (hl:xs.length<2^60) (hc: ∀(i:Nat) (h:i<xs.length),DCalls Tryz.prog f [.agg (sA xs[i]),c] (.bool (p xs[i]))):
  DCalls Tryz.prog 164 [.slice 9 (xs.map s4),.clos f [c]] (.bool (xs.any p)):=by
 refine qO (rs:=[.tmp 4]) mixed Tryz.func164 LK rfl rfl rfl (r:=[.bool _]) (nlZ rfl) ?_
 have h1:=A4 xs f c p hl hc
 rw [xw p xs]
 generalize uX p xs=k at *
 repeat' ((conv=>whnf);first|exact trivial|refine rE _ (h1) ?_|refine nD_ (fun hq=>?_) (fun hq=>?_)|refine rb1 ?_|refine rb0 ?_|refine aS ?_|fail)
theorem zM (x:RO) (f:FuncId) (b:Bool) (hc:DCalls Tryz.prog f [.agg (sA x)] (.bool b)):
  DCalls Tryz.prog 165 [.agg (sA x),.cptr [.clos f []] 0] (.bool !b):=by
 refine qO (rs:=[.tmp 3]) mixed Tryz.func165 LL rfl rfl rfl (r:=[.bool _]) (nlZ rfl) ?_
 repeat' ((conv=>whnf);first|exact trivial|refine rE _ (hc) ?_|refine nT_ ?_|refine rbx ?_|(refine And.intro (by first|exact sE _|fail) ?_)|refine aS ?_|fail)
theorem zy (xs:List RO) (f:FuncId) (n:Int) (p:RO→Bool) (hl:xs.length<2^60) (hc: ∀(i:Nat) (h:i<xs.length),DCalls Tryz.prog f [.agg (sA xs[i])] (.bool (p xs[i]))):
  DCalls Tryz.prog 150 [.slice 9 (xs.map s4),I n,.clos f []] (.bool (((xs.length:Int)==n)&&xs.all p)):=by
 refine qO (rs:=[.tmp 6]) mixed Tryz.func150 LB rfl rfl rfl (r:=[.bool _]) (nlZ rfl) ?_
 have h1:=A3 xs 165 (.cptr [.clos f []] 0) (fun x=> !p x) hl fun i h=>zM xs[i] f (p xs[i]) (hc i h)
 have e:xs.all p= !(xs.any fun x=> !p x):=by rw [List.all_eq_not_any_not]
 rw [e]
 generalize (xs.any fun x=> !p x)=b at *
 by_cases hn:(xs.length:Int)=n
 ·repeat' ((conv=>whnf);first|exact trivial|refine rE _ (h1) ?_|refine aE1 ?_|refine rbx ?_|refine aS ?_|fail)
 ·repeat' ((conv=>whnf);first|exact trivial|refine aE0 ?_|refine rb0 ?_|refine aS ?_|fail)
theorem A5 (xs:List ByteArray) (f:FuncId) (c:T) (p:ByteArray→Bool) (hl:xs.length<2^60) (hc: ∀(i:Nat) (h:i<xs.length),DCalls Tryz.prog f [.str xs[i],c] (.bool (p xs[i]))):
  DCalls Tryz.prog 154 [.slice 1 (xs.map T.str),.clos f [c]] (I (uX p xs)):=by
 refine qO (rs:=[.tmp 4]) mixed Tryz.func154 LG rfl rfl rfl (r:=[.int _ _]) (nlZ rfl) ?_
 skip
 refine rq (α:=Nat) (fun i=>{sl:=[(0,.t (.slice 1 (xs.map T.str))),(1,.t (.clos f [c])),(6,.t (.slice 1 (xs.map T.str))),(7,.t (I xs.length)),(8,.t (I i))],bx:=[]})
  (fun i=>i≤xs.length∧ ∀j (h:j<xs.length),j<i→p xs[j]=false) (fun i=>xs.length - i) 0 (by simp) ?_ ?_
 ·repeat' (first|(exact leI (by simp))|exact trivial|exact LeV.same _|exact rfl|exact fun _ _ _=>trivial|refine And.intro ?_ ?_)
 rintro i ⟨hi,hp⟩
 rcases Nat.lt_or_ge i xs.length with h|h
 ·have h0:=hc i h
  cases hb:p xs[i] with
  |true=>
   rw [hb] at h0
   rw [x9 h hb hp]
   repeat' ((conv=>whnf);first|exact trivial|(refine nv_ (.str xs[i]) (by first|(simp [h];done)|fail) ?_)|refine rE _ (h0) ?_|refine nT_ ?_|refine aD1 ?_|refine rix ?_|refine aS ?_|fail)
  |false=>
   rw [hb] at h0
   repeat' ((conv=>whnf);first|(refine nv_ (.str xs[i]) (by first|(simp [h];done)|fail) ?_)|refine rE _ (h0) ?_|refine nT_ ?_|refine aD1 ?_|refine aS ?_|fail)
   refine ⟨i+1,⟨h,fun j hj hlt=>?_⟩,by omega,?_⟩
   ·rcases Nat.lt_or_ge j i with h4|h4
    ·exact hp j hj h4
    ·obtain rfl:j=i:=by omega
     exact hb
   ·repeat' (first|exact trivial|exact LeV.same _|exact rfl|exact fun _ _ _=>trivial|exact lI|refine And.intro ?_ ?_)
 ·rw [yc fun j hj=>hp j hj (by omega)]
  repeat' ((conv=>whnf);first|exact trivial|refine aD0 ?_|refine rix ?_|refine aS ?_|fail)
theorem xZ (xs:List ByteArray) (f:FuncId) (c:T) (p:ByteArray→Bool) (hl:xs.length<2^60) (hc: ∀(i:Nat) (h:i<xs.length),DCalls Tryz.prog f [.str xs[i],c] (.bool (p xs[i]))):
  DCalls Tryz.prog 124 [.slice 1 (xs.map T.str),.clos f [c]] (.bool (xs.any p)):=by
 refine qO (rs:=[.tmp 4]) mixed Tryz.func124 Lk rfl rfl rfl (r:=[.bool _]) (nlZ rfl) ?_
 have h1:=A5 xs f c p hl hc
 rw [xw p xs]
 generalize uX p xs=k at *
 repeat' ((conv=>whnf);first|exact trivial|refine rE _ (h1) ?_|refine nD_ (fun hq=>?_) (fun hq=>?_)|refine rb1 ?_|refine rb0 ?_|refine aS ?_|fail)
theorem zN (x:ByteArray) (f:FuncId) (b:Bool) (hc:DCalls Tryz.prog f [.str x] (.bool b)):
  DCalls Tryz.prog 168 [.str x,.cptr [.clos f []] 0] (.bool !b):=by
 refine qO (rs:=[.tmp 3]) mixed Tryz.func168 LO rfl rfl rfl (r:=[.bool _]) (nlZ rfl) ?_
 repeat' ((conv=>whnf);first|exact trivial|refine rE _ (hc) ?_|refine nT_ ?_|refine rbx ?_|refine aS ?_|fail)
theorem zz (xs:List ByteArray) (f:FuncId) (n:Int) (p:ByteArray→Bool) (hl:xs.length<2^60) (hc: ∀(i:Nat) (h:i<xs.length),DCalls Tryz.prog f [.str xs[i]] (.bool (p xs[i]))):
  DCalls Tryz.prog 153 [.slice 1 (xs.map T.str),I n,.clos f []] (.bool (((xs.length:Int)==n)&&xs.all p)):=by
 refine qO (rs:=[.tmp 6]) mixed Tryz.func153 LF rfl rfl rfl (r:=[.bool _]) (nlZ rfl) ?_
 have h1:=xZ xs 168 (.cptr [.clos f []] 0) (fun x=> !p x) hl fun i h=>zN xs[i] f (p xs[i]) (hc i h)
 have e:xs.all p= !(xs.any fun x=> !p x):=by rw [List.all_eq_not_any_not]
 rw [e]
 generalize (xs.any fun x=> !p x)=b at *
 by_cases hn:(xs.length:Int)=n
 ·repeat' ((conv=>whnf);first|exact trivial|refine rE _ (h1) ?_|refine aE1 ?_|refine rbx ?_|refine aS ?_|fail)
 ·repeat' ((conv=>whnf);first|exact trivial|refine aE0 ?_|refine rb0 ?_|refine aS ?_|fail)
end Go.TY
end
section
namespace Go.TY
open Go Go.DL Go.MM Go.Proofs
theorem w9 (n:Int):DCalls Tryz.prog 142 [I n] (.bool (ue n)):=by
 refine qO (rs:=[.tmp 2]) mixed Tryz.func142 Lv rfl rfl rfl (r:=[.bool _]) (nlZ rfl) ?_
 unfold ue
 repeat' ((conv=>whnf);first|exact trivial|refine nD_ (fun hq=>?_) (fun hq=>?_)|refine rb1 ?_|refine rb0 ?_|refine aS ?_|fail)
def vb (n:Int):Bool:=decide (0≤n)&&decide (n≤1073741824)
theorem ze (n:Int):DCalls Tryz.prog 143 [I n] (.bool (vb n)):=by
 refine qO (rs:=[.tmp 2]) mixed Tryz.func143 Lw rfl rfl rfl (r:=[.bool _]) (nlZ rfl) ?_
 unfold vb
 repeat' ((conv=>whnf);first|exact trivial|refine nD_ (fun hq=>?_) (fun hq=>?_)|refine rb1 ?_|refine rb0 ?_|refine aS ?_|fail)
theorem xL: ∀l:List RP,xu l=l.all tx
 |[]=>rfl
 |r::rs=>by rw [xu,xL rs];rfl
theorem xK: ∀l:List RO,uO l=l.all sX
 |[]=>rfl
 |r::rs=>by rw [uO,xK rs];rfl
def BQ (k:Int) (br b nd:Bool) (n m:Int) (len:Nat) (al:Bool):Bool:=
 if k=1∨k=2 then br&&(len==0)
 else if k=3 then nd&&ue n&&(m==0)&&(len==0)
 else if k=4 then nd&&ue n&&decide (m≥0)&&decide (m≤16)&&(len==0)
 else if k=5 then nd&&ue n&&ue m&&decide (n≤m)&&(len==0)
 else if k=9 then b&&vb n&&vb m&&decide (n<m)&&(len==0)
 else if k=6 then br&&(((len:Int)==1)&&al)
 else if k=7∨k=8 then br&&(((len:Int)==2)&&al)
 else false
theorem xi (a:Nat) (b:Nat):((a:Int)==(b:Int))=(a==b):=by
 rw [Bool.eq_iff_iff];simp;omega
theorem Ae (k:Int) (f:ByteArray) (n m:Int) (l:List RP):tx (.mk k f n m l)=BQ k (ye f n m) (sC f e0) (tH f) n m l.length (l.all tx):=by
 rw [tx,xL]
 have hall:l.length=0→l.all tx=true:=fun h=>by rw [List.eq_nil_of_length_eq_zero h];rfl
 have leaf: ∀(x:Bool),(x&&(l.length==0)&&l.all tx)=(x&&(l.length==0)):=fun x=>by
  by_cases h0:l.length=0
  ·rw [hall h0,Bool.and_true]
  ·rw [show (l.length==0)=false from beq_false_of_ne h0,Bool.and_false,Bool.false_and]
 generalize l.all tx=al at *
 unfold BQ okP EO
 by_cases h1:k=1∨k=2
 ·rw [if_pos h1,if_pos h1,if_neg (by omega),if_neg (by omega),leaf]
 rw [if_neg h1,if_neg h1]
 by_cases h3:k=3
 ·rw [if_pos h3,if_pos h3,if_neg (by omega),if_neg (by omega),leaf]
 rw [if_neg h3,if_neg h3]
 by_cases h4:k=4
 ·rw [if_pos h4,if_pos h4,if_neg (by omega),if_neg (by omega),leaf]
 rw [if_neg h4,if_neg h4]
 by_cases h5:k=5
 ·rw [if_pos h5,if_pos h5,if_neg (by omega),if_neg (by omega),leaf]
  refine congrArg (fun x=>x&&(l.length==0)) ?_
  rw [Bool.eq_iff_iff]
  simp only [ue,Bool.and_eq_true,decide_eq_true_eq]
  exact ⟨fun h=>⟨⟨⟨h.1.1.1,by omega,by omega⟩,by omega,by omega⟩,by omega⟩,fun h=>⟨⟨⟨h.1.1.1,by omega⟩,by omega⟩,by omega⟩⟩
 rw [if_neg h5,if_neg h5]
 by_cases h9:k=9
 ·rw [if_pos h9,if_neg (show ¬(k=6∨k=7∨k=8) by omega),if_pos h9,if_neg (by omega),if_neg (by omega),leaf]
  refine congrArg (fun x=>x&&(l.length==0)) ?_
  rw [Bool.eq_iff_iff]
  simp only [vb,Bool.and_eq_true,decide_eq_true_eq]
  exact ⟨fun h=>⟨⟨⟨h.1.1.1,by omega,by omega⟩,by omega,by omega⟩,by omega⟩,fun h=>⟨⟨⟨h.1.1.1,by omega⟩,by omega⟩,by omega⟩⟩
 simp only [h9,if_false]
 by_cases h6:k=6
 ·rw [if_pos (Or.inl h6),if_pos h6,if_pos h6,Bool.and_assoc,show ((l.length:Int)==1)=(l.length==1) from xi _ 1]
 rw [if_neg h6,if_neg h6]
 by_cases h7:k=7∨k=8
 ·rw [if_pos (Or.inr h7),if_pos h7,if_pos h7,Bool.and_assoc,show ((l.length:Int)==2)=(l.length==2) from xi _ 2]
 rw [if_neg (show ¬(k=6∨k=7∨k=8) by omega),if_neg h7,if_neg h7]
 simp
theorem zI (N:Nat): ∀r:RP,r.nodes≤N→N<2^60→vO r→DCalls Tryz.prog 108 [.agg (sB r)] (.bool (tx r)):=by
 induction N with
 |zero=>intro r h;have:=r.ux;omega
 |succ N ih=>
  rintro ⟨k,f,n,m,l⟩ hr hN hnm
  refine qO (rs:=[.tmp 2]) mixed Tryz.func108 Lb rfl rfl rfl (r:=[.bool _]) (nlZ rfl) ?_
  simp only [RP.nodes] at hr
  have hll:=uk l
  have h104:=xC f hnm.1
  have hvn:=w9 n
  have hvm:=w9 m
  have htn:=ze n
  have htm:=ze m
  have hev:=fun n=>A2 l 108 n tx (by omega) fun i h=>ih l[i] (by
   have hn:=tQ h
   have hm:=tP (l:=l) (j:=i+1)
   omega) (by omega) (yr hnm.2 i h)
  have h1:=hev 1
  have h2:=hev 2
  have hE:=sR f e0
  rw [Ae]
  clear ih hev hr
  repeat' ((conv=>whnf);first|refine aS ?_|fail)
  refine rA (β:=Unit) (fun _=>{sl:=[(1,.ptr 1 0),(3,.t (.bool (ye f n m)))],bx:=[(1,.d 5 (sB (.mk k f n m l)))]}) (fun _=>True) ?_ ?_
  ·unfold ye
   generalize sC f e0=b at *
   repeat' ((conv=>whnf);first|refine nb_ b hE ?_|(exact ⟨(),trivial,by (repeat' (first|exact trivial|exact LeV.same _|exact LeB.same _|exact rfl|exact fun _ _ _=>trivial|exact lB|refine And.intro ?_ ?_));done⟩)|refine nT_ ?_|refine nE_ (fun hq=>?_) (fun hq=>?_)|refine aS ?_|(cases b)|fail)
  rintro _ _
  generalize ye f n m=br at *
  generalize sC f e0=b at *
  generalize tH f=nd at *
  generalize l.all tx=al at *
  have hlen:(l.map sN).length=l.length:=List.length_map _
  have key: ∀(z:Bool),(l.length==0)=z→(z=true∧((l.map sN).length:Int)=0)∨(z=false∧((l.map sN).length:Int)≠0):=fun z hz=>by
   cases z with
   |true=>
    have h0:l.length=0:=by simpa using hz
    exact Or.inl ⟨rfl,by omega⟩
   |false=>
    have h0:l.length≠0:=by simpa using hz
    exact Or.inr ⟨rfl,by omega⟩
  unfold BQ
  generalize hz:(l.length==0)=z at *
  generalize ue n=vn at *
  generalize ue m=vm at *
  generalize vb n=tn at *
  generalize vb m=tm at *
  by_cases k1:k=1∨k=2
  ·rw [if_pos k1]
   rcases key z rfl with ⟨rfl,e1⟩|⟨rfl,e1⟩ <;> rcases k1 with rfl|rfl <;> cases br <;> repeat' ((conv=>whnf);first|exact trivial|refine qx e1 ?_|refine qw e1 ?_|refine nT_ ?_|refine aE1 ?_|refine aE0 ?_|refine rb1 ?_|refine rb0 ?_|refine aS ?_|fail)
  rw [if_neg k1]
  by_cases k3:k=3
  ·subst k3
   rw [if_pos rfl]
   rcases key z rfl with ⟨rfl,e1⟩|⟨rfl,e1⟩ <;> cases nd <;> cases vn <;> repeat' ((conv=>whnf);first|exact trivial|refine rE _ (h104) ?_|refine rE _ (hvn) ?_|refine qx e1 ?_|refine qw e1 ?_|refine nT_ ?_|refine aE1 ?_|refine aE0 ?_|refine nE_ (fun hq=>?_) (fun hq=>?_)|refine rb1 ?_|refine rb0 ?_|refine aS ?_|fail)
  rw [if_neg k3]
  by_cases k4:k=4
  ·subst k4
   rw [if_pos rfl]
   rcases key z rfl with ⟨rfl,e1⟩|⟨rfl,e1⟩ <;> cases nd <;> cases vn <;> repeat' ((conv=>whnf);first|exact trivial|refine rE _ (h104) ?_|refine rE _ (hvn) ?_|refine qx e1 ?_|refine qw e1 ?_|refine nT_ ?_|refine aE1 ?_|refine aE0 ?_|refine nD_ (fun hq=>?_) (fun hq=>?_)|refine rb1 ?_|refine rb0 ?_|refine aS ?_|fail)
  rw [if_neg k4]
  by_cases k5:k=5
  ·subst k5
   rw [if_pos rfl]
   rcases key z rfl with ⟨rfl,e1⟩|⟨rfl,e1⟩ <;> cases nd <;> cases vn <;> cases vm <;> repeat' ((conv=>whnf);first|exact trivial|refine rE _ (h104) ?_|refine rE _ (hvn) ?_|refine rE _ (hvm) ?_|refine qx e1 ?_|refine qw e1 ?_|refine nT_ ?_|refine aE1 ?_|refine aE0 ?_|refine nD_ (fun hq=>?_) (fun hq=>?_)|refine rb1 ?_|refine rb0 ?_|refine aS ?_|fail)
  rw [if_neg k5]
  by_cases k9:k=9
  ·subst k9
   rw [if_pos rfl]
   rcases key z rfl with ⟨rfl,e1⟩|⟨rfl,e1⟩ <;> cases b <;> cases tn <;> cases tm <;> repeat' ((conv=>whnf);first|exact trivial|refine nb_ _ hE ?_|refine rE _ (htn) ?_|refine rE _ (htm) ?_|refine qx e1 ?_|refine qw e1 ?_|refine nT_ ?_|refine aE1 ?_|refine aE0 ?_|refine nD_ (fun hq=>?_) (fun hq=>?_)|refine rb1 ?_|refine rb0 ?_|refine aS ?_|fail)
  rw [if_neg k9]
  by_cases k6:k=6
  ·subst k6
   rw [if_pos rfl]
   cases br <;> repeat' ((conv=>whnf);first|exact trivial|refine rE _ (h1) ?_|refine nT_ ?_|refine aE1 ?_|refine aE0 ?_|refine rb0 ?_|refine rbx ?_|refine aS ?_|fail)
  rw [if_neg k6]
  by_cases k7:k=7∨k=8
  ·rw [if_pos k7]
   rcases k7 with rfl|rfl <;> cases br <;> repeat' ((conv=>whnf);first|exact trivial|refine rE _ (h2) ?_|refine nT_ ?_|refine aE1 ?_|refine aE0 ?_|refine rb0 ?_|refine rbx ?_|refine aS ?_|fail)
  rw [if_neg k7]
  repeat' ((conv=>whnf);first|exact trivial|refine nT_ ?_|refine aE0 ?_|refine rb0 ?_|refine aS ?_|fail)
end Go.TY
end
