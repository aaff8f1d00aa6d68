/- Joined by program: parts of a data level over the model, of the program's functions over it, and of the statement's proof. -/
import Derived.Test.YtnfonfjleonbdaaGreatDoorProg
import Derived.Test.YtnfonfjleonbdaaGreatDoorGc
import Derived.KernelRfl
import Derived.Stop.LaidErr
import Derived.Sort.Walk0
import Derived.WalkKit
import Derived.Lib.Walk
import Derived.Lib.SliceRun
import Derived.Laws.NewBlocks
import Derived.Laws.Externs
import Derived.Shelf.RegionOpenPlain
import Derived.Shelf.Lays8
import Derived.LoopN
import Derived.Shelf.SlLaysF0
import Derived.Shelf.SlGeneric
set_option maxRecDepth 100000
set_option maxHeartbeats 8000000
noncomputable section
namespace Go.DL
abbrev Kc(n:Int):O:=.const (.int .i64 n)
abbrev Zi(n:Int):T:=.int .i64 n
abbrev Ui(n:Int):T:=.int .u8 n
abbrev tm(n:Nat):O:=.tmp n
abbrev mv(d s:Nat):DI:=⟨some d,.mov (.tmp s),none,[]⟩
abbrev mF(d s g:Nat):DI:=⟨some d,.mov (.tmp s),some (g,false),[]⟩
abbrev mT(d s g:Nat):DI:=⟨some d,.mov (.tmp s),some (g,true),[]⟩
abbrev oo(d:Nat)(p:DOp):DI:=⟨some d,p,none,[]⟩
abbrev oF(d g:Nat)(p:DOp):DI:=⟨some d,p,some (g,false),[]⟩
abbrev oT(d g:Nat)(p:DOp):DI:=⟨some d,p,some (g,true),[]⟩
abbrev o0(p:DOp):DI:=⟨none,p,none,[]⟩
abbrev ld(d a:Nat):DI:=⟨some d,.load 1 false (.tmp a),none,[]⟩
abbrev lA(d n a:Nat):DI:=⟨some d,.load n true (.tmp a),none,[]⟩
abbrev fa(d k a:Nat):DI:=⟨some d,.offA k (.tmp a),none,[]⟩
abbrev ix(d z a b:Nat):DI:=⟨some d,.idxL z (.tmp a) (.tmp b),none,[]⟩
abbrev ln(d a:Nat):DI:=⟨some d,.len (.tmp a),none,[]⟩
abbrev kT:O:=.const (.bool true)
abbrev kF:O:=.const (.bool false)
abbrev S0:T:=.str ⟨#[]⟩
abbrev Z0:T:=.int .i64 0
end Go.DL
namespace Go.RC
open Go Go.DL Go.Proofs
def FW:aV:=(sr [oo 4 (.mov (.const (.int .u32 0)))] (sr [mv 6 1,oo 7 (.conv .u64 (tm 6)),oo 8 (.bin .and (tm 7) (.const (.int .u64 31))),mv 5 8] (sr [mv 9 0,mv 10 5,oo 11 (.bin .shl (tm 9) (tm 10)),mv 12 0,mv 13 5,oo 14 (.bin .sub (.const (.int .u64 32)) (tm 13)),oo 15 (.bin .shr (tm 12) (tm 14)),oo 16 (.bin .or (tm 11) (tm 15)),mv 4 16] .ret)))
theorem Gv:(Tryz.f118.body.bind (bp Tryz.prog 17 []))=some FW:=by kernel_rfl
def c99:aV:=(sr [oo 8 (.mov (.const (.int .u32 0)))] (sr [mv 9 0,mv 10 1,oo 11 (.neg (tm 10)),oo 12 (.call 118 [(tm 9),(tm 11)]),mv 13 0,mv 14 2,oo 15 (.neg (tm 14)),oo 16 (.call 118 [(tm 13),(tm 15)]),oo 17 (.bin .xor (tm 12) (tm 16)),mv 18 0,mv 19 3,oo 20 (.neg (tm 19)),oo 21 (.call 118 [(tm 18),(tm 20)]),oo 22 (.bin .xor (tm 17) (tm 21)),mv 8 22] .ret))
theorem l99:(Tryz.f99.body.bind (bp Tryz.prog 23 []))=some c99:=by kernel_rfl
def c98:aV:=(sr [oo 2 (.alloc [(.int .u32 0),(.int .u32 0),(.int .u32 0),(.int .u32 0),(.int .u32 0),(.int .u32 0),(.int .u32 0),(.int .u32 0),(.int .u32 0),(.int .u32 0),(.int .u32 0),(.int .u32 0),(.int .u32 0),(.int .u32 0),(.int .u32 0),(.int .u32 0),(.int .u32 0),(.int .u32 0),(.int .u32 0),(.int .u32 0),(.int .u32 0),(.int .u32 0),(.int .u32 0),(.int .u32 0),(.int .u32 0),(.int .u32 0),(.int .u32 0),(.int .u32 0),(.int .u32 0),(.int .u32 0),(.int .u32 0),(.int .u32 0),(.int .u32 0),(.int .u32 0),(.int .u32 0),(.int .u32 0),(.int .u32 0),(.int .u32 0),(.int .u32 0),(.int .u32 0),(.int .u32 0),(.int .u32 0),(.int .u32 0),(.int .u32 0),(.int .u32 0),(.int .u32 0),(.int .u32 0),(.int .u32 0),(.int .u32 0),(.int .u32 0),(.int .u32 0),(.int .u32 0),(.int .u32 0),(.int .u32 0),(.int .u32 0),(.int .u32 0),(.int .u32 0),(.int .u32 0),(.int .u32 0),(.int .u32 0),(.int .u32 0),(.int .u32 0),(.int .u32 0),(.int .u32 0)])] (sr [oo 3 (.alloc [(.int .u32 0),(.int .u32 0),(.int .u32 0),(.int .u32 0),(.int .u32 0),(.int .u32 0),(.int .u32 0),(.int .u32 0),(.int .u32 0),(.int .u32 0),(.int .u32 0),(.int .u32 0),(.int .u32 0),(.int .u32 0),(.int .u32 0),(.int .u32 0),(.int .u32 0),(.int .u32 0),(.int .u32 0),(.int .u32 0),(.int .u32 0),(.int .u32 0),(.int .u32 0),(.int .u32 0),(.int .u32 0),(.int .u32 0),(.int .u32 0),(.int .u32 0),(.int .u32 0),(.int .u32 0),(.int .u32 0),(.int .u32 0),(.int .u32 0),(.int .u32 0),(.int .u32 0),(.int .u32 0),(.int .u32 0),(.int .u32 0),(.int .u32 0),(.int .u32 0),(.int .u32 0),(.int .u32 0),(.int .u32 0),(.int .u32 0),(.int .u32 0),(.int .u32 0),(.int .u32 0),(.int .u32 0),(.int .u32 0),(.int .u32 0),(.int .u32 0),(.int .u32 0),(.int .u32 0),(.int .u32 0),(.int .u32 0),(.int .u32 0),(.int .u32 0),(.int .u32 0),(.int .u32 0),(.int .u32 0),(.int .u32 0),(.int .u32 0),(.int .u32 0),(.int .u32 0)])] (.seq (sr [oo 11 (.mov (Kc 0))] (.block 0 (.loop (sr [oo 12 (.bin .lss (tm 11) (Kc 64))] (.seq (.cond (tm 12) .skip (.exit 0)) (.seq (.block 1 (sr [mv 13 11,mv 4 13] (.seq (sr [mv 14 4,oo 15 (.bin .lss (tm 14) (Kc 16))] (.cond (tm 15) (.seq (sr [mv 16 0,mv 17 4,oo 18 (.bin .mul (Kc 4) (tm 17)),mv 19 4,oo 20 (.bin .mul (Kc 4) (tm 19)),oo 21 (.bin .add (tm 20) (Kc 4)),oo 22 (.slice 1 (tm 16) (some (tm 18)) (some (tm 21))),ln 23 22,oo 24 (.mov (Kc 0))] (.block 2 (.loop (sr [oo 25 (.bin .lss (tm 24) (tm 23))] (.seq (.cond (tm 25) .skip (.exit 2)) (.seq (.block 3 (sr [ix 26 1 22 24,ld 27 26,mv 6 27] (rg [mv 28 4,mv 29 4,oo 30 (.idxA 64 1 (tm 3) (tm 29)),ld 31 30,oo 32 (.bin .shl (tm 31) (.const (.int .u64 8))),mv 33 6,oo 34 (.conv .u32 (tm 33)),oo 35 (.bin .or (tm 32) (tm 34)),oo 36 (.idxA 64 1 (tm 3) (tm 28)),o0 (.store 1 (tm 36) (tm 35))]))) (rg [oo 37 (.bin .add (tm 24) (Kc 1)),mv 24 37]))))))) (.exit 1)) .skip)) (sr [mv 38 4,oo 39 (.bin .sub (tm 38) (Kc 15)),oo 40 (.idxA 64 1 (tm 3) (tm 39)),ld 41 40,mv 42 4,oo 43 (.bin .sub (tm 42) (Kc 2)),oo 44 (.idxA 64 1 (tm 3) (tm 43)),ld 45 44,mv 7 41,mv 8 45] (sr [mv 46 7,oo 47 (.call 118 [(tm 46),(.const (.int .i64 (-7)))]),mv 48 7,oo 49 (.call 118 [(tm 48),(.const (.int .i64 (-18)))]),oo 50 (.bin .xor (tm 47) (tm 49)),mv 51 7,oo 52 (.bin .shr (tm 51) (.const (.int .u64 3))),oo 53 (.bin .xor (tm 50) (tm 52)),mv 9 53] (sr [mv 54 8,oo 55 (.call 118 [(tm 54),(.const (.int .i64 (-17)))]),mv 56 8,oo 57 (.call 118 [(tm 56),(.const (.int .i64 (-19)))]),oo 58 (.bin .xor (tm 55) (tm 57)),mv 59 8,oo 60 (.bin .shr (tm 59) (.const (.int .u64 10))),oo 61 (.bin .xor (tm 58) (tm 60)),mv 10 61] (rg [mv 62 4,mv 63 4,oo 64 (.bin .sub (tm 63) (Kc 16)),oo 65 (.idxA 64 1 (tm 3) (tm 64)),ld 66 65,mv 67 9,oo 68 (.bin .add (tm 66) (tm 67)),mv 69 4,oo 70 (.bin .sub (tm 69) (Kc 7)),oo 71 (.idxA 64 1 (tm 3) (tm 70)),ld 72 71,oo 73 (.bin .add (tm 68) (tm 72)),mv 74 10,oo 75 (.bin .add (tm 73) (tm 74)),oo 76 (.idxA 64 1 (tm 3) (tm 62)),o0 (.store 1 (tm 76) (tm 75))]))))))) (rg [oo 77 (.bin .add (tm 11) (Kc 1)),mv 11 77]))))))) (sr [lA 78 64 3,o0 (.store 64 (tm 2) (tm 78))] .ret))))
theorem l98:(Tryz.f98.body.bind (bp Tryz.prog 79 []))=some c98:=by kernel_rfl
def c77:aV:=(sr [oo 2 (.box 8 (tm 0)),oo 4 (.alloc [(.int .u32 0),(.int .u32 0),(.int .u32 0),(.int .u32 0),(.int .u32 0),(.int .u32 0),(.int .u32 0),(.int .u32 0)])] (sr [mv 13 1,oo 14 (.call 98 [tm 13]),oo 5 (.alloc [(.int .u32 0),(.int .u32 0),(.int .u32 0),(.int .u32 0),(.int .u32 0),(.int .u32 0),(.int .u32 0),(.int .u32 0),(.int .u32 0),(.int .u32 0),(.int .u32 0),(.int .u32 0),(.int .u32 0),(.int .u32 0),(.int .u32 0),(.int .u32 0),(.int .u32 0),(.int .u32 0),(.int .u32 0),(.int .u32 0),(.int .u32 0),(.int .u32 0),(.int .u32 0),(.int .u32 0),(.int .u32 0),(.int .u32 0),(.int .u32 0),(.int .u32 0),(.int .u32 0),(.int .u32 0),(.int .u32 0),(.int .u32 0),(.int .u32 0),(.int .u32 0),(.int .u32 0),(.int .u32 0),(.int .u32 0),(.int .u32 0),(.int .u32 0),(.int .u32 0),(.int .u32 0),(.int .u32 0),(.int .u32 0),(.int .u32 0),(.int .u32 0),(.int .u32 0),(.int .u32 0),(.int .u32 0),(.int .u32 0),(.int .u32 0),(.int .u32 0),(.int .u32 0),(.int .u32 0),(.int .u32 0),(.int .u32 0),(.int .u32 0),(.int .u32 0),(.int .u32 0),(.int .u32 0),(.int .u32 0),(.int .u32 0),(.int .u32 0),(.int .u32 0),(.int .u32 0)]),o0 (.store 64 (tm 5) (tm 14))] (.seq (.region [oo 15 (.sliceA 8 1 (tm 2) none (some (Kc 4))),oo 16 (.arrP 4 (tm 15)),lA 17 4 16,oo 18 (.sliceA 8 1 (tm 2) (some (Kc 4)) none),oo 19 (.arrP 4 (tm 18)),lA 20 4 19,oo 6 (.alloc [(.int .u32 0),(.int .u32 0),(.int .u32 0),(.int .u32 0)]),oo 7 (.alloc [(.int .u32 0),(.int .u32 0),(.int .u32 0),(.int .u32 0)]),o0 (.store 4 (tm 6) (tm 17)),o0 (.store 4 (tm 7) (tm 20))] [[],[],[],[],[],[],[],[],[5],[]]) (.seq (sr [oo 21 (.load 64 true (.const (.glob 0 0))),oo 22 (.mov (Kc 0))] (.block 0 (.loop (sr [oo 23 (.bin .lss (tm 22) (Kc 64))] (.seq (.cond (tm 23) .skip (.exit 0)) (.seq (.block 1 (sr [mv 24 22,oo 25 (.idxV 64 1 false (tm 21) (tm 22)),mv 8 24,mv 9 25] (sr [oo 26 (.idxA 4 1 (tm 7) (Kc 3)),ld 27 26,oo 28 (.idxA 4 1 (tm 7) (Kc 0)),ld 29 28,oo 30 (.call 99 [(tm 29),(Kc 6),(Kc 11),(Kc 25)]),oo 31 (.bin .add (tm 27) (tm 30)),oo 32 (.idxA 4 1 (tm 7) (Kc 0)),ld 33 32,oo 34 (.idxA 4 1 (tm 7) (Kc 1)),ld 35 34,oo 36 (.bin .and (tm 33) (tm 35)),oo 37 (.idxA 4 1 (tm 7) (Kc 0)),ld 38 37,oo 39 (.cpl (tm 38)),oo 40 (.idxA 4 1 (tm 7) (Kc 2)),ld 41 40,oo 42 (.bin .and (tm 39) (tm 41)),oo 43 (.bin .xor (tm 36) (tm 42)),oo 44 (.bin .add (tm 31) (tm 43)),mv 45 9,oo 46 (.bin .add (tm 44) (tm 45)),mv 47 8,oo 48 (.idxA 64 1 (tm 5) (tm 47)),ld 49 48,oo 50 (.bin .add (tm 46) (tm 49)),mv 10 50] (sr [oo 51 (.idxA 4 1 (tm 6) (Kc 0)),ld 52 51,oo 53 (.call 99 [(tm 52),(Kc 2),(Kc 13),(Kc 22)]),oo 54 (.idxA 4 1 (tm 6) (Kc 0)),ld 55 54,oo 56 (.idxA 4 1 (tm 6) (Kc 1)),ld 57 56,oo 58 (.bin .and (tm 55) (tm 57)),oo 59 (.idxA 4 1 (tm 6) (Kc 0)),ld 60 59,oo 61 (.idxA 4 1 (tm 6) (Kc 2)),ld 62 61,oo 63 (.bin .and (tm 60) (tm 62)),oo 64 (.bin .xor (tm 58) (tm 63)),oo 65 (.idxA 4 1 (tm 6) (Kc 1)),ld 66 65,oo 67 (.idxA 4 1 (tm 6) (Kc 2)),ld 68 67,oo 69 (.bin .and (tm 66) (tm 68)),oo 70 (.bin .xor (tm 64) (tm 69)),oo 71 (.bin .add (tm 53) (tm 70)),mv 11 71] (sr [oo 72 (.idxA 4 1 (tm 6) (Kc 3)),ld 73 72,mv 74 10,oo 75 (.bin .add (tm 73) (tm 74)),oo 76 (.idxA 4 1 (tm 7) (Kc 0)),ld 77 76,oo 78 (.idxA 4 1 (tm 7) (Kc 1)),ld 79 78,oo 80 (.idxA 4 1 (tm 7) (Kc 2)),ld 81 80,oo 82 (.build [(.int .u32 0),(.int .u32 0),(.int .u32 0),(.int .u32 0)] [(0,1,(tm 75)),(1,1,(tm 77)),(2,1,(tm 79)),(3,1,(tm 81))]),o0 (.store 4 (tm 7) (tm 82))] (rg [mv 83 10,mv 84 11,oo 85 (.bin .add (tm 83) (tm 84)),oo 86 (.idxA 4 1 (tm 6) (Kc 0)),ld 87 86,oo 88 (.idxA 4 1 (tm 6) (Kc 1)),ld 89 88,oo 90 (.idxA 4 1 (tm 6) (Kc 2)),ld 91 90,oo 92 (.build [(.int .u32 0),(.int .u32 0),(.int .u32 0),(.int .u32 0)] [(0,1,(tm 85)),(1,1,(tm 87)),(2,1,(tm 89)),(3,1,(tm 91))]),o0 (.store 4 (tm 6) (tm 92))])))))) (rg [oo 93 (.bin .add (tm 22) (Kc 1)),mv 22 93]))))))) (.seq (sr [oo 94 (.mov (Kc 0))] (.block 2 (.loop (sr [oo 95 (.bin .lss (tm 94) (Kc 4))] (.seq (.cond (tm 95) .skip (.exit 2)) (.seq (.block 3 (sr [mv 96 94,mv 12 96] (sr [mv 97 12,oo 98 (.idxA 8 1 (tm 2) (tm 97)),ld 99 98,mv 100 12,oo 101 (.idxA 4 1 (tm 6) (tm 100)),ld 102 101,oo 103 (.bin .add (tm 99) (tm 102)),oo 104 (.idxA 8 1 (tm 2) (tm 97)),o0 (.store 1 (tm 104) (tm 103))] (rg [mv 105 12,oo 106 (.bin .add (tm 105) (Kc 4)),oo 107 (.idxA 8 1 (tm 2) (tm 106)),ld 108 107,mv 109 12,oo 110 (.idxA 4 1 (tm 7) (tm 109)),ld 111 110,oo 112 (.bin .add (tm 108) (tm 111)),oo 113 (.idxA 8 1 (tm 2) (tm 106)),o0 (.store 1 (tm 113) (tm 112))])))) (rg [oo 114 (.bin .add (tm 94) (Kc 1)),mv 94 114]))))))) (sr [lA 115 8 2,o0 (.store 8 (tm 4) (tm 115))] .ret))))))
theorem l77:(Tryz.f77.body.bind (bp Tryz.prog 116 []))=some c77:=by kernel_rfl
def c55:aV:=(sr [oo 0 (.alloc [(.int .u32 0),(.int .u32 0),(.int .u32 0),(.int .u32 0),(.int .u32 0),(.int .u32 0),(.int .u32 0),(.int .u32 0),(Ui 0),(Ui 0),(Ui 0),(Ui 0),(Ui 0),(Ui 0),(Ui 0),(Ui 0),(Ui 0),(Ui 0),(Ui 0),(Ui 0),(Ui 0),(Ui 0),(Ui 0),(Ui 0),(Ui 0),(Ui 0),(Ui 0),(Ui 0),(Ui 0),(Ui 0),(Ui 0),(Ui 0),(Ui 0),(Ui 0),(Ui 0),(Ui 0),(Ui 0),(Ui 0),(Ui 0),(Ui 0),(Ui 0),(Ui 0),(Ui 0),(Ui 0),(Ui 0),(Ui 0),(Ui 0),(Ui 0),(Ui 0),(Ui 0),(Ui 0),(Ui 0),(Ui 0),(Ui 0),(Ui 0),(Ui 0),(Ui 0),(Ui 0),(Ui 0),(Ui 0),(Ui 0),(Ui 0),(Ui 0),(Ui 0),(Ui 0),(Ui 0),(Ui 0),(Ui 0),(Ui 0),(Ui 0),(Ui 0),(Ui 0),(.int .u64 0)])] (sr [oo 1 (.build [(.int .u32 0),(.int .u32 0),(.int .u32 0),(.int .u32 0),(.int .u32 0),(.int .u32 0),(.int .u32 0),(.int .u32 0)] [(0,1,(.const (.int .u32 1779033703))),(1,1,(.const (.int .u32 3144134277))),(2,1,(.const (.int .u32 1013904242))),(3,1,(.const (.int .u32 2773480762))),(4,1,(.const (.int .u32 1359893119))),(5,1,(.const (.int .u32 2600822924))),(6,1,(.const (.int .u32 528734635))),(7,1,(.const (.int .u32 1541459225)))]),oo 2 (.build [(.int .u32 0),(.int .u32 0),(.int .u32 0),(.int .u32 0),(.int .u32 0),(.int .u32 0),(.int .u32 0),(.int .u32 0),(Ui 0),(Ui 0),(Ui 0),(Ui 0),(Ui 0),(Ui 0),(Ui 0),(Ui 0),(Ui 0),(Ui 0),(Ui 0),(Ui 0),(Ui 0),(Ui 0),(Ui 0),(Ui 0),(Ui 0),(Ui 0),(Ui 0),(Ui 0),(Ui 0),(Ui 0),(Ui 0),(Ui 0),(Ui 0),(Ui 0),(Ui 0),(Ui 0),(Ui 0),(Ui 0),(Ui 0),(Ui 0),(Ui 0),(Ui 0),(Ui 0),(Ui 0),(Ui 0),(Ui 0),(Ui 0),(Ui 0),(Ui 0),(Ui 0),(Ui 0),(Ui 0),(Ui 0),(Ui 0),(Ui 0),(Ui 0),(Ui 0),(Ui 0),(Ui 0),(Ui 0),(Ui 0),(Ui 0),(Ui 0),(Ui 0),(Ui 0),(Ui 0),(Ui 0),(Ui 0),(Ui 0),(Ui 0),(Ui 0),(Ui 0),(.int .u64 0)] [(0,8,(tm 1))]),o0 (.store 73 (tm 0) (tm 2))] .ret))
theorem l55:(Tryz.f55.body.bind (bp Tryz.prog 3 []))=some c55:=by kernel_rfl
def c56:aV:=(sr [oo 2 (.box 73 (tm 0)),oo 4 (.alloc [(.int .u32 0),(.int .u32 0),(.int .u32 0),(.int .u32 0),(.int .u32 0),(.int .u32 0),(.int .u32 0),(.int .u32 0),(Ui 0),(Ui 0),(Ui 0),(Ui 0),(Ui 0),(Ui 0),(Ui 0),(Ui 0),(Ui 0),(Ui 0),(Ui 0),(Ui 0),(Ui 0),(Ui 0),(Ui 0),(Ui 0),(Ui 0),(Ui 0),(Ui 0),(Ui 0),(Ui 0),(Ui 0),(Ui 0),(Ui 0),(Ui 0),(Ui 0),(Ui 0),(Ui 0),(Ui 0),(Ui 0),(Ui 0),(Ui 0),(Ui 0),(Ui 0),(Ui 0),(Ui 0),(Ui 0),(Ui 0),(Ui 0),(Ui 0),(Ui 0),(Ui 0),(Ui 0),(Ui 0),(Ui 0),(Ui 0),(Ui 0),(Ui 0),(Ui 0),(Ui 0),(Ui 0),(Ui 0),(Ui 0),(Ui 0),(Ui 0),(Ui 0),(Ui 0),(Ui 0),(Ui 0),(Ui 0),(Ui 0),(Ui 0),(Ui 0),(Ui 0),(.int .u64 0)])] (.seq (.block 0 (.loop (.seq (sr [mv 7 1,⟨some 8,.bin .neq (tm 7) (.const S0),none,[]⟩] (.cond (tm 8) .skip (.exit 0))) (.block 1 (sr [fa 9 72 2,ld 10 9,oo 11 (.bin .rem (tm 10) (.const (.int .u64 64))),oo 12 (.conv .i64 (tm 11)),mv 5 12] (.seq (.cut (rg [fa 13 8 2,mv 14 5,oo 15 (.sliceA 64 1 (tm 13) (some (tm 14)) none),mv 16 1,oo 17 (.copy (tm 15) (tm 16)),mv 6 17])) (sr [mv 18 1,mv 19 6,oo 20 (.sliceS (tm 18) (some (tm 19)) none),mv 1 20] (.seq (.cut (rg [fa 21 72 2,ld 22 21,mv 23 6,oo 24 (.conv .u64 (tm 23)),oo 25 (.bin .add (tm 22) (tm 24)),fa 26 72 2,o0 (.store 1 (tm 26) (tm 25))])) (sr [mv 27 5,mv 28 6,oo 29 (.bin .add (tm 27) (tm 28)),oo 30 (.bin .eql (tm 29) (Kc 64))] (.cond (tm 30) (rg [fa 31 0 2,lA 32 8 31,fa 33 8 2,oo 34 (.sliceA 64 1 (tm 33) none none),oo 35 (.call 77 [(tm 32),(tm 34)]),fa 36 0 2,o0 (.store 8 (tm 36) (tm 35))]) .skip)))))))))) (sr [lA 37 73 2,o0 (.store 73 (tm 4) (tm 37))] .ret)))
theorem l56:(Tryz.f56.body.bind (bp Tryz.prog 38 [6000003,6000005]))=some c56:=by kernel_rfl
def c57:aV:=(sr [oo 1 (.box 73 (tm 0)),oo 2 (.alloc [(Ui 0),(Ui 0),(Ui 0),(Ui 0),(Ui 0),(Ui 0),(Ui 0),(Ui 0),(Ui 0),(Ui 0),(Ui 0),(Ui 0),(Ui 0),(Ui 0),(Ui 0),(Ui 0),(Ui 0),(Ui 0),(Ui 0),(Ui 0),(Ui 0),(Ui 0),(Ui 0),(Ui 0),(Ui 0),(Ui 0),(Ui 0),(Ui 0),(Ui 0),(Ui 0),(Ui 0),(Ui 0)])] (sr [fa 8 72 1,ld 9 8,oo 10 (.bin .mul (.const (.int .u64 8)) (tm 9)),mv 3 10] (sr [oo 11 (.buildS 5 1 1 [(Ui 0)] [(0,(.const (Ui 128)))]),mv 4 11] (.seq (.block 0 (.loop (.seq (sr [fa 12 72 1,ld 13 12,oo 14 (.conv .i64 (tm 13)),mv 15 4,ln 16 15,oo 17 (.bin .add (tm 14) (tm 16)),oo 18 (.bin .rem (tm 17) (Kc 64)),oo 19 (.bin .neq (tm 18) (Kc 56))] (.cond (tm 19) .skip (.exit 0))) (.block 1 (rg [mv 20 4,oo 21 (.buildF 1 1 [(Ui 0)] [(0,(.const (Ui 0)))]),oo 22 (.append 23 5 1 1 (tm 20) (tm 21)),mv 4 22]))))) (.seq (sr [oo 23 (.mov (Kc 0))] (.block 2 (.loop (sr [oo 24 (.bin .lss (tm 23) (Kc 8))] (.seq (.cond (tm 24) .skip (.exit 2)) (.seq (.block 3 (sr [mv 25 23,mv 5 25] (rg [mv 26 4,mv 27 3,mv 28 5,oo 29 (.bin .mul (Kc 8) (tm 28)),oo 30 (.bin .sub (Kc 56) (tm 29)),oo 31 (.bin .shr (tm 27) (tm 30)),oo 32 (.conv .u8 (tm 31)),oo 33 (.buildF 1 1 [(Ui 0)] [(0,(tm 32))]),oo 34 (.append 23 5 1 1 (tm 26) (tm 33)),mv 4 34]))) (rg [oo 35 (.bin .add (tm 23) (Kc 1)),mv 23 35]))))))) (sr [lA 36 73 1,mv 37 4,oo 38 (.prim .strB (tm 37)),oo 39 (.call 56 [(tm 36),(tm 38)]),o0 (.store 73 (tm 1) (tm 39))] (sr [oo 6 (.alloc [(Ui 0),(Ui 0),(Ui 0),(Ui 0),(Ui 0),(Ui 0),(Ui 0),(Ui 0),(Ui 0),(Ui 0),(Ui 0),(Ui 0),(Ui 0),(Ui 0),(Ui 0),(Ui 0),(Ui 0),(Ui 0),(Ui 0),(Ui 0),(Ui 0),(Ui 0),(Ui 0),(Ui 0),(Ui 0),(Ui 0),(Ui 0),(Ui 0),(Ui 0),(Ui 0),(Ui 0),(Ui 0)])] (.seq (sr [oo 40 (.mov (Kc 0))] (.block 4 (.loop (sr [oo 41 (.bin .lss (tm 40) (Kc 32))] (.seq (.cond (tm 41) .skip (.exit 4)) (.seq (.block 5 (sr [mv 42 40,mv 7 42] (rg [mv 43 7,mv 44 7,oo 45 (.bin .quo (tm 44) (Kc 4)),fa 46 0 1,oo 47 (.idxA 8 1 (tm 46) (tm 45)),ld 48 47,mv 49 7,oo 50 (.bin .rem (tm 49) (Kc 4)),oo 51 (.bin .mul (Kc 8) (tm 50)),oo 52 (.bin .sub (Kc 24) (tm 51)),oo 53 (.bin .shr (tm 48) (tm 52)),oo 54 (.conv .u8 (tm 53)),oo 55 (.idxA 32 1 (tm 6) (tm 43)),o0 (.store 1 (tm 55) (tm 54))]))) (rg [oo 56 (.bin .add (tm 40) (Kc 1)),mv 40 56]))))))) (sr [lA 57 32 6,o0 (.store 32 (tm 2) (tm 57))] .ret)))))))))
theorem l57:(Tryz.f57.body.bind (bp Tryz.prog 58 [8000021,8000033]))=some c57:=by kernel_rfl
def c36:aV:=(sr [oo 4 (.alloc [(Ui 0),(Ui 0),(Ui 0),(Ui 0),(Ui 0),(Ui 0),(Ui 0),(Ui 0),(Ui 0),(Ui 0),(Ui 0),(Ui 0),(Ui 0),(Ui 0),(Ui 0),(Ui 0)])] (sr [oo 9 (.call 55 []),mv 10 0,oo 11 (.conv .u8 (tm 10)),oo 12 (.buildT 1 1 [(Ui 0)] [(0,(tm 11))]),oo 13 (.prim .strB (tm 12)),oo 14 (.call 56 [(tm 9),(tm 13)]),oo 5 (.alloc [(.int .u32 0),(.int .u32 0),(.int .u32 0),(.int .u32 0),(.int .u32 0),(.int .u32 0),(.int .u32 0),(.int .u32 0),(Ui 0),(Ui 0),(Ui 0),(Ui 0),(Ui 0),(Ui 0),(Ui 0),(Ui 0),(Ui 0),(Ui 0),(Ui 0),(Ui 0),(Ui 0),(Ui 0),(Ui 0),(Ui 0),(Ui 0),(Ui 0),(Ui 0),(Ui 0),(Ui 0),(Ui 0),(Ui 0),(Ui 0),(Ui 0),(Ui 0),(Ui 0),(Ui 0),(Ui 0),(Ui 0),(Ui 0),(Ui 0),(Ui 0),(Ui 0),(Ui 0),(Ui 0),(Ui 0),(Ui 0),(Ui 0),(Ui 0),(Ui 0),(Ui 0),(Ui 0),(Ui 0),(Ui 0),(Ui 0),(Ui 0),(Ui 0),(Ui 0),(Ui 0),(Ui 0),(Ui 0),(Ui 0),(Ui 0),(Ui 0),(Ui 0),(Ui 0),(Ui 0),(Ui 0),(Ui 0),(Ui 0),(Ui 0),(Ui 0),(Ui 0),(.int .u64 0)]),o0 (.store 73 (tm 5) (tm 14))] (.seq (sr [mv 15 1,ln 16 15,oo 17 (.mov (Kc 0))] (.block 0 (.loop (sr [oo 18 (.bin .lss (tm 17) (tm 16))] (.seq (.cond (tm 18) .skip (.exit 0)) (.seq (.block 1 (sr [ix 19 1 15 17,ld 20 19,mv 7 20] (rg [lA 21 73 5,mv 22 7,oo 23 (.call 22 [tm 22]),oo 24 (.prim .strB (tm 23)),oo 25 (.call 56 [(tm 21),(tm 24)]),o0 (.store 73 (tm 5) (tm 25))]))) (rg [oo 26 (.bin .add (tm 17) (Kc 1)),mv 17 26]))))))) (sr [lA 27 73 5,oo 28 (.call 57 [tm 27]),oo 8 (.alloc [(Ui 0),(Ui 0),(Ui 0),(Ui 0),(Ui 0),(Ui 0),(Ui 0),(Ui 0),(Ui 0),(Ui 0),(Ui 0),(Ui 0),(Ui 0),(Ui 0),(Ui 0),(Ui 0),(Ui 0),(Ui 0),(Ui 0),(Ui 0),(Ui 0),(Ui 0),(Ui 0),(Ui 0),(Ui 0),(Ui 0),(Ui 0),(Ui 0),(Ui 0),(Ui 0),(Ui 0),(Ui 0)]),o0 (.store 32 (tm 8) (tm 28))] (sr [oo 29 (.sliceA 32 1 (tm 8) none (some (Kc 16))),oo 30 (.arrP 16 (tm 29)),lA 31 16 30,o0 (.store 16 (tm 4) (tm 31))] .ret)))))
theorem l36:(Tryz.f36.body.bind (bp Tryz.prog 32 []))=some c36:=by kernel_rfl
def FM:aV:=(sr [oo 4 (.mov (.const (.int .u32 0)))] (sr [mv 5 0,mv 6 1,oo 7 (.bin .shr (tm 5) (tm 6)),mv 8 0,mv 9 1,oo 10 (.bin .sub (Kc 32) (tm 9)),oo 11 (.bin .shl (tm 8) (tm 10)),oo 12 (.bin .or (tm 7) (tm 11)),mv 4 12] .ret))
theorem Gl:(Tryz.f102.body.bind (bp Tryz.prog 13 []))=some FM:=by kernel_rfl
def FK:aV:=(sr [oo 2 (.mov (.const .nil))] (sr [oo 6 (.buildS 5 1 0 [(Ui 0)] []),mv 7 0,oo 8 (.append 23 5 1 1 (tm 6) (tm 7)),mv 3 8] (sr [mv 9 3,oo 10 (.buildF 1 1 [(Ui 0)] [(0,(.const (Ui 128)))]),oo 11 (.append 23 5 1 1 (tm 9) (tm 10)),mv 3 11] (.seq (.block 0 (.loop (.seq (sr [mv 12 3,ln 13 12,oo 14 (.bin .rem (tm 13) (Kc 64)),oo 15 (.bin .neq (tm 14) (Kc 56))] (.cond (tm 15) .skip (.exit 0))) (.block 1 (rg [mv 16 3,oo 17 (.buildF 1 1 [(Ui 0)] [(0,(.const (Ui 0)))]),oo 18 (.append 23 5 1 1 (tm 16) (tm 17)),mv 3 18]))))) (sr [mv 19 0,ln 20 19,oo 21 (.conv .u64 (tm 20)),oo 22 (.bin .mul (.const (.int .u64 8)) (tm 21)),mv 4 22] (.seq (sr [oo 5 (.mov (Kc 0))] (.block 2 (.loop (.seq (sr [mv 23 5,oo 24 (.bin .lss (tm 23) (Kc 8))] (.cond (tm 24) .skip (.exit 2))) (.seq (.block 3 (rg [mv 27 3,mv 28 4,mv 29 5,oo 30 (.bin .mul (Kc 8) (tm 29)),oo 31 (.bin .sub (Kc 56) (tm 30)),oo 32 (.bin .shr (tm 28) (tm 31)),oo 33 (.conv .u8 (tm 32)),oo 34 (.buildF 1 1 [(Ui 0)] [(0,(tm 33))]),oo 35 (.append 23 5 1 1 (tm 27) (tm 34)),mv 3 35])) (rg [mv 25 5,oo 26 (.bin .add (tm 25) (Kc 1)),mv 5 26])))))) (sr [mv 36 3,mv 2 36] .ret)))))))
theorem Gj:(Tryz.f100.body.bind (bp Tryz.prog 37 [8000010,8000017,8000034]))=some FK:=by kernel_rfl
def FL:aV:=(sr [oo 2 (.alloc [(.int .u32 0),(.int .u32 0),(.int .u32 0),(.int .u32 0),(.int .u32 0),(.int .u32 0),(.int .u32 0),(.int .u32 0),(.int .u32 0),(.int .u32 0),(.int .u32 0),(.int .u32 0),(.int .u32 0),(.int .u32 0),(.int .u32 0),(.int .u32 0),(.int .u32 0),(.int .u32 0),(.int .u32 0),(.int .u32 0),(.int .u32 0),(.int .u32 0),(.int .u32 0),(.int .u32 0),(.int .u32 0),(.int .u32 0),(.int .u32 0),(.int .u32 0),(.int .u32 0),(.int .u32 0),(.int .u32 0),(.int .u32 0),(.int .u32 0),(.int .u32 0),(.int .u32 0),(.int .u32 0),(.int .u32 0),(.int .u32 0),(.int .u32 0),(.int .u32 0),(.int .u32 0),(.int .u32 0),(.int .u32 0),(.int .u32 0),(.int .u32 0),(.int .u32 0),(.int .u32 0),(.int .u32 0),(.int .u32 0),(.int .u32 0),(.int .u32 0),(.int .u32 0),(.int .u32 0),(.int .u32 0),(.int .u32 0),(.int .u32 0),(.int .u32 0),(.int .u32 0),(.int .u32 0),(.int .u32 0),(.int .u32 0),(.int .u32 0),(.int .u32 0),(.int .u32 0)])] (sr [oo 3 (.alloc [(.int .u32 0),(.int .u32 0),(.int .u32 0),(.int .u32 0),(.int .u32 0),(.int .u32 0),(.int .u32 0),(.int .u32 0),(.int .u32 0),(.int .u32 0),(.int .u32 0),(.int .u32 0),(.int .u32 0),(.int .u32 0),(.int .u32 0),(.int .u32 0),(.int .u32 0),(.int .u32 0),(.int .u32 0),(.int .u32 0),(.int .u32 0),(.int .u32 0),(.int .u32 0),(.int .u32 0),(.int .u32 0),(.int .u32 0),(.int .u32 0),(.int .u32 0),(.int .u32 0),(.int .u32 0),(.int .u32 0),(.int .u32 0),(.int .u32 0),(.int .u32 0),(.int .u32 0),(.int .u32 0),(.int .u32 0),(.int .u32 0),(.int .u32 0),(.int .u32 0),(.int .u32 0),(.int .u32 0),(.int .u32 0),(.int .u32 0),(.int .u32 0),(.int .u32 0),(.int .u32 0),(.int .u32 0),(.int .u32 0),(.int .u32 0),(.int .u32 0),(.int .u32 0),(.int .u32 0),(.int .u32 0),(.int .u32 0),(.int .u32 0),(.int .u32 0),(.int .u32 0),(.int .u32 0),(.int .u32 0),(.int .u32 0),(.int .u32 0),(.int .u32 0),(.int .u32 0)])] (.seq (sr [oo 4 (.mov (Kc 0))] (.block 0 (.loop (.seq (sr [mv 8 4,oo 9 (.bin .lss (tm 8) (Kc 16))] (.cond (tm 9) .skip (.exit 0))) (.seq (.block 1 (rg [mv 12 4,mv 13 0,mv 14 4,oo 15 (.bin .mul (Kc 4) (tm 14)),ix 16 1 13 15,ld 17 16,oo 18 (.conv .u32 (tm 17)),oo 19 (.bin .shl (tm 18) (.const (.int .u64 24))),mv 20 0,mv 21 4,oo 22 (.bin .mul (Kc 4) (tm 21)),oo 23 (.bin .add (tm 22) (Kc 1)),ix 24 1 20 23,ld 25 24,oo 26 (.conv .u32 (tm 25)),oo 27 (.bin .shl (tm 26) (.const (.int .u64 16))),oo 28 (.bin .or (tm 19) (tm 27)),mv 29 0,mv 30 4,oo 31 (.bin .mul (Kc 4) (tm 30)),oo 32 (.bin .add (tm 31) (Kc 2)),ix 33 1 29 32,ld 34 33,oo 35 (.conv .u32 (tm 34)),oo 36 (.bin .shl (tm 35) (.const (.int .u64 8))),oo 37 (.bin .or (tm 28) (tm 36)),mv 38 0,mv 39 4,oo 40 (.bin .mul (Kc 4) (tm 39)),oo 41 (.bin .add (tm 40) (Kc 3)),ix 42 1 38 41,ld 43 42,oo 44 (.conv .u32 (tm 43)),oo 45 (.bin .or (tm 37) (tm 44)),oo 46 (.idxA 64 1 (tm 3) (tm 12)),o0 (.store 1 (tm 46) (tm 45))])) (rg [mv 10 4,oo 11 (.bin .add (tm 10) (Kc 1)),mv 4 11])))))) (.seq (sr [oo 5 (.mov (Kc 16))] (.block 2 (.loop (.seq (sr [mv 47 5,oo 48 (.bin .lss (tm 47) (Kc 64))] (.cond (tm 48) .skip (.exit 2))) (.seq (.block 3 (sr [mv 51 5,oo 52 (.bin .sub (tm 51) (Kc 15)),oo 53 (.idxA 64 1 (tm 3) (tm 52)),ld 54 53,oo 55 (.call 102 [(tm 54),(Kc 7)]),mv 56 5,oo 57 (.bin .sub (tm 56) (Kc 15)),oo 58 (.idxA 64 1 (tm 3) (tm 57)),ld 59 58,oo 60 (.call 102 [(tm 59),(Kc 18)]),oo 61 (.bin .xor (tm 55) (tm 60)),mv 62 5,oo 63 (.bin .sub (tm 62) (Kc 15)),oo 64 (.idxA 64 1 (tm 3) (tm 63)),ld 65 64,oo 66 (.bin .shr (tm 65) (.const (.int .u64 3))),oo 67 (.bin .xor (tm 61) (tm 66)),mv 6 67] (sr [mv 68 5,oo 69 (.bin .sub (tm 68) (Kc 2)),oo 70 (.idxA 64 1 (tm 3) (tm 69)),ld 71 70,oo 72 (.call 102 [(tm 71),(Kc 17)]),mv 73 5,oo 74 (.bin .sub (tm 73) (Kc 2)),oo 75 (.idxA 64 1 (tm 3) (tm 74)),ld 76 75,oo 77 (.call 102 [(tm 76),(Kc 19)]),oo 78 (.bin .xor (tm 72) (tm 77)),mv 79 5,oo 80 (.bin .sub (tm 79) (Kc 2)),oo 81 (.idxA 64 1 (tm 3) (tm 80)),ld 82 81,oo 83 (.bin .shr (tm 82) (.const (.int .u64 10))),oo 84 (.bin .xor (tm 78) (tm 83)),mv 7 84] (rg [mv 85 5,mv 86 5,oo 87 (.bin .sub (tm 86) (Kc 16)),oo 88 (.idxA 64 1 (tm 3) (tm 87)),ld 89 88,mv 90 6,oo 91 (.bin .add (tm 89) (tm 90)),mv 92 5,oo 93 (.bin .sub (tm 92) (Kc 7)),oo 94 (.idxA 64 1 (tm 3) (tm 93)),ld 95 94,oo 96 (.bin .add (tm 91) (tm 95)),mv 97 7,oo 98 (.bin .add (tm 96) (tm 97)),oo 99 (.idxA 64 1 (tm 3) (tm 85)),o0 (.store 1 (tm 99) (tm 98))])))) (rg [mv 49 5,oo 50 (.bin .add (tm 49) (Kc 1)),mv 5 50])))))) (sr [lA 100 64 3,o0 (.store 64 (tm 2) (tm 100))] .ret)))))
theorem Gk:(Tryz.f101.body.bind (bp Tryz.prog 101 []))=some FL:=by kernel_rfl
def c78:aV:=(sr [oo 2 (.alloc [(Ui 0),(Ui 0),(Ui 0),(Ui 0),(Ui 0),(Ui 0),(Ui 0),(Ui 0),(Ui 0),(Ui 0),(Ui 0),(Ui 0),(Ui 0),(Ui 0),(Ui 0),(Ui 0),(Ui 0),(Ui 0),(Ui 0),(Ui 0),(Ui 0),(Ui 0),(Ui 0),(Ui 0),(Ui 0),(Ui 0),(Ui 0),(Ui 0),(Ui 0),(Ui 0),(Ui 0),(Ui 0)])] (sr [oo 14 (.build [(.int .u32 0),(.int .u32 0),(.int .u32 0),(.int .u32 0),(.int .u32 0),(.int .u32 0),(.int .u32 0),(.int .u32 0)] [(0,1,(.const (.int .u32 1779033703))),(1,1,(.const (.int .u32 3144134277))),(2,1,(.const (.int .u32 1013904242))),(3,1,(.const (.int .u32 2773480762))),(4,1,(.const (.int .u32 1359893119))),(5,1,(.const (.int .u32 2600822924))),(6,1,(.const (.int .u32 528734635))),(7,1,(.const (.int .u32 1541459225)))]),oo 3 (.alloc [(.int .u32 0),(.int .u32 0),(.int .u32 0),(.int .u32 0),(.int .u32 0),(.int .u32 0),(.int .u32 0),(.int .u32 0)]),o0 (.store 8 (tm 3) (tm 14))] (sr [mv 15 0,oo 16 (.call 100 [tm 15]),mv 4 16] (.seq (sr [oo 5 (.mov (Kc 0))] (.block 0 (.loop (.seq (sr [mv 17 5,mv 18 4,ln 19 18,oo 20 (.bin .lss (tm 17) (tm 19))] (.cond (tm 20) .skip (.exit 0))) (.seq (.block 1 (sr [mv 23 4,mv 24 5,mv 25 5,oo 26 (.bin .add (tm 25) (Kc 64)),oo 27 (.slice 1 (tm 23) (some (tm 24)) (some (tm 26))),oo 28 (.call 101 [tm 27]),oo 6 (.alloc [(.int .u32 0),(.int .u32 0),(.int .u32 0),(.int .u32 0),(.int .u32 0),(.int .u32 0),(.int .u32 0),(.int .u32 0),(.int .u32 0),(.int .u32 0),(.int .u32 0),(.int .u32 0),(.int .u32 0),(.int .u32 0),(.int .u32 0),(.int .u32 0),(.int .u32 0),(.int .u32 0),(.int .u32 0),(.int .u32 0),(.int .u32 0),(.int .u32 0),(.int .u32 0),(.int .u32 0),(.int .u32 0),(.int .u32 0),(.int .u32 0),(.int .u32 0),(.int .u32 0),(.int .u32 0),(.int .u32 0),(.int .u32 0),(.int .u32 0),(.int .u32 0),(.int .u32 0),(.int .u32 0),(.int .u32 0),(.int .u32 0),(.int .u32 0),(.int .u32 0),(.int .u32 0),(.int .u32 0),(.int .u32 0),(.int .u32 0),(.int .u32 0),(.int .u32 0),(.int .u32 0),(.int .u32 0),(.int .u32 0),(.int .u32 0),(.int .u32 0),(.int .u32 0),(.int .u32 0),(.int .u32 0),(.int .u32 0),(.int .u32 0),(.int .u32 0),(.int .u32 0),(.int .u32 0),(.int .u32 0),(.int .u32 0),(.int .u32 0),(.int .u32 0),(.int .u32 0)]),o0 (.store 64 (tm 6) (tm 28))] (sr [lA 29 8 3,oo 7 (.alloc [(.int .u32 0),(.int .u32 0),(.int .u32 0),(.int .u32 0),(.int .u32 0),(.int .u32 0),(.int .u32 0),(.int .u32 0)]),o0 (.store 8 (tm 7) (tm 29))] (.seq (sr [oo 8 (.mov (Kc 0))] (.block 2 (.loop (.seq (sr [mv 30 8,oo 31 (.bin .lss (tm 30) (Kc 64))] (.cond (tm 31) .skip (.exit 2))) (.seq (.block 3 (sr [oo 34 (.idxA 8 1 (tm 7) (Kc 7)),ld 35 34,oo 36 (.idxA 8 1 (tm 7) (Kc 4)),ld 37 36,oo 38 (.call 102 [(tm 37),(Kc 6)]),oo 39 (.idxA 8 1 (tm 7) (Kc 4)),ld 40 39,oo 41 (.call 102 [(tm 40),(Kc 11)]),oo 42 (.bin .xor (tm 38) (tm 41)),oo 43 (.idxA 8 1 (tm 7) (Kc 4)),ld 44 43,oo 45 (.call 102 [(tm 44),(Kc 25)]),oo 46 (.bin .xor (tm 42) (tm 45)),oo 47 (.bin .add (tm 35) (tm 46)),oo 48 (.idxA 8 1 (tm 7) (Kc 4)),ld 49 48,oo 50 (.idxA 8 1 (tm 7) (Kc 5)),ld 51 50,oo 52 (.bin .and (tm 49) (tm 51)),oo 53 (.idxA 8 1 (tm 7) (Kc 4)),ld 54 53,oo 55 (.bin .xor (tm 54) (.const (.int .u32 4294967295))),oo 56 (.idxA 8 1 (tm 7) (Kc 6)),ld 57 56,oo 58 (.bin .and (tm 55) (tm 57)),oo 59 (.bin .xor (tm 52) (tm 58)),oo 60 (.bin .add (tm 47) (tm 59)),mv 61 8,oo 62 (.idxA 64 1 (.const (.glob 1 0)) (tm 61)),ld 63 62,oo 64 (.bin .add (tm 60) (tm 63)),mv 65 8,oo 66 (.idxA 64 1 (tm 6) (tm 65)),ld 67 66,oo 68 (.bin .add (tm 64) (tm 67)),mv 9 68] (sr [oo 69 (.idxA 8 1 (tm 7) (Kc 0)),ld 70 69,oo 71 (.call 102 [(tm 70),(Kc 2)]),oo 72 (.idxA 8 1 (tm 7) (Kc 0)),ld 73 72,oo 74 (.call 102 [(tm 73),(Kc 13)]),oo 75 (.bin .xor (tm 71) (tm 74)),oo 76 (.idxA 8 1 (tm 7) (Kc 0)),ld 77 76,oo 78 (.call 102 [(tm 77),(Kc 22)]),oo 79 (.bin .xor (tm 75) (tm 78)),oo 80 (.idxA 8 1 (tm 7) (Kc 0)),ld 81 80,oo 82 (.idxA 8 1 (tm 7) (Kc 1)),ld 83 82,oo 84 (.bin .and (tm 81) (tm 83)),oo 85 (.idxA 8 1 (tm 7) (Kc 0)),ld 86 85,oo 87 (.idxA 8 1 (tm 7) (Kc 2)),ld 88 87,oo 89 (.bin .and (tm 86) (tm 88)),oo 90 (.bin .xor (tm 84) (tm 89)),oo 91 (.idxA 8 1 (tm 7) (Kc 1)),ld 92 91,oo 93 (.idxA 8 1 (tm 7) (Kc 2)),ld 94 93,oo 95 (.bin .and (tm 92) (tm 94)),oo 96 (.bin .xor (tm 90) (tm 95)),oo 97 (.bin .add (tm 79) (tm 96)),mv 10 97] (rg [mv 98 9,mv 99 10,oo 100 (.bin .add (tm 98) (tm 99)),oo 101 (.idxA 8 1 (tm 7) (Kc 0)),ld 102 101,oo 103 (.idxA 8 1 (tm 7) (Kc 1)),ld 104 103,oo 105 (.idxA 8 1 (tm 7) (Kc 2)),ld 106 105,oo 107 (.idxA 8 1 (tm 7) (Kc 3)),ld 108 107,mv 109 9,oo 110 (.bin .add (tm 108) (tm 109)),oo 111 (.idxA 8 1 (tm 7) (Kc 4)),ld 112 111,oo 113 (.idxA 8 1 (tm 7) (Kc 5)),ld 114 113,oo 115 (.idxA 8 1 (tm 7) (Kc 6)),ld 116 115,oo 117 (.build [(.int .u32 0),(.int .u32 0),(.int .u32 0),(.int .u32 0),(.int .u32 0),(.int .u32 0),(.int .u32 0),(.int .u32 0)] [(0,1,(tm 100)),(1,1,(tm 102)),(2,1,(tm 104)),(3,1,(tm 106)),(4,1,(tm 110)),(5,1,(tm 112)),(6,1,(tm 114)),(7,1,(tm 116))]),o0 (.store 8 (tm 7) (tm 117))])))) (rg [mv 32 8,oo 33 (.bin .add (tm 32) (Kc 1)),mv 8 33])))))) (sr [oo 11 (.mov (Kc 0))] (.block 4 (.loop (.seq (sr [mv 118 11,oo 119 (.bin .lss (tm 118) (Kc 8))] (.cond (tm 119) .skip (.exit 4))) (.seq (.block 5 (rg [mv 122 11,mv 123 11,oo 124 (.idxA 8 1 (tm 3) (tm 123)),ld 125 124,mv 126 11,oo 127 (.idxA 8 1 (tm 7) (tm 126)),ld 128 127,oo 129 (.bin .add (tm 125) (tm 128)),oo 130 (.idxA 8 1 (tm 3) (tm 122)),o0 (.store 1 (tm 130) (tm 129))])) (rg [mv 120 11,oo 121 (.bin .add (tm 120) (Kc 1)),mv 11 121])))))))))) (rg [mv 21 5,oo 22 (.bin .add (tm 21) (Kc 64)),mv 5 22])))))) (sr [oo 12 (.alloc [(Ui 0),(Ui 0),(Ui 0),(Ui 0),(Ui 0),(Ui 0),(Ui 0),(Ui 0),(Ui 0),(Ui 0),(Ui 0),(Ui 0),(Ui 0),(Ui 0),(Ui 0),(Ui 0),(Ui 0),(Ui 0),(Ui 0),(Ui 0),(Ui 0),(Ui 0),(Ui 0),(Ui 0),(Ui 0),(Ui 0),(Ui 0),(Ui 0),(Ui 0),(Ui 0),(Ui 0),(Ui 0)])] (.seq (sr [oo 13 (.mov (Kc 0))] (.block 6 (.loop (.seq (sr [mv 131 13,oo 132 (.bin .lss (tm 131) (Kc 32))] (.cond (tm 132) .skip (.exit 6))) (.seq (.block 7 (rg [mv 135 13,mv 136 13,oo 137 (.bin .quo (tm 136) (Kc 4)),oo 138 (.idxA 8 1 (tm 3) (tm 137)),ld 139 138,mv 140 13,oo 141 (.bin .rem (tm 140) (Kc 4)),oo 142 (.bin .mul (Kc 8) (tm 141)),oo 143 (.bin .sub (Kc 24) (tm 142)),oo 144 (.bin .shr (tm 139) (tm 143)),oo 145 (.conv .u8 (tm 144)),oo 146 (.idxA 32 1 (tm 12) (tm 135)),o0 (.store 1 (tm 146) (tm 145))])) (rg [mv 133 13,oo 134 (.bin .add (tm 133) (Kc 1)),mv 13 134])))))) (sr [lA 147 32 12,o0 (.store 32 (tm 2) (tm 147))] .ret)))))))
theorem l78:(Tryz.f78.body.bind (bp Tryz.prog 148 []))=some c78:=by kernel_rfl
def c58:aV:=(sr [oo 2 (.alloc [(Ui 0),(Ui 0),(Ui 0),(Ui 0),(Ui 0),(Ui 0),(Ui 0),(Ui 0),(Ui 0),(Ui 0),(Ui 0),(Ui 0),(Ui 0),(Ui 0),(Ui 0),(Ui 0)])] (sr [mv 6 0,oo 7 (.call 78 [tm 6]),oo 3 (.alloc [(Ui 0),(Ui 0),(Ui 0),(Ui 0),(Ui 0),(Ui 0),(Ui 0),(Ui 0),(Ui 0),(Ui 0),(Ui 0),(Ui 0),(Ui 0),(Ui 0),(Ui 0),(Ui 0),(Ui 0),(Ui 0),(Ui 0),(Ui 0),(Ui 0),(Ui 0),(Ui 0),(Ui 0),(Ui 0),(Ui 0),(Ui 0),(Ui 0),(Ui 0),(Ui 0),(Ui 0),(Ui 0)]),o0 (.store 32 (tm 3) (tm 7))] (sr [oo 8 (.build [(Ui 0),(Ui 0),(Ui 0),(Ui 0),(Ui 0),(Ui 0),(Ui 0),(Ui 0),(Ui 0),(Ui 0),(Ui 0),(Ui 0),(Ui 0),(Ui 0),(Ui 0),(Ui 0)] []),oo 4 (.alloc [(Ui 0),(Ui 0),(Ui 0),(Ui 0),(Ui 0),(Ui 0),(Ui 0),(Ui 0),(Ui 0),(Ui 0),(Ui 0),(Ui 0),(Ui 0),(Ui 0),(Ui 0),(Ui 0)]),o0 (.store 16 (tm 4) (tm 8))] (.seq (sr [oo 5 (.mov (Kc 0))] (.block 0 (.loop (.seq (sr [mv 9 5,oo 10 (.bin .lss (tm 9) (Kc 16))] (.cond (tm 10) .skip (.exit 0))) (.seq (.block 1 (rg [mv 13 5,mv 14 5,oo 15 (.idxA 32 1 (tm 3) (tm 14)),ld 16 15,oo 17 (.idxA 16 1 (tm 4) (tm 13)),o0 (.store 1 (tm 17) (tm 16))])) (rg [mv 11 5,oo 12 (.bin .add (tm 11) (Kc 1)),mv 5 12])))))) (sr [lA 18 16 4,o0 (.store 16 (tm 2) (tm 18))] .ret)))))
theorem l58:(Tryz.f58.body.bind (bp Tryz.prog 19 []))=some c58:=by kernel_rfl
def c13:aV:=(sr [oo 4 (.mov (.const .nil))] (sr [mv 7 0,oo 8 (.conv .u8 (tm 7)),oo 9 (.buildS 5 1 1 [(Ui 0)] [(0,(tm 8))]),mv 5 9] (.seq (sr [oo 6 (.mov (Kc 0))] (.block 0 (.loop (.seq (sr [mv 10 6,mv 11 1,ln 12 11,oo 13 (.bin .lss (tm 10) (tm 12))] (.cond (tm 13) .skip (.exit 0))) (.seq (.block 1 (rg [mv 16 5,mv 17 1,mv 18 6,ix 19 1 17 18,ld 20 19,oo 21 (.call 31 [tm 20]),oo 22 (.append 23 5 1 1 (tm 16) (tm 21)),mv 5 22])) (rg [mv 14 6,oo 15 (.bin .add (tm 14) (Kc 1)),mv 6 15])))))) (sr [mv 23 5,mv 4 23] .ret))))
theorem l13:(Tryz.f13.body.bind (bp Tryz.prog 24 []))=some c13:=by kernel_rfl
def c37:aV:=(sr [oo 4 (.alloc [(Ui 0),(Ui 0),(Ui 0),(Ui 0),(Ui 0),(Ui 0),(Ui 0),(Ui 0),(Ui 0),(Ui 0),(Ui 0),(Ui 0),(Ui 0),(Ui 0),(Ui 0),(Ui 0)])] (sr [mv 5 0,mv 6 1,oo 7 (.call 13 [(tm 5),(tm 6)]),oo 8 (.call 58 [tm 7]),o0 (.store 16 (tm 4) (tm 8))] .ret))
theorem l37:(Tryz.f37.body.bind (bp Tryz.prog 9 []))=some c37:=by kernel_rfl
end Go.RC
end
section
namespace Go.RC
open Go Go.DL
def kons:List Int:=[1116352408,1899447441,3049323471,3921009573,961987163,1508970993,2453635748,2870763221,3624381080,310598401,607225278,1426881987,1925078388,2162078206,2614888103,3248222580,3835390401,4022224774,264347078,604807628,770255983,1249150122,1555081692,1996064986,2554220882,2821834349,2952996808,3210313671,3336571891,3584528711,113926993,338241895,666307205,773529912,1294757372,1396182291,1695183700,1986661051,2177026350,2456956037,2730485921,2820302411,3259730800,3345764771,3516065817,3600352804,4094571909,275423344,430227734,506948616,659060556,883997877,958139571,1322822218,1537002063,1747873779,1955562222,2024104815,2227730452,2361852424,2428436474,2756734187,3204031479,3329325298]
abbrev W(n:Int):T:=.int .u32 n
instance : Glb := ⟨fun g => match g with | 0 => some (kons.map W) | 1 => some (kons.map W) | _ => none⟩
end Go.RC
end
section
namespace Go.RC
open Go Go.DL Go.Proofs
theorem mixed:Tryz.prog.follows .mixedOrders=true:=by kernel_rfl
abbrev I(n:Int):T:=.int .i64 n
abbrev Y(n:Int):T:=.int .u8 n
abbrev Q(n:Int):T:=.int .u64 n
theorem w32{n:Int}(h0:0<=n)(h1:n<4294967296):IntKind.wrap .u32 n=n:=by
 unfold IntKind.wrap;simp [IntKind.bits,IntKind.signed];omega
theorem w8{n:Int}(h0:0<=n)(h1:n<256):IntKind.wrap .u8 n=n:=by
 unfold IntKind.wrap;simp [IntKind.bits,IntKind.signed];omega
theorem w64{n:Int}(h0:0<=n)(h1:n<18446744073709551616):IntKind.wrap .u64 n=n:=by
 unfold IntKind.wrap;simp [IntKind.bits,IntKind.signed];omega
theorem B9{f:Int->T}{ws:List Int}{k:Nat}{d:T}(h:k<ws.length):(ws.map f)[k]?.getD d=f (ws.getD k 0):=by
 simp [List.getD_eq_getElem?_getD,h]
theorem tN{f:Int->T}{ws:List Int}{k':Nat}{d:T}(k:Nat)(e:k'=k)(h:k<ws.length):(ws.map f)[k']?.getD d=f (ws.getD k 0):=by
 rw [e];exact B9 h
theorem pI{f:Int->T}{ws:List Int}{k:Nat}{x:Int}:(ws.map f).set k (f x)=(ws.set k x).map f:=by
 rw [List.map_set]
theorem tF{cs vs:List T}{n:Nat}(h:cs.length=n):aP cs 0 n vs=vs:=by
 simp [aP, <-h]
theorem E9{f:Int->T}(hf: ∀n,(f n).one=true)(ws:List Int): ∀t∈ws.map f,t.one=true:=fun t ht=>by
 obtain ⟨n,_,rfl⟩:=List.mem_map.1 ht;exact hf n
end Go.RC
end
section
namespace Go.RC
open Go Go.DL Go.Proofs Go.RowKit
theorem CI:Tryz.prog.globalNamed "interlace/interlaceref02.constants" =some 1:=by kernel_rfl
theorem A6:Tryz.prog.globalNamed "interlace/hash.constants" =some 0:=by kernel_rfl
theorem zt{W:World}(h1:Lib.TabIs Tryz.prog W "interlace/interlaceref02.constants" .u32 kons)(h2:Lib.TabIs Tryz.prog W "interlace/hash.constants" .u32 kons):
  bo (fun b _=>b<W.heap.size) W:=r9 fun g cs h=>by
 match g,h with
 |0,h=>cases h;exact ⟨.u32,kons,rfl,by decide,fun i hi=>h2.cell A6 i hi⟩
 |1,h=>cases h;exact ⟨.u32,kons,rfl,by decide,fun i hi=>h1.cell CI i hi⟩
theorem A7:(Tryz.prog.globals[1]?).map (·.type)=some 143:=by kernel_rfl
theorem Aa:(Tryz.prog.globals[0]?).map (·.type)=some 143:=by kernel_rfl
theorem yI:Tryz.prog.cellsOf 143=64:=by kernel_rfl
theorem yH:Tryz.prog.cellsOf 94=1:=by kernel_rfl
theorem globOk_two{W:World}(h:laidMet Tryz.prog [("interlace/interlaceref02.constants",Lib.tabData .u32 kons),("interlace/hash.constants",Lib.tabData .u32 kons)] W):
  bo (fun b _=>b<W.heap.size) W:=
 zt (Lib.tabIs_of_head CI A7 Tryz.underlying143 Tryz.underlying94 yH yI h) (Lib.tabIs_of_head A6 Aa Tryz.underlying143 Tryz.underlying94 yH yI (laidMet.tail h))
end Go.RC
end
noncomputable section
namespace Go.MM
open Go Go.DL Go.Proofs
def c40:aV:=(sr [⟨some 4,.alloc [S0,Z0,Z0],none,[]⟩,oo 5 (.mov kF)] (.seq (sr [mv 7 1,⟨some 8,.bin .eql (tm 7) (.const (.str ⟨#[112,111,114,116]⟩)),none,[]⟩] (.cond (tm 8) (sr [oo 9 (.call 67 []),o0 (.store 3 (tm 4) (tm 9)),oo 5 (.mov kT)] .ret) .skip)) (.seq (sr [oo 6 (.mov (Kc 0))] (.block 0 (.loop (.seq (sr [mv 10 6,mv 11 0,ln 12 11,oo 13 (.bin .lss (tm 10) (tm 12))] (.cond (tm 13) .skip (.exit 0))) (.seq (.block 1 (sr [mv 16 0,mv 17 6,ix 18 3 16 17,fa 19 0 18,ld 20 19,mv 21 1,oo 22 (.bin .eql (tm 20) (tm 21))] (.cond (tm 22) (sr [mv 23 0,mv 24 6,ix 25 3 23 24,lA 26 3 25,o0 (.store 3 (tm 4) (tm 26)),oo 5 (.mov kT)] .ret) .skip))) (rg [mv 14 6,oo 15 (.bin .add (tm 14) (Kc 1)),mv 6 15])))))) (sr [⟨some 27,.build [S0,Z0,Z0] [],none,[]⟩,o0 (.store 3 (tm 4) (tm 27)),oo 5 (.mov kF)] .ret))))
theorem l40:(Tryz.f40.body.bind (bp Tryz.prog 28 []))=some c40:=by kernel_rfl
def c41:aV:=(sr [oo 2 (.box 3 (tm 0)),oo 3 (.box 10 (tm 1)),oo 4 (.mov (Kc 0))] (sr [fa 5 1 2,ld 6 5,oo 7 (.bin .quo (tm 6) (Kc 16)),oo 8 (.idxA 10 1 (tm 3) (tm 7)),ld 9 8,lA 10 3 2,oo 11 (.call 68 [tm 10]),oo 12 (.bin .quo (tm 9) (tm 11)),fa 13 2 2,ld 14 13,oo 15 (.call 69 [tm 14]),oo 16 (.bin .rem (tm 12) (tm 15)),mv 4 16] .ret))
theorem l41:(Tryz.f41.body.bind (bp Tryz.prog 17 []))=some c41:=by kernel_rfl
def c82:aV:=(sr [oo 3 (.box 1 (tm 1)),⟨some 4,.alloc [S0,Z0,Z0],none,[]⟩,oo 5 (.mov kF)] (.seq (sr [ld 7 3,oo 8 (.call 108 []),oo 9 (.fld 0 1 false (tm 8)),oo 10 (.bin .eql (tm 7) (tm 9))] (.cond (tm 10) (sr [oo 11 (.call 108 []),o0 (.store 3 (tm 4) (tm 11)),oo 5 (.mov kT)] .ret) .skip)) (sr [mv 12 0,oo 13 (.mkfn 110 [tm 3]),oo 14 (.call 109 [(tm 12),(tm 13)]),mv 6 14] (.seq (sr [mv 15 6,oo 16 (.bin .lss (tm 15) (Kc 0))] (.cond (tm 16) (sr [⟨some 17,.build [S0,Z0,Z0] [],none,[]⟩,o0 (.store 3 (tm 4) (tm 17)),oo 5 (.mov kF)] .ret) .skip)) (sr [mv 18 0,mv 19 6,ix 20 3 18 19,lA 21 3 20,o0 (.store 3 (tm 4) (tm 21)),oo 5 (.mov kT)] .ret)))))
theorem l82:(Tryz.f82.body.bind (bp Tryz.prog 22 []))=some c82:=by kernel_rfl
def c83:aV:=(sr [oo 2 (.box 3 (tm 0)),oo 3 (.box 10 (tm 1)),oo 4 (.mov (Kc 0))] (sr [fa 5 1 2,ld 6 5,oo 7 (.bin .quo (tm 6) (Kc 16)),oo 8 (.idxA 10 1 (tm 3) (tm 7)),ld 9 8,lA 10 3 2,oo 11 (.call 111 [tm 10]),oo 12 (.bin .shr (tm 9) (tm 11)),lA 13 3 2,oo 14 (.call 105 [tm 13]),oo 15 (.bin .and (tm 12) (tm 14)),mv 4 15] .ret))
theorem l83:(Tryz.f83.body.bind (bp Tryz.prog 16 []))=some c83:=by kernel_rfl
def c67:aV:=(sr [⟨some 0,.alloc [S0,Z0,Z0],none,[]⟩] (sr [⟨some 1,.build [S0,Z0,Z0] [(0,1,(.const (.str ⟨#[112,111,114,116]⟩))),(1,1,(Kc 0)),(2,1,(Kc 16))],none,[]⟩,o0 (.store 3 (tm 0) (tm 1))] .ret))
theorem l67:(Tryz.f67.body.bind (bp Tryz.prog 2 []))=some c67:=by kernel_rfl
def c68:aV:=(sr [oo 1 (.box 3 (tm 0)),oo 2 (.mov (Kc 0))] (sr [fa 3 1 1,ld 4 3,oo 5 (.bin .rem (tm 4) (Kc 16)),oo 6 (.bin .sub (Kc 16) (tm 5)),fa 7 2 1,ld 8 7,oo 9 (.bin .sub (tm 6) (tm 8)),oo 10 (.call 69 [tm 9]),mv 2 10] .ret))
theorem l68:(Tryz.f68.body.bind (bp Tryz.prog 11 []))=some c68:=by kernel_rfl
def c69:aV:=(sr [oo 2 (.mov (Kc 0))] (sr [oo 3 (.mov (Kc 1))] (.seq (sr [oo 4 (.mov (Kc 0))] (.block 0 (.loop (.seq (sr [mv 5 4,mv 6 0,oo 7 (.bin .lss (tm 5) (tm 6))] (.cond (tm 7) .skip (.exit 0))) (.seq (.block 1 (rg [mv 10 3,oo 11 (.bin .mul (tm 10) (Kc 2)),mv 3 11])) (rg [mv 8 4,oo 9 (.bin .add (tm 8) (Kc 1)),mv 4 9])))))) (sr [mv 12 3,mv 2 12] .ret))))
theorem l69:(Tryz.f69.body.bind (bp Tryz.prog 13 []))=some c69:=by kernel_rfl
def c76:aV:=(sr [oo 4 (.mov (Kc 0))] (sr [mv 7 0,oo 8 (.call 97 [tm 7]),mv 5 8] (sr [mv 9 1,oo 10 (.call 97 [tm 9]),mv 6 10] (.seq (sr [mv 11 5] (.cond (tm 11) (.seq (sr [mv 12 6] (.cond (tm 12) (sr [oo 4 (.mov (Kc 0))] .ret) .skip)) (sr [oo 4 (.mov (.const (.int .i64 (-1))))] .ret)) .skip)) (.seq (sr [mv 13 6] (.cond (tm 13) (sr [oo 4 (.mov (Kc 1))] .ret) .skip)) (.seq (sr [mv 14 0,mv 15 1,oo 16 (.bin .lss (tm 14) (tm 15))] (.cond (tm 16) (sr [oo 4 (.mov (.const (.int .i64 (-1))))] .ret) .skip)) (.seq (sr [mv 17 0,mv 18 1,oo 19 (.bin .gtr (tm 17) (tm 18))] (.cond (tm 19) (sr [oo 4 (.mov (Kc 1))] .ret) .skip)) (sr [oo 4 (.mov (Kc 0))] .ret))))))))
theorem l76:(Tryz.f76.body.bind (bp Tryz.prog 20 []))=some c76:=by kernel_rfl
def FQ:aV:=(sr [⟨some 0,.alloc [S0,Z0,Z0],none,[]⟩] (sr [⟨some 1,.build [S0,Z0,Z0] [(0,1,(.const (.str ⟨#[112,111,114,116]⟩))),(2,1,(Kc 16))],none,[]⟩,o0 (.store 3 (tm 0) (tm 1))] .ret))
theorem Gq:(Tryz.f108.body.bind (bp Tryz.prog 2 []))=some FQ:=by kernel_rfl
def FR:aV:=(sr [oo 4 (.mov (Kc 0))] (.seq (sr [mv 6 0,ln 7 6,oo 8 (.mov (Kc 0))] (.block 0 (.loop (sr [oo 9 (.bin .lss (tm 8) (tm 7))] (.seq (.cond (tm 9) .skip (.exit 0)) (.seq (.block 1 (sr [mv 10 8,mv 5 10] (sr [mv 11 1,mv 12 0,mv 13 5,ix 14 3 12 13,lA 15 3 14,oo 16 (.bV (tm 11) [tm 15])] (.cond (tm 16) (sr [mv 17 5,mv 4 17] .ret) .skip)))) (rg [oo 18 (.bin .add (tm 8) (Kc 1)),mv 8 18]))))))) (sr [oo 4 (.mov (.const (.int .i64 (-1))))] .ret)))
theorem Gr:(Tryz.f109.body.bind (bp Tryz.prog 19 []))=some FR:=by kernel_rfl
def FT:aV:=(sr [oo 2 (.box 3 (tm 0)),oo 3 (.mov kF)] (sr [fa 4 0 2,ld 5 4,ld 6 1,oo 7 (.bin .eql (tm 5) (tm 6)),mv 3 7] .ret))
theorem Gs:(Tryz.f110.body.bind (bp Tryz.prog 8 []))=some FT:=by kernel_rfl
def FO:aV:=(sr [oo 1 (.box 3 (tm 0)),oo 2 (.mov (Kc 0))] (sr [fa 3 2 1,ld 4 3,oo 5 (.bin .shl (Kc 1) (tm 4)),oo 6 (.bin .sub (tm 5) (Kc 1)),mv 2 6] .ret))
theorem Gn:(Tryz.f105.body.bind (bp Tryz.prog 7 []))=some FO:=by kernel_rfl
def FN:aV:=(sr [oo 3 (.box 3 (tm 0)),oo 4 (.box 10 (tm 1)),oo 6 (.alloc [Z0,Z0,Z0,Z0,Z0,Z0,Z0,Z0,Z0,Z0])] (sr [fa 8 1 3,ld 9 8,oo 10 (.bin .quo (tm 9) (Kc 16)),oo 11 (.idxA 10 1 (tm 4) (tm 10)),mv 7 11] (sr [mv 12 7,mv 13 7,oo 14 (.nilck (tm 13)),ld 15 14,lA 16 3 3,oo 17 (.call 105 [tm 16]),lA 18 3 3,oo 19 (.call 111 [tm 18]),oo 20 (.bin .shl (tm 17) (tm 19)),oo 21 (.bin .andNot (tm 15) (tm 20)),mv 22 2,lA 23 3 3,oo 24 (.call 111 [tm 23]),oo 25 (.bin .shl (tm 22) (tm 24)),oo 26 (.bin .or (tm 21) (tm 25)),oo 27 (.nilck (tm 12)),o0 (.store 1 (tm 27) (tm 26))] (sr [lA 28 10 4,o0 (.store 10 (tm 6) (tm 28))] .ret))))
theorem Gm:(Tryz.f104.body.bind (bp Tryz.prog 29 []))=some FN:=by kernel_rfl
def FU:aV:=(sr [oo 1 (.box 3 (tm 0)),oo 2 (.mov (Kc 0))] (sr [fa 3 1 1,ld 4 3,oo 5 (.bin .rem (tm 4) (Kc 16)),oo 6 (.bin .sub (Kc 16) (tm 5)),fa 7 2 1,ld 8 7,oo 9 (.bin .sub (tm 6) (tm 8)),mv 2 9] .ret))
theorem Gt:(Tryz.f111.body.bind (bp Tryz.prog 10 []))=some FU:=by kernel_rfl
def c97:aV:=(sr [oo 2 (.mov kF)] (sr [mv 3 0,mv 4 0,oo 5 (.bin .neq (tm 3) (tm 4)),mv 2 5] .ret))
theorem l97:(Tryz.f97.body.bind (bp Tryz.prog 6 []))=some c97:=by kernel_rfl
end Go.MM
end
section
namespace Go.MM
open Go Go.DL Go.Proofs
theorem mixed:Tryz.prog.follows .mixedOrders=true:=by kernel_rfl
abbrev I(n:Int):T:=.int .i64 n
def hd(h:List Int):T:=.agg (h.map I)
theorem getD_map{α β:Type}(f:α->β)(l:List α)(i:Nat)(d:β)(h:i<l.length):(l.map f)[i]?.getD d=f l[i]:=by simp [h]
def vm(h:List Int):Bool:=h.all fun x=>decide (0<=x)&&decide (x<=65535)
end Go.MM
end
section
end
section
namespace Go.MM
open Go Go.DL Go.Proofs
abbrev GJ:List T:=[I 0,I 0,I 0,I 0,I 0,I 0,I 0,I 0,I 0,I 0]
theorem vd{n:Nat}(h:n<2^63):IntKind.wrap .i64 (n:Int)=n:=np (by omega) (by omega)
theorem uH(x:Nat):BitVec.ofInt 64 (x:Int)=BitVec.ofNat 64 x:=by simp
theorem C5{x y:Nat}(hx:x<2^63)(hy:y<2^63):iF .and .i64 x y=((x &&& y:Nat):Int):=by
 show IntKind.wrap .i64 (((BitVec.ofInt 64 (x:Int) &&& BitVec.ofInt 64 (y:Int)).toNat:Nat):Int)=_
 rw [uH,uH];rw [BitVec.toNat_and,BitVec.toNat_ofNat,BitVec.toNat_ofNat,Nat.mod_eq_of_lt (by omega),Nat.mod_eq_of_lt (by omega)];exact vd (Nat.lt_of_le_of_lt Nat.and_le_left hx)
theorem DU{x y:Nat}(hx:x<2^63)(hy:y<2^63):iF .or .i64 x y=((x ||| y:Nat):Int):=by
 show IntKind.wrap .i64 (((BitVec.ofInt 64 (x:Int) ||| BitVec.ofInt 64 (y:Int)).toNat:Nat):Int)=_
 rw [uH,uH];rw [BitVec.toNat_or,BitVec.toNat_ofNat,BitVec.toNat_ofNat,Nat.mod_eq_of_lt (by omega),Nat.mod_eq_of_lt (by omega)];exact vd (Nat.or_lt_two_pow hx hy)
def clr(x y:Nat):Nat:=x ^^^ (x &&& y)
theorem zC(x y j:Nat):(clr x y).testBit j=(x.testBit j&& !y.testBit j):=by
 unfold clr;rw [Nat.testBit_xor,Nat.testBit_and];cases x.testBit j <;> cases y.testBit j <;> rfl
theorem zR{x y:Nat}(hx:x<2^63)(_:y<2^63):iF .andNot .i64 x y=((clr x y:Nat):Int):=by
 show IntKind.wrap .i64 (((BitVec.ofInt 64 (x:Int) &&& ~~~BitVec.ofInt 64 (y:Int)).toNat:Nat):Int)=_
 rw [uH,uH];have e:(BitVec.ofNat 64 x &&& ~~~BitVec.ofNat 64 y).toNat=clr x y:=by
  refine Nat.eq_of_testBit_eq fun j=>?_
  rw [zC,BitVec.testBit_toNat,BitVec.getLsbD_and,BitVec.getLsbD_not,BitVec.getLsbD_ofNat,BitVec.getLsbD_ofNat]
  by_cases hj:j<64
  ·simp [hj]
  ·have:x.testBit j=false:=Nat.testBit_lt_two_pow (Nat.lt_of_lt_of_le hx (Nat.pow_le_pow_right (by decide) (by omega)))
   simp [hj,this]
 rw [e]
 have:clr x y<2^63:=Nat.xor_lt_two_pow hx (Nat.lt_of_le_of_lt Nat.and_le_left hx)
 exact vd this
def D5(x s w:Nat):Nat:=(x / 2^s) % 2^w
def xH(x s w n:Nat):Nat:=(x / 2^(s+w)) * 2^(s+w)+n * 2^s+x % 2^s
theorem ze{x s w n:Nat}(hn:n<2^w)(j:Nat):(xH x s w n).testBit j=if j<s then x.testBit j else if j<s+w then n.testBit (j - s) else x.testBit j:=by
 have hlo:x % 2^s<2^s:=Nat.mod_lt _ (Nat.two_pow_pos _);have Ge:n * 2^s+x % 2^s<2^(s+w):=by
  rw [Nat.pow_add,Nat.mul_comm (2^s)]
  calc n * 2^s+x % 2^s<n * 2^s+2^s:=by omega
   _=(n+1) * 2^s:=by rw [Nat.add_mul,Nat.one_mul]
   _<=2^w * 2^s:=Nat.mul_le_mul_right _ hn
 unfold xH;rw [Nat.add_assoc,Nat.mul_comm (x / 2^(s+w)),Nat.testBit_two_pow_mul_add _ Ge]
 by_cases h1:j<s+w
 ·rw [if_pos h1,Nat.mul_comm n,Nat.testBit_two_pow_mul_add _ hlo]
  by_cases h2:j<s
  ·rw [if_pos h2,if_pos h2,Nat.testBit_mod_two_pow];simp [h2]
  ·rw [if_neg h2,if_neg h2,if_pos h1]
 ·rw [if_neg h1,if_neg (by omega),if_neg h1,Nat.testBit_div_two_pow]
  congr 1;omega
structure Fd where
 name:ByteArray
 a:Nat
 w:Nat
deriving Inhabited
def fd(f:Fd):T:=.agg [.str f.name,I f.a,I f.w]
structure FOk (f:Fd):Prop where
 a:f.a<160
 w1:1<=f.w
 w2:f.a % 16+f.w<=16
def Fd.s(f:Fd):Nat:=16 - f.a % 16 - f.w
def Fd.i(f:Fd):Nat:=f.a / 16
theorem FOk.i{f:Fd}(h:FOk f):f.i<10:=by have:=h.a;unfold Fd.i;omega
theorem FOk.sw{f:Fd}(h:FOk f):f.s+f.w<=16:=by have:=h.w2;unfold Fd.s;omega
structure HOk (h:List Int):Prop where
 len:h.length=10
 right:vm h=true
def wd(h:List Int)(i:Nat):Nat:=(h[i]?.getD 0).toNat
theorem HOk.wd{h:List Int}(hh:HOk h)(i:Nat):MM.wd h i<65536:=by
 unfold MM.wd;cases hx:h[i]? with
 |none=>simp
 |some x=>
  have:=hh.right
  unfold vm at this;rw [List.all_eq_true] at this
  have:=this x (List.mem_of_getElem? hx)
  simp at this ⊢;omega
theorem HOk.get{h:List Int}(hh:HOk h){i:Nat}(hi:i<10):h[i]'(by rw [hh.len];exact hi)=(MM.wd h i:Int):=by
 have hl:i<h.length:=by rw [hh.len];exact hi
 unfold MM.wd
 have:=hh.right
 unfold vm at this;rw [List.all_eq_true] at this
 have:=this h[i] (List.getElem_mem _)
 simp at this;simp [hl];omega
def uh(f:Fd)(h:List Int):Nat:=D5 (wd h f.i) f.s f.w
def wv(f:Fd)(h:List Int)(n:Nat):List Int:=h.set f.i (xH (wd h f.i) f.s f.w n:Nat)
theorem t87(n:Nat)(hn:n<=60):DCalls Tryz.prog 69 [I n] (I (2^n:Nat)):=by
 refine dl2 mixed [.tmp 2] [I (2^n:Nat)] Tryz.func69 l69 ?_;refine sM (α:=Nat) (fun i=>{sl:=[(0,.t (I n)),(3,.t (I (2^i:Nat))),(4,.t (I i))],bx:=[]}) (fun i=>i<=n) (fun i=>n - i) 0 (by simp) ?_ ?_
 ·exact ⟨⟨.same _,.same _,.same _,trivial⟩,trivial,trivial,rfl,fun _ _ _=>trivial,rfl⟩
 rintro i hi;refine sZ trivial (fun hq=>?_) (fun hq=>?_)
 ·have h1:i<n:=by simpa using hq
  refine ⟨i+1,h1,by omega,?_⟩;have h2:(2:Nat)^(i+1)<=2^60:=Nat.pow_le_pow_right (by decide) (by omega);refine ⟨⟨.same _,leI ?_,leI (by rw [np] <;> omega),trivial⟩,trivial,trivial,rfl,fun _ _ _=>trivial,rfl⟩;have e:((2^i:Nat):Int) * 2=((2^(i+1):Nat):Int):=by rw [Nat.pow_succ];push_cast;rfl
  rw [e,vd (by omega)]
 ·have h1:i=n:=by simp at hq;omega
  subst h1;exact ⟨rfl,trivial⟩
theorem zj{f:Fd}(h:FOk f):IntKind.wrap .i64 (IntKind.wrap .i64 (16 - ((f.a:Int).tmod 16)) - (f.w:Int))=(f.s:Int):=by
 have h1:(f.a:Int).tmod 16=((f.a % 16:Nat):Int):=by rw [Int.tmod_eq_emod_of_nonneg (by omega)];omega
 have:=h.w2
 rw [h1,np (n:=16 - ((f.a % 16:Nat):Int)) (by omega) (by omega),np (by omega) (by omega)];unfold Fd.s;omega
theorem tX{f:Fd}(h:FOk f):IntKind.wrap .i64 ((f.a:Int).tdiv 16)=(f.i:Int):=by
 have h1:(f.a:Int).tdiv 16=((f.a / 16:Nat):Int):=by rw [Int.tdiv_eq_ediv_of_nonneg (by omega)];omega
 have:=h.a
 rw [h1,vd (by omega)];rfl
theorem t84(f:Fd)(h:FOk f):DCalls Tryz.prog 68 [fd f] (I (2^f.s:Nat)):=by
 refine dl2 mixed [.tmp 2] [I (2^f.s:Nat)] Tryz.func68 l68 ?_;refine And.intro rfl ?_;refine s7 (I f.a) (by decide) rfl ?_;refine And.intro (by decide) ?_;refine s7 (I f.w) (by decide) rfl ?_
 have:=t87 f.s (by unfold Fd.s;omega)
 rw [<- zj h] at this;refine sV _ this ?_;exact ⟨rfl,trivial⟩
theorem t99(f:Fd)(h:FOk f):DCalls Tryz.prog 111 [fd f] (I f.s):=by
 refine dl2 mixed [.tmp 2] [I f.s] Tryz.func111 Gt ?_;refine And.intro rfl ?_;refine s7 (I f.a) (by decide) rfl ?_;refine And.intro (by decide) ?_;refine s7 (I f.w) (by decide) rfl ?_;exact ⟨congrArg (fun n=>some (I n)) (zj h),trivial⟩
theorem Ax{w:Nat}(h:w<=16):2^w<=65536:=Nat.pow_le_pow_right (by decide) h
theorem t97(f:Fd)(h:FOk f):DCalls Tryz.prog 105 [fd f] (I (2^f.w - 1:Nat)):=by
 refine dl2 mixed [.tmp 2] [I (2^f.w - 1:Nat)] Tryz.func105 Gn ?_;have hw:f.w<=16:=by have:=h.w2;omega
 have hp:=Nat.two_pow_pos f.w
 have:=Ax hw
 refine And.intro rfl ?_;refine s7 (I f.w) (by decide) rfl ?_;refine And.intro (by omega) ?_;refine ⟨congrArg (fun n=>some (I n)) ?_,trivial⟩;have e:(1:Int) * 2^(min (f.w:Int).toNat (IntKind.bits .i64))=((2^f.w:Nat):Int):=by
  have:min (f.w:Int).toNat (IntKind.bits .i64)=f.w:=by show min _ 64=_;simp;omega
  rw [this];push_cast;rw [Int.one_mul]
 rw [e,vd (by omega),np] <;> omega
theorem t57(f:Fd)(hf:FOk f)(h:List Int)(hh:HOk h):DCalls Tryz.prog 41 [fd f,hd h] (I (uh f h)):=by
 refine dl2 mixed [.tmp 4] [I (uh f h)] Tryz.func41 l41 ?_;have hi:=hf.i;have hw:f.w<=16:=by have:=hf.w2;omega
 have hx:=hh.wd f.i;have hil:f.i<h.length:=by rw [hh.len];exact hi
 refine And.intro rfl ?_;refine And.intro (by simp [hh.len]) ?_;refine s7 (I f.a) (by decide) rfl ?_;refine And.intro (by decide) ?_;refine And.intro (show 0<=IntKind.wrap .i64 _/\_ by rw [tX hf];omega) ?_;refine s7 (I (wd h f.i)) (show 0+(IntKind.wrap .i64 _).toNat * 1<10 by rw [tX hf];simp;omega) (show (h.map I)[0+(IntKind.wrap .i64 _).toNat * 1]?.getD .nil=_ by
  rw [tX hf,Int.toNat_natCast,Nat.zero_add,Nat.mul_one,getD_map I h f.i .nil hil,hh.get hi]) ?_
 refine sV _ (t84 f hf) ?_;have hp:=Nat.two_pow_pos f.s;refine And.intro (by omega) ?_;refine s7 (I f.w) (by decide) rfl ?_;refine sV _ (t87 f.w (by omega)) ?_;have hq:=Nat.two_pow_pos f.w;refine And.intro (by omega) ?_;refine ⟨congrArg (fun n=>some (I n)) ?_,trivial⟩;have e1:(wd h f.i:Int).tdiv ((2^f.s:Nat):Int)=((wd h f.i / 2^f.s:Nat):Int):=by
  rw [Int.tdiv_eq_ediv_of_nonneg (by omega)];simp
 have e2:wd h f.i / 2^f.s<=wd h f.i:=Nat.div_le_self _ _;rw [e1,vd (Nat.lt_of_le_of_lt e2 (by omega)),Int.tmod_eq_emod_of_nonneg (Int.natCast_nonneg _)];unfold uh D5;simp
theorem BM(x s:Nat)(hs:s<=64):((x:Int)).fdiv (2^(min (s:Int).toNat (IntKind.bits .i64)))=((x / 2^s:Nat):Int):=by
 have:min (s:Int).toNat (IntKind.bits .i64)=s:=by show min _ 64=_;simp;omega
 rw [this,Int.fdiv_eq_ediv_of_nonneg _ (by exact_mod_cast Nat.zero_le _)]
 push_cast;rfl
theorem zM(x s:Nat)(hs:s<=64):(x:Int) * 2^(min (s:Int).toNat (IntKind.bits .i64))=((x * 2^s:Nat):Int):=by
 have:min (s:Int).toNat (IntKind.bits .i64)=s:=by show min _ 64=_;simp;omega
 rw [this];push_cast;rfl
theorem t78(f:Fd)(hf:FOk f)(h:List Int)(hh:HOk h):DCalls Tryz.prog 83 [fd f,hd h] (I (uh f h)):=by
 refine dl2 mixed [.tmp 4] [I (uh f h)] Tryz.func83 l83 ?_;have hi:=hf.i;have hw:f.w<=16:=by have:=hf.w2;omega
 have hsw:=hf.sw;have hx:=hh.wd f.i;have hil:f.i<h.length:=by rw [hh.len];exact hi
 refine And.intro rfl ?_;refine And.intro (by simp [hh.len]) ?_;refine s7 (I f.a) (by decide) rfl ?_;refine And.intro (by decide) ?_;refine And.intro (show 0<=IntKind.wrap .i64 _/\_ by rw [tX hf];omega) ?_;refine s7 (I (wd h f.i)) (show 0+(IntKind.wrap .i64 _).toNat * 1<10 by rw [tX hf];simp;omega) (show (h.map I)[0+(IntKind.wrap .i64 _).toNat * 1]?.getD .nil=_ by
  rw [tX hf,Int.toNat_natCast,Nat.zero_add,Nat.mul_one,getD_map I h f.i .nil hil,hh.get hi]) ?_
 refine sV _ (t99 f hf) ?_;refine And.intro (by omega) ?_;refine sV _ (t97 f hf) ?_;refine ⟨congrArg (fun n=>some (I n)) ?_,trivial⟩;have e2:wd h f.i / 2^f.s<=wd h f.i:=Nat.div_le_self _ _;have hp:=Ax hw;rw [BM _ _ (by omega),C5 (Nat.lt_of_le_of_lt e2 (by omega)) (by omega),Nat.and_two_pow_sub_one_eq_mod];rfl
theorem Bn{x s w n:Nat}(hn:n<2^w):clr x ((2^w - 1) * 2^s) ||| (n * 2^s)=xH x s w n:=by
 refine Nat.eq_of_testBit_eq fun j=>?_
 rw [Nat.testBit_or,zC,ze hn,Nat.testBit_mul_two_pow,Nat.testBit_mul_two_pow,Nat.testBit_two_pow_sub_one]
 by_cases h1:j<s
 ·rw [if_pos h1]
  have: ¬s<=j:=by omega
  simp [this]
 ·rw [if_neg h1];have h2:s<=j:=by omega
  by_cases h3:j<s+w
  ·rw [if_pos h3];have h4:j - s<w:=by omega
   simp [h2,h4]
  ·rw [if_neg h3];have h4: ¬j - s<w:=by omega
   have h5:n.testBit (j - s)=false:=Nat.testBit_lt_two_pow (Nat.lt_of_lt_of_le hn (Nat.pow_le_pow_right (by decide) (by omega)));simp [h4,h5]
theorem Dv{x s w n:Nat}(hx:x<65536)(hsw:s+w<=16)(hn:n<2^w):xH x s w n<65536:=by
 refine Nat.lt_pow_two_of_testBit (n:=16) _ fun j hj=>?_
 rw [ze hn,if_neg (by omega),if_neg (by omega)];exact Nat.testBit_lt_two_pow (Nat.lt_of_lt_of_le hx (Nat.pow_le_pow_right (by decide) hj:2^16<=2^j))
theorem map_set(h:List Int)(i:Nat)(n:Int):(h.map I).set i (I n)=(h.set i n).map I:=by rw [List.map_set]
theorem t98(f:Fd)(hf:FOk f)(h:List Int)(hh:HOk h)(n:Nat)(hn:n<2^f.w):DCalls Tryz.prog 104 [fd f,hd h,I n] (hd (wv f h n)):=by
 refine dl2 mixed [.cell 6 66] [hd (wv f h n)] Tryz.func104 Gm ?_;have hi:=hf.i;have hw:f.w<=16:=by have:=hf.w2;omega
 have hsw:=hf.sw;have hx:=hh.wd f.i;have hil:f.i<h.length:=by rw [hh.len];exact hi
 have hp:=Ax hw;have hs2:2^f.s<=2^16:=Nat.pow_le_pow_right (by decide) (by omega);have m1:(2^f.w - 1) * 2^f.s<=65536 * 65536:=Nat.mul_le_mul (by omega) hs2;have m2:n * 2^f.s<=65536 * 65536:=Nat.mul_le_mul (by omega) hs2;refine And.intro rfl ?_;refine And.intro (by simp [hh.len]) ?_;refine s7 (I f.a) (by decide) rfl ?_;refine And.intro (by decide) ?_;refine And.intro (show 0<=IntKind.wrap .i64 _/\_ by rw [tX hf];omega) ?_;refine s7 (I (wd h f.i)) (show 0+(IntKind.wrap .i64 _).toNat * 1<10 by rw [tX hf];simp;omega) (show (h.map I)[0+(IntKind.wrap .i64 _).toNat * 1]?.getD .nil=_ by
  rw [tX hf,Int.toNat_natCast,Nat.zero_add,Nat.mul_one,getD_map I h f.i .nil hil,hh.get hi]) ?_
 refine sV _ (t97 f hf) ?_;refine sV _ (t99 f hf) ?_;refine And.intro (by omega) ?_;refine sV _ (t99 f hf) ?_;refine And.intro (by omega) ?_;have ew:iF .or .i64 (iF .andNot .i64 (wd h f.i) (IntKind.wrap .i64 (((2^f.w - 1:Nat):Int) * 2^(min (f.s:Int).toNat (IntKind.bits .i64))))) (IntKind.wrap .i64 ((n:Int) * 2^(min (f.s:Int).toNat (IntKind.bits .i64))))=(xH (wd h f.i) f.s f.w n:Nat):=by
  rw [zM _ _ (by omega),zM _ _ (by omega),vd (by omega),vd (by omega),zR (by omega) (by omega),DU ?_ (by omega),Bn hn];exact Nat.xor_lt_two_pow (by omega) (Nat.lt_of_le_of_lt Nat.and_le_left (by omega))
 refine And.intro (show 0+(IntKind.wrap .i64 _).toNat * 1<10 by rw [tX hf];simp;omega) ?_;refine And.intro ⟨by simp [hh.len],by decide⟩ ?_;refine ⟨?_,trivial⟩;refine congrArg some ?_;show T.agg (aP GJ 0 10 ((h.map I).set (0+(IntKind.wrap .i64 _).toNat * 1) (I (iF _ _ _ _))))=_
 rw [ew,tX hf,Int.toNat_natCast,Nat.zero_add,Nat.mul_one,map_set];simp [aP,hd,wv]
theorem Ch(f:Fd)(h:List Int)(n:Nat):(wv f h n).length=h.length:=by simp [wv]
def vB:ByteArray:=⟨#[112,111,114,116]⟩
def wD:Fd:=⟨vB,0,16⟩
def yC:Fd:=⟨⟨#[]⟩,0,0⟩
def tU(a b:ByteArray):Bool:=a.data.toList==b.data.toList
theorem uF(a b:ByteArray):(a.toList==b.toList)=tU a b:=by unfold tU;rw [ByteArray.toList_eq,ByteArray.toList_eq]
def fds(l:List Fd):T:=.slice 3 (l.map fd)
def findF(l:List Fd)(s:ByteArray):Option Fd:=if tU s vB then some wD else l.find? fun f=>tU f.name s
def wB(l:List Fd)(s:ByteArray):T:=match findF l s with
 |some f=>.tup [fd f,.bool true]
 |none=>.tup [fd yC,.bool false]
theorem t94:DCalls Tryz.prog 108 [] (fd wD):=by
 refine dl2 mixed [.cell 0 72] [fd wD] Tryz.func108 Gq ?_;refine And.intro trivial ?_;refine And.intro ⟨rfl,by decide⟩ ?_;exact ⟨rfl,trivial⟩
theorem t83:DCalls Tryz.prog 67 [] (fd wD):=by
 refine dl2 mixed [.cell 0 72] [fd wD] Tryz.func67 l67 ?_;refine And.intro trivial ?_;refine And.intro ⟨rfl,by decide⟩ ?_;exact ⟨rfl,trivial⟩
theorem t96(f:Fd)(s:ByteArray):DCalls Tryz.prog 110 [fd f,.cptr [.str s] 0] (.bool (tU f.name s)):=by
 refine dl2 mixed [.tmp 3] [.bool (tU f.name s)] Tryz.func110 Gs ?_;refine And.intro rfl ?_;refine s7 (.str f.name) (by decide) rfl ?_;refine s7 (.str s) (Nat.lt_succ_self 0) rfl ?_;refine s5 (tU f.name s) trivial (uF _ _) ?_;exact ⟨rfl,trivial⟩
def uD(l:List Fd)(s:ByteArray):Int:=match l.findIdx? fun f=>tU f.name s with
 |some i=>i
 |none=> -1
theorem t95(l:List Fd)(s:ByteArray)(hl:l.length<2^60):DCalls Tryz.prog 109 [fds l,.clos 110 [.cptr [.str s] 0]] (I (uD l s)):=by
 refine dl2 mixed [.tmp 4] [I (uD l s)] Tryz.func109 Gr ?_;refine sM (α:=Nat) (fun i=>{sl:=[(0,.t (fds l)),(1,.t (.clos 110 [.cptr [.str s] 0])),(7,.t (I l.length)),(8,.t (I i))],bx:=[]}) (fun i=>i<=l.length/\ ∀j (h:j<l.length),j<i->tU l[j].name s=false) (fun i=>l.length - i) 0 (by simp) ?_ ?_
 ·exact ⟨⟨.same _,.same _,leI (by simp),.same _,trivial⟩,trivial,trivial,rfl,fun _ _ _=>trivial,rfl⟩
 rintro i ⟨hi,hp⟩;refine sZ trivial (fun hq=>?_) (fun hq=>?_)
 ·have h1:i<l.length:=by simpa using hq
  refine s7 (fd l[i]) (by simpa using h1) (by simp [h1]) ?_;refine s7 (fd l[i]) rfl rfl ?_;refine sV _ (t96 l[i] s) ?_;cases hm:tU l[i].name s with
  |true=>
   have:uD l s=i:=by
    unfold uD;rw [List.findIdx?_eq_some_iff_getElem.2 ⟨h1,hm,fun j hj=>by simp [hp j (by omega) hj]⟩]
   exact ⟨congrArg (fun n=>some (I n)) this.symm,trivial⟩
  |false=>
   refine ⟨i+1,⟨h1,fun j hj hlt=>?_⟩,by omega,?_⟩
   ·rcases Nat.lt_or_ge j i with h4|h4
    ·exact hp j hj h4
    ·obtain rfl:j=i:=by omega
     exact hm
   ·exact ⟨⟨.same _,.same _,.same _,leI (by rw [np] <;> omega),trivial⟩,trivial,trivial,rfl,fun _ _ _=>trivial,rfl⟩
 ·have hge:l.length<=i:=by simpa using hq
  have:uD l s= -1:=by
   unfold uD;rw [List.findIdx?_eq_none_iff.2 fun f hf=>by
    obtain ⟨j,hj,rfl⟩:=List.mem_iff_getElem.1 hf;exact hp j hj (by omega)]
  exact ⟨congrArg (fun n=>some (I n)) this.symm,trivial⟩
theorem yQ(l:List Fd)(s:ByteArray):(uD l s= -1/\l.find? (fun f=>tU f.name s)=none)\/ ∃(i:Nat) (h:i<l.length),uD l s=i/\l.find? (fun f=>tU f.name s)=some l[i]:=by
 unfold uD;cases hf:l.findIdx? fun f=>tU f.name s with
 |none=>exact .inl ⟨rfl,by rw [List.find?_eq_none];intro f hm;simpa using List.findIdx?_eq_none_iff.1 hf f hm⟩
 |some i=>
  obtain ⟨h1,h2,h3⟩:=List.findIdx?_eq_some_iff_getElem.1 hf;refine .inr ⟨i,h1,rfl,?_⟩;rw [List.find?_eq_some_iff_getElem];exact ⟨h2,i,h1,rfl,fun j hj=>by simpa using h3 j hj⟩
theorem t74(l:List Fd)(s:ByteArray)(hl:l.length<2^60):DCalls Tryz.prog 82 [fds l,.str s] (wB l s):=by
 unfold wB findF;have go: ∀(f:Fd) (b:Bool),wpC Tryz.prog c82 (fX [fds l,.str s]) (nq (cY Tryz.prog) [.cell 4 72,.tmp 5] [fd f,.bool b])->DCalls Tryz.prog 82 [fds l,.str s] (.tup [fd f,.bool b]):=fun f b h=>
  nC (rs:=[.cell 4 72,.tmp 5]) mixed Tryz.func82 l82 rfl rfl rfl (r:=[fd f,.bool b]) (nlZ rfl) h
 by_cases hp:tU s vB=true
 ·rw [if_pos hp];refine go _ _ ?_;refine And.intro trivial ?_;refine s7 (.str s) (by decide) rfl ?_;refine sV _ t94 ?_;refine s7 (.str vB) (by decide) rfl ?_;refine s5 true trivial ((uF _ _).trans hp) ?_;refine sV _ t94 ?_;refine And.intro ⟨rfl,by decide⟩ ?_;exact ⟨rfl,rfl,trivial⟩
 ·rw [if_neg hp];have hp:tU s vB=false:=by simpa using hp
  have pre: ∀(f:Fd) (b:Bool),(∃ i,uD l s=i/\(i= -1/\f=yC/\b=false\/ ∃(k:Nat) (h:k<l.length),i=k/\f=l[k]/\b=true))->wpC Tryz.prog c82 (fX [fds l,.str s]) (nq (cY Tryz.prog) [.cell 4 72,.tmp 5] [fd f,.bool b]):=fun f b ⟨i,hi,h⟩=>by
   refine And.intro trivial ?_;refine s7 (.str s) (by decide) rfl ?_;refine sV _ t94 ?_;refine s7 (.str vB) (by decide) rfl ?_;refine s5 false trivial ((uF _ _).trans hp) ?_;refine ⟨I i,hi▸t95 l s hl,rfl,?_⟩;rcases h with ⟨rfl,rfl,rfl⟩|⟨k,hk,rfl,rfl,rfl⟩
   ·refine s5 true trivial (by decide) ?_;refine And.intro trivial ?_;refine And.intro ⟨rfl,by decide⟩ ?_;exact ⟨rfl,rfl,trivial⟩
   ·refine s5 false trivial (by simp) ?_;refine s7 (fd l[k]) (by simpa using hk) (by simp [hk]) ?_;refine s7 (fd l[k]) rfl rfl ?_;refine And.intro ⟨rfl,by decide⟩ ?_;exact ⟨rfl,rfl,trivial⟩
  rcases yQ l s with ⟨h1,h2⟩|⟨k,hk,h1,h2⟩
  ·rw [h2];exact go _ _ (pre _ _ ⟨-1,h1,.inl ⟨rfl,rfl,rfl⟩⟩)
  ·rw [h2];exact go _ _ (pre _ _ ⟨k,h1,.inr ⟨k,hk,rfl,rfl,rfl⟩⟩)
theorem t51(l:List Fd)(s:ByteArray)(hl:l.length<2^60):DCalls Tryz.prog 40 [fds l,.str s] (wB l s):=by
 unfold wB findF;have go: ∀(f:Fd) (b:Bool),wpC Tryz.prog c40 (fX [fds l,.str s]) (nq (cY Tryz.prog) [.cell 4 72,.tmp 5] [fd f,.bool b])->DCalls Tryz.prog 40 [fds l,.str s] (.tup [fd f,.bool b]):=fun f b h=>
  nC (rs:=[.cell 4 72,.tmp 5]) mixed Tryz.func40 l40 rfl rfl rfl (r:=[fd f,.bool b]) (nlZ rfl) h
 by_cases hp:tU s vB=true
 ·rw [if_pos hp];refine go _ _ ?_;refine s5 true trivial ((uF _ _).trans hp) ?_;refine sV _ t83 ?_;refine And.intro ⟨rfl,by decide⟩ ?_;exact ⟨rfl,rfl,trivial⟩
 ·rw [if_neg hp];have hp:tU s vB=false:=by simpa using hp
  have pre: ∀(f:Fd) (b:Bool),(∃ i,uD l s=i/\(i= -1/\f=yC/\b=false\/ ∃(k:Nat) (h:k<l.length),i=k/\f=l[k]/\b=true))->wpC Tryz.prog c40 (fX [fds l,.str s]) (nq (cY Tryz.prog) [.cell 4 72,.tmp 5] [fd f,.bool b]):=fun f b ⟨i,hi,h⟩=>by
   refine s5 false trivial ((uF _ _).trans hp) ?_;refine sM (α:=Nat) (fun i=>{sl:=[(0,.t (fds l)),(1,.t (.str s)),(4,.ptr 4 0),(6,.t (I i))],bx:=[(4,.d 3 [.str ⟨#[]⟩,I 0,I 0])]}) (fun i=>i<=l.length/\ ∀j (h:j<l.length),j<i->tU l[j].name s=false) (fun i=>l.length - i) 0 (by simp) ?_ ?_
   ·exact ⟨⟨.same _,.same _,.same _,.same _,trivial⟩,⟨.same _,trivial⟩,trivial,rfl,fun _ _ _=>trivial,rfl⟩
   rintro j ⟨hj,hpj⟩;refine sZ trivial (fun hq=>?_) (fun hq=>?_)
   ·have h1:j<l.length:=by simpa using hq
    refine s7 (fd l[j]) (by simpa using h1) (by simp [h1]) ?_;refine s7 (.str l[j].name) (show 0+0<3 by decide) rfl ?_;cases hm:tU l[j].name s with
    |true=>
     refine s5 true trivial ((uF _ _).trans hm) ?_;refine s7 (fd l[j]) (by simpa using h1) (by simp [h1]) ?_;refine s7 (fd l[j]) rfl rfl ?_;refine And.intro ⟨rfl,by decide⟩ ?_;have e:uD l s=j:=by
      unfold uD;rw [List.findIdx?_eq_some_iff_getElem.2 ⟨h1,hm,fun j' hj'=>by simp [hpj j' (by omega) hj']⟩]
     rcases h with ⟨rfl,rfl,rfl⟩|⟨k,hk,rfl,rfl,rfl⟩
     ·omega
     ·obtain rfl:k=j:=by omega
      exact ⟨rfl,rfl,trivial⟩
    |false=>
     refine s5 false trivial ((uF _ _).trans hm) ?_;refine ⟨j+1,⟨h1,fun j' hj' hlt=>?_⟩,by omega,?_⟩
     ·rcases Nat.lt_or_ge j' j with h4|h4
      ·exact hpj j' hj' h4
      ·obtain rfl:j'=j:=by omega
       exact hm
     ·exact ⟨⟨.same _,.same _,.same _,leI (by rw [np] <;> omega),trivial⟩,⟨.same _,trivial⟩,trivial,rfl,fun _ _ _=>trivial,rfl⟩
   ·have hge:l.length<=j:=by simpa using hq
    have e:uD l s= -1:=by
     unfold uD;rw [List.findIdx?_eq_none_iff.2 fun f hf=>by
      obtain ⟨j',hj',rfl⟩:=List.mem_iff_getElem.1 hf;exact hpj j' hj' (by omega)]
    rcases h with ⟨rfl,rfl,rfl⟩|⟨k,hk,rfl,rfl,rfl⟩
    ·refine And.intro trivial ?_;refine And.intro ⟨rfl,by decide⟩ ?_;exact ⟨rfl,rfl,trivial⟩
    ·omega
  rcases yQ l s with ⟨h1,h2⟩|⟨k,hk,h1,h2⟩
  ·rw [h2];exact go _ _ (pre _ _ ⟨-1,h1,.inl ⟨rfl,rfl,rfl⟩⟩)
  ·rw [h2];exact go _ _ (pre _ _ ⟨k,h1,.inr ⟨k,hk,rfl,rfl,rfl⟩⟩)
theorem HOk.set{f:Fd}(hf:FOk f){h:List Int}(hh:HOk h){n:Nat}(hn:n<2^f.w):HOk (wv f h n):=by
 refine ⟨by rw [Ch,hh.len],?_⟩;unfold wv vm;rw [List.all_eq_true];intro x hx;rcases List.mem_or_eq_of_mem_set hx with hx|rfl
 ·have:=hh.right
  unfold vm at this;exact List.all_eq_true.1 this x hx
 ·have:=Dv (hh.wd f.i) hf.sw hn
  simp;omega
def fld(l:List Fd)(f:ByteArray):Fd:=(findF l f).getD yC
structure LOk (l:List Fd):Prop where
 len:l.length<2^60
 ok: ∀f∈l,FOk f
theorem A5{l:List Fd}{f:ByteArray}{F:Fd}(h:findF l f=some F):fld l f=F:=by unfold fld;rw [h];rfl
theorem En:FOk wD:=⟨by decide,by decide,by decide⟩
theorem LOk.find{l:List Fd}(h:LOk l){s:ByteArray}{f:Fd}(hf:findF l s=some f):FOk f:=by
 unfold findF at hf;split at hf
 ·cases hf;exact En
 ·exact h.ok f (List.mem_of_find?_eq_some hf)
end Go.MM
end
section
end
section
end
section
end
section
namespace Go.MM
open Go Go.DL Go.Proofs
abbrev e0:ByteArray:=⟨#[]⟩
end Go.MM
end
section
end
section
end
section
end
section
end
section
namespace Go.TY
instance memBA (a : ByteArray) (l : List ByteArray) : Decidable (a ∈ l) := @List.instDecidableMemOfLawfulBEq ByteArray instBEqOfDecidableEq inferInstance a l
structure Lin {α:Type} (lt:α->α->Bool):Prop where
 irr: ∀a,lt a a=false
 tr: ∀a b c,lt a b=true->lt b c=true->lt a c=true
 tot: ∀a b,lt a b=false->lt b a=false->a=b
section
variable {α:Type}{lt:α->α->Bool}
theorem Lin.ne(h:Lin lt){a b:α}(hl:lt a b=true):a≠b:=fun e=>by
 subst e;rw [h.irr] at hl;cases hl
theorem Lin.asym(h:Lin lt){a b:α}(hl:lt a b=true):lt b a=false:=by
 cases e:lt b a with
 |false=>rfl
 |true=>have:=h.tr _ _ _ hl e;rw [h.irr] at this;cases this
variable [DecidableEq α]
end
def ltS(a b:ByteArray):Bool:=Op.bytesLess a.toList b.toList
theorem wb{a b:ByteArray}(h:a.toList=b.toList):a=b:=by
 rw [ByteArray.toList_eq,ByteArray.toList_eq] at h;exact ByteArray.ext (Array.ext' h)
theorem wu:Lin ltS where
 irr:=fun a=>by simp [ltS,Go.Proofs.bytesLess_eq]
 tr:=fun a b c h k=>by
  simp only [ltS,Go.Proofs.bytesLess_eq,decide_eq_true_eq] at *
  exact List.lt_trans h k
 tot:=fun a b h k=>by
  simp only [ltS,Go.Proofs.bytesLess_eq,decide_eq_false_iff_not,List.not_lt] at *
  exact wb (List.le_antisymm k h)
end Go.TY
end
section
namespace Go.TY
open Go Go.DL Go.MM
abbrev Fd:=Go.MM.Fd
structure RS where
 kind:Int
 var:ByteArray
 key:List ByteArray
 field:ByteArray
 n:Int
 m:Int
def vF(s:RS):List T:=[I s.kind,.str s.var,.slice 1 (s.key.map .str),.str s.field,I s.n,I s.m]
def vr(s:RS):T:=.agg (vF s)
structure RV where
 name:ByteArray
 fam:Int
 ws:List Int
 n:Int
 m:Int
 deriving DecidableEq
def ua(v:RV):List T:=[.str v.name,I v.fam,.slice 1 (v.ws.map I),I v.n,I v.m]
def BL(v:RV):T:=.agg (ua v)
end Go.TY
end
section
namespace Go.ST
open Go Go.DL Go.MM Go.TY
structure Cmp {α:Type} (c:α->α->Int):Prop where
 r: ∀a b,c a b= -1\/c a b=0\/c a b=1
 s: ∀a b,c b a= - c a b
 t: ∀a b d,c a b= -1->c b d= -1->c a d= -1
 z: ∀a b,c a b=0-> ∀d,c a d=c b d
section
variable {α:Type}{c:α->α->Int}
theorem Cmp.refl(h:Cmp c)(a:α):c a a=0:=by have:=h.s a a;omega
theorem Cmp.z'(h:Cmp c){a b:α}(e:c a b=0)(d:α):c d a=c d b:=by rw [h.s a d,h.s b d,h.z a b e]
def lex(p:Int)(q:Int):Int:=if p≠0 then p else q
theorem Dq{β γ:Type}{f:α->β}{g:α->γ}{cb:β->β->Int}{cg:γ->γ->Int}(hb:Cmp cb)(hg:Cmp cg):Cmp (fun x y:α=>lex (cb (f x) (f y)) (cg (g x) (g y))) where
 r:=fun a b=>by unfold lex;have:=hb.r (f a) (f b);have:=hg.r (g a) (g b);split <;> omega
 s:=fun a b=>by
  unfold lex;have h1:=hb.s (f a) (f b);have h2:=hg.s (g a) (g b);split <;> split <;> omega
 t:=fun a b d=>by
  unfold lex;intro h1 h2;have r1:=hb.r (f a) (f b);have r2:=hb.r (f b) (f d)
  by_cases e1:cb (f a) (f b)=0
  ·rw [hb.z _ _ e1 (f d)];simp only [e1,ne_eq,not_true_eq_false,if_false] at h1
   by_cases e2:cb (f b) (f d)=0
   ·simp only [e2,ne_eq,not_true_eq_false,if_false] at h2 ⊢;exact hg.t _ _ _ h1 h2
   ·simp only [ne_eq,e2,not_false_eq_true,if_true] at h2 ⊢;exact h2
  ·simp only [ne_eq,e1,not_false_eq_true,if_true] at h1
   by_cases e2:cb (f b) (f d)=0
   ·rw [<- hb.z' e2 (f a),h1];exact if_pos (by decide)
   ·simp only [ne_eq,e2,not_false_eq_true,if_true] at h2;rw [hb.t _ _ _ h1 h2];exact if_pos (by decide)
 z:=fun a b=>by
  unfold lex;intro h d
  by_cases e1:cb (f a) (f b)=0
  ·simp only [e1,ne_eq,not_true_eq_false,if_false] at h;rw [hb.z _ _ e1,hg.z _ _ h]
  ·rw [if_pos e1] at h;exact absurd h e1
end
def uu(a b:Int):Int:=if a<b then -1 else if a>b then 1 else 0
theorem vf:Cmp uu where
 r:=fun a b=>by unfold uu;split <;> (try split) <;> omega
 s:=fun a b=>by unfold uu;split <;> split <;> (try split) <;> omega
 t:=fun a b d=>by
  unfold uu;intro h k
  have:a<b:=by by_cases h1:a<b;exact h1;rw [if_neg h1] at h;split at h <;> omega
  have:b<d:=by by_cases h1:b<d;exact h1;rw [if_neg h1] at k;split at k <;> omega
  rw [if_pos (by omega)]
 z:=fun a b h d=>by
  have:a=b:=by unfold uu at h;split at h;omega;split at h <;> omega
  rw [this]
theorem xQ{a b:Int}:uu a b=0↔a=b:=by unfold uu;split;omega;split <;> omega
def uU(a b:ByteArray):Int:=if ltS a b then -1 else if ltS b a then 1 else 0
theorem xT{a b:ByteArray}:uU a b=0↔a=b:=by
 unfold uU;cases h1:ltS a b with
 |true=>simp only [if_true];exact ⟨fun h=>by omega,fun h=>absurd h (wu.ne h1)⟩
 |false=>
  cases h2:ltS b a with
  |true=>simp only [if_true,Bool.false_eq_true,if_false];exact ⟨fun h=>by omega,fun h=>absurd h.symm (wu.ne h2)⟩
  |false=>simp only [Bool.false_eq_true,if_false];exact ⟨fun _=>wu.tot _ _ h1 h2,fun _=>trivial⟩
theorem C8{a b:ByteArray}:uU a b= -1↔ltS a b=true:=by
 unfold uU;cases h1:ltS a b with
 |true=>simp
 |false=>cases h2:ltS b a <;> simp
theorem BI:Cmp uU where
 r:=fun a b=>by unfold uU;split;simp;split <;> simp
 s:=fun a b=>by
  unfold uU;cases h1:ltS a b with
  |true=>rw [wu.asym h1];rfl
  |false=>cases h2:ltS b a <;> rfl
 t:=fun a b d h k=>by rw [C8] at *;exact wu.tr _ _ _ h k
 z:=fun a b h d=>by rw [xT.1 h]
def tJ:List Int->List Int->Int
 |[],[]=>0
 |[],_::_=> -1
 |_::_,[]=>1
 |a::l,b::m=>lex (uu a b) (tJ l m)
theorem uS: ∀{a b:List Int},tJ a b=0↔a=b
 |[],[]=>by simp [tJ]
 |[],_::_=>by simp [tJ]
 |_::_,[]=>by simp [tJ]
 |a::l,b::m=>by
  unfold tJ lex;rw [List.cons.injEq]
  by_cases h:uu a b=0
  ·rw [if_neg (by simpa using h),uS (a:=l)];simp [xQ.1 h]
  ·rw [if_pos h];exact ⟨fun e=>absurd e h,fun e=>absurd (xQ.2 e.1) h⟩
theorem BH:Cmp tJ where
 r:=fun a=>by
  induction a with
  |nil=>intro b;cases b <;> simp [tJ]
  |cons x xs ih=>
   intro b;cases b with
   |nil=>simp [tJ]
   |cons y ys=>have:=ih ys;have:=vf.r x y;unfold tJ lex;split <;> omega
 s:=fun a=>by
  induction a with
  |nil=>intro b;cases b <;> simp [tJ]
  |cons x xs ih=>
   intro b;cases b with
   |nil=>simp [tJ]
   |cons y ys=>have:=ih ys;have:=vf.s x y;unfold tJ lex;split <;> split <;> omega
 t:=fun a=>by
  induction a with
  |nil=>intro b d h k;cases b <;> cases d <;> simp_all [tJ]
  |cons x xs ih=>
   intro b d h k;cases b with
   |nil=>simp [tJ] at h
   |cons y ys=>
    cases d with
    |nil=>simp [tJ] at k
    |cons z zs=>
     unfold tJ lex at h k ⊢
     by_cases e1:uu x y=0
     ·rw [if_neg (by simp [e1])] at h;rw [vf.z _ _ e1]
      by_cases e2:uu y z=0
      ·rw [if_neg (by simp [e2])] at k ⊢;exact ih _ _ h k
      ·rw [if_pos e2] at k ⊢;exact k
     ·rw [if_pos e1] at h
      by_cases e2:uu y z=0
      ·rw [<- vf.z' e2,h];exact if_pos (by decide)
      ·rw [if_pos e2] at k;rw [vf.t _ _ _ h k];exact if_pos (by decide)
 z:=fun a b h d=>by rw [uS.1 h]
structure RE where
 var:ByteArray
 key:List Int
 n:Int
 at_:Int
 deriving DecidableEq
def ta(e:RE):List T:=[.str e.var,.slice 1 (e.key.map I),I e.n,I e.at_]
def tc(e:RE):T:=.agg (ta e)
def tq(a b:RE):Int:=lex (uU a.var b.var) (tJ a.key b.key)
theorem tg:Cmp tq:=Dq (f:=RE.var) (g:=RE.key) BI BH
theorem uR{a b:RE}:tq a b=0↔a.var=b.var/\a.key=b.key:=by
 unfold tq lex;rw [<- xT, <-uS]
 by_cases h:uU a.var b.var=0 <;> simp [h]
def tI(l:List RE):Prop:=l.Pairwise fun a b=>tq a b= -1
def uv:List RE->Bool
 |a::b::r=>decide (tq a b= -1)&&uv (b::r)
 |_=>true
theorem uM: ∀{l:List RE},uv l=true↔tI l
 |[]=>by simp [uv,tI]
 |[a]=>by simp [uv,tI]
 |a::b::r=>by
  have ih:=uM (l:=b::r);unfold uv;rw [Bool.and_eq_true,ih,decide_eq_true_eq];refine ⟨fun h=>List.pairwise_cons.2 ⟨fun x hx=>?_,h.2⟩,fun h=>⟨(List.pairwise_cons.1 h).1 b (by simp),(List.pairwise_cons.1 h).2⟩⟩;rcases List.mem_cons.1 hx with rfl|hx
  ·exact h.1
  ·exact tg.t _ _ _ h.1 ((List.pairwise_cons.1 h.2).1 x hx)
theorem tI.uniq{l:List RE}(h:tI l){x y:RE}(hx:x∈l)(hy:y∈l)(e:tq x y=0):x=y:=by
 induction l with
 |nil=>simp at hx
 |cons a r ih=>
  obtain ⟨h1,h2⟩:=List.pairwise_cons.1 h;rcases List.mem_cons.1 hx with e1|hx'
  ·rcases List.mem_cons.1 hy with e2|hy'
   ·rw [e1,e2]
   ·have:=h1 y hy';rw [<- e1] at this;omega
  ·rcases List.mem_cons.1 hy with e2|hy'
   ·have:=h1 x hx';rw [<- e2] at this;have:=tg.s x y;omega
   ·exact ih h2 hx' hy'
theorem tI.ext: ∀{a b:List RE},tI a->tI b->(∀ x,x∈a↔x∈b)->a=b
 |[],[],_,_,_=>rfl
 |[],b::bs,_,_,h=>by have:=(h b).2 (by simp);simp at this
 |a::l,[],_,_,h=>by have:=(h a).1 (by simp);simp at this
 |a::l,b::m,ha,hb,h=>by
  obtain ⟨a1,a2⟩:=List.pairwise_cons.1 ha;obtain ⟨b1,b2⟩:=List.pairwise_cons.1 hb;have e:a=b:=by
   rcases List.mem_cons.1 ((h a).1 (by simp)) with e|hm
   ·exact e
   ·rcases List.mem_cons.1 ((h b).2 (by simp)) with e|hm'
    ·exact e.symm
    ·have:=b1 a hm;have:=a1 b hm';have:=tg.s a b;omega
  subst e
  congr 1
  refine tI.ext a2 b2 fun x=>⟨fun hx=>?_,fun hx=>?_⟩
  ·rcases List.mem_cons.1 ((h x).1 (by simp [hx])) with rfl|hm
   ·have:=a1 _ hx;have:=tg.refl x;omega
   ·exact hm
  ·rcases List.mem_cons.1 ((h x).2 (by simp [hx])) with rfl|hm
   ·have:=b1 _ hx;have:=tg.refl x;omega
   ·exact hm
def tu(st:List RE)(e:RE):Nat:=(st.takeWhile fun x=>decide (tq x e= -1)).length
theorem xF(st:List RE)(e:RE):tu st e<=st.length:=List.Sublist.length_le (List.takeWhile_sublist _)
theorem yb(x:RE)(xs:List RE)(e:RE):tu (x::xs) e=if tq x e= -1 then tu xs e+1 else 0:=by
 unfold tu
 by_cases h:tq x e= -1 <;> simp [List.takeWhile,h]
theorem xG{st:List RE}(hs:tI st){e:RE}: ∀{i:Nat} (h:i<st.length),tq st[i] e= -1↔i<tu st e:=by
 induction st with
 |nil=>intro i h;simp at h
 |cons x xs ih=>
  obtain ⟨h1,h2⟩:=List.pairwise_cons.1 hs;intro i h;rw [yb];cases i with
  |zero=>by_cases hx:tq x e= -1 <;> simp [hx]
  |succ i=>
   have hi:i<xs.length:=by simpa using h
   rw [List.getElem_cons_succ,ih h2 hi]
   by_cases hx:tq x e= -1
   ·rw [if_pos hx];omega
   ·rw [if_neg hx];refine ⟨fun hlt=>?_,fun hlt=>by omega⟩;have h3:=(ih h2 hi).2 hlt;have h4:=h1 xs[i] (by simp);exact absurd (tg.t _ _ _ h4 h3) hx
def ud(st:List RE)(v:ByteArray)(key:List Int):Option RE:=st.find? fun x=>decide (x.var=v)&&decide (x.key=key)
theorem uZ{st:List RE}{v:ByteArray}{key:List Int}{x:RE}(h:ud st v key=some x):x∈st/\x.var=v/\x.key=key:=by
 have h1:=List.find?_some h;simp only [Bool.and_eq_true,decide_eq_true_eq] at h1;exact ⟨List.mem_of_find?_eq_some h,h1⟩
theorem wY{st:List RE}{v:ByteArray}{key:List Int}:ud st v key=none↔ ∀x∈st, ¬(x.var=v/\x.key=key):=by
 unfold ud;rw [List.find?_eq_none];simp
theorem vt{st:List RE}(hs:tI st)(e:RE):ud st e.var e.key=match st[tu st e]? with
  |some x=>if tq x e=0 then some x else none
  |none=>none:=by
 have hle:=xF st e;cases hf:ud st e.var e.key with
 |some y=>
  obtain ⟨h1,h2,h3⟩:=uZ hf;obtain ⟨i,hi,rfl⟩:=List.getElem_of_mem h1;have hz:tq st[i] e=0:=uR.2 ⟨h2,h3⟩;have hp: ¬i<tu st e:=fun h=>by have:=(xG hs hi).2 h;omega
  have hq: ¬tu st e<i:=fun h=>by
   have hpl:tu st e<st.length:=by omega
   have h4:=List.pairwise_iff_getElem.1 hs (tu st e) i hpl hi h;have h5:tq st[tu st e] e= -1:=by rw [<- tg.z' hz];exact h4
   exact absurd ((xG hs hpl).1 h5) (by omega)
  have e1:tu st e=i:=by omega
  rw [e1,ggZ hi];dsimp only;rw [if_pos hz]
 |none=>
  have:=wY.1 hf
  cases hg:st[tu st e]? with
  |none=>rfl
  |some x=>
   dsimp only;rw [if_neg fun h=>this x (List.mem_of_getElem? hg) (uR.1 h)]
def tQ(e:RE):List RE->List RE
 |[]=>[e]
 |x::xs=>if tq x e= -1 then x::tQ e xs else if tq x e=0 then e::xs else e::x::xs
theorem De{α:Type}(b:Bool)(k:Nat)(x:α)(xs:List α):xs.drop (if b=true then k+1 else k)=(x::xs).drop (if b=true then k+1+1 else k+1):=by cases b <;> rfl
theorem Cd{st:List RE}(hs:tI st)(e:RE):tQ e st=st.take (tu st e)++e::st.drop (if (ud st e.var e.key).isSome then tu st e+1 else tu st e):=by
 rw [vt hs];clear hs
 induction st with
 |nil=>rfl
 |cons x xs ih=>
  rw [yb];unfold tQ
  by_cases h:tq x e= -1
  ·rw [if_pos h,if_pos h,ih];simp only [List.getElem?_cons_succ,List.take_succ_cons,List.cons_append];exact congrArg (x:: ·) (congrArg (_++ ·) (congrArg (e:: ·) (De _ _ _ _)))
  ·rw [if_neg h,if_neg h];simp only [List.getElem?_cons_zero,List.take_zero,List.nil_append]
   by_cases h0:tq x e=0 <;> simp [h0]
theorem wN{st:List RE}(hs:tI st){e x:RE}:x∈tQ e st↔x=e\/(x∈st/\tq x e≠0):=by
 induction st with
 |nil=>simp [tQ]
 |cons y ys ih=>
  obtain ⟨h1,h2⟩:=List.pairwise_cons.1 hs;unfold tQ
  by_cases h:tq y e= -1
  ·rw [if_pos h,List.mem_cons,ih h2,List.mem_cons];constructor
   ·rintro (rfl|h3|h3)
    ·exact Or.inr ⟨Or.inl rfl,by omega⟩
    ·exact Or.inl h3
    ·exact Or.inr ⟨Or.inr h3.1,h3.2⟩
   ·rintro (h3|⟨rfl|h3,h4⟩)
    ·exact Or.inr (Or.inl h3)
    ·exact Or.inl rfl
    ·exact Or.inr (Or.inr ⟨h3,h4⟩)
  ·have hgt: ∀z∈ys,tq z e≠0/\tq z e≠ -1:=fun z hz=>by
    have h3:=h1 z hz;have hr:=tg.r y e;refine ⟨fun hz0=>?_,fun hzl=>h (tg.t _ _ _ h3 hzl)⟩;rw [tg.z' hz0] at h3;omega
   rw [if_neg h]
   by_cases h0:tq y e=0
   ·rw [if_pos h0,List.mem_cons,List.mem_cons];constructor
    ·rintro (h3|h3)
     ·exact Or.inl h3
     ·exact Or.inr ⟨Or.inr h3,(hgt x h3).1⟩
    ·rintro (h3|⟨rfl|h3,h4⟩)
     ·exact Or.inl h3
     ·exact absurd h0 h4
     ·exact Or.inr h3
   ·rw [if_neg h0,List.mem_cons,List.mem_cons];constructor
    ·rintro (h3|rfl|h3)
     ·exact Or.inl h3
     ·exact Or.inr ⟨Or.inl rfl,h0⟩
     ·exact Or.inr ⟨Or.inr h3,(hgt x h3).1⟩
    ·rintro (h3|⟨rfl|h3,h4⟩)
     ·exact Or.inl h3
     ·exact Or.inr (Or.inl rfl)
     ·exact Or.inr (Or.inr h3)
theorem tI.put{st:List RE}(hs:tI st)(e:RE):tI (tQ e st):=by
 induction st with
 |nil=>simp [tQ,tI]
 |cons y ys ih=>
  obtain ⟨h1,h2⟩:=List.pairwise_cons.1 hs;unfold tQ
  by_cases h:tq y e= -1
  ·rw [if_pos h];refine List.pairwise_cons.2 ⟨fun z hz=>?_,ih h2⟩;rcases (wN h2).1 hz with rfl|⟨hz,_⟩
   ·exact h
   ·exact h1 z hz
  ·rw [if_neg h];have hr:=tg.r y e;have hs':=tg.s y e
   by_cases h0:tq y e=0
   ·rw [if_pos h0];exact List.pairwise_cons.2 ⟨fun z hz=>by rw [<- tg.z _ _ h0];exact h1 z hz,h2⟩
   ·rw [if_neg h0];have h3:tq e y= -1:=by omega
    refine List.pairwise_cons.2 ⟨fun z hz=>?_,hs⟩;rcases List.mem_cons.1 hz with rfl|hz
    ·exact h3
    ·exact tg.t _ _ _ h3 (h1 z hz)
def ofE(st:List RE)(v:ByteArray):List RE:=st.filter fun e=>decide (e.var=v)
def tL(st:List RE)(v:ByteArray):Nat:=(ofE st v).length
def w9(a b:List RE):Option (List RE):=if b.any fun x=>(ud a x.var x.key).isSome then none else some (b.foldl (fun acc x=>tQ x acc) a)
theorem Bb{b:List RE}: ∀{a:List RE},tI a->tI (b.foldl (fun acc x=>tQ x acc) a):=by
 induction b with
 |nil=>exact fun h=>h
 |cons x xs ih=>exact fun h=>ih (h.put x)
theorem Bg{b:List RE}(hb:b.Pairwise fun x y=>tq x y≠0): ∀{a:List RE},tI a->(∀ x∈b, ∀y∈a,tq y x≠0)-> ∀{z:RE},z∈b.foldl (fun acc x=>tQ x acc) a↔z∈a\/z∈b:=by
 induction b with
 |nil=>simp
 |cons x xs ih=>
  intro a ha hd z;obtain ⟨h1,h2⟩:=List.pairwise_cons.1 hb;rw [List.foldl_cons,ih h2 (ha.put x) (fun w hw y hy=>?_),wN ha,List.mem_cons]
  ·constructor
   ·rintro ((h|h)|h)
    ·exact Or.inr (Or.inl h)
    ·exact Or.inl h.1
    ·exact Or.inr (Or.inr h)
   ·rintro (h|h|h)
    ·exact Or.inl (Or.inr ⟨h,hd x (by simp) z h⟩)
    ·exact Or.inl (Or.inl h)
    ·exact Or.inr h
  ·rcases (wN ha).1 hy with rfl|⟨hy,_⟩
   ·exact h1 w hw
   ·exact hd w (by simp [hw]) y hy
theorem zu{a b zs:List RE}(ha:tI a)(hb:tI b)(hp:zs.Perm (a++b))(hs:zs.Pairwise fun x y=>tq y x≠ -1):w9 a b=if uv zs then some zs else none:=by
 unfold w9
 by_cases hc:b.any (fun x=>(ud a x.var x.key).isSome)=true
 ·rw [if_pos hc]
  have:uv zs=false:=by
   cases ho:uv zs with
   |false=>rfl
   |true=>
    exfalso;have hz:=uM.1 ho;rw [List.any_eq_true] at hc;obtain ⟨x,hx,hf⟩:=hc;obtain ⟨y,hy⟩:=Option.isSome_iff_exists.1 hf;obtain ⟨h1,h2,h3⟩:=uZ hy;have hn:(a++b).Nodup:=hp.nodup_iff.1 (hz.imp fun {x y} h e=>by subst e;have:=tg.refl x;omega);have hxz:x∈zs:=hp.mem_iff.2 (by simp [hx]);have hyz:y∈zs:=hp.mem_iff.2 (by simp [h1]);have e:=hz.uniq hyz hxz (uR.2 ⟨h2,h3⟩);subst e;exact (List.nodup_append.1 hn).2.2 y h1 y hx rfl
  rw [this];rfl
 ·rw [if_neg hc];have hd: ∀x∈b, ∀y∈a,tq y x≠0:=fun x hx y hy h0=>by
   refine hc (List.any_eq_true.2 ⟨x,hx,?_⟩);cases hf:ud a x.var x.key with
   |some _=>rfl
   |none=>exact absurd (uR.1 h0) (wY.1 hf y hy)
  have hne:(a++b).Pairwise fun x y=>tq x y≠0:=List.pairwise_append.2 ⟨ha.imp fun h=>by omega,hb.imp fun h=>by omega,fun x hx y hy=>hd y hy x hx⟩
  have Gf:zs.Pairwise fun x y=>tq x y≠0:=(hp.pairwise_iff (fun {x y} h=>by have:=tg.s x y;omega)).2 hne
  have hz:tI zs:=(hs.and Gf).imp fun {x y} h=>by have:=tg.s x y;have:=tg.r x y;omega
  rw [uM.2 hz,if_pos rfl]
  congr 1
  refine tI.ext (Bb ha) hz fun x=>?_
  rw [Bg (hb.imp fun h=>by omega) ha hd,hp.mem_iff,List.mem_append]
end Go.ST
end
section
namespace Go.ST
open Go Go.DL Go.MM Go.TY
def uV:List Int->List Int->Bool
 |[],[]=>true
 |k::ks,w::ws=>decide (0<=k)&&decide (k<2^w.toNat)&&uV ks ws
 |_,_=>false
def D3(v:RV)(e:RE)(before:List RE):Bool:=
 if v.fam=2 then decide (e.n=0)
 else if v.fam=3 then decide (v.n<=e.n)&&decide (e.n<=v.m)&& !(before.any fun x=>decide (x.var=e.var)&&decide (x.n=e.n))
 else if v.fam=4 then decide (v.n=0)||decide (e.n<=v.n)
 else true
def xE(e:RE):Bool:=decide (0<=e.n)&&decide (e.n<=65535)&&decide (0<=e.at_)&&decide (e.at_<=1073741824)
def xt(v:RV)(e:RE)(before:List RE):Bool:=xE e&&uV e.key v.ws&&D3 v e before
def varOf(vars:List RV)(name:ByteArray):Option RV:=vars.find? fun v=>decide (v.name=name)
def yw(before:List RE)(e:RE):Bool:=match before.getLast? with
 |some x=>decide (tq x e≠ -1)
 |none=>false
def yJ(vars:List RV)(before:List RE)(e:RE):Int:=match varOf vars e.var with
 |none=>4
 |some v=>if xt v e before=false then 1 else if yw before e=true then 10 else if 100<=tL before e.var then 2 else 0
def yK(vars:List RV):List RE->List RE->Int
 |_,[]=>0
 |before,e::es=>if yJ vars before e=0 then yK vars (before++[e]) es else yJ vars before e
def BG(vars:List RV)(st:List RE):Int:=yK vars [] st
theorem yR: ∀{k w:List Int},uV k w=true->k.length=w.length
 |[],[],_=>rfl
 |[],_::_,h=>by cases h
 |_::_,[],h=>by cases h
 |k::ks,w::ws,h=>by
  simp only [uV,Bool.and_eq_true] at h;simp [yR h.2]
theorem zq{st:List RE}{e:RE}{v:ByteArray}:tL (st++[e]) v=tL st v+if e.var=v then 1 else 0:=by
 unfold tL ofE;rw [List.filter_append,List.length_append]
 by_cases h:e.var=v <;> simp [h]
theorem A1{st:List RE}{v:ByteArray}:tL st v<=st.length:=List.length_filter_le _ _
end Go.ST
end
section
namespace Go.ST
open Go Go.DL Go.MM
open Go.TY hiding Fd
abbrev Fd:=Go.MM.Fd
def tx(l:List Fd)(s:ByteArray):Bool:=(findF l s).isSome
def wrF(l:List Fd)(h:List Int)(name:ByteArray)(n:Int):List Int:=
 if tx l name then wv (fld l name) h (min n ((2^(fld l name).w - 1:Nat):Int)).toNat else h
def uO(l:List Fd):List ByteArray->List Int->List Int->List Int
 |k::ks,v::vs,h=>uO l ks vs (wrF l h k v)
 |[],_,h=>h
 |_::_,[],h=>h
def keyOf(l:List Fd)(names:List ByteArray)(h:List Int):List Int:=names.map fun k=>(uh (fld l k) h:Int)
def tR(l:List RE)(n:Int):Bool:=l.any fun e=>decide (e.n=n)
def tT(l:List RE):Nat->Int->Int
 |0,n=>n
 |k+1,n=>if tR l n then tT l k (n+1) else n
theorem w6(l:List RE): ∀(k:Nat) (n:Int),n<=tT l k n/\tT l k n<=n+k/\ ∀m,n<=m->m<tT l k n->tR l m=true
 |0,n=>⟨by simp [tT],by simp [tT],fun m h1 h2=>by simp [tT] at h2;omega⟩
 |k+1,n=>by
  unfold tT
  by_cases h:tR l n=true
  ·rw [if_pos h];obtain ⟨h1,h2,h3⟩:=w6 l k (n+1);refine ⟨by omega,by omega,fun m m1 m2=>?_⟩
   by_cases e:m=n
   ·rw [e];exact h
   ·exact h3 m (by omega) m2
  ·rw [if_neg h];exact ⟨by omega,by omega,fun m h1 h2=>by omega⟩
theorem zX{l:List RE}{e:RE}{m:Int}(h:m≠e.n):tR (l.erase e) m=tR l m:=by
 induction l with
 |nil=>rfl
 |cons a r ih=>
  rw [List.erase_cons]
  by_cases ha:(a==e)=true
  ·rw [if_pos ha]
   have:a=e:=by simpa using ha
   subst this;unfold tR;rw [List.any_cons]
   have:decide (a.n=m)=false:=by simpa using fun e=>h e.symm
   rw [this];rfl
  ·rw [if_neg ha];unfold tR at ih ⊢;rw [List.any_cons,List.any_cons,ih]
theorem ot: ∀(k:Nat) (l:List RE) (n:Int),l.length<k-> ∃m,n<=m/\m<n+k/\tR l m=false
 |0,l,n,h=>by omega
 |k+1,l,n,h=>by
  cases hu:tR l n with
  |false=>exact ⟨n,by omega,by omega,hu⟩
  |true=>
   unfold tR at hu;obtain ⟨e,he,hen⟩:=List.any_eq_true.1 hu;have hen:e.n=n:=by simpa using hen
   obtain ⟨m,h1,h2,h3⟩:=ot k (l.erase e) (n+1) (by rw [List.length_erase_of_mem he];have:=List.length_pos_of_mem he;omega);exact ⟨m,by omega,by omega,by rw [<- h3,zX (by omega)]⟩
theorem zZ(l:List RE)(n:Int):tR l (tT l l.length n)=false:=by
 have key: ∀(k:Nat) (n:Int),(∃ m,n<=m/\m<n+(k+1:Nat)/\tR l m=false)->tR l (tT l k n)=false:=by
  intro k
  induction k with
  |zero=>
   rintro n ⟨m,h1,h2,h3⟩
   have:m=n:=by omega
   rw [<- this];exact h3
  |succ k ih=>
   rintro n ⟨m,h1,h2,h3⟩;unfold tT;cases hu:tR l n with
   |false=>simpa using hu
   |true=>
    rw [if_pos rfl];refine ih (n+1) ⟨m,?_,by omega,h3⟩;rcases Int.lt_or_eq_of_le h1 with h|h
    ·omega
    ·subst h;rw [h3] at hu;cases hu
 exact key l.length n (ot _ l n (by omega))
def vY(s:RS)(e:RE)(tick:Int):RE:=
 let k:Int:=if tick>e.at_ then (tick - e.at_).tdiv s.m else 0
 if e.n+k>=s.n then ⟨e.var,e.key,s.n,tick⟩ else ⟨e.var,e.key,e.n+k,e.at_+k * s.m⟩
abbrev Res:=List Int×Bool×Option RE
def uq(f:Option RE)(o:List RE):Bool:=f.isNone&&decide (100<=o.length)
def do1(l:List Fd)(s:RS)(f:Option RE)(o:List RE)(h:List Int)(tick:Int)(key:List Int):Res:=
 if uq f o then (h,false,none)
 else (wrF l h s.field (min (((f.map (·.n)).getD 0)+1) 65535),true,some ⟨s.var,key,min (((f.map (·.n)).getD 0)+1) 65535,tick⟩)
def do2(s:RS)(f:Option RE)(o:List RE)(h:List Int)(tick:Int)(key:List Int):Res:=
 if uq f o then (h,false,none) else (h,true,some ⟨s.var,key,(f.map (·.n)).getD 0,tick⟩)
def do3(s:RS)(f:Option RE)(h:List Int)(tick:Int):Res:=(h,(match f with
 |some e=>decide (e.at_>=tick - s.n)
 |none=>false),none)
def uX(s:RS)(f:Option RE)(o:List RE):Int:=match f with
 |some e=>e.n
 |none=>tT o o.length s.n
def do4(l:List Fd)(s:RS)(f:Option RE)(o:List RE)(h:List Int)(tick:Int)(key:List Int):Res:=
 if uq f o||(f.isNone&&decide (uX s f o>s.m)) then (h,false,none)
 else (wrF l h s.field (uX s f o),true,some ⟨s.var,key,uX s f o,tick⟩)
def do5(l:List Fd)(s:RS)(o:List RE)(h:List Int):Res:=match o.find? fun e=>decide (e.n=(uh (fld l s.field) h:Int)) with
 |some e=>(uO l s.key e.key h,true,none)
 |none=>(h,false,none)
def wU(s:RS)(f:Option RE)(key:List Int)(tick:Int):RE:=vY s (f.getD ⟨s.var,key,s.n,tick⟩) tick
def do6(s:RS)(f:Option RE)(o:List RE)(h:List Int)(tick:Int)(key:List Int):Res:=
 if uq f o then (h,false,none)
 else if (wU s f key tick).n>0 then (h,true,some ⟨s.var,key,(wU s f key tick).n - 1,(wU s f key tick).at_⟩) else (h,false,some ⟨s.var,key,(wU s f key tick).n,(wU s f key tick).at_⟩)
def doR(l:List Fd)(s:RS)(f:Option RE)(o:List RE)(h:List Int)(tick:Int):Res:=
 if s.kind=0 then (h,true,none)
 else if s.kind=1 then do1 l s f o h tick (keyOf l s.key h)
 else if s.kind=2 then do2 s f o h tick (keyOf l s.key h)
 else if s.kind=3 then do3 s f h tick
 else if s.kind=4 then do4 l s f o h tick (keyOf l s.key h)
 else if s.kind=5 then do5 l s o h
 else do6 s f o h tick (keyOf l s.key h)
def cJ:Option RE->List RE->List RE
 |none,st=>st
 |some e,st=>tQ e st
structure Dn where
 h:List Int
 pass:Bool
 st:List RE
def zg(l:List Fd)(s:RS)(st:List RE)(h:List Int)(tick:Int):Res:=doR l s (ud st s.var (keyOf l s.key h)) (ofE st s.var) h tick
def doE(l:List Fd)(s:RS)(st:List RE)(h:List Int)(tick:Int):Dn:=⟨(zg l s st h tick).1,(zg l s st h tick).2.1,cJ (zg l s st h tick).2.2 st⟩
structure zQ (l:List Fd) (s:RS) (st:List RE) (h:List Int) (tick:Int):Prop where
 lok:LOk l
 no:tx l ⟨#[]⟩=false
 hok:HOk h
 inc:tI st
 len:st.length<=1000000
 num: ∀e∈st,0<=e.n/\e.n<=65535/\0<=e.at_/\e.at_<=1073741824
 t0:0<=tick
 t1:tick<=1073741824
 k0:0<=s.kind
 k1:s.kind<=6
 keys: ∀k∈s.key,tx l k=true
 klen:s.key.length<=1000
 k3:s.kind=3->0<=s.n/\s.n<=1073741824
 k4:s.kind=4->0<=s.n/\s.n<=65535/\s.n<=s.m/\s.m<=65535
 k5:s.kind=5->tx l s.field=true/\ ∀e∈st,e.var=s.var->e.key.length=s.key.length/\ ∀x∈e.key,0<=x
 k6:s.kind=6->1<=s.n/\s.n<=65535/\1<=s.m/\s.m<=1073741824
end Go.ST
end
noncomputable section
namespace Go.ST
open Go Go.DL Go.Proofs
def c35:aV:=(sr [oo 2 (.box 4 (tm 0)),oo 3 (.box 4 (tm 1)),oo 4 (.mov (Kc 0))] (sr [fa 5 0 2,ld 6 5,fa 7 0 3,ld 8 7,oo 9 (.call 53 [(tm 6),(tm 8)]),fa 10 1 2,ld 11 10,fa 12 1 3,ld 13 12,oo 14 (.call 54 [(tm 11),(tm 13)]),oo 15 (.buildT 1 2 [Z0] [(0,(tm 9)),(1,(tm 14))]),oo 16 (.call 52 [tm 15]),mv 4 16] .ret))
theorem l35:(Tryz.f35.body.bind (bp Tryz.prog 17 []))=some c35:=by kernel_rfl
def c54:aV:=(sr [oo 4 (.mov (Kc 0))] (.seq (sr [mv 9 0,ln 10 9,oo 11 (.mov (Kc 0))] (.block 0 (.loop (sr [oo 12 (.bin .lss (tm 11) (tm 10))] (.seq (.cond (tm 12) .skip (.exit 0)) (.seq (.block 1 (sr [mv 13 11,ix 14 1 9 11,ld 15 14,mv 5 13,mv 6 15] (.seq (sr [mv 16 5,mv 17 1,ln 18 17,oo 19 (.bin .geq (tm 16) (tm 18))] (.cond (tm 19) (sr [oo 4 (.mov (Kc 1))] .ret) .skip)) (sr [mv 20 1,mv 21 5,ix 22 1 20 21,ld 23 22,mv 7 23] (sr [mv 24 6,mv 25 7,oo 26 (.call 76 [(tm 24),(tm 25)]),mv 8 26] (sr [mv 27 8,oo 28 (.bin .neq (tm 27) (Kc 0))] (.cond (tm 28) (sr [mv 29 8,mv 4 29] .ret) .skip))))))) (rg [oo 30 (.bin .add (tm 11) (Kc 1)),mv 11 30]))))))) (.seq (sr [mv 31 0,ln 32 31,mv 33 1,ln 34 33,oo 35 (.bin .lss (tm 32) (tm 34))] (.cond (tm 35) (sr [oo 4 (.mov (.const (.int .i64 (-1))))] .ret) .skip)) (sr [oo 4 (.mov (Kc 0))] .ret))))
theorem l54:(Tryz.f54.body.bind (bp Tryz.prog 36 []))=some c54:=by kernel_rfl
def c52:aV:=(sr [oo 2 (.mov (Kc 0))] (sr [oo 3 (.mov (Kc 0))] (.seq (sr [mv 6 0,ln 7 6,oo 8 (.mov (Kc 0))] (.block 0 (.loop (sr [oo 9 (.bin .lss (tm 8) (tm 7))] (.seq (.cond (tm 9) .skip (.exit 0)) (.seq (.block 1 (sr [ix 10 1 6 8,ld 11 10,mv 5 11] (sr [mv 12 5,mv 13 3,oo 14 (.bin .neq (tm 12) (tm 13))] (.cond (tm 14) (sr [mv 15 5,mv 2 15] .ret) .skip)))) (rg [oo 16 (.bin .add (tm 8) (Kc 1)),mv 8 16]))))))) (sr [mv 17 3,mv 2 17] .ret))))
theorem l52:(Tryz.f52.body.bind (bp Tryz.prog 18 []))=some c52:=by kernel_rfl
def c53:aV:=(sr [oo 4 (.mov (Kc 0))] (sr [mv 7 0,oo 8 (.call 75 [tm 7]),mv 5 8] (sr [mv 9 1,oo 10 (.call 75 [tm 9]),mv 6 10] (.seq (sr [mv 11 5] (.cond (tm 11) (.seq (sr [mv 12 6] (.cond (tm 12) (sr [oo 4 (.mov (Kc 0))] .ret) .skip)) (sr [oo 4 (.mov (.const (.int .i64 (-1))))] .ret)) .skip)) (.seq (sr [mv 13 6] (.cond (tm 13) (sr [oo 4 (.mov (Kc 1))] .ret) .skip)) (.seq (sr [mv 14 0,mv 15 1,oo 16 (.bin .lss (tm 14) (tm 15))] (.cond (tm 16) (sr [oo 4 (.mov (.const (.int .i64 (-1))))] .ret) .skip)) (.seq (sr [mv 17 0,mv 18 1,oo 19 (.bin .gtr (tm 17) (tm 18))] (.cond (tm 19) (sr [oo 4 (.mov (Kc 1))] .ret) .skip)) (sr [oo 4 (.mov (Kc 0))] .ret))))))))
theorem l53:(Tryz.f53.body.bind (bp Tryz.prog 20 []))=some c53:=by kernel_rfl
def c75:aV:=(sr [oo 2 (.mov kF)] (sr [mv 3 0,mv 4 0,oo 5 (.bin .neq (tm 3) (tm 4)),mv 2 5] .ret))
theorem l75:(Tryz.f75.body.bind (bp Tryz.prog 6 []))=some c75:=by kernel_rfl
def c46:aV:=(sr [oo 3 (.box 5 (tm 0)),oo 4 (.box 4 (tm 1)),oo 6 (.mov kF)] (.seq (sr [fa 9 1 4,ld 10 9,ln 11 10,fa 12 2 3,ld 13 12,ln 14 13,oo 15 (.bin .neq (tm 11) (tm 14)),mv 16 15,oF 17 16 (.offA 2 (tm 4)),oF 18 16 (.load 1 false (tm 17)),oF 19 16 (.bin .lss (tm 18) (Kc 0)),oo 20 (.pick (tm 16) kT (tm 19)),mv 21 20,oF 22 21 (.offA 2 (tm 4)),oF 23 21 (.load 1 false (tm 22)),oF 24 21 (.bin .gtr (tm 23) (Kc 65535)),oo 25 (.pick (tm 21) kT (tm 24)),mv 26 25,oF 27 26 (.offA 3 (tm 4)),oF 28 26 (.load 1 false (tm 27)),oF 29 26 (.bin .lss (tm 28) (Kc 0)),oo 30 (.pick (tm 26) kT (tm 29)),mv 31 30,oF 32 31 (.offA 3 (tm 4)),oF 33 31 (.load 1 false (tm 32)),oF 34 31 (.bin .gtr (tm 33) (Kc 1073741824)),oo 35 (.pick (tm 31) kT (tm 34))] (.cond (tm 35) (sr [oo 6 (.mov kF)] .ret) .skip)) (.seq (sr [fa 36 1 4,ld 37 36,ln 38 37,oo 39 (.mov (Kc 0))] (.block 0 (.loop (sr [oo 40 (.bin .lss (tm 39) (tm 38))] (.seq (.cond (tm 40) .skip (.exit 0)) (.seq (.block 1 (sr [mv 41 39,ix 42 1 37 39,ld 43 42,mv 7 41,mv 8 43] (sr [mv 44 8,oo 45 (.bin .lss (tm 44) (Kc 0)),mv 46 45,mF 47 8 46,oF 48 46 (.offA 2 (tm 3)),oF 49 46 (.load 1 false (tm 48)),mF 50 7 46,oF 51 46 (.idxL 1 (tm 49) (tm 50)),oF 52 46 (.load 1 false (tm 51)),oF 53 46 (.bin .shl (Kc 1) (tm 52)),oF 54 46 (.bin .geq (tm 47) (tm 53)),oo 55 (.pick (tm 46) kT (tm 54))] (.cond (tm 55) (sr [oo 6 (.mov kF)] .ret) .skip)))) (rg [oo 56 (.bin .add (tm 39) (Kc 1)),mv 39 56]))))))) (.seq (sr [fa 57 1 3,ld 58 57] (.block 2 (sr [oo 60 (.bin .eql (tm 58) (Kc 2)),mv 59 60] (.cond (tm 59) (sr [fa 61 2 4,ld 62 61,oo 63 (.bin .eql (tm 62) (Kc 0)),mv 6 63] .ret) (sr [oo 65 (.bin .eql (tm 58) (Kc 3)),mv 64 65] (.cond (tm 64) (sr [fa 66 2 4,ld 67 66,fa 68 3 3,ld 69 68,oo 70 (.bin .geq (tm 67) (tm 69)),mv 71 70,oT 72 71 (.offA 2 (tm 4)),oT 73 71 (.load 1 false (tm 72)),oT 74 71 (.offA 4 (tm 3)),oT 75 71 (.load 1 false (tm 74)),oT 76 71 (.bin .leq (tm 73) (tm 75)),oo 77 (.pick (tm 71) (tm 76) kF),mv 78 77,mT 79 2 78,oT 80 78 (.mkfn 74 [tm 4]),oT 81 78 (.call 73 [(tm 79),(tm 80)]),oT 82 78 (.not (tm 81)),oo 83 (.pick (tm 78) (tm 82) kF),mv 6 83] .ret) (sr [oo 85 (.bin .eql (tm 58) (Kc 4)),mv 84 85] (.cond (tm 84) (sr [fa 86 3 3,ld 87 86,oo 88 (.bin .eql (tm 87) (Kc 0)),mv 89 88,oF 90 89 (.offA 2 (tm 4)),oF 91 89 (.load 1 false (tm 90)),oF 92 89 (.offA 3 (tm 3)),oF 93 89 (.load 1 false (tm 92)),oF 94 89 (.bin .leq (tm 91) (tm 93)),oo 95 (.pick (tm 89) kT (tm 94)),mv 6 95] .ret) .skip)))))))) (sr [oo 6 (.mov kT)] .ret)))))
theorem l46:(Tryz.f46.body.bind (bp Tryz.prog 96 []))=some c46:=by kernel_rfl
def c74:aV:=(sr [oo 2 (.box 4 (tm 0)),oo 3 (.mov kF)] (sr [fa 4 0 2,ld 5 4,fa 6 0 1,ld 7 6,oo 8 (.bin .eql (tm 5) (tm 7)),mv 9 8,oT 10 9 (.offA 2 (tm 2)),oT 11 9 (.load 1 false (tm 10)),oT 12 9 (.offA 2 (tm 1)),oT 13 9 (.load 1 false (tm 12)),oT 14 9 (.bin .eql (tm 11) (tm 13)),oo 15 (.pick (tm 9) (tm 14) kF),mv 3 15] .ret))
theorem l74:(Tryz.f74.body.bind (bp Tryz.prog 16 []))=some c74:=by kernel_rfl
def c73:aV:=(sr [oo 4 (.mov kF)] (sr [mv 5 0,mv 6 1,oo 7 (.call 84 [(tm 5),(tm 6)]),oo 8 (.bin .geq (tm 7) (Kc 0)),mv 4 8] .ret))
theorem l73:(Tryz.f73.body.bind (bp Tryz.prog 9 []))=some c73:=by kernel_rfl
def c84:aV:=(sr [oo 4 (.mov (Kc 0))] (.seq (sr [mv 6 0,ln 7 6,oo 8 (.mov (Kc 0))] (.block 0 (.loop (sr [oo 9 (.bin .lss (tm 8) (tm 7))] (.seq (.cond (tm 9) .skip (.exit 0)) (.seq (.block 1 (sr [mv 10 8,mv 5 10] (sr [mv 11 1,mv 12 0,mv 13 5,ix 14 4 12 13,lA 15 4 14,oo 16 (.bV (tm 11) [tm 15])] (.cond (tm 16) (sr [mv 17 5,mv 4 17] .ret) .skip)))) (rg [oo 18 (.bin .add (tm 8) (Kc 1)),mv 8 18]))))))) (sr [oo 4 (.mov (.const (.int .i64 (-1))))] .ret)))
theorem l84:(Tryz.f84.body.bind (bp Tryz.prog 19 []))=some c84:=by kernel_rfl
def c44:aV:=(sr [oo 4 (.mov (Kc 0))] (.seq (sr [mv 6 0,ln 7 6,oo 8 (.mov (Kc 0))] (.block 0 (.loop (sr [oo 9 (.bin .lss (tm 8) (tm 7))] (.seq (.cond (tm 9) .skip (.exit 0)) (.seq (.block 1 (sr [mv 10 8,mv 5 10] (sr [mv 11 1,mv 12 0,mv 13 5,ix 14 5 12 13,lA 15 5 14,oo 16 (.bV (tm 11) [tm 15])] (.cond (tm 16) (sr [mv 17 5,mv 4 17] .ret) .skip)))) (rg [oo 18 (.bin .add (tm 8) (Kc 1)),mv 8 18]))))))) (sr [oo 4 (.mov (.const (.int .i64 (-1))))] .ret)))
theorem l44:(Tryz.f44.body.bind (bp Tryz.prog 19 []))=some c44:=by kernel_rfl
def c19:aV:=(sr [oo 4 (.mov (Kc 0))] (sr [oo 9 (.mkmap false [.str]),mv 5 9] (.seq (sr [mv 10 1,ln 11 10,oo 12 (.mov (Kc 0))] (.block 0 (.loop (sr [oo 13 (.bin .lss (tm 12) (tm 11))] (.seq (.cond (tm 13) .skip (.exit 0)) (.seq (.block 1 (sr [mv 14 12,ix 15 4 10 12,lA 16 4 15,⟨some 7,.alloc [S0,.nil,Z0,Z0],none,[]⟩,mv 6 14,o0 (.store 4 (tm 7) (tm 16))] (sr [mv 17 0,oo 18 (.mkfn 45 [tm 7]),oo 19 (.call 44 [(tm 17),(tm 18)]),mv 8 19] (.seq (.block 2 (sr [mv 21 8,oo 22 (.bin .lss (tm 21) (Kc 0)),mv 20 22] (.cond (tm 20) (sr [oo 4 (.mov (Kc 4))] .ret) (sr [mv 24 0,mv 25 8,ix 26 5 24 25,lA 27 5 26,lA 28 4 7,mv 29 1,mv 30 6,oo 31 (.slice 4 (tm 29) none (some (tm 30))),oo 32 (.call 46 [(tm 27),(tm 28),(tm 31)]),oo 33 (.not (tm 32)),mv 23 33] (.cond (tm 23) (sr [oo 4 (.mov (Kc 1))] .ret) (sr [mv 35 6,oo 36 (.bin .gtr (tm 35) (Kc 0)),mv 37 36,mT 38 1 37,mT 39 6 37,oT 40 37 (.bin .sub (tm 39) (Kc 1)),oT 41 37 (.idxL 4 (tm 38) (tm 40)),oT 42 37 (.load 4 true (tm 41)),oT 43 37 (.load 4 true (tm 7)),oT 44 37 (.call 35 [(tm 42),(tm 43)]),oT 45 37 (.bin .geq (tm 44) (Kc 0)),oo 46 (.pick (tm 37) (tm 45) kF),mv 34 46] (.cond (tm 34) (sr [oo 4 (.mov (Kc 10))] .ret) (sr [mv 48 5,fa 49 0 7,ld 50 49,oo 51 (.mlook false [.str] Z0 false (tm 48) (tm 50)),oo 52 (.bin .geq (tm 51) (Kc 100)),mv 47 52] (.cond (tm 47) (sr [oo 4 (.mov (Kc 2))] .ret) .skip))))))))) (rg [mv 53 5,fa 54 0 7,ld 55 54,oo 56 (.mlook false [.str] Z0 false (tm 53) (tm 55)),oo 57 (.bin .add (tm 56) (Kc 1)),o0 (.bA false [.str] (tm 53) (tm 55) (tm 57))]))))) (rg [oo 58 (.bin .add (tm 12) (Kc 1)),mv 12 58]))))))) (sr [oo 4 (.mov (Kc 0))] .ret))))
theorem l19:(Tryz.f19.body.bind (bp Tryz.prog 59 []))=some c19:=by kernel_rfl
def c45:aV:=(sr [oo 2 (.box 5 (tm 0)),oo 3 (.mov kF)] (sr [fa 4 0 2,ld 5 4,fa 6 0 1,ld 7 6,oo 8 (.bin .eql (tm 5) (tm 7)),mv 3 8] .ret))
theorem l45:(Tryz.f45.body.bind (bp Tryz.prog 9 []))=some c45:=by kernel_rfl
def c86:aV:=(sr [oo 4 (.box 4 (tm 1)),oo 6 (.mov (Kc 0)),oo 7 (.mov kF)] (sr [mv 8 0,lA 9 4 4,mv 10 2,oo 11 (.call 112 [(tm 8),(tm 9),(tm 10)]),oo 12 (.ext (tm 11) 0),oo 13 (.ext (tm 11) 1),mv 6 12,mv 7 13] .ret))
theorem l86:(Tryz.f86.body.bind (bp Tryz.prog 14 []))=some c86:=by kernel_rfl
def FV:aV:=(sr [oo 4 (.box 4 (tm 1)),oo 6 (.mov (Kc 0)),oo 7 (.mov kF)] (sr [mv 12 0,ln 13 12,mv 8 13] (sr [mv 14 8,oo 9 (.mov (Kc 0)),mv 10 14] (.seq (.block 0 (.loop (.seq (sr [mv 15 9,mv 16 10,oo 17 (.bin .lss (tm 15) (tm 16))] (.cond (tm 17) .skip (.exit 0))) (.block 1 (sr [mv 18 9,mv 19 10,oo 20 (.bin .add (tm 18) (tm 19)),oo 21 (.conv .u64 (tm 20)),oo 22 (.bin .shr (tm 21) (.const (.int .u64 1))),oo 23 (.conv .i64 (tm 22)),mv 11 23] (sr [mv 24 2,mv 25 0,mv 26 11,ix 27 4 25 26,lA 28 4 27,lA 29 4 4,oo 30 (.bV (tm 24) [(tm 28),(tm 29)]),oo 31 (.bin .lss (tm 30) (Kc 0))] (.cond (tm 31) (rg [mv 32 11,oo 33 (.bin .add (tm 32) (Kc 1)),mv 9 33]) (rg [mv 34 11,mv 10 34])))))))) (sr [mv 35 9,mv 36 9,mv 37 8,oo 38 (.bin .lss (tm 36) (tm 37)),mv 39 38,mT 40 2 39,mT 41 0 39,mT 42 9 39,oT 43 39 (.idxL 4 (tm 41) (tm 42)),oT 44 39 (.load 4 true (tm 43)),oT 45 39 (.load 4 true (tm 4)),oT 46 39 (.bV (tm 40) [(tm 44),(tm 45)]),oT 47 39 (.bin .eql (tm 46) (Kc 0)),oo 48 (.pick (tm 39) (tm 47) kF),mv 6 35,mv 7 48] .ret)))))
theorem Gu:(Tryz.f112.body.bind (bp Tryz.prog 49 []))=some FV:=by kernel_rfl
def c66:aV:=(sr [⟨some 6,.alloc [S0,.nil,Z0,Z0],none,[]⟩,oo 7 (.mov kF)] (sr [mv 11 0,mv 12 1,mv 13 2,⟨some 14,.build [S0,.nil,Z0,Z0] [(0,1,(tm 12)),(1,1,(tm 13))],none,[]⟩,oo 15 (.call 86 [(tm 11),(tm 14),(.const (.clos 35 []))]),mv 10 15,oo 16 (.ext (tm 10) 0),oo 17 (.ext (tm 10) 1),mv 8 16,mv 9 17] (.seq (sr [mv 18 9,oo 19 (.not (tm 18))] (.cond (tm 19) (sr [⟨some 20,.build [S0,.nil,Z0,Z0] [],none,[]⟩,o0 (.store 4 (tm 6) (tm 20)),oo 7 (.mov kF)] .ret) .skip)) (sr [mv 21 0,mv 22 8,ix 23 4 21 22,lA 24 4 23,o0 (.store 4 (tm 6) (tm 24)),oo 7 (.mov kT)] .ret))))
theorem l66:(Tryz.f66.body.bind (bp Tryz.prog 25 []))=some c66:=by kernel_rfl
def FX:aV:=(sr [oo 2 (.mov (.const .nil))] (.seq (sr [mv 3 0,oo 4 (.isnil 1 false (tm 3))] (.cond (tm 4) (sr [oo 2 (.mov (.const .nil))] .ret) .skip)) (sr [⟨some 5,.buildF 4 0 [S0,.nil,Z0,Z0] [],none,[]⟩,mv 6 0,oo 7 (.appV 4 56 (tm 5) (tm 6)),mv 2 7] .ret)))
theorem Gw:(Tryz.f119.body.bind (bp Tryz.prog 8 [8000005,9000005]))=some FX:=by kernel_rfl
def BD:aV:=(sr [oo 3 (.box 1 (tm 1)),oo 4 (.mov (.const .nil))] (sr [mv 5 0,oo 6 (.inl 119 [tm 5]),oo 7 (.mkfn 122 [tm 3]),oo 8 (.inl 121 [(tm 6),(tm 7)]),mv 4 8] .ret))
theorem B7:(Tryz.f106.body.bind (bp Tryz.prog 9 [119,121]))=some BD:=by kernel_rfl
def FY:aV:=(sr [oo 2 (.box 4 (tm 0)),oo 3 (.mov kF)] (sr [ld 4 1,lA 5 4 2,oo 6 (.bV (tm 4) [tm 5]),oo 7 (.not (tm 6)),mv 3 7] .ret))
theorem Gx:(Tryz.f122.body.bind (bp Tryz.prog 8 []))=some FY:=by kernel_rfl
def BE:aV:=(sr [oo 4 (.mov (.const .nil))] (sr [mv 8 0,mv 9 1,oo 10 (.call 84 [(tm 8),(tm 9)]),mv 5 10] (.seq (sr [mv 11 5,oo 12 (.bin .eql (tm 11) (.const (.int .i64 (-1))))] (.cond (tm 12) (sr [mv 13 0,mv 4 13] .ret) .skip)) (.seq (sr [mv 14 5,oo 15 (.bin .add (tm 14) (Kc 1)),mv 6 15] (.block 0 (.loop (.seq (sr [mv 16 6,mv 17 0,ln 18 17,oo 19 (.bin .lss (tm 16) (tm 18))] (.cond (tm 19) .skip (.exit 0))) (.seq (.block 1 (sr [mv 22 0,mv 23 6,ix 24 4 22 23,lA 25 4 24,⟨some 7,.alloc [S0,.nil,Z0,Z0],none,[]⟩,o0 (.store 4 (tm 7) (tm 25))] (sr [mv 26 1,lA 27 4 7,oo 28 (.bV (tm 26) [tm 27]),oo 29 (.not (tm 28))] (.cond (tm 29) (sr [mv 30 0,mv 31 5,lA 32 4 7,ix 33 4 30 31,o0 (.store 4 (tm 33) (tm 32))] (rg [mv 34 5,oo 35 (.bin .add (tm 34) (Kc 1)),mv 5 35])) .skip)))) (rg [mv 20 6,oo 21 (.bin .add (tm 20) (Kc 1)),mv 6 21])))))) (sr [mv 36 0,mv 37 5,oo 38 (.slice 4 (tm 36) (some (tm 37)) none),⟨none,.clr 4 [S0,.nil,Z0,Z0] (tm 38),none,[]⟩] (sr [mv 39 0,mv 40 5,oo 41 (.slice 4 (tm 39) none (some (tm 40))),mv 4 41] .ret))))))
theorem B8:(Tryz.f121.body.bind (bp Tryz.prog 42 []))=some BE:=by kernel_rfl
def FP:aV:=(sr [oo 2 (.box 4 (tm 0)),oo 3 (.mov kF)] (sr [fa 4 0 2,ld 5 4,ld 6 1,oo 7 (.bin .eql (tm 5) (tm 6)),mv 3 7] .ret))
theorem Gp:(Tryz.f107.body.bind (bp Tryz.prog 8 []))=some FP:=by kernel_rfl
end Go.ST
end
section
namespace Go.ST
open Go Go.DL Go.Proofs
noncomputable def c17:aV:=(sr [oo 4 (.mov (Kc 0))] (.seq (sr [oo 5 (.mov (Kc 0))] (.block 0 (.loop (.seq (sr [mv 6 5,mv 7 0,ln 8 7,oo 9 (.bin .lss (tm 6) (tm 8)),mv 10 9,mT 11 5 10,mT 12 1 10,oT 13 10 (.len (tm 12)),oT 14 10 (.bin .lss (tm 11) (tm 13)),oo 15 (.pick (tm 10) (tm 14) kF)] (.cond (tm 15) .skip (.exit 0))) (.seq (.block 1 (.seq (sr [mv 18 0,mv 19 5,ix 20 1 18 19,ld 21 20,mv 22 1,mv 23 5,ix 24 1 22 23,ld 25 24,oo 26 (.bin .lss (tm 21) (tm 25))] (.cond (tm 26) (sr [oo 4 (.mov (.const (.int .i64 (-1))))] .ret) .skip)) (sr [mv 27 0,mv 28 5,ix 29 1 27 28,ld 30 29,mv 31 1,mv 32 5,ix 33 1 31 32,ld 34 33,oo 35 (.bin .gtr (tm 30) (tm 34))] (.cond (tm 35) (sr [oo 4 (.mov (Kc 1))] .ret) .skip)))) (rg [mv 16 5,oo 17 (.bin .add (tm 16) (Kc 1)),mv 5 17])))))) (.seq (sr [mv 36 0,ln 37 36,mv 38 1,ln 39 38,oo 40 (.bin .lss (tm 37) (tm 39))] (.cond (tm 40) (sr [oo 4 (.mov (.const (.int .i64 (-1))))] .ret) .skip)) (.seq (sr [mv 41 0,ln 42 41,mv 43 1,ln 44 43,oo 45 (.bin .gtr (tm 42) (tm 44))] (.cond (tm 45) (sr [oo 4 (.mov (Kc 1))] .ret) .skip)) (sr [oo 4 (.mov (Kc 0))] .ret)))))
theorem l17:(Tryz.f17.body.bind (bp Tryz.prog 46 []))=some c17:=by kernel_rfl
end Go.ST
end
section
namespace Go.ST
open Go Go.DL Go.MM Go.Proofs
open Go.TY hiding Fd
theorem wT(s:ByteArray):DCalls Tryz.prog 75 [.str s] (.bool false):=by
 refine dl2 mixed [.tmp 2] [.bool false] Tryz.func75 l75 ?_;have h:(!(s.toList==s.toList))=false:=by simp
 repeat' ((conv=>whnf);first|refine nb_ _ h ?_|refine rb0 ?_|refine aS ?_|exact trivial)
theorem Cp(x:Int):DCalls Tryz.prog 97 [I x] (.bool false):=by
 refine dl2 mixed [.tmp 2] [.bool _] Tryz.func97 l97 ?_
 repeat' ((conv=>whnf);first|refine aN0 ?_|refine rb0 ?_|refine aS ?_|exact trivial)
theorem Ev(x y:Int):DCalls Tryz.prog 76 [I x,I y] (I (uu x y)):=by
 refine dl2 mixed [.tmp 4] [I _] Tryz.func76 l76 ?_;unfold uu
 repeat' ((conv=>whnf);first|refine sV _ (Cp _) ?_|refine nD_ (fun hq=>?_) (fun hq=>?_)|refine rix ?_|refine aS ?_|exact trivial)
 all_goals (refine ri ?_ trivial;split <;> (try split) <;> first|rfl|omega)
theorem gtS(a b:ByteArray):(!(Op.bytesLess a.toList b.toList||a.toList==b.toList))=ltS b a:=by
 cases h1:ltS a b with
 |true=>
  have h2:=wu.asym h1;unfold ltS at h1;rw [h1,h2];rfl
 |false=>
  have h1':=h1;unfold ltS at h1';rw [h1',Bool.false_or];cases h2:ltS b a with
  |true=>
   have: ¬a.toList=b.toList:=fun e=>wu.ne h2 (wb e).symm
   simpa using this
  |false=>
   have:a=b:=wu.tot _ _ h1 h2
   simp [this]
theorem Ex(x y:ByteArray):DCalls Tryz.prog 53 [.str x,.str y] (I (uU x y)):=by
 refine dl2 mixed [.tmp 4] [I _] Tryz.func53 l53 ?_;unfold uU;have hg:=gtS x y;have hl:Op.bytesLess x.toList y.toList=ltS x y:=rfl;cases h1:ltS x y with
 |true=>
  rw [h1] at hl
  repeat' ((conv=>whnf);first|refine sV _ (wT _) ?_|refine nb_ _ hl ?_|refine rix ?_|refine aS ?_|exact trivial)
 |false=>
  rw [h1] at hl;cases h2:ltS y x with
  |true=>
   rw [h2] at hg
   repeat' ((conv=>whnf);first|refine sV _ (wT _) ?_|refine nb_ _ hl ?_|refine nb_ _ hg ?_|refine rix ?_|refine aS ?_|exact trivial)
  |false=>
   rw [h2] at hg
   repeat' ((conv=>whnf);first|refine sV _ (wT _) ?_|refine nb_ _ hl ?_|refine nb_ _ hg ?_|refine rix ?_|refine aS ?_|exact trivial)
theorem Fw(x y:Int):DCalls Tryz.prog 52 [.slice 1 [I x,I y]] (I (lex x y)):=by
 refine dl2 mixed [.tmp 2] [I _] Tryz.func52 l52 ?_;unfold lex
 skip
 refine sa 0 (α:=Nat) (β:=Unit) (fun i=>{sl:=[(3,.t (I 0)),(6,.t (.slice 1 [I x,I y])),(7,.t (I 2)),(8,.t (I i))],bx:=[]})
  (fun i=>i<=2/\(1<=i->x=0)/\(2<=i->y=0)) (fun i=>2 - i) (fun _=>{sl:=[(3,.t (I 0))],bx:=[]}) (fun _=>x=0/\y=0) 0 ⟨by omega,by omega,by omega⟩ ?_ ?_ ?_
 ·repeat' (first|exact wJ|refine And.intro ?_ ?_)
 ·rintro i ⟨hi,hx,hy⟩
  match i,hi with
  |0,_=>
   by_cases h:x=0
   ·repeat' ((conv=>whnf);first|refine rz h ?_|refine aD1 ?_|refine aS ?_|refine nT_ ?_)
    exact ⟨1,⟨by omega,fun _=>h,by omega⟩,by omega,by repeat' (first|exact wJ|refine And.intro ?_ ?_)⟩
   ·rw [if_pos h]
    repeat' ((conv=>whnf);first|exact trivial|refine sW h ?_|refine aD1 ?_|refine rix ?_|refine aS ?_|refine nT_ ?_)
  |1,_=>
   rw [if_neg (by simp [hx (by omega)])]
   by_cases h:y=0
   ·repeat' ((conv=>whnf);first|refine rz h ?_|refine aD1 ?_|refine aS ?_|refine nT_ ?_)
    exact ⟨2,⟨by omega,fun _=>hx (by omega),fun _=>h⟩,by omega,by repeat' (first|exact wJ|refine And.intro ?_ ?_)⟩
   ·repeat' ((conv=>whnf);first|exact trivial|refine sW h ?_|refine aD1 ?_|refine rix ?_|refine aS ?_|refine nT_ ?_)
  |2,_=>
   repeat' ((conv=>whnf);first|refine aD0 ?_|refine aS ?_|fail)
   exact ⟨(),⟨hx (by omega),hy (by omega)⟩,by repeat' (first|exact wJ|refine And.intro ?_ ?_)⟩
  |i+3,h=>omega
 rintro - ⟨hx,hy⟩;rw [hx,hy]
 repeat' ((conv=>whnf);first|refine rix ?_|exact trivial)
theorem xR{a b:List Int}{i:Nat}(ha:i<a.length)(hb:i<b.length):tJ (a.drop i) (b.drop i)=lex (uu a[i] b[i]) (tJ (a.drop (i+1)) (b.drop (i+1))):=by
 rw [List.drop_eq_getElem_cons ha,List.drop_eq_getElem_cons hb];rfl
theorem wI{a b:List Int}{i:Nat}(ha:a.length<=i)(hb:i<=b.length):tJ (a.drop i) (b.drop i)=if i<b.length then -1 else 0:=by
 rw [List.drop_eq_nil_of_le ha]
 by_cases h:i<b.length
 ·rw [List.drop_eq_getElem_cons h,if_pos h];rfl
 ·rw [List.drop_eq_nil_of_le (by omega),if_neg h];rfl
theorem xS{a b:List Int}{i:Nat}(ha:i<a.length)(hb:b.length<=i):tJ (a.drop i) (b.drop i)=1:=by
 rw [List.drop_eq_nil_of_le hb,List.drop_eq_getElem_cons ha];rfl
theorem Ew(a b:List Int)(hl:a.length<2^60)(hm:b.length<2^60):DCalls Tryz.prog 54 [.slice 1 (a.map I),.slice 1 (b.map I)] (I (tJ a b)):=by
 refine dl2 mixed [.tmp 4] [I _] Tryz.func54 l54 ?_;have ha:((a.map I).length:Int)=a.length:=by rw [List.length_map]
 have hb:((b.map I).length:Int)=b.length:=by rw [List.length_map]
 skip
 refine sa 0 (α:=Nat) (β:=Unit) (fun i=>{sl:=[(0,.t (.slice 1 (a.map I))),(1,.t (.slice 1 (b.map I))),(9,.t (.slice 1 (a.map I))),(10,.t (I (a.map I).length)),(11,.t (I i))],bx:=[]})
  (fun i=>i<=a.length/\i<=b.length/\tJ (a.drop i) (b.drop i)=tJ a b) (fun i=>a.length - i) (fun _=>{sl:=[(0,.t (.slice 1 (a.map I))),(1,.t (.slice 1 (b.map I)))],bx:=[]}) (fun _=>a.length<=b.length/\tJ (a.drop a.length) (b.drop a.length)=tJ a b) 0 ⟨by omega,by omega,rfl⟩ ?_ ?_ ?_
 ·repeat' (first|exact wJ|refine And.intro ?_ ?_)
 ·rintro i ⟨hi,hj,he⟩;rcases Nat.lt_or_ge i a.length with h|h
  ·have hlt:(i:Int)<((a.map I).length:Int):=by omega
   rcases Nat.lt_or_ge i b.length with h'|h'
   ·have hge: ¬(i:Int)>=((b.map I).length:Int):=by omega
    rw [xR h h'] at he;unfold lex at he;have hc:=Ev a[i] b[i];generalize hg:uu a[i] b[i]=c at *
    by_cases hz:c=0
    ·rw [if_neg (by simpa using hz)] at he
     repeat' ((conv=>whnf);first|refine ru hlt ?_|(refine nv_ (I a[i]) (by first|(simp [h];done)|fail) ?_)|refine rq hge ?_|(refine nv_ (I b[i]) (by first|(simp [h'];done)|fail) ?_)|refine sV _ (hc) ?_|refine rz hz ?_|refine aS ?_|refine nT_ ?_)
     exact ⟨i+1,⟨h,h',he⟩,by omega,by repeat' (first|exact wJ|refine And.intro ?_ ?_)⟩
    ·rw [if_pos hz] at he;rw [<- he]
     repeat' ((conv=>whnf);first|exact trivial|refine ru hlt ?_|(refine nv_ (I a[i]) (by first|(simp [h];done)|fail) ?_)|refine rq hge ?_|(refine nv_ (I b[i]) (by first|(simp [h'];done)|fail) ?_)|refine sV _ (hc) ?_|refine sW hz ?_|refine rix ?_|refine aS ?_|refine nT_ ?_)
   ·have hge:(i:Int)>=((b.map I).length:Int):=by omega
    rw [xS h h'] at he;rw [<- he]
    repeat' ((conv=>whnf);first|exact trivial|refine ru hlt ?_|(refine nv_ (I a[i]) (by first|(simp [h];done)|fail) ?_)|refine ru hge ?_|refine rix ?_|refine aS ?_|refine nT_ ?_)
  ·have hlt: ¬(i:Int)<((a.map I).length:Int):=by omega
   obtain rfl:i=a.length:=by omega
   repeat' ((conv=>whnf);first|refine rq hlt ?_|refine aS ?_|fail)
   exact ⟨(),⟨hj,he⟩,by repeat' (first|exact wJ|refine And.intro ?_ ?_)⟩
 rintro - ⟨hj,he⟩;rw [wI (Nat.le_refl _) hj] at he;rw [<- he]
 by_cases h:a.length<b.length
 ·have hlt:((a.map I).length:Int)<((b.map I).length:Int):=by omega
  rw [if_pos h]
  repeat' ((conv=>whnf);first|refine ru hlt ?_|refine rix ?_|refine aS ?_|exact trivial)
 ·have hlt: ¬((a.map I).length:Int)<((b.map I).length:Int):=by omega
  rw [if_neg h]
  repeat' ((conv=>whnf);first|refine rq hlt ?_|refine rix ?_|refine aS ?_|exact trivial)
theorem Bp(a b:List Int)(hl:a.length<2^60)(hm:b.length<2^60):DCalls Tryz.prog 17 [.slice 1 (a.map I),.slice 1 (b.map I)] (I (tJ a b)):=by
 refine dl2 mixed [.tmp 4] [I _] Tryz.func17 l17 ?_;have ha:((a.map I).length:Int)=a.length:=by rw [List.length_map]
 have hb:((b.map I).length:Int)=b.length:=by rw [List.length_map]
 skip
 refine sa 0 (α:=Nat) (β:=Nat) (fun i=>{sl:=[(0,.t (.slice 1 (a.map I))),(1,.t (.slice 1 (b.map I))),(5,.t (I i))],bx:=[]})
  (fun i=>i<=a.length/\i<=b.length/\tJ (a.drop i) (b.drop i)=tJ a b) (fun i=>a.length - i) (fun _=>{sl:=[(0,.t (.slice 1 (a.map I))),(1,.t (.slice 1 (b.map I)))],bx:=[]}) (fun i=>(i=a.length\/i=b.length)/\i<=a.length/\i<=b.length/\tJ (a.drop i) (b.drop i)=tJ a b) 0 ⟨by omega,by omega,rfl⟩ ?_ ?_ ?_
 ·repeat' (first|exact wJ|refine And.intro ?_ ?_)
 ·rintro i ⟨hi,hj,he⟩;rcases Nat.lt_or_ge i a.length with h|h
  ·have hlt:(i:Int)<((a.map I).length:Int):=by omega
   rcases Nat.lt_or_ge i b.length with h'|h'
   ·have lT:(i:Int)<((b.map I).length:Int):=by omega
    rw [xR h h'] at he;unfold lex uu at he
    by_cases c1:a[i]<b[i]
    ·rw [if_pos c1,if_pos (by decide)] at he;rw [<- he]
     repeat' ((conv=>whnf);first|exact trivial|refine ru hlt ?_|refine ru lT ?_|(refine nv_ (I a[i]) (by first|(simp [h];done)|fail) ?_)|(refine nv_ (I b[i]) (by first|(simp [h'];done)|fail) ?_)|refine ru c1 ?_|refine rix ?_|refine aS ?_|refine nT_ ?_)
    ·by_cases c2:a[i]>b[i]
     ·rw [if_neg c1,if_pos c2,if_pos (by decide)] at he;rw [<- he]
      repeat' ((conv=>whnf);first|exact trivial|refine ru hlt ?_|refine ru lT ?_|(refine nv_ (I a[i]) (by first|(simp [h];done)|fail) ?_)|(refine nv_ (I b[i]) (by first|(simp [h'];done)|fail) ?_)|refine rq c1 ?_|refine ru c2 ?_|refine rix ?_|refine aS ?_|refine nT_ ?_)
     ·rw [if_neg c1,if_neg c2,if_neg (by decide)] at he
      repeat' ((conv=>whnf);first|refine ru hlt ?_|refine ru lT ?_|(refine nv_ (I a[i]) (by first|(simp [h];done)|fail) ?_)|(refine nv_ (I b[i]) (by first|(simp [h'];done)|fail) ?_)|refine rq c1 ?_|refine rq c2 ?_|refine aS ?_|refine nT_ ?_)
      exact ⟨i+1,⟨h,h',he⟩,by omega,by repeat' (first|exact wJ|refine And.intro ?_ ?_)⟩
   ·have lT: ¬(i:Int)<((b.map I).length:Int):=by omega
    repeat' ((conv=>whnf);first|refine ru hlt ?_|refine rq lT ?_|refine aS ?_|fail)
    exact ⟨i,⟨Or.inr (by omega),hi,hj,he⟩,by repeat' (first|exact wJ|refine And.intro ?_ ?_)⟩
  ·have hlt: ¬(i:Int)<((a.map I).length:Int):=by omega
   repeat' ((conv=>whnf);first|refine rq hlt ?_|refine aS ?_|fail)
   exact ⟨i,⟨Or.inl (by omega),hi,hj,he⟩,by repeat' (first|exact wJ|refine And.intro ?_ ?_)⟩
 rintro i ⟨ho,hi,hj,he⟩;rcases Nat.lt_trichotomy a.length b.length with h|h|h
 ·have hlt:((a.map I).length:Int)<((b.map I).length:Int):=by omega
  rw [wI (by omega) hj,if_pos (by omega)] at he;rw [<- he]
  repeat' ((conv=>whnf);first|refine ru hlt ?_|refine rix ?_|refine aS ?_|exact trivial)
 ·have hlt: ¬((a.map I).length:Int)<((b.map I).length:Int):=by omega
  have hgt: ¬((a.map I).length:Int)>((b.map I).length:Int):=by omega
  rw [wI (by omega) hj,if_neg (by omega)] at he;rw [<- he]
  repeat' ((conv=>whnf);first|refine rq hlt ?_|refine rq hgt ?_|refine rix ?_|refine aS ?_|exact trivial)
 ·have hlt: ¬((a.map I).length:Int)<((b.map I).length:Int):=by omega
  have hgt:((a.map I).length:Int)>((b.map I).length:Int):=by omega
  rw [xS (by omega) (by omega)] at he;rw [<- he]
  repeat' ((conv=>whnf);first|refine rq hlt ?_|refine ru hgt ?_|refine rix ?_|refine aS ?_|exact trivial)
abbrev kOk(e:RE):Prop:=e.key.length<2^60
theorem uI(a b:RE)(ha:kOk a)(hb:kOk b):DCalls Tryz.prog 35 [tc a,tc b] (I (tq a b)):=by
 refine dl2 mixed [.tmp 4] [I _] Tryz.func35 l35 ?_;have h1:=Ex a.var b.var;have h2:=Ew a.key b.key ha hb;have h3:=Fw (uU a.var b.var) (tJ a.key b.key);unfold tq
 repeat' ((conv=>whnf);first|exact trivial|refine sV _ (h1) ?_|refine sV _ (h2) ?_|refine sV _ (h3) ?_|refine rix ?_|refine aS ?_|refine nT_ ?_)
theorem eqS(a b:ByteArray):(a.toList==b.toList)=decide (a=b):=by
 by_cases h:a=b
 ·simp [h]
 ·have: ¬a.toList=b.toList:=fun e=>h (wb e)
  simp [h,this]
theorem td(e:RE):(ta e).length=4:=rfl
abbrev esT(st:List RE):T:=.slice 4 (st.map tc)
theorem tS{st:List RE}{i:Nat}(h:i<st.length):(st.map tc)[i]?.getD .nil= .agg (ta st[i]):=by simp [h,tc]
def tZ{α:Type}(p:α->Bool)(xs:List α):Int:=match xs.findIdx? p with
 |some i=>(i:Int)
 |none=> -1
theorem xz{α:Type}{p:α->Bool}{xs:List α}{i:Nat}(h:i<xs.length)(hb:p xs[i]=true)(hp: ∀j (h:j<xs.length),j<i->p xs[j]=false):tZ p xs=i:=by
 unfold tZ
 have:xs.findIdx? p=some i:=List.findIdx?_eq_some_iff_getElem.2 ⟨h,hb,fun j hj=>by simp [hp j (by omega) hj]⟩
 rw [this]
theorem xA{α:Type}{p:α->Bool}{xs:List α}(hp: ∀j (h:j<xs.length),p xs[j]=false):tZ p xs= -1:=by
 unfold tZ
 have:xs.findIdx? p=none:=List.findIdx?_eq_none_iff.2 fun x hx=>by
  obtain ⟨j,hj,rfl⟩:=List.getElem_of_mem hx;exact hp j hj
 rw [this]
theorem wq{α:Type}(p:α->Bool)(xs:List α):(tZ p xs= -1/\xs.find? p=none)\/ ∃(i:Nat) (h:i<xs.length),tZ p xs=i/\xs.find? p=some xs[i]:=by
 unfold tZ;cases h:xs.findIdx? p with
 |none=>
  refine Or.inl ⟨rfl,?_⟩;rw [List.find?_eq_none];intro x hx;simpa using List.findIdx?_eq_none_iff.1 h x hx
 |some i=>
  obtain ⟨h1,h2,h3⟩:=List.findIdx?_eq_some_iff_getElem.1 h;refine Or.inr ⟨i,h1,rfl,?_⟩;rw [List.find?_eq_some_iff_getElem];exact ⟨h2,i,h1,rfl,fun j hj=>by simpa using h3 j hj⟩
theorem B0{α:Type}(p:α->Bool)(xs:List α):xs.any p=decide (tZ p xs>=0):=by
 unfold tZ;cases h:xs.findIdx? p with
 |none=>
  have:=List.findIdx?_eq_none_iff.1 h
  simpa using this
 |some i=>
  obtain ⟨h1,h2,_⟩:=List.findIdx?_eq_some_iff_getElem.1 h
  have:xs.any p=true:=List.any_eq_true.2 ⟨xs[i],List.getElem_mem h1,h2⟩
  rw [this];simp
theorem wG(xs:List RE)(f:FuncId)(c:T)(p:RE->Bool)(hl:xs.length<2^60)(hc: ∀(i:Nat) (h:i<xs.length),DCalls Tryz.prog f [.agg (ta xs[i]),c] (.bool (p xs[i]))):
  DCalls Tryz.prog 84 [esT xs,.clos f [c]] (I (tZ p xs)):=by
 refine dl2 mixed [.tmp 4] [.int _ _] Tryz.func84 l84 ?_
 skip
 refine sM (α:=Nat) (fun i=>{sl:=[(0,.t (esT xs)),(1,.t (.clos f [c])),(6,.t (esT xs)),(7,.t (I xs.length)),(8,.t (I i))],bx:=[]})
  (fun i=>i<=xs.length/\ ∀j (h:j<xs.length),j<i->p xs[j]=false) (fun i=>xs.length - i) 0 (by simp) ?_ ?_
 ·repeat' (first|(exact leI (by simp))|exact wJ|refine And.intro ?_ ?_)
 rintro i ⟨hi,hp⟩;rcases Nat.lt_or_ge i xs.length with h|h
 ·have h0:=hc i h;cases hb:p xs[i] with
  |true=>
   rw [hb] at h0;rw [xz h hb hp]
   repeat' ((conv=>whnf);first|exact trivial|(refine nv_ (.agg (ta xs[i])) (by first|exact tS h) ?_)|refine sV _ (h0) ?_|refine aD1 ?_|refine rix ?_|(refine And.intro (by first|exact td _) ?_)|refine aS ?_|refine nT_ ?_)
  |false=>
   rw [hb] at h0
   repeat' ((conv=>whnf);first|(refine nv_ (.agg (ta xs[i])) (by first|exact tS h) ?_)|refine sV _ (h0) ?_|refine aD1 ?_|(refine And.intro (by first|exact td _) ?_)|refine aS ?_|refine nT_ ?_)
   refine ⟨i+1,⟨h,fun j hj hlt=>?_⟩,by omega,?_⟩
   ·rcases Nat.lt_or_ge j i with h4|h4
    ·exact hp j hj h4
    ·obtain rfl:j=i:=by omega
     exact hb
   ·repeat' (first|exact wJ|refine And.intro ?_ ?_)
 ·rw [xA fun j hj=>hp j hj (by omega)]
  repeat' ((conv=>whnf);first|refine aD0 ?_|refine rix ?_|refine aS ?_|exact trivial)
theorem zx(xs:List RE)(f:FuncId)(c:T)(p:RE->Bool)(hl:xs.length<2^60)(hc: ∀(i:Nat) (h:i<xs.length),DCalls Tryz.prog f [.agg (ta xs[i]),c] (.bool (p xs[i]))):
  DCalls Tryz.prog 73 [esT xs,.clos f [c]] (.bool (xs.any p)):=by
 refine dl2 mixed [.tmp 4] [.bool _] Tryz.func73 l73 ?_;have h1:=wG xs f c p hl hc;rw [B0 p xs];generalize tZ p xs=k at *
 repeat' ((conv=>whnf);first|refine sV _ (h1) ?_|refine nD_ (fun hq=>?_) (fun hq=>?_)|refine rb1 ?_|refine rb0 ?_|refine aS ?_|exact trivial)
abbrev vsT(vars:List RV):T:=.slice 5 (vars.map BL)
theorem tC(v:RV):(ua v).length=5:=rfl
theorem wK{vars:List RV}{i:Nat}(h:i<vars.length):(vars.map BL)[i]?.getD .nil= .agg (ua vars[i]):=by simp [h,BL]
abbrev xf(name:ByteArray):RV->Bool:=fun v=>decide (v.name=name)
theorem Cn(v:RV)(e:RE):DCalls Tryz.prog 45 [.agg (ua v),.cptr (ta e) 0] (.bool (decide (v.name=e.var))):=by
 refine dl2 mixed [.tmp 3] [.bool _] Tryz.func45 l45 ?_;have h:=eqS v.name e.var
 repeat' ((conv=>whnf);first|exact trivial|refine nb_ _ h ?_|refine rbx ?_|(refine And.intro (by first|exact tC _|exact td _) ?_)|refine aS ?_|refine nT_ ?_)
theorem Bv(vars:List RV)(e:RE)(hl:vars.length<2^60):DCalls Tryz.prog 44 [vsT vars,.clos 45 [.cptr (ta e) 0]] (I (tZ (xf e.var) vars)):=by
 refine dl2 mixed [.tmp 4] [.int _ _] Tryz.func44 l44 ?_
 skip
 refine sM (α:=Nat) (fun i=>{sl:=[(0,.t (vsT vars)),(1,.t (.clos 45 [.cptr (ta e) 0])),(6,.t (vsT vars)),(7,.t (I vars.length)),(8,.t (I i))],bx:=[]})
  (fun i=>i<=vars.length/\ ∀j (h:j<vars.length),j<i->xf e.var vars[j]=false) (fun i=>vars.length - i) 0 (by simp) ?_ ?_
 ·repeat' (first|(exact leI (by simp))|exact wJ|refine And.intro ?_ ?_)
 rintro i ⟨hi,hp⟩;rcases Nat.lt_or_ge i vars.length with h|h
 ·have h0:=Cn vars[i] e;cases hb:decide (vars[i].name=e.var) with
  |true=>
   rw [hb] at h0;rw [xz h hb hp]
   repeat' ((conv=>whnf);first|exact trivial|(refine nv_ (.agg (ua vars[i])) (by first|exact wK h) ?_)|refine sV _ (h0) ?_|refine aD1 ?_|refine rix ?_|(refine And.intro (by first|exact tC _) ?_)|refine aS ?_|refine nT_ ?_)
  |false=>
   rw [hb] at h0
   repeat' ((conv=>whnf);first|(refine nv_ (.agg (ua vars[i])) (by first|exact wK h) ?_)|refine sV _ (h0) ?_|refine aD1 ?_|(refine And.intro (by first|exact tC _) ?_)|refine aS ?_|refine nT_ ?_)
   refine ⟨i+1,⟨h,fun j hj hlt=>?_⟩,by omega,?_⟩
   ·rcases Nat.lt_or_ge j i with h4|h4
    ·exact hp j hj h4
    ·obtain rfl:j=i:=by omega
     exact hb
   ·repeat' (first|exact wJ|refine And.intro ?_ ?_)
 ·rw [xA fun j hj=>hp j hj (by omega)]
  repeat' ((conv=>whnf);first|refine aD0 ?_|refine rix ?_|refine aS ?_|exact trivial)
theorem zr{st:List RE}{v:ByteArray}{i:Nat}(h:i<st.length):tL (st.take (i+1)) v=tL (st.take i) v+if st[i].var=v then 1 else 0:=by
 rw [List.take_succ_eq_append_getElem h,zq]
theorem DN(x e:RE):DCalls Tryz.prog 74 [.agg (ta x),.cptr (ta e) 0] (.bool (decide (x.var=e.var)&&decide (x.n=e.n))):=by
 refine dl2 mixed [.tmp 3] [.bool _] Tryz.func74 l74 ?_;have h:=eqS x.var e.var
 by_cases h1:x.var=e.var
 ·rw [decide_eq_true h1] at h;rw [decide_eq_true h1,Bool.true_and]
  by_cases h2:x.n=e.n
  ·rw [decide_eq_true h2]
   repeat' ((conv=>whnf);first|exact trivial|refine nb_ _ h ?_|refine ry h2 ?_|refine rb1 ?_|(refine And.intro (by first|exact td _) ?_)|refine aS ?_|refine nT_ ?_)
  ·rw [decide_eq_false h2]
   repeat' ((conv=>whnf);first|exact trivial|refine nb_ _ h ?_|refine rv h2 ?_|refine rb0 ?_|(refine And.intro (by first|exact td _) ?_)|refine aS ?_|refine nT_ ?_)
 ·rw [decide_eq_false h1] at h;rw [decide_eq_false h1,Bool.false_and]
  repeat' ((conv=>whnf);first|exact trivial|refine nb_ _ h ?_|refine rb0 ?_|(refine And.intro (by first|exact td _) ?_)|refine aS ?_|refine nT_ ?_)
structure VOk (v:RV):Prop where
 len:v.ws.length<2^40
 w: ∀w∈v.ws,1<=w/\w<=60
theorem A4{k w:List Int}{i:Nat}(hk:i<k.length)(hw:i<w.length):uV (k.drop i) (w.drop i)=(decide (0<=k[i])&&decide (k[i]<2^w[i].toNat)&&uV (k.drop (i+1)) (w.drop (i+1))):=by
 rw [List.drop_eq_getElem_cons hk,List.drop_eq_getElem_cons hw];rfl
theorem GC{w:Int}(h1:1<=w)(h2:w<=60):IntKind.wrap .i64 (1 * 2^(min w.toNat (IntKind.bits .i64)))=2^w.toNat:=by
 have hb:IntKind.bits .i64=64:=rfl;rw [hb,Nat.min_eq_left (by omega),Int.one_mul];have hp:(2:Int)^w.toNat<=2^60:=by exact_mod_cast Nat.pow_le_pow_right (by decide) (show w.toNat<=60 by omega)
 have h0:(0:Int)<2^w.toNat:=Int.pow_pos (by decide);rw [np] <;> omega
theorem zc{e:RE}:xE e=false↔(e.n<0\/e.n>65535\/e.at_<0\/e.at_>1073741824):=by
 unfold xE;rw [<- Bool.not_eq_true];simp only [Bool.and_eq_true,decide_eq_true_eq];omega
theorem Ey(v:RV)(hv:VOk v)(e:RE)(_:kOk e)(before:List RE)(hb:before.length<2^60):DCalls Tryz.prog 46 [.agg (ua v),.agg (ta e),esT before] (.bool (xt v e before)):=by
 refine dl2 mixed [.tmp 6] [.bool _] Tryz.func46 l46 ?_;have hkl:((e.key.map I).length:Int)=e.key.length:=by rw [List.length_map]
 have hwl:((v.ws.map I).length:Int)=v.ws.length:=by rw [List.length_map]
 have hvl:=hv.len;unfold xt
 by_cases hl:e.key.length=v.ws.length
 case neg=>
  have hf:uV e.key v.ws=false:=by
   cases hc:uV e.key v.ws with
   |false=>rfl
   |true=>exact absurd (yR hc) hl
  have hn:((e.key.map I).length:Int)≠((v.ws.map I).length:Int):=by omega
  rw [hf,Bool.and_false,Bool.false_and]
  repeat' ((conv=>whnf);first|exact trivial|refine sW hn ?_|refine rb0 ?_|(refine And.intro (by first|exact tC _|exact td _) ?_)|refine aS ?_|refine nT_ ?_)
 have hn:((e.key.map I).length:Int)=((v.ws.map I).length:Int):=by omega
 cases BY:xE e with
 |false=>
  rcases zc.1 BY with h|h|h|h
  ·rw [Bool.false_and,Bool.false_and]
   repeat' ((conv=>whnf);first|exact trivial|refine rz hn ?_|refine ru h ?_|refine rb0 ?_|(refine And.intro (by first|exact tC _|exact td _) ?_)|refine aS ?_|refine nT_ ?_)
  ·rw [Bool.false_and,Bool.false_and];have h0: ¬e.n<0:=by omega
   repeat' ((conv=>whnf);first|exact trivial|refine rz hn ?_|refine rq h0 ?_|refine ru h ?_|refine rb0 ?_|(refine And.intro (by first|exact tC _|exact td _) ?_)|refine aS ?_|refine nT_ ?_)
  ·rw [Bool.false_and,Bool.false_and]
   by_cases h0:e.n<0
   ·repeat' ((conv=>whnf);first|exact trivial|refine rz hn ?_|refine ru h0 ?_|refine rb0 ?_|(refine And.intro (by first|exact tC _|exact td _) ?_)|refine aS ?_|refine nT_ ?_)
   by_cases h1:e.n>65535
   ·repeat' ((conv=>whnf);first|exact trivial|refine rz hn ?_|refine rq h0 ?_|refine ru h1 ?_|refine rb0 ?_|(refine And.intro (by first|exact tC _|exact td _) ?_)|refine aS ?_|refine nT_ ?_)
   repeat' ((conv=>whnf);first|exact trivial|refine rz hn ?_|refine rq h0 ?_|refine rq h1 ?_|refine ru h ?_|refine rb0 ?_|(refine And.intro (by first|exact tC _|exact td _) ?_)|refine aS ?_|refine nT_ ?_)
  ·rw [Bool.false_and,Bool.false_and]
   by_cases h0:e.n<0
   ·repeat' ((conv=>whnf);first|exact trivial|refine rz hn ?_|refine ru h0 ?_|refine rb0 ?_|(refine And.intro (by first|exact tC _|exact td _) ?_)|refine aS ?_|refine nT_ ?_)
   by_cases h1:e.n>65535
   ·repeat' ((conv=>whnf);first|exact trivial|refine rz hn ?_|refine rq h0 ?_|refine ru h1 ?_|refine rb0 ?_|(refine And.intro (by first|exact tC _|exact td _) ?_)|refine aS ?_|refine nT_ ?_)
   have h2: ¬e.at_<0:=by omega
   repeat' ((conv=>whnf);first|exact trivial|refine rz hn ?_|refine rq h0 ?_|refine rq h1 ?_|refine rq h2 ?_|refine ru h ?_|refine rb0 ?_|(refine And.intro (by first|exact tC _|exact td _) ?_)|refine aS ?_|refine nT_ ?_)
 |true=>
 have hno: ¬(e.n<0\/e.n>65535\/e.at_<0\/e.at_>1073741824):=fun h=>by rw [zc.2 h] at BY;cases BY
 have h0: ¬e.n<0:=by omega
 have h1: ¬e.n>65535:=by omega
 have h2: ¬e.at_<0:=by omega
 have h3: ¬e.at_>1073741824:=by omega
 rw [Bool.true_and]
 repeat' ((conv=>whnf);first|refine rz hn ?_|refine rq h0 ?_|refine rq h1 ?_|refine rq h2 ?_|refine rq h3 ?_|(refine And.intro (by first|exact tC _|exact td _) ?_)|refine aS ?_|refine nT_ ?_)
 refine sa 0 (α:=Nat) (β:=Unit) (fun i=>{sl:=[(2,.t (esT before)),(3,.ptr 3 0),(4,.ptr 4 0),(37,.t (.slice 1 (e.key.map I))),(38,.t (I e.key.length)),(39,.t (I i))],bx:=[(3,.d 5 (ua v)),(4,.d 4 (ta e))]})
  (fun i=>i<=e.key.length/\uV (e.key.drop i) (v.ws.drop i)=uV e.key v.ws) (fun i=>e.key.length - i) (fun _=>{sl:=[(2,.t (esT before)),(3,.ptr 3 0),(4,.ptr 4 0)],bx:=[(3,.d 5 (ua v)),(4,.d 4 (ta e))]}) (fun _=>uV e.key v.ws=true) 0 ⟨by omega,rfl⟩ ?_ ?_ ?_
 ·repeat' (first|(exact leI (by simp))|exact wJ|refine And.intro ?_ ?_)
 ·rintro i ⟨hi,hf⟩;rcases Nat.lt_or_ge i e.key.length with h|h
  ·have h':i<v.ws.length:=by omega
   rw [A4 h h'] at hf;obtain ⟨w1,w2⟩:=hv.w v.ws[i] (List.getElem_mem h');have hs:=GC w1 w2;have hki:(e.key.map I)[i]?.getD .nil=I e.key[i]:=by simp [h]
   have hwi:(v.ws.map I)[i]?.getD .nil=I v.ws[i]:=by simp [h']
   generalize v.ws[i]=w at *
   generalize e.key[i]=k at *
   by_cases c0:k<0
   ·rw [show decide (0<=k)=false by simp;omega,Bool.false_and,Bool.false_and] at hf;rw [<- hf,Bool.false_and]
    repeat' ((conv=>whnf);first|exact trivial|(refine nv_ (I k) (by first|exact hki) ?_)|refine ru c0 ?_|refine aD1 ?_|refine rb0 ?_|refine aS ?_|refine nT_ ?_)
   ·rw [show decide (0<=k)=true by simp;omega,Bool.true_and] at hf
    by_cases c1:k<2^w.toNat
    ·rw [decide_eq_true c1,Bool.true_and] at hf;have hge: ¬k>=IntKind.wrap .i64 (1 * 2^(min w.toNat (IntKind.bits .i64))):=by rw [hs];omega
     repeat' ((conv=>whnf);first|(refine nv_ (I k) (by first|exact hki) ?_)|(refine nv_ (I w) (by first|exact hwi) ?_)|refine rq c0 ?_|refine rq hge ?_|refine aD1 ?_|(refine And.intro (by first|exact tC _|exact td _|(omega;done)|fail) ?_)|refine aS ?_|refine nT_ ?_)
     exact ⟨i+1,⟨h,hf⟩,by omega,by repeat' (first|exact wJ|refine And.intro ?_ ?_)⟩
    ·rw [decide_eq_false c1,Bool.false_and] at hf;have hge:k>=IntKind.wrap .i64 (1 * 2^(min w.toNat (IntKind.bits .i64))):=by rw [hs];omega
     rw [<- hf,Bool.false_and]
     repeat' ((conv=>whnf);first|exact trivial|(refine nv_ (I k) (by first|exact hki) ?_)|(refine nv_ (I w) (by first|exact hwi) ?_)|refine rq c0 ?_|refine ru hge ?_|refine aD1 ?_|refine rb0 ?_|(refine And.intro (by first|exact tC _|exact td _|(omega;done)|fail) ?_)|refine aS ?_|refine nT_ ?_)
  ·have e1:uV e.key v.ws=true:=by
    rw [<- hf,List.drop_eq_nil_of_le h,List.drop_eq_nil_of_le (by omega)];rfl
   repeat' ((conv=>whnf);first|refine aD0 ?_|refine aS ?_|fail)
   exact ⟨(),e1,by repeat' (first|exact wJ|refine And.intro ?_ ?_)⟩
 rintro - hf;rw [hf,Bool.true_and];unfold D3;have Gb:=zx before 74 (.cptr (ta e) 0) (fun x=>decide (x.var=e.var)&&decide (x.n=e.n)) hb fun i h=>DN before[i] e
 generalize (before.any fun x=>decide (x.var=e.var)&&decide (x.n=e.n))=b at *
 by_cases f2:v.fam=2
 ·rw [if_pos f2]
  by_cases hz:e.n=0
  ·rw [decide_eq_true hz]
   repeat' ((conv=>whnf);first|exact trivial|refine ry f2 ?_|refine ry hz ?_|refine rb1 ?_|refine aS ?_|refine nT_ ?_)
  ·rw [decide_eq_false hz]
   repeat' ((conv=>whnf);first|exact trivial|refine ry f2 ?_|refine rv hz ?_|refine rb0 ?_|refine aS ?_|refine nT_ ?_)
 rw [if_neg f2]
 by_cases f3:v.fam=3
 ·rw [if_pos f3]
  by_cases c1:e.n>=v.n
  ·rw [show decide (v.n<=e.n)=true by simpa using c1,Bool.true_and]
   by_cases c2:e.n<=v.m
   ·rw [decide_eq_true c2,Bool.true_and]
    repeat' ((conv=>whnf);first|exact trivial|refine rv f2 ?_|refine ry f3 ?_|refine ru c1 ?_|refine ru c2 ?_|refine sV _ (Gb) ?_|refine rbx ?_|refine aS ?_|refine nT_ ?_)
   ·rw [decide_eq_false c2,Bool.false_and]
    repeat' ((conv=>whnf);first|exact trivial|refine rv f2 ?_|refine ry f3 ?_|refine ru c1 ?_|refine rq c2 ?_|refine rb0 ?_|refine aS ?_|refine nT_ ?_)
  ·rw [show decide (v.n<=e.n)=false by simp;omega,Bool.false_and,Bool.false_and]
   repeat' ((conv=>whnf);first|exact trivial|refine rv f2 ?_|refine ry f3 ?_|refine rq c1 ?_|refine rb0 ?_|refine aS ?_|refine nT_ ?_)
 rw [if_neg f3]
 by_cases f4:v.fam=4
 ·rw [if_pos f4]
  by_cases c1:v.n=0
  ·rw [decide_eq_true c1,Bool.true_or]
   repeat' ((conv=>whnf);first|exact trivial|refine rv f2 ?_|refine rv f3 ?_|refine ry f4 ?_|refine ry c1 ?_|refine rb1 ?_|refine aS ?_|refine nT_ ?_)
  ·rw [decide_eq_false c1,Bool.false_or]
   by_cases c2:e.n<=v.n
   ·rw [decide_eq_true c2]
    repeat' ((conv=>whnf);first|exact trivial|refine rv f2 ?_|refine rv f3 ?_|refine ry f4 ?_|refine rv c1 ?_|refine ru c2 ?_|refine rb1 ?_|refine aS ?_|refine nT_ ?_)
   ·rw [decide_eq_false c2]
    repeat' ((conv=>whnf);first|exact trivial|refine rv f2 ?_|refine rv f3 ?_|refine ry f4 ?_|refine rv c1 ?_|refine rq c2 ?_|refine rb0 ?_|refine aS ?_|refine nT_ ?_)
 rw [if_neg f4]
 repeat' ((conv=>whnf);first|exact trivial|refine rv f2 ?_|refine rv f3 ?_|refine rv f4 ?_|refine rb1 ?_|refine aS ?_|refine nT_ ?_)
end Go.ST
end
section
end
section
namespace Go.ST
open Go Go.DL Go.MM Go.Proofs
open Go.TY hiding Fd
theorem B4(vars:List RV)(name:ByteArray):(tZ (xf name) vars= -1/\varOf vars name=none)\/ ∃(i:Nat) (h:i<vars.length),tZ (xf name) vars=i/\varOf vars name=some vars[i]:=wq (xf name) vars
theorem A0{vars:List RV}{st:List RE}{i:Nat}(h:i<st.length):yK vars (st.take i) (st.drop i)=if yJ vars (st.take i) st[i]=0 then yK vars (st.take (i+1)) (st.drop (i+1)) else yJ vars (st.take i) st[i]:=by
 rw [List.drop_eq_getElem_cons h,List.take_succ_eq_append_getElem h];rfl
theorem Am{st:List RE}{i:Nat}(h:i<st.length):yw (st.take i) st[i]=(decide (0<i)&&decide (tq (st[i - 1]'(by omega)) st[i]≠ -1)):=by
 unfold yw;cases i with
 |zero=>simp
 |succ i=>
  have:(st.take (i+1)).getLast? =some (st[i]'(by omega)):=by rw [List.take_succ_eq_append_getElem (by omega),List.getLast?_append];simp
  rw [this];simp
theorem xl{st:List RE}{i:Nat}:T.slice 4 (((st.map tc).take i).drop 0)=esT (st.take i):=by rw [List.drop_zero, <-List.map_take]
def vT(s:ByteArray)(n:Int):List (ByteArray×Int)->List (ByteArray×Int)
 |[]=>[(s,n)]
 |x::xs=>if x.1=s then (s,n)::xs else x::vT s n xs
def vA(m:List (ByteArray×Int))(s:ByteArray):Int:=((m.find? fun p=>decide (p.1=s)).map (·.2)).getD 0
def esC(m:List (ByteArray×Int)):List (T×T):=m.map fun p=>(T.str p.1,I p.2)
theorem DT(a b:ByteArray):(a==b)=decide (a=b):=by
 obtain ⟨a⟩:=a;obtain ⟨b⟩:=b
 by_cases h:a=b
 ·subst h;rw [decide_eq_true rfl];show (a==a)=true
  simp
 ·rw [decide_eq_false (fun e=>h (ByteArray.mk.inj e))];show (a==b)=false
  exact beq_false_of_ne h
theorem CH(a b:ByteArray):eqL (T.str a).cells (T.str b).cells=decide (a=b):=by
 show ((a==b)&&true)=_
 rw [Bool.and_true,DT]
theorem Bh(s:ByteArray)(n:Int): ∀m:List (ByteArray×Int),bA (.str s) (I n) (esC m)=esC (vT s n m)
 |[]=>rfl
 |x::xs=>by
  have ih:=Bh s n xs;show cond (eqL (T.str s).cells (T.str x.1).cells) _ _=esC (vT s n (x::xs))
  rw [CH];unfold vT
  by_cases h:x.1=s
  ·rw [decide_eq_true h.symm,if_pos h];rfl
  ·rw [decide_eq_false (fun e=>h e.symm),if_neg h,cond_false];show (T.str x.1,I x.2)::bA (.str s) (I n) (esC xs)=_
   rw [ih];rfl
theorem El(s:ByteArray)(m:List (ByteArray×Int)):nM (I 0) false (ep (T.str s).cells (esC m))=I (vA m s):=by
 have key:ep (T.str s).cells (esC m)=((m.find? fun p=>decide (p.1=s)).map (·.2)).map I:=by
  induction m with
  |nil=>rfl
  |cons x xs ih=>
   show cond (eqL (T.str s).cells (T.str x.1).cells) (some (I x.2)) (ep (T.str s).cells (esC xs))=_
   rw [CH,ih,List.find?_cons]
   by_cases h:x.1=s
   ·rw [decide_eq_true h.symm,decide_eq_true h];rfl
   ·rw [decide_eq_false (fun e=>h e.symm),decide_eq_false h];rfl
 rw [key];unfold vA;cases (m.find? fun p=>decide (p.1=s)) <;> rfl
theorem Bf(s t:ByteArray)(n:Int)(m:List (ByteArray×Int)):vA (vT s n m) t=if s=t then n else vA m t:=by
 unfold vA
 induction m with
 |nil=>unfold vT;by_cases h:s=t <;> simp [h]
 |cons x xs ih=>
  unfold vT
  by_cases hx:x.1=s
  ·rw [if_pos hx,List.find?_cons,List.find?_cons]
   by_cases h:s=t
   ·simp [h]
   ·rw [decide_eq_false h,decide_eq_false (fun e=>h (hx.symm.trans e)),if_neg h]
  ·rw [if_neg hx,List.find?_cons,List.find?_cons]
   by_cases h:x.1=t
   ·rw [decide_eq_true h]
    have: ¬s=t:=fun e=>hx (h.trans e.symm)
    rw [if_neg this]
   ·rw [decide_eq_false h];exact ih
def wg(st:List RE):List (ByteArray×Int):=st.foldl (fun m e=>vT e.var (vA m e.var+1) m) []
theorem xV{st:List RE}{i:Nat}(h:i<st.length):wg (st.take (i+1))=vT st[i].var (vA (wg (st.take i)) st[i].var+1) (wg (st.take i)):=by
 unfold wg;rw [List.take_succ_eq_append_getElem h,List.foldl_append];rfl
theorem xU(st:List RE)(v:ByteArray): ∀i,i<=st.length->vA (wg (st.take i)) v=tL (st.take i) v:=by
 intro i
 induction i with
 |zero=>intro _;rfl
 |succ i ih=>
  intro h;rw [xV h,Bf,zr h]
  by_cases hv:st[i].var=v
  ·subst hv;rw [if_pos rfl,if_pos rfl,ih (by omega)];rfl
  ·rw [if_neg hv,if_neg hv,ih (by omega)];rfl
theorem Ej{ks:List Nat}{bx:Nat->Option BX}{ag:Bool}{sh:List Sh}{es es':List (T×T)}(h:es=es'):LeB ks bx (.m ag sh es none) (some (.m ag sh es' none)):=by rw [h];exact .same _
theorem DG(vars:List RV)(hvl:vars.length<2^60)(hv: ∀v∈vars,VOk v)(st:List RE)(hl:st.length<2^60)(hk: ∀e∈st,kOk e):DCalls Tryz.prog 19 [vsT vars,esT st] (I (BG vars st)):=by
 refine dl2 mixed [.tmp 4] [I _] Tryz.func19 l19 ?_
 skip
 refine sM (α:=Nat) (fun i=>{sl:=[(0,.t (vsT vars)),(1,.t (esT st)),(5,.mp 9),(10,.t (esT st)),(11,.t (I st.length)),(12,.t (I i))],bx:=[(9,.m false [.str] (esC (wg (st.take i))) none)]})
  (fun i=>i<=st.length/\yK vars (st.take i) (st.drop i)=BG vars st) (fun i=>st.length - i) 0 ⟨by omega,rfl⟩ ?_ ?_
 ·repeat' (first|(exact leI (by simp))|exact wJ|refine And.intro ?_ ?_)
 rintro i ⟨hi,hc⟩;rcases Nat.lt_or_ge i st.length with h|h
 ·have hlt:(i:Int)<(st.length:Int):=by omega
  rw [A0 h] at hc;have hV:=Bv vars st[i] hvl;have hkE:=hk st[i] (List.getElem_mem h);have vR:=Am h;have hck:yJ vars (st.take i) st[i]=match varOf vars st[i].var with
   |none=>4
   |some v=>if xt v st[i] (st.take i)=false then 1 else if yw (st.take i) st[i]=true then 10 else if 100<=tL (st.take i) st[i].var then 2 else 0:=rfl
  rcases B4 vars st[i].var with ⟨hix,hvo⟩|⟨k,hkl,hix,hvo⟩
  ·rw [hix] at hV;rw [hvo] at hck;dsimp only at hck;rw [hck,if_neg (by decide)] at hc;rw [<- hc]
   repeat' ((conv=>whnf);first|exact trivial|refine ru hlt ?_|(refine nv_ (.agg (ta st[i])) (by first|exact tS h) ?_)|refine sV _ (hV) ?_|refine aD1 ?_|refine rix ?_|(refine And.intro (by first|exact td _) ?_)|refine aS ?_|refine nT_ ?_)
  ·rw [hix] at hV;rw [hvo] at hck;dsimp only at hck;have hF:=Ey vars[k] (hv _ (List.getElem_mem hkl)) st[i] hkE (st.take i) (by rw [List.length_take];omega);have xu: ¬((k:Nat):Int)<0:=by omega
   cases hf:xt vars[k] st[i] (st.take i) with
   |false=>
    rw [hf] at hF;rw [if_pos hf] at hck;rw [hck,if_neg (by decide)] at hc;rw [<- hc]
    repeat' ((conv=>whnf);first|exact trivial|refine ru hlt ?_|(refine nv_ (.agg (ta st[i])) (by first|exact tS h) ?_)|refine sV _ (hV) ?_|refine rq xu ?_|(refine nv_ (.agg (ua vars[k])) (by first|exact wK hkl) ?_)|(refine nv_ (esT (st.take i)) (by first|exact xl) ?_)|refine sV _ (hF) ?_|refine rix ?_|(refine And.intro (by first|exact td _) ?_)|refine aS ?_|refine nT_ ?_)
   |true=>
    rw [hf] at hF;rw [if_neg (show ¬xt vars[k] st[i] (st.take i)=false by simp [hf])] at hck;have hlk:=El st[i].var (wg (st.take i));rw [xU st _ i hi] at hlk;have hcl:=A1 (st:=st.take i) (v:=st[i].var);rw [List.length_take] at hcl;have hpt:=Bh st[i].var (((tL (st.take i) st[i].var:Nat):Int)+1) (wg (st.take i));have hnx:=xV h;rw [xU st _ i hi] at hnx;rw [<- hnx] at hpt;have ew1:IntKind.wrap .i64 (((tL (st.take i) st[i].var:Nat):Int)+1)=((tL (st.take i) st[i].var:Nat):Int)+1:=by rw [np] <;> omega
    rw [<- ew1] at hpt
    by_cases c0:0<i
    ·have hi0:(i:Int)>0:=by omega
     have hp:i - 1<st.length:=by omega
     have ew:IntKind.wrap .i64 ((i:Int) - 1)=((i - 1:Nat):Int):=by rw [np] <;> omega
     have hC:=uI (st[i - 1]'hp) st[i] (hk _ (List.getElem_mem hp)) hkE;have hr:=tg.r (st[i - 1]'hp) st[i];rw [decide_eq_true c0,Bool.true_and] at vR;generalize hce:tq (st[i - 1]'hp) st[i]=c at *
     by_cases c1:c= -1
     ·rw [show decide (c≠ -1)=false by simp [c1]] at vR;have hge: ¬c>=0:=by omega
      rw [if_neg (by simp [vR])] at hck
      by_cases c2:100<=tL (st.take i) st[i].var
      ·rw [if_pos c2] at hck;rw [hck,if_neg (by decide)] at hc;have yZ:((tL (st.take i) st[i].var:Nat):Int)>=100:=by omega
       rw [<- hc]
       repeat' ((conv=>whnf);first|exact trivial|refine ru hlt ?_|refine ru hi0 ?_|(refine nv_ (.agg (ta st[i])) (by first|exact tS h) ?_)|(refine nv_ (.agg (ta (st[i - 1]'hp))) (by first|((rw [ew];exact tS hp);done)|fail) ?_)|refine sV _ (hV) ?_|refine rq xu ?_|(refine nv_ (.agg (ua vars[k])) (by first|exact wK hkl) ?_)|(refine nv_ (esT (st.take i)) (by first|exact xl) ?_)|refine sV _ (hF) ?_|refine sV _ (hC) ?_|refine rq hge ?_|(refine nv_ (I (tL (st.take i) st[i].var:Nat)) (by first|exact hlk) ?_)|refine ru yZ ?_|refine rix ?_|(refine And.intro (by first|exact td _|exact ⟨rfl,trivial,trivial⟩|exact ⟨rfl,rfl,trivial⟩|exact ⟨rfl,trivial⟩|(omega;done)|((rw [ew];omega);done)|fail) ?_)|refine aS ?_|refine nT_ ?_)
      ·rw [if_neg c2] at hck;rw [hck,if_pos rfl] at hc;have yZ: ¬((tL (st.take i) st[i].var:Nat):Int)>=100:=by omega
       repeat' ((conv=>whnf);first|refine ru hlt ?_|refine ru hi0 ?_|(refine nv_ (.agg (ta st[i])) (by first|exact tS h) ?_)|(refine nv_ (.agg (ta (st[i - 1]'hp))) (by first|((rw [ew];exact tS hp);done)|fail) ?_)|refine sV _ (hV) ?_|refine rq xu ?_|(refine nv_ (.agg (ua vars[k])) (by first|exact wK hkl) ?_)|(refine nv_ (esT (st.take i)) (by first|exact xl) ?_)|refine sV _ (hF) ?_|refine sV _ (hC) ?_|refine rq hge ?_|(refine nv_ (I (tL (st.take i) st[i].var:Nat)) (by first|exact hlk) ?_)|refine rq yZ ?_|(refine And.intro (by first|exact td _|exact ⟨rfl,trivial,trivial⟩|exact ⟨rfl,rfl,trivial⟩|exact ⟨rfl,trivial⟩|(omega;done)|((rw [ew];omega);done)|fail) ?_)|refine aS ?_|refine nT_ ?_)
       exact ⟨i+1,⟨h,hc⟩,by omega,by repeat' (first|(exact Ej hpt.symm)|exact wJ|refine And.intro ?_ ?_)⟩
     ·rw [show decide (c≠ -1)=true by simp [c1]] at vR;have hge:c>=0:=by omega
      rw [if_pos vR] at hck;rw [hck,if_neg (by decide)] at hc;rw [<- hc]
      repeat' ((conv=>whnf);first|exact trivial|refine ru hlt ?_|refine ru hi0 ?_|(refine nv_ (.agg (ta st[i])) (by first|exact tS h) ?_)|(refine nv_ (.agg (ta (st[i - 1]'hp))) (by first|((rw [ew];exact tS hp);done)|fail) ?_)|refine sV _ (hV) ?_|refine rq xu ?_|(refine nv_ (.agg (ua vars[k])) (by first|exact wK hkl) ?_)|(refine nv_ (esT (st.take i)) (by first|exact xl) ?_)|refine sV _ (hF) ?_|refine sV _ (hC) ?_|refine ru hge ?_|refine rix ?_|(refine And.intro (by first|exact td _|(omega;done)|((rw [ew];omega);done)|fail) ?_)|refine aS ?_|refine nT_ ?_)
    ·have hi0: ¬(i:Int)>0:=by omega
     rw [decide_eq_false c0,Bool.false_and] at vR;rw [if_neg (by simp [vR])] at hck;have c2: ¬100<=tL (st.take i) st[i].var:=by omega
     rw [if_neg c2] at hck;rw [hck,if_pos rfl] at hc;have yZ: ¬((tL (st.take i) st[i].var:Nat):Int)>=100:=by omega
     repeat' ((conv=>whnf);first|refine ru hlt ?_|refine rq hi0 ?_|(refine nv_ (.agg (ta st[i])) (by first|exact tS h) ?_)|refine sV _ (hV) ?_|refine rq xu ?_|(refine nv_ (.agg (ua vars[k])) (by first|exact wK hkl) ?_)|(refine nv_ (esT (st.take i)) (by first|exact xl) ?_)|refine sV _ (hF) ?_|(refine nv_ (I (tL (st.take i) st[i].var:Nat)) (by first|exact hlk) ?_)|refine rq yZ ?_|(refine And.intro (by first|exact td _|exact ⟨rfl,trivial,trivial⟩|exact ⟨rfl,rfl,trivial⟩|exact ⟨rfl,trivial⟩) ?_)|refine aS ?_|refine nT_ ?_)
     exact ⟨i+1,⟨h,hc⟩,by omega,by repeat' (first|(exact Ej hpt.symm)|exact wJ|refine And.intro ?_ ?_)⟩
 ·have hlt: ¬(i:Int)<(st.length:Int):=by omega
  obtain rfl:i=st.length:=by omega
  rw [<- hc,List.drop_length]
  repeat' ((conv=>whnf);first|refine rq hlt ?_|refine rix ?_|refine aS ?_|exact trivial)
theorem Em{i j:Nat}(h:i+j<2^61):IntKind.wrap .i64 ((IntKind.wrap .u64 (IntKind.wrap .i64 ((i:Int)+(j:Int)))).fdiv (2^(min (1:Int).toNat (IntKind.bits .u64))))=(((i+j) / 2:Nat):Int):=by
 rw [np (n:=(i:Int)+j) (by omega) (by omega)];have u1: ∀n:Int,0<=n->n<18446744073709551616->IntKind.wrap .u64 n=n:=fun n h0 h1=>by
  unfold IntKind.wrap;simp [IntKind.bits,IntKind.signed];omega
 rw [u1 ((i:Int)+j) (by omega) (by omega)];have e2:((i:Int)+(j:Int)).fdiv (2^(min (1:Int).toNat (IntKind.bits .u64)))=(((i+j) / 2:Nat):Int):=by
  show ((i:Int)+(j:Int)).fdiv 2=_
  rw [Int.fdiv_eq_ediv_of_nonneg _ (by omega)];omega
 rw [e2,np (by omega) (by omega)]
def isE(st:List RE)(e:RE):Bool:=(ud st e.var e.key).isSome
theorem Di{st:List RE}(hs:tI st){e:RE}(h:tu st e<st.length):isE st e=decide (tq st[tu st e] e=0):=by
 unfold isE;rw [vt hs,ggZ h];dsimp only
 by_cases h0:tq st[tu st e] e=0 <;> simp [h0]
theorem zK{st:List RE}(hs:tI st){e:RE}(h: ¬tu st e<st.length):isE st e=false:=by
 unfold isE;rw [vt hs,List.getElem?_eq_none (by omega)];rfl
theorem Cu(st:List RE)(hs:tI st)(hl:st.length<2^40)(hk: ∀x∈st,kOk x)(e:RE)(he:kOk e):
  DCalls Tryz.prog 112 [esT st,tc e,.clos 35 []] (.tup [I (tu st e),.bool (isE st e)]):=by
 refine dl2 mixed [.tmp 6,.tmp 7] [I _,.bool _] Tryz.func112 Gu ?_;have BZ:=xF st e
 repeat' ((conv=>whnf);first|(refine And.intro (by first|exact td _) ?_)|fail)
 refine sM (α:=Nat×Nat) (fun p=>{sl:=[(0,.t (esT st)),(2,.t (.clos 35 [])),(4,.ptr 4 0),(8,.t (I st.length)),(9,.t (I p.1)),(10,.t (I p.2))],bx:=[(4,.d 4 (ta e))]})
  (fun p=>p.1<=tu st e/\tu st e<=p.2/\p.2<=st.length) (fun p=>p.2 - p.1) (0,st.length) ⟨Nat.zero_le _,BZ,Nat.le_refl _⟩ ?_ ?_
 ·repeat' (first|(exact leI (by simp))|exact wJ|refine And.intro ?_ ?_)
 rintro ⟨i,j⟩ ⟨h1,h2,h3⟩;dsimp only at h1 h2 h3;rcases Nat.lt_or_ge i j with hij|hij
 ·have hlt:(i:Int)<(j:Int):=by omega
  have e1:=Em (i:=i) (j:=j) (by omega);have h4:(i+j) / 2<st.length:=by omega
  have hC:=uI st[(i+j) / 2] e (hk _ (List.getElem_mem h4)) he;have hp:=xG hs (e:=e) h4;have hr:=tg.r st[(i+j) / 2] e;generalize tq st[(i+j) / 2] e=c at *
  by_cases hc:c= -1
  ·have hc0:c<0:=by omega
   have hq:=hp.1 hc
   repeat' ((conv=>whnf);first|refine ru hlt ?_|(refine nv_ (.agg (ta st[(i+j) / 2])) (by first|((dsimp only;rw [e1,Int.toNat_natCast];exact tS h4);done)|fail) ?_)|refine sV _ (hC) ?_|refine ru hc0 ?_|(refine And.intro (by first|exact td _|((dsimp only;rw [e1];simp;omega);done)|fail) ?_)|refine aS ?_|refine nT_ ?_)
   exact ⟨((i+j) / 2+1,j),⟨hq,h2,h3⟩,by dsimp only;omega,by repeat' (first|(exact leI (by dsimp only;rw [e1,np] <;> omega))|exact wJ|refine And.intro ?_ ?_)⟩
  ·have hc0: ¬c<0:=by omega
   have hq:tu st e<=(i+j) / 2:=Nat.le_of_not_lt fun h=>hc (hp.2 h)
   repeat' ((conv=>whnf);first|refine ru hlt ?_|(refine nv_ (.agg (ta st[(i+j) / 2])) (by first|((dsimp only;rw [e1,Int.toNat_natCast];exact tS h4);done)|fail) ?_)|refine sV _ (hC) ?_|refine rq hc0 ?_|(refine And.intro (by first|exact td _|((dsimp only;rw [e1];simp;omega);done)|fail) ?_)|refine aS ?_|refine nT_ ?_)
   exact ⟨(i,(i+j) / 2),⟨h1,hq,by dsimp only;omega⟩,by dsimp only;omega,by repeat' (first|(exact leI e1.symm)|exact wJ|refine And.intro ?_ ?_)⟩
 ·have hlt: ¬(i:Int)<(j:Int):=by omega
  obtain rfl:i=tu st e:=by omega
  rcases Nat.lt_or_ge (tu st e) st.length with h4|h4
  ·have Ah:((tu st e:Nat):Int)<(st.length:Int):=by omega
   have hC:=uI st[tu st e] e (hk _ (List.getElem_mem h4)) he;rw [Di hs h4];generalize tq st[tu st e] e=c at *
   by_cases hc:c=0
   ·rw [decide_eq_true hc]
    repeat' ((conv=>whnf);first|exact trivial|refine rq hlt ?_|refine ru Ah ?_|(refine nv_ (.agg (ta st[tu st e])) (by first|exact tS h4) ?_)|refine sV _ (hC) ?_|refine ry hc ?_|refine rb1 ?_|refine rix ?_|(refine And.intro (by first|exact td _) ?_)|refine aS ?_|refine nT_ ?_)
   ·rw [decide_eq_false hc]
    repeat' ((conv=>whnf);first|exact trivial|refine rq hlt ?_|refine ru Ah ?_|(refine nv_ (.agg (ta st[tu st e])) (by first|exact tS h4) ?_)|refine sV _ (hC) ?_|refine rv hc ?_|refine rb0 ?_|refine rix ?_|(refine And.intro (by first|exact td _) ?_)|refine aS ?_|refine nT_ ?_)
  ·have Ah: ¬((tu st e:Nat):Int)<(st.length:Int):=by omega
   rw [zK hs (by omega)]
   repeat' ((conv=>whnf);first|refine rq hlt ?_|refine rq Ah ?_|refine rb0 ?_|refine rix ?_|refine aS ?_|exact trivial)
theorem zO(st:List RE)(hs:tI st)(hl:st.length<2^40)(hk: ∀x∈st,kOk x)(e:RE)(he:kOk e):
  DCalls Tryz.prog 86 [esT st,tc e,.clos 35 []] (.tup [I (tu st e),.bool (isE st e)]):=by
 refine dl2 mixed [.tmp 6,.tmp 7] [I _,.bool _] Tryz.func86 l86 ?_;have h:=Cu st hs hl hk e he
 repeat' ((conv=>whnf);first|refine sV _ (h) ?_|refine rbx ?_|refine rix ?_|(refine And.intro (by first|exact td _) ?_)|exact trivial)
abbrev zE:T:=.agg [.str ⟨#[]⟩,.nil,I 0,I 0]
def FZ(o:Option RE):T:=match o with
 |some e=>.tup [tc e,.bool true]
 |none=>.tup [zE,.bool false]
theorem Et(st:List RE)(hs:tI st)(hl:st.length<2^40)(hk: ∀x∈st,kOk x)(v:ByteArray)(key:List Int)(he:key.length<2^60):
  DCalls Tryz.prog 66 [esT st,.str v,.slice 1 (key.map I)] (FZ (ud st v key)):=by
 have h:=zO st hs hl hk ⟨v,key,0,0⟩ he;have hp:=vt hs ⟨v,key,0,0⟩;dsimp only at hp;have hi:isE st ⟨v,key,0,0⟩=(ud st v key).isSome:=rfl;rw [hi] at h;cases hf:ud st v key with
 |none=>
  rw [hf] at h;refine dl2 mixed [.cell 6 46,.tmp 7] [zE,.bool false] Tryz.func66 l66 ?_
  repeat' ((conv=>whnf);first|refine sV _ (h) ?_|refine rb0 ?_|refine aS ?_|exact trivial)
 |some x=>
  rw [hf] at h hp;have hlt:tu st ⟨v,key,0,0⟩<st.length:=by
   rcases Nat.lt_or_ge (tu st ⟨v,key,0,0⟩) st.length with h4|h4
   ·exact h4
   ·rw [List.getElem?_eq_none h4] at hp;cases hp
  rw [ggZ hlt] at hp;dsimp only at hp;have hx:st[tu st ⟨v,key,0,0⟩]=x:=by
   split at hp
   ·exact (Option.some.inj hp).symm
   ·cases hp
  have hg:=tS hlt;rw [hx] at hg;refine dl2 mixed [.cell 6 46,.tmp 7] [tc x,.bool true] Tryz.func66 l66 ?_;generalize tu st ⟨v,key,0,0⟩=p at *
  repeat' ((conv=>whnf);first|exact trivial|refine sV _ (h) ?_|(refine nv_ (.agg (ta x)) (by first|exact hg) ?_)|refine rb1 ?_|(refine And.intro (by first|exact td _|((simp;omega);done)|fail) ?_)|refine aS ?_|refine nT_ ?_)
end Go.ST
end
section
end
section
end
section
namespace Go.ST
open Go Go.DL Go.MM Go.Proofs
abbrev zeV:Value:=.agg #[.string ByteArray.empty,.slice none 0 0,.int .i64 0,.int .i64 0]
theorem u7:(Tryz.prog.info? 46).map (fun i=>(i.zero,i.size,i.bytes))=some (some zeV,4,56):=by kernel_rfl
theorem tH:Tryz.prog.underlying 22=some (.slice 46):=by kernel_rfl
abbrev tf(k:Nat):Array Value:=Builtin.zeroCells zeV.cells k
theorem yd(w:World)(ty:TypeId)(base:Option Addr)(n c:Nat)(olds:List Value)(hold:(Builtin.firstCells 4 n (.slice base n c)).run Tryz.prog w.drew= .ok olds.toArray w.drew)(b off m cap:Nat)(news:List Value)(hl:news.length=m * 4)
  (hc: ∀j u,news[j]? =some u->w.cell? ⟨b,off+j,none⟩=some u) (h1: ∀u∈news,u.oneCell'=true) (hg:c<n+m) (il:(n+m) * 56<=140737488355328):
  (Builtin.append_ #[22,22] ty #[.slice base n c,.slice (some ⟨b,off,none⟩) m cap]).run Tryz.prog w=
   .ok (.slice (some ⟨w.heap.size,0,none⟩) (n+m) (grownCap w (n+m) c 46)) (w.drew.alloc (.cells ((olds++news).toArray++tf (grownCap w (n+m) c 46 - (n+m))) 46)):=by
 obtain ⟨i0,hi,hz0,hz1,hz2⟩:=info_parts u7;have sH:Src Tryz.prog i0.size 22 (.slice (some ⟨b,off,none⟩) m cap) m news w:=by
  rw [hz1];exact Src.ofSlice w tH ⟨b,off,none⟩ m cap news hl (fun j u hj=>by rw [Addr.add_lit];exact hc j u hj) h1
 exact run_append_grow_src w 22 22 ty 46 i0 zeV tH hi hz0 base n c olds (by rw [hz1];exact hold) _ m news sH hg (by omega) (by rw [hz2];exact growslice_fits hg il)
theorem nil_eq(w:World)(a:Option Addr)(n c n' c':Nat):(binOp .eql 22 (.slice a n c) (.slice none n' c')).run Tryz.prog w= .ok (.bool a.isNone) w:=Lib.run_eql_slice_nil w _ _ a n c n' c' tH
theorem zB(b off n cap:Nat)(news:List Value)(w:World)(hn:0<n)(hl:news.length=n * 4)(il:n * 56<=140737488355328)(hc: ∀j u,news[j]? =some u->w.cell? ⟨b,off+j,none⟩=some u)(h1: ∀u∈news,u.oneCell'=true):
  Calls Tryz.prog 119 #[.slice (some ⟨b,off,none⟩) n cap] w fun e w'=> ∃G,n<=G/\G<=maxLen/\e= .returned (.slice (some ⟨w.heap.size+1,0,none⟩) n G)/\
   w'=((w.alloc (.cells #[] 46)).drew.alloc (.cells (news.toArray++tf (G - n)) 46)):=by
 have q22:=nil_eq;have u22: ∀w,Sem.run Tryz.prog (underlying 22) w= .ok (TypeDesc.slice 46) w:=run_underlying tH;have mx:=mixed;have aJ:=fun ty=>yd (w.alloc (.cells #[] 46)) ty (some ⟨w.heap.size,0,none⟩) 0 0 [] (run_firstCells_some (P:=Tryz.prog) (w.alloc (.cells #[] 46)).drew 4 0 ⟨w.heap.size,0,none⟩ 0 0 [] rfl (fun j v hj=>by simp at hj)) b off n cap news hl (fun j u hj=>Lib.cell?_alloc_some _ (hc j u hj)) h1 (by omega) (by omega)
 simp only [Nat.zero_add,List.nil_append] at aJ;have hge:=grownCap_ge (w.alloc (.cells #[] 46)) n 0 46;have hle:=grownCap_le_maxLen (w.alloc (.cells #[] 46)) n 0 46 (by unfold maxLen;omega);generalize grownCap (w.alloc (.cells #[] 46)) n 0 46=G at *
 have hsz:(w.alloc (.cells #[] 46)).heap.size=w.heap.size+1:=Array.size_push _;rw [hsz] at aJ
 go_enter Tryz.func119,Tryz.ntmps119
 go_wp2_with (at_builtin;refine Lib.wpList_append_run _ rfl _ _ _ _ rfl _ _ rfl rfl _ _ (aJ _) ?_)
 go_ret
 exact ⟨G,hge,hle,rfl,rfl⟩
theorem yL(a:Option Addr)(cap:Nat)(w:World):Calls Tryz.prog 119 #[.slice a 0 cap] w fun e w'=> ∃b,e= .returned (.slice b 0 0)/\(w'=w\/w'=w.alloc (.cells #[] 46)):=by
 have q22:=nil_eq;have u22: ∀w,Sem.run Tryz.prog (underlying 22) w= .ok (TypeDesc.slice 46) w:=run_underlying tH;have mx:=mixed;obtain ⟨i0,hi,hz0,hz1,hz2⟩:=info_parts u7;cases a with
 |none=>
  go_enter Tryz.func119,Tryz.ntmps119
  go_wp2
  go_ret
  exact ⟨_,rfl,Or.inl rfl⟩
 |some a=>
  have aJ:=fun ty=>run_append_room_src (P:=Tryz.prog) (w.alloc (.cells #[] 46)) 22 22 ty 46 i0 tH hi w.heap.size 0 0 0 (.slice (some a) 0 cap) 0 [] (Src.ofSlice (P:=Tryz.prog) (size:=i0.size) (w.alloc (.cells #[] 46)) tH a 0 cap [] (by simp) (fun j u hj=>by simp at hj) (by simp)) (by omega) (fun j hj=>by simp at hj) (fun j hj=>by simp at hj)
  go_enter Tryz.func119,Tryz.ntmps119
  go_wp2_with (at_builtin;refine Lib.wpList_append_run _ rfl _ _ _ _ rfl _ _ rfl rfl _ _ (aJ _) ?_)
  go_ret
  exact ⟨_,rfl,Or.inr rfl⟩
theorem vH{P:Program}{ops:Array Oper}{o:Oper}{a:Act}{w:World}{K:Act->World->Prop}{Q:Exit->Act->World->Prop}{E:Prop}
  (hg:o.guard=none) (d x:Operand) (dT sT:TypeId) (hop:o.op=Op.call {callee:=Callee.builtin Builtin.copy,args:= #[d,x],argTypes:= #[dT,sT]})
  (v u:Value) (hd:a.eval d=v) (hx:a.eval x=u) {v':Value} {w':World} (hr:(Builtin.copy_ #[dT,sT] o.type #[v,u]).run P w= .ok v' w') (hK:K (a.put o.dst v') w'):
  if Region.wanted o (yielded ops a.tmps)=true then Oper.wp P o a w K Q else E:=by
 have hw:Region.wanted o (yielded ops a.tmps)=true:=by simp [Region.wanted,hg]
 rw [if_pos hw];unfold Oper.wp;simp [execOp,hop,resolve,invoke,builtin,hd,hx,hr,Result.andThen];exact hK
theorem tP(b:Nat)(vs:List Value)(o:Nat)(w:World)(h: ∀j,j<vs.length->(w.cell? ⟨b,o+j,none⟩).isSome=true)(k:Nat)(hk:(w.cell? ⟨b,k,none⟩).isSome=true):((w.setCells b o vs).cell? ⟨b,k,none⟩).isSome=true:=by
 by_cases hin:o<=k/\k<o+vs.length
 ·have:=World.cell?_setCells_in b vs o w h (k - o) (by omega)
  rw [show o+(k - o)=k by omega] at this;rw [this];rfl
 ·rw [World.cell?_setCells_out b vs o w ⟨b,k,none⟩ (fun _ _=>by show k<o\/o+vs.length<=k;omega)];exact hk
theorem szE:(Tryz.prog.info? 46).map (·.size)=some 4:=by
 obtain ⟨i0,hi,hz0,hz1,hz2⟩:=info_parts u7;rw [hi];simp [hz1]
theorem DC(w:World):(Go.sizeOf 46).run Tryz.prog w= .ok 4 w:=by
 obtain ⟨i0,hi,hz0,hz1,hz2⟩:=info_parts u7;simp [Go.sizeOf,typeInfo,hi,hz1]
theorem Bc(b off n c i vb voff vc:Nat)(cs vs:List Value)(w:World)(hi:i<n)(bn:n+1<=c)(F3:c<=9223372036854775807)(hvb:vb≠b)
  (hcl:cs.length=n * 4) (hvl:vs.length=4)
  (hcs: ∀j v,cs[j]? =some v->w.cell? ⟨b,off+j,none⟩=some v) (hsp: ∀j,j<(n+1) * 4->(w.cell? ⟨b,off+j,none⟩).isSome=true) (hfz: ∀j,j<(n+1) * 4->w.frozen? ⟨b,off+j,none⟩=false)
  (hvs: ∀j v,vs[j]? =some v->w.cell? ⟨vb,voff+j,none⟩=some v) (h1c: ∀v∈cs,v.oneCell'=true) (h1v: ∀v∈vs,v.oneCell'=true)
  (tA tB:TypeId) (kA kB:Nat) (hsa:w.shape? vb=some (tA,kA)) (hsb:w.shape? b=some (tB,kB)) (hkB:kB≠0) (hfa:w.frozen? ⟨vb,voff,none⟩=false) (hfe:w.frozen? ⟨vb,kA,none⟩=false):
  Calls Tryz.prog 120 #[.slice (some ⟨b,off,none⟩) n c,.int .i64 i,.slice (some ⟨vb,voff,none⟩) 1 vc] w fun e w'=>
   e= .returned (.slice (some ⟨b,off,none⟩) (n+1) c)/\w'=(w.drew.setCells b (off+(i+1) * 4) (cs.drop (i * 4))).setCells b (off+i * 4) vs:=by
 have u24: ∀w,Sem.run Tryz.prog (underlying 22) w= .ok (TypeDesc.slice 46) w:=run_underlying tH;have mx:=mixed;have hz2: ¬((i:Int)=(n:Int)):=by omega
 have hsz:=szE;have hov: ∀lb cb,(callFunc 124 #[.slice (some ⟨vb,voff,none⟩) 1 vc,.slice (some ⟨b,off+(i+1) * 4,none⟩) lb cb]).run Tryz.prog w= .ok (.value (.bool false)) w:=fun lb cb=>by
  rw [run_callFunc_extern Tryz.func124 (by kernel_rfl) (by kernel_rfl) (by kernel_rfl) (e:=Extern.SlicesOverlaps.overlaps #[22,22] #[4]) (by kernel_rfl),
   Lib.run_overlaps_apart w 22 4 46 tH 4 DC ⟨vb,voff,none⟩ ⟨b,off+(i+1) * 4,none⟩ 1 vc lb cb hvb tA tB kA kB hsa hsb hkB hfa hfe]
  rfl
 have hdl:(cs.drop (i * 4)).length=(n - i) * 4:=by rw [List.length_drop,hcl];omega
 have D8: ∀ty dc sc,(Builtin.copy_ #[22,22] ty #[.slice (some ⟨b,off+(i+1) * 4,none⟩) (n - i) dc,.slice (some ⟨b,off+i * 4,none⟩) (n+1 - i) sc]).run Tryz.prog w.drew= .ok (goInt (Nat.min (n+1 - i) (n - i))) (w.drew.setCells b (off+(i+1) * 4) (cs.drop (i * 4))):=fun ty dc sc=>
  rJ w.drew _ _ ty 46 4 b (off+(i+1) * 4) (n - i) dc ⟨b,off+i * 4,none⟩ (n+1 - i) sc (cs.drop (i * 4)) tH hsz (by rw [hdl];simp only [Nat.min_def];split <;> omega)
   (fun j v hj=>by rw [Addr.add_lit,Nat.add_assoc];exact hcs (i * 4+j) v (by rwa [List.getElem?_drop] at hj))
   (fun j hj=>by rw [Nat.add_assoc];exact hsp _ (by omega)) (fun j hj=>by rw [Nat.add_assoc];exact hfz _ (by omega)) (fun v hv=>h1c v (List.mem_of_mem_drop hv))
 obtain ⟨W1,hW1⟩: ∃W1,W1=w.drew.setCells b (off+(i+1) * 4) (cs.drop (i * 4)):=⟨_,rfl⟩
 have Gh: ∀k,k<(n+1) * 4->(W1.cell? ⟨b,off+k,none⟩).isSome=true:=fun k hk=>by
  rw [hW1];exact tP b _ _ _ (fun j hj=>by rw [Nat.add_assoc];exact hsp _ (by omega)) _ (hsp k hk)
 have F4: ∀(W:World),(∀ x,W.cell? x=W1.cell? x)->(∀ x,W.frozen? x=W1.frozen? x)-> ∀ty dc,(Builtin.copy_ #[22,22] ty #[.slice (some ⟨b,off+i * 4,none⟩) (n+1 - i) dc,.slice (some ⟨vb,voff,none⟩) 1 vc]).run Tryz.prog W= .ok (goInt (Nat.min 1 (n+1 - i))) (W.setCells b (off+i * 4) vs):=fun W hWc hWf ty dc=>
  rJ W _ _ ty 46 4 b (off+i * 4) (n+1 - i) dc ⟨vb,voff,none⟩ 1 vc vs tH hsz (by rw [hvl];simp only [Nat.min_def];split <;> omega)
   (fun j v hj=>by
    rw [Addr.add_lit,hWc,hW1,World.cell?_setCells_out b _ _ _ _ (fun h _=>absurd h hvb)];exact hvs j v hj)
   (fun j hj=>by rw [hWc,Nat.add_assoc];exact Gh _ (by omega)) (fun j hj=>by rw [hWf,hW1,World.frozen?_setCells,Nat.add_assoc];exact hfz _ (by omega)) h1v
 rw [<- hW1] at D8;have hw1:IntKind.i64.wrap ((i:Int)+1)=(i:Int)+1:=by rw [IntKind.wrap_i64];omega
 have hw2:IntKind.i64.wrap ((n:Int)+1)=(n:Int)+1:=by rw [IntKind.wrap_i64];omega
 have hb1:(0:Int)<=(i:Int)+1:=by omega
 have hin:i<=n:=by omega
 have htn:((i:Int)+1).toNat=i+1:=by omega
 have GQ:((n:Int)+1).toNat=n+1:=by omega
 have hb2: ¬(c=i+1):=by omega
 have hb3:(i:Int)<=(n:Int)+1:=by omega
 have hb4: ¬(c=i):=by omega
 go_enter Tryz.func120,Tryz.ntmps120
 go_wp2_with (simp only [hov])
 go_region_law_o (refine vH rfl _ _ 22 22 rfl _ _ (by simp [Act.eval,Act.put]) (by simp [Act.eval,Act.put]) (D8 _ _ _) ?_)
 go_wp2_with (at_builtin;refine wpList_copy_run' _ rfl _ _ 22 22 rfl _ _ rfl rfl (F4 _ (fun _=>rfl) (fun _=>rfl) _ _) ?_)
 go_ret
 first|exact ⟨rfl,rfl⟩|exact ⟨rfl,by rw [hW1]⟩
theorem B6(b off n c vb voff vc:Nat)(vs:List Value)(w:World)(bn:n+1<=c)(F3:c<=9223372036854775807)
  (hvl:vs.length=4) (hsp: ∀j,j<4->(w.cell? ⟨b,off+n * 4+j,none⟩).isSome=true) (hfz: ∀j,j<4->w.frozen? ⟨b,off+n * 4+j,none⟩=false)
  (hvs: ∀j v,vs[j]? =some v->w.cell? ⟨vb,voff+j,none⟩=some v) (h1v: ∀v∈vs,v.oneCell'=true):
  Calls Tryz.prog 120 #[.slice (some ⟨b,off,none⟩) n c,.int .i64 n,.slice (some ⟨vb,voff,none⟩) 1 vc] w fun e w'=>
   e= .returned (.slice (some ⟨b,off,none⟩) (n+1) c)/\w'=w.setCells b (off+n * 4) vs:=by
 have u24: ∀w,Sem.run Tryz.prog (underlying 22) w= .ok (TypeDesc.slice 46) w:=run_underlying tH;have mx:=mixed;obtain ⟨i0,hi,hz0,hz1,hz2⟩:=info_parts u7;have sH:Src Tryz.prog i0.size 22 (.slice (some ⟨vb,voff,none⟩) 1 vc) 1 vs w:=by
  rw [hz1];exact Src.ofSlice w tH ⟨vb,voff,none⟩ 1 vc vs (by omega) (fun j u hj=>by rw [Addr.add_lit];exact hvs j u hj) h1v
 have aJ:=fun ty=>run_append_room_src w 22 22 ty 46 i0 tH hi b off n c _ 1 vs sH bn (by rw [hvl,hz1];exact hsp) (by rw [hvl,hz1];exact hfz)
 rw [hz1] at aJ
 go_enter Tryz.func120,Tryz.ntmps120
 go_wp2_with (at_builtin;refine Lib.wpList_append_run _ rfl _ _ _ _ rfl _ _ rfl rfl _ _ (aJ _) ?_)
 go_ret
 exact ⟨rfl,rfl⟩
theorem xX(base:Option Addr)(n c vb voff vc:Nat)(cs vs:List Value)(w:World)(bn:c<n+1)(il:(n+1) * 56<=140737488355328)
  (hvl:vs.length=4) (hold:(Builtin.firstCells 4 n (.slice base n c)).run Tryz.prog w.drew= .ok cs.toArray w.drew)
  (hvs: ∀j v,vs[j]? =some v->w.cell? ⟨vb,voff+j,none⟩=some v) (h1v: ∀v∈vs,v.oneCell'=true):
  Calls Tryz.prog 120 #[.slice base n c,.int .i64 n,.slice (some ⟨vb,voff,none⟩) 1 vc] w fun e w'=>
   e= .returned (.slice (some ⟨w.heap.size,0,none⟩) (n+1) (grownCap w (n+1) c 46))/\
   w'=w.drew.alloc (.cells ((cs++vs).toArray++tf (grownCap w (n+1) c 46 - (n+1))) 46):=by
 have u24: ∀w,Sem.run Tryz.prog (underlying 22) w= .ok (TypeDesc.slice 46) w:=run_underlying tH;have mx:=mixed;have aJ:=fun ty=>yd w ty base n c cs hold vb voff 1 vc vs (by omega) hvs h1v bn il
 go_enter Tryz.func120,Tryz.ntmps120
 cases base with
 |none=>
  go_wp2_with (at_builtin;refine Lib.wpList_append_run _ rfl _ _ _ _ rfl _ _ rfl rfl _ _ (aJ _) ?_)
  all_goals (go_ret;exact ⟨rfl,rfl⟩)
 |some a=>
  obtain ⟨ab,ao,asp⟩:=a
  go_wp2_with (at_builtin;refine Lib.wpList_append_run _ rfl _ _ _ _ rfl _ _ rfl rfl _ _ (aJ _) ?_)
  all_goals (go_ret;exact ⟨rfl,rfl⟩)
theorem B5(b off n c i vb voff vc:Nat)(cs vs:List Value)(w:World)(hi:i<n)(hnc:n<=c)(bn:c<n+1)(il:(n+1) * 56<=140737488355328)
  (hcl:cs.length=n * 4) (hvl:vs.length=4)
  (hcs: ∀j v,cs[j]? =some v->w.cell? ⟨b,off+j,none⟩=some v)
  (hvs: ∀j v,vs[j]? =some v->w.cell? ⟨vb,voff+j,none⟩=some v) (h1c: ∀v∈cs,v.oneCell'=true) (h1v: ∀v∈vs,v.oneCell'=true):
  Calls Tryz.prog 120 #[.slice (some ⟨b,off,none⟩) n c,.int .i64 i,.slice (some ⟨vb,voff,none⟩) 1 vc] w fun e w'=>
   e= .returned (.slice (some ⟨w.heap.size,0,none⟩) (n+1) (grownCap w (n+1) c 46))/\
   w'=(((w.alloc (.cells ((cs.take (i * 4)).toArray++tf (n+1 - i)++tf (grownCap w (n+1) c 46 - (n+1))) 46)).drew.setCells w.heap.size (i * 4) vs).drew).setCells w.heap.size ((i+1) * 4) (cs.drop (i * 4)):=by
 have u24: ∀w,Sem.run Tryz.prog (underlying 22) w= .ok (TypeDesc.slice 46) w:=run_underlying tH;have mx:=mixed;obtain ⟨i0,hi0,hz0,hzs,hzb⟩:=info_parts u7;have hz2: ¬((i:Int)=(n:Int)):=by omega
 have hz3:(c:Int)<(n:Int)+1:=by omega
 have hsz:=szE;have hbw:b<w.heap.size:=block_lt_of_cell (hcs 0 _ (ggZ (by omega)));have hvw:vb<w.heap.size:=block_lt_of_cell (hvs 0 _ (ggZ (by omega)));have hkk:(n:Int)+1 - (i:Int)=((n+1 - i:Nat):Int):=by omega
 have hik:i+(n+1 - i)=n+1:=by omega
 have hold:(Builtin.firstCells i0.size i (.slice (some ⟨b,off,none⟩) i c)).run Tryz.prog w.drew= .ok (cs.take (i * 4)).toArray w.drew:=by
  rw [hzs];exact run_firstCells_some w.drew 4 i ⟨b,off,none⟩ i c (cs.take (i * 4)) (by rw [List.length_take];omega) (fun j v hj=>by
   rw [Addr.add_lit];rw [List.getElem?_take] at hj;split at hj
   ·exact hcs j v hj
   ·cases hj)
 have undI:Tryz.prog.underlying 3=some (.int .i64):=by kernel_rfl
 have hrz: ∀ty,(Builtin.append_ #[22,3] ty #[.slice (some ⟨b,off,none⟩) i c,.int .i64 ((n:Int)+1 - (i:Int))]).run Tryz.prog w=
   .ok (.slice (some ⟨w.heap.size,0,none⟩) (n+1) (grownCap w (n+1) c 46)) (w.drew.alloc (.cells ((cs.take (i * 4)).toArray++tf (n+1 - i)++tf (grownCap w (n+1) c 46 - (n+1))) 46)):=fun ty=>by
  have h:=Lib.run_append_grow_zeros w 22 3 ty 46 i0 _ .i64 .i64 tH undI hi0 hz0 (some ⟨b,off,none⟩) i c (cs.take (i * 4)) hold (n+1 - i) (by omega) (by omega) (by omega) (by omega) (by rw [hzb];omega) (by rw [hzb,hik];exact growslice_fits bn il);rw [hik] at h;rw [hkk];exact h
 obtain ⟨G,hG⟩: ∃G,G=grownCap w (n+1) c 46:=⟨_,rfl⟩
 obtain ⟨ROW,wL⟩: ∃ROW:Array Value,ROW=(cs.take (i * 4)).toArray++tf (n+1 - i)++tf (G - (n+1)):=⟨_,rfl⟩
 rw [<- hG] at hrz ⊢;rw [<- wL] at hrz ⊢;have hzl: ∀k,(tf k).size=k * 4:=fun k=>by simp [tf,Builtin.zeroCells,Value.cells]
 have hRl:(n+1) * 4<=ROW.size:=by
  rw [wL,Array.size_append,Array.size_append,hzl,hzl,List.size_toArray,List.length_take];omega
 obtain ⟨W1,hW1⟩: ∃W1,W1=w.drew.alloc (.cells ROW 46):=⟨_,rfl⟩
 rw [<- hW1] at hrz;have hN: ∀j,j<(n+1) * 4->(W1.cell? ⟨w.heap.size,j,none⟩).isSome=true:=fun j hj=>by
  rw [hW1,World.cell?_alloc_at (w:=w.drew) ROW _ w.heap.size j rfl,Array.getElem?_eq_getElem (by omega)];rfl
 have hNf: ∀j,W1.frozen? ⟨w.heap.size,j,none⟩=false:=fun j=>by rw [hW1];exact World.frozen?_alloc_at (w:=w.drew) ROW _ w.heap.size j rfl
 have hOb: ∀j v,w.cell? ⟨b,j,none⟩=some v->W1.cell? ⟨b,j,none⟩=some v:=fun j v h=>by rw [hW1,World.cell?_alloc_past (w:=w.drew) _ b j hbw];exact h
 have hOv: ∀j v,w.cell? ⟨vb,j,none⟩=some v->W1.cell? ⟨vb,j,none⟩=some v:=fun j v h=>by rw [hW1,World.cell?_alloc_past (w:=w.drew) _ vb j hvw];exact h
 have F5: ∀(W:World),(∀ x,W.cell? x=W1.cell? x)->(∀ x,W.frozen? x=W1.frozen? x)-> ∀ty dc,(Builtin.copy_ #[22,22] ty #[.slice (some ⟨w.heap.size,i * 4,none⟩) (n+1 - i) dc,.slice (some ⟨vb,voff,none⟩) 1 vc]).run Tryz.prog W= .ok (goInt (Nat.min 1 (n+1 - i))) (W.setCells w.heap.size (i * 4) vs):=fun W hWc hWf ty dc=>
  rJ W _ _ ty 46 4 w.heap.size (i * 4) (n+1 - i) dc ⟨vb,voff,none⟩ 1 vc vs tH hsz (by rw [hvl];simp only [Nat.min_def];split <;> omega)
   (fun j v hj=>by rw [Addr.add_lit,hWc];exact hOv _ v (hvs j v hj))
   (fun j hj=>by rw [hWc];exact hN _ (by omega)) (fun j hj=>by rw [hWf];exact hNf _) h1v
 have hGn:n+1<=G:=by rw [hG];exact grownCap_ge w _ _ _
 have GK:G<=9223372036854775807:=by
  have:=grownCap_le_maxLen w (n+1) c 46 (by unfold maxLen;omega)
  rw [<- hG] at this;unfold maxLen at this;omega
 have hGi: ¬(G=i):=by omega
 have GL: ¬(G=i+1):=by omega
 have hci: ¬(c=i):=by omega
 have hbN:b≠w.heap.size:=by omega
 have hdl:(cs.drop (i * 4)).length=(n - i) * 4:=by rw [List.length_drop,hcl];omega
 have D9: ∀(W:World),(∀ x,W.cell? x=(W1.setCells w.heap.size (i * 4) vs).cell? x)->(∀ x,W.frozen? x=(W1.setCells w.heap.size (i * 4) vs).frozen? x)-> ∀ty dc sc,(Builtin.copy_ #[22,22] ty #[.slice (some ⟨w.heap.size,(i+1) * 4,none⟩) (n - i) dc,.slice (some ⟨b,off+i * 4,none⟩) (n - i) sc]).run Tryz.prog W= .ok (goInt (Nat.min (n - i) (n - i))) (W.setCells w.heap.size ((i+1) * 4) (cs.drop (i * 4))):=fun W hWc hWf ty dc sc=>
  rJ W _ _ ty 46 4 w.heap.size ((i+1) * 4) (n - i) dc ⟨b,off+i * 4,none⟩ (n - i) sc (cs.drop (i * 4)) tH hsz (by rw [hdl];simp only [Nat.min_def];split <;> omega)
   (fun j v hj=>by
    rw [Addr.add_lit,hWc,World.cell?_setCells_out _ _ _ _ _ (fun h _=>absurd h hbN),Nat.add_assoc];exact hOb _ v (hcs (i * 4+j) v (by rwa [List.getElem?_drop] at hj)))
   (fun j hj=>by rw [hWc];exact tP _ _ _ _ (fun t ht=>hN _ (by omega)) _ (hN _ (by omega)))
   (fun j hj=>by rw [hWf,World.frozen?_setCells];exact hNf _) (fun v hv=>h1c v (List.mem_of_mem_drop hv))
 subst hW1;have hE1: ∀x,((w.alloc (.cells ROW 46)).drew).cell? x=(w.drew.alloc (.cells ROW 46)).cell? x:=fun x=>rfl
 have hE2: ∀x,((w.alloc (.cells ROW 46)).drew).frozen? x=(w.drew.alloc (.cells ROW 46)).frozen? x:=fun x=>rfl
 have hF1: ∀x,(((w.alloc (.cells ROW 46)).drew.setCells w.heap.size (i * 4) vs).drew).cell? x=((w.drew.alloc (.cells ROW 46)).setCells w.heap.size (i * 4) vs).cell? x:=fun x=>rfl
 have hF2: ∀x,(((w.alloc (.cells ROW 46)).drew.setCells w.heap.size (i * 4) vs).drew).frozen? x=((w.drew.alloc (.cells ROW 46)).setCells w.heap.size (i * 4) vs).frozen? x:=fun x=>rfl
 have hw1:IntKind.i64.wrap ((i:Int)+1)=(i:Int)+1:=by rw [IntKind.wrap_i64];omega
 have hw2:IntKind.i64.wrap ((n:Int)+1)=(n:Int)+1:=by rw [IntKind.wrap_i64];omega
 have hw3:IntKind.i64.wrap ((n:Int)+1 - (i:Int))=(n:Int)+1 - (i:Int):=by rw [IntKind.wrap_i64];omega
 have hb1:(0:Int)<=(i:Int)+1:=by omega
 have hin:i<=n:=by omega
 have htn:((i:Int)+1).toNat=i+1:=by omega
 have hb3:(i:Int)<=(n:Int):=by omega
 clear hkk hik hold wL hG hRl
 go_enter Tryz.func120,Tryz.ntmps120
 go_wp2_with (first
  |(at_builtin;refine Lib.wpList_append_run _ rfl _ _ _ _ rfl _ _ rfl rfl _ _ (hrz _) ?_)
  |(at_builtin;refine wpList_copy_run' _ rfl _ _ 22 22 rfl _ _ rfl rfl (F5 _ hE1 hE2 _ _) ?_)
  |(at_builtin;refine wpList_copy_run' _ rfl _ _ 22 22 rfl _ _ rfl rfl (D9 _ (fun _=>rfl) (fun _=>rfl) _ _ _) ?_))
 go_region_law_o (refine vH rfl _ _ 22 22 rfl (.slice (some ⟨w.heap.size,(i+1) * 4,none⟩) (n - i) (G - (i+1))) (.slice (some ⟨b,off+i * 4,none⟩) (n - i) (c - i)) (by simp [Act.eval,Act.put]) (by simp [Act.eval,Act.put]) (D9 _ hF1 hF2 3 (G - (i+1)) (c - i)) ?_)
 go_wp2
 go_ret
 exact ⟨rfl,rfl⟩
theorem tE{B:Nat}{a:World}(b:Nat)(hb:B<=b): ∀(vs:List Value) (o:Nat) (w:World),DL.Below B a w->DL.Below B a (w.setCells b o vs)
 |[],_,_,h=>h
 |v::r,o,_,h=>tE b hb r (o+1) _ ⟨h.toBelow.setCell (p:=⟨b,o,none⟩) hb v,h.dr⟩
theorem wc{w:World}{r i n:Nat}{cs vs:List Value}(hcl:cs.length=n * 4)(hvl:vs.length=4)(hi:i<=n)(h1: ∀(j:Nat) (v:Value),j<i * 4->cs[j]? =some v->w.cell? ⟨r,j,none⟩=some v)(h2: ∀(j:Nat) (v:Value),vs[j]? =some v->w.cell? ⟨r,i * 4+j,none⟩=some v)
  (h3: ∀(j:Nat) (v:Value),(cs.drop (i * 4))[j]? =some v->w.cell? ⟨r,(i+1) * 4+j,none⟩=some v): ∀(j:Nat) (u:Value),(cs.take (i * 4)++(vs++cs.drop (i * 4)))[j]? =some u->w.cell? ⟨r,j,none⟩=some u:=by
 intro j u hu;have htl:(cs.take (i * 4)).length=i * 4:=by rw [List.length_take];omega
 by_cases c1:j<i * 4
 ·rw [List.getElem?_append_left (by omega),List.getElem?_take_of_lt c1] at hu;exact h1 j u c1 hu
 ·rw [List.getElem?_append_right (by omega),htl] at hu
  by_cases c2:j - i * 4<4
  ·rw [List.getElem?_append_left (by omega)] at hu
   have:=h2 _ u hu
   rwa [show i * 4+(j - i * 4)=j by omega] at this
  ·rw [List.getElem?_append_right (by omega),hvl] at hu
   have:=h3 _ u hu
   rwa [show (i+1) * 4+(j - i * 4 - 4)=j by omega] at this
theorem Dh{W:World}{base g n G i vb:Nat}{cur:Array Value}{cs vs:List Value}(hg:W.heap[g]? =some (.cells cur 46 (0,0)))(dQ:cur.size=G * 4)(hcs: ∀(j:Nat) (v:Value),cs[j]? =some v->cur[j]? =some v)(hcl:cs.length=n * 4)
  (hv:W.heap[vb]? =some (.cells vs.toArray 46 (0,0))) (hvl:vs.length=4) (hne:vb≠g) (hn:0<n) (hnG:n<=G) (hG:G<=9223372036854775807) (hi:i<=n) (il:(n+1) * 56<=140737488355328)
  (h1c: ∀v∈cs,v.oneCell'=true) (h1v: ∀v∈vs,v.oneCell'=true) (hbg:base<=g) (hbW:base<=W.heap.size):
  Calls Tryz.prog 120 #[.slice (some ⟨g,0,none⟩) n G,.int .i64 i,.slice (some ⟨vb,0,none⟩) 1 1] W fun e w'=> ∃r c,e= .returned (.slice (some ⟨r,0,none⟩) (n+1) c)/\n+1<=c/\base<=r/\r<w'.heap.size/\DL.Below base W w'/\
   ∀(j:Nat) (u:Value),(cs.take (i * 4)++(vs++cs.drop (i * 4)))[j]? =some u->w'.cell? ⟨r,j,none⟩=some u:=by
 have cg: ∀j,W.cell? ⟨g,j,none⟩=cur[j]? :=fun j=>cell_of_row _ _ _ _ _ _ hg
 have cv: ∀j,W.cell? ⟨vb,j,none⟩=vs[j]? :=fun j=>by rw [cell_of_row _ _ _ _ _ _ hv];simp
 have fg: ∀j,W.frozen? ⟨g,j,none⟩=false:=fun j=>by unfold World.frozen?;simp [hg]
 have fv: ∀j,W.frozen? ⟨vb,j,none⟩=false:=fun j=>by unfold World.frozen?;simp [hv]
 have hgl:g<W.heap.size:=(Array.getElem?_eq_some_iff.1 hg).1;have BT: ∀j v,cs[j]? =some v->W.cell? ⟨g,0+j,none⟩=some v:=fun j v h=>by rw [Nat.zero_add,cg];exact hcs j v h
 have Ai: ∀j v,vs[j]? =some v->W.cell? ⟨vb,0+j,none⟩=some v:=fun j v h=>by rw [Nat.zero_add,cv];exact h
 have sg:W.shape? g=some (46,G * 4):=by unfold World.shape?;simp [hg,dQ]
 have sv:W.shape? vb=some (46,4):=by unfold World.shape?;simp [hv,hvl]
 have someG: ∀j,j<G * 4->(W.cell? ⟨g,j,none⟩).isSome=true:=fun j hj=>by rw [cg,Array.getElem?_eq_getElem (by omega)];rfl
 have szS: ∀(w:World) b o (vs:List Value),(w.setCells b o vs).heap.size=w.heap.size:=by
  intro w b o vs
  induction vs generalizing w o with
  |nil=>rfl
  |cons v r ih=>rw [World.setCells,ih];simp [World.setCell]
 rcases Nat.lt_or_ge i n with hin|hin
 ·rcases Nat.lt_or_ge n G with hr|hr
  ·refine (Bc g 0 n G i vb 0 1 cs vs W hin hr hG hne hcl hvl BT (fun j hj=>by rw [Nat.zero_add];exact someG j (by omega)) (fun j _=>by rw [Nat.zero_add];exact fg j) Ai h1c h1v _ _ _ _ sv sg (by omega) (fv 0) (fv 4)).mono ?_;rintro e w' ⟨rfl,rfl⟩;simp only [Nat.zero_add];refine ⟨g,G,rfl,hr,hbg,by rw [szS,szS];exact hgl,tE g hbg _ _ _ (tE g hbg _ _ _ (DL.Below.refl _ _).drew),?_⟩;have hdl:(cs.drop (i * 4)).length=(n - i) * 4:=by rw [List.length_drop,hcl];omega
   have s1: ∀k,k<G * 4->((W.drew.setCells g ((i+1) * 4) (cs.drop (i * 4))).cell? ⟨g,k,none⟩).isSome=true:=fun k hk=>tP g (cs.drop (i * 4)) ((i+1) * 4) W.drew (fun j hj=>someG ((i+1) * 4+j) (by omega)) k (someG k hk)
   refine wc hcl hvl hi (fun j v hj hv=>?_) (fun j v hv=>?_) (fun j v hv=>?_)
   ·rw [World.cell?_setCells_out _ _ _ _ _ (fun _ _=>by left;show j<i * 4;omega),World.cell?_setCells_out _ _ _ _ _ (fun _ _=>by left;show j<(i+1) * 4;omega)];show W.cell? _=_
    rw [cg];exact hcs j v hv
   ·have hj:=(gsZ hv).1
    have:=World.cell?_setCells_in g vs (i * 4) _ (fun k hk=>s1 _ (by omega)) j hj
    rw [this, <-hv,ggZ hj]
   ·have hj:=(gsZ hv).1;rw [World.cell?_setCells_out _ _ _ _ _ (fun _ _=>by right;show i * 4+vs.length<=(i+1) * 4+j;omega)]
    have:=World.cell?_setCells_in g (cs.drop (i * 4)) ((i+1) * 4) W.drew (fun k hk=>someG _ (by omega)) j hj
    rw [this, <-hv,ggZ hj]
  ·refine (B5 g 0 n G i vb 0 1 cs vs W hin hnG (by omega) il hcl hvl BT Ai h1c h1v).mono ?_;rintro e w' ⟨rfl,rfl⟩;have hge:=grownCap_ge W (n+1) G 46;generalize grownCap W (n+1) G 46=C at *
   have hzl: ∀k,(tf k).size=k * 4:=fun k=>by simp [tf,Builtin.zeroCells,Value.cells]
   obtain ⟨ROW,wL⟩: ∃ROW:Array Value,ROW=(cs.take (i * 4)).toArray++tf (n+1 - i)++tf (C - (n+1)):=⟨_,rfl⟩
   rw [<- wL];have hRl:(n+1) * 4<=ROW.size:=by
    rw [wL,Array.size_append,Array.size_append,hzl,hzl,List.size_toArray,List.length_take];omega
   have hR1: ∀j v,j<i * 4->cs[j]? =some v->ROW[j]? =some v:=fun j v hj hv=>by
    rw [wL,Array.getElem?_append_left (by rw [Array.size_append,hzl,List.size_toArray,List.length_take];omega),Array.getElem?_append_left (by rw [List.size_toArray,List.length_take];omega),List.getElem?_toArray,List.getElem?_take_of_lt hj];exact hv
   have hsz:(W.alloc (.cells ROW 46)).heap.size=W.heap.size+1:=Array.size_push _;have hN: ∀j,(W.alloc (.cells ROW 46)).drew.cell? ⟨W.heap.size,j,none⟩=ROW[j]? :=fun j=>World.cell?_alloc_at ROW _ W.heap.size j rfl
   have hNs: ∀j,j<(n+1) * 4->((W.alloc (.cells ROW 46)).drew.cell? ⟨W.heap.size,j,none⟩).isSome=true:=fun j hj=>by rw [hN,Array.getElem?_eq_getElem (by omega)];rfl
   refine ⟨W.heap.size,C,rfl,hge,hbW,?_,tE _ hbW _ _ _ (tE _ hbW _ _ _ (((DL.Below.refl _ _).alloc hbW _).drew)).drew,?_⟩
   ·rw [szS];show _<(World.setCells _ _ _ _).heap.size
    rw [szS];show _<(W.alloc _).heap.size
    rw [hsz];omega
   have hdl:(cs.drop (i * 4)).length=(n - i) * 4:=by rw [List.length_drop,hcl];omega
   obtain ⟨W2,hW2⟩: ∃W2,W2=(W.alloc (.cells ROW 46)).drew.setCells W.heap.size (i * 4) vs:=⟨_,rfl⟩
   rw [<- hW2];have s1: ∀k,k<(n+1) * 4->(W2.drew.cell? ⟨W.heap.size,k,none⟩).isSome=true:=fun k hk=>by
    show (W2.cell? _).isSome=true
    rw [hW2];exact tP W.heap.size vs (i * 4) _ (fun j hj=>hNs (i * 4+j) (by omega)) k (hNs k hk)
   refine wc hcl hvl hi (fun j v hj hv=>?_) (fun j v hv=>?_) (fun j v hv=>?_)
   ·rw [World.cell?_setCells_out _ _ _ _ _ (fun _ _=>by left;show j<(i+1) * 4;omega)];show W2.cell? _=_
    rw [hW2,World.cell?_setCells_out _ _ _ _ _ (fun _ _=>by left;show j<i * 4;omega),hN];exact hR1 j v hj hv
   ·have hj:=(gsZ hv).1;rw [World.cell?_setCells_out _ _ _ _ _ (fun _ _=>by left;show i * 4+j<(i+1) * 4;omega)];show W2.cell? _=_
    rw [hW2]
    have:=World.cell?_setCells_in W.heap.size vs (i * 4) _ (fun k hk=>hNs _ (by omega)) j hj
    rw [this, <-hv,ggZ hj]
   ·have hj:=(gsZ hv).1
    have:=World.cell?_setCells_in W.heap.size (cs.drop (i * 4)) ((i+1) * 4) W2.drew (fun k hk=>s1 _ (by omega)) j hj
    rw [this, <-hv,ggZ hj]
 ·obtain rfl:i=n:=by omega
  have ht:cs.take (i * 4)=cs:=List.take_of_length_le (by omega);have hd:cs.drop (i * 4)=[]:=List.drop_eq_nil_of_le (by omega);rcases Nat.lt_or_ge i G with hr|hr
  ·refine (B6 g 0 i G vb 0 1 vs W hr hG hvl (fun j hj=>by rw [Nat.zero_add];exact someG _ (by omega)) (fun j _=>fg _) Ai h1v).mono ?_;rintro e w' ⟨rfl,rfl⟩;simp only [Nat.zero_add];refine ⟨g,G,rfl,hr,hbg,by rw [szS];exact hgl,tE g hbg _ _ _ (DL.Below.refl _ _),?_⟩;refine wc hcl hvl hi (fun j v hj hv=>?_) (fun j v hv=>?_) (fun j v hv=>?_)
   ·rw [World.cell?_setCells_out _ _ _ _ _ (fun _ _=>by left;show j<i * 4;omega),cg];exact hcs j v hv
   ·have hj:=(gsZ hv).1
    have:=World.cell?_setCells_in g vs (i * 4) W (fun k hk=>someG _ (by omega)) j hj
    rw [this, <-hv,ggZ hj]
   ·rw [hd] at hv;simp at hv
  ·have hold:(Builtin.firstCells 4 i (.slice (some ⟨g,0,none⟩) i G)).run Tryz.prog W.drew= .ok cs.toArray W.drew:=
    run_firstCells_some W.drew 4 i ⟨g,0,none⟩ i G cs hcl (fun j v hj=>by rw [Addr.add_lit];exact BT j v hj)
   refine (xX (some ⟨g,0,none⟩) i G vb 0 1 cs vs W (by omega) il hvl hold Ai h1v).mono ?_;rintro e w' ⟨rfl,rfl⟩;have hge:=grownCap_ge W (i+1) G 46;generalize grownCap W (i+1) G 46=C at *
   refine ⟨W.heap.size,C,rfl,hge,hbW,?_,(DL.Below.refl _ _).drew.alloc hbW _,?_⟩
   ·show _<(W.drew.alloc _).heap.size
    have:(W.drew.alloc (.cells ((cs++vs).toArray++tf (C - (i+1))) 46)).heap.size=W.heap.size+1:=Array.size_push _
    rw [this];omega
   ·intro j u hu;rw [ht,hd,List.append_nil] at hu;rw [World.cell?_alloc_at (w:=W.drew) _ _ W.heap.size j rfl,Array.getElem?_append_left (by rw [List.size_toArray];exact (gsZ hu).1),List.getElem?_toArray];exact hu
theorem Dw(v0:Value)(c0 c1 c2 c3:Value)(hc: ∀x∈[c0,c1,c2,c3],x.oneCell'=true)(b off n cap:Nat)(news:List Value)(w:World)(p:Nat)(hn:0<n)(hp:p<=n)(hl:news.length=n * 4)(il:(n+1) * 56<=140737488355328)
  (hv0:v0= .slice (some ⟨b,off,none⟩) n cap) (b9: ∀j u,news[j]? =some u->w.cell? ⟨b,off+j,none⟩=some u) (h1: ∀u∈news,u.oneCell'=true)
  (uk:Calls Tryz.prog 86 #[v0,.agg #[c0,c1,c2,c3],.func (.func 35) #[] #[]] (w.alloc (.cells #[c0,c1,c2,c3] 46)) fun e w'=>e= .returned (.tuple #[.int .i64 p,.bool false])/\DL.Below (w.heap.size+1) (w.alloc (.cells #[c0,c1,c2,c3] 46)) w'):
  Calls Tryz.prog 103 #[v0,.agg #[c0,c1,c2,c3]] w fun e w'=> ∃r c,e= .returned (.slice (some ⟨r,0,none⟩) (n+1) c)/\n+1<=c/\w.heap.size<=r/\r<w'.heap.size/\DL.Below w.heap.size w w'/\
   ∀(j:Nat) (u:Value),(news.take (p * 4)++([c0,c1,c2,c3]++news.drop (p * 4)))[j]? =some u->w'.cell? ⟨r,j,none⟩=some u:=by
 have mx:=mixed;have q22:=nil_eq;have u22: ∀w,Sem.run Tryz.prog (underlying 22) w= .ok (TypeDesc.slice 46) w:=run_underlying tH;subst hv0;have hbw:b<w.heap.size:=block_lt_of_cell (b9 0 _ (ggZ (by omega)));have uJ: ∀w1,DL.Below (w.heap.size+1) (w.alloc (.cells #[c0,c1,c2,c3] 46)) w1-> ∀j u,news[j]? =some u->w1.cell? ⟨b,off+j,none⟩=some u:=fun w1 h j u hu=>by
  rw [h.toBelow.cell (p:=⟨b,off+j,none⟩) (by show b<w.heap.size+1;omega)];exact Lib.cell?_alloc_some _ (b9 j u hu)
 have po: ∀w1 w2 G,DL.Below (w.heap.size+1) (w.alloc (.cells #[c0,c1,c2,c3] 46)) w1->w2=(w1.alloc (.cells #[] 46)).drew.alloc (.cells (news.toArray++tf (G - n)) 46)->
   w2.cell? ⟨w.heap.size,0,none⟩=some c0/\w2.cell? ⟨w.heap.size,1,none⟩=some c1/\w2.cell? ⟨w.heap.size,2,none⟩=some c2/\w2.cell? ⟨w.heap.size,3,none⟩=some c3/\DL.Below w.heap.size w w2/\w.heap.size<w1.heap.size/\w2.heap.size=w1.heap.size+2/\w2.heap[w1.heap.size+1]? =some (.cells (news.toArray++tf (G - n)) 46 (0,0)):=by
  intro w1 w2 G hb he;have hs0:(w.alloc (.cells #[c0,c1,c2,c3] 46)).heap.size=w.heap.size+1:=Array.size_push _;have hs1:w.heap.size<w1.heap.size:=by have:=hb.toBelow.size;omega
  have hsa:(w1.alloc (.cells #[] 46)).heap.size=w1.heap.size+1:=Array.size_push _;have hs2:w2.heap.size=w1.heap.size+2:=by
   rw [he]
   have:((w1.alloc (.cells #[] 46)).drew.alloc (.cells (news.toArray++tf (G - n)) 46)).heap.size=(w1.alloc (.cells #[] 46)).heap.size+1:=Array.size_push _
   rw [this,hsa]
  have ue: ∀(j:Nat) (u:Value), #[c0,c1,c2,c3][j]? =some u->w2.cell? ⟨w.heap.size,j,none⟩=some u:=fun j u hu=>by
   rw [he];refine Lib.cell?_alloc_some _ ?_;show (w1.alloc (.cells #[] 46)).cell? _=_
   refine Lib.cell?_alloc_some _ ?_;rw [hb.toBelow.cell (p:=⟨w.heap.size,j,none⟩) (by show w.heap.size<w.heap.size+1;omega),World.cell?_alloc_at _ _ w.heap.size j rfl];exact hu
  refine ⟨ue 0 c0 rfl,ue 1 c1 rfl,ue 2 c2 rfl,ue 3 c3 rfl,?_,hs1,hs2,?_⟩
  ·rw [he];exact (((((DL.Below.refl _ w).alloc (Nat.le_refl _) _).trans (hb.mono (Nat.le_succ _))).alloc (by omega) _).drew).alloc (by show w.heap.size<=(w1.alloc _).heap.size;rw [hsa];omega) _
  ·rw [he];show (((w1.alloc (.cells #[] 46)).heap.push (.cells (news.toArray++tf (G - n)) 46)))[w1.heap.size+1]? =_
   rw [<- hsa];exact Array.getElem?_push_size
 have hzl: ∀k,(tf k).size=k * 4:=fun k=>by simp [tf,Builtin.zeroCells,Value.cells]
 have BU: ∀w1 w2 G,n<=G->G<=maxLen->DL.Below (w.heap.size+1) (w.alloc (.cells #[c0,c1,c2,c3] 46)) w1->w2=(w1.alloc (.cells #[] 46)).drew.alloc (.cells (news.toArray++tf (G - n)) 46)->
   Calls Tryz.prog 120 #[.slice (some ⟨w1.heap.size+1,0,none⟩) n G,.int .i64 p,.slice (some ⟨w2.heap.size,0,none⟩) 1 1] (w2.alloc (.cells #[c0,c1,c2,c3] 46)) fun e w'=> ∃r c,e= .returned (.slice (some ⟨r,0,none⟩) (n+1) c)/\n+1<=c/\w.heap.size<=r/\r<w'.heap.size/\DL.Below w.heap.size w w'/\
    ∀(j:Nat) (u:Value),(news.take (p * 4)++([c0,c1,c2,c3]++news.drop (p * 4)))[j]? =some u->w'.cell? ⟨r,j,none⟩=some u:=by
  intro w1 w2 G hG1 hG2 hb he;obtain ⟨-, -, -, -,hB,hs1,hs2,lV⟩:=po w1 w2 G hb he;have EW:(w2.alloc (.cells #[c0,c1,c2,c3] 46)).heap[w1.heap.size+1]? =some (.cells (news.toArray++tf (G - n)) 46 (0,0)):=by
   rw [DL.Below.heap_alloc _ _ _ (by omega)];exact lV
  have hvb:(w2.alloc (.cells #[c0,c1,c2,c3] 46)).heap[w2.heap.size]? =some (.cells [c0,c1,c2,c3].toArray 46 (0,0)):=Array.getElem?_push_size;have hsv:(w2.alloc (.cells #[c0,c1,c2,c3] 46)).heap.size=w2.heap.size+1:=Array.size_push _;refine (Dh (base:=w.heap.size) EW (by rw [Array.size_append,hzl,List.size_toArray,hl];omega) (fun j v hv=>by rw [Array.getElem?_append_left (by rw [List.size_toArray];exact (gsZ hv).1),List.getElem?_toArray];exact hv) hl hvb rfl (by omega) hn hG1 (by unfold maxLen at hG2;omega) hp il h1 hc (by omega) (by omega)).mono ?_;rintro e w' ⟨r,c,rfl,q1,q2,q3,q4,q5⟩;exact ⟨r,c,rfl,q1,q2,q3,(hB.alloc (by omega) _).trans q4,q5⟩
 go_enter Tryz.func103,Tryz.ntmps103
 go_wp2_with (first
  |(go_at_call 86;refine uk.mono ?_;rintro e w1 ⟨rfl,hb1⟩)
  |(go_at_call 119;refine (zB b off n cap news w1 hn hl (by omega) (uJ w1 hb1) h1).mono ?_;rintro e w2 ⟨G,hG1,hG2,rfl,hw2⟩;obtain ⟨k0,k1,k2,k3, -⟩:=po w1 w2 G hb1 hw2;have A2:Aside (w2=(w1.alloc (.cells #[] 46)).drew.alloc (.cells (news.toArray++tf (G - n)) 46)):=hw2;clear hw2)
  |(go_at_call 120;refine (BU w1 w2 G hG1 hG2 hb1 A2.out).mono ?_;rintro e w3 ⟨r,c,rfl,q⟩))
 go_ret
 exact ⟨r,c,rfl,q⟩
theorem Dx(c0 c1 c2 c3:Value)(hc: ∀x∈[c0,c1,c2,c3],x.oneCell'=true)(a:Option Addr)(cap:Nat)(w:World)
  (uk:Calls Tryz.prog 86 #[.slice a 0 cap,.agg #[c0,c1,c2,c3],.func (.func 35) #[] #[]] (w.alloc (.cells #[c0,c1,c2,c3] 46)) fun e w'=>e= .returned (.tuple #[.int .i64 0,.bool false])/\DL.Below (w.heap.size+1) (w.alloc (.cells #[c0,c1,c2,c3] 46)) w'):
  Calls Tryz.prog 103 #[.slice a 0 cap,.agg #[c0,c1,c2,c3]] w fun e w'=> ∃r c,e= .returned (.slice (some ⟨r,0,none⟩) 1 c)/\1<=c/\w.heap.size<=r/\r<w'.heap.size/\DL.Below w.heap.size w w'/\
   ∀(j:Nat) (u:Value),[c0,c1,c2,c3][j]? =some u->w'.cell? ⟨r,j,none⟩=some u:=by
 have mx:=mixed;have q22:=nil_eq;have u22: ∀w,Sem.run Tryz.prog (underlying 22) w= .ok (TypeDesc.slice 46) w:=run_underlying tH;have po: ∀w1 w2:World,DL.Below (w.heap.size+1) (w.alloc (.cells #[c0,c1,c2,c3] 46)) w1->(w2=w1\/w2=w1.alloc (.cells #[] 46))->
   w2.cell? ⟨w.heap.size,0,none⟩=some c0/\w2.cell? ⟨w.heap.size,1,none⟩=some c1/\w2.cell? ⟨w.heap.size,2,none⟩=some c2/\w2.cell? ⟨w.heap.size,3,none⟩=some c3/\DL.Below w.heap.size w w2:=by
  intro w1 w2 hb he;have hs0:(w.alloc (.cells #[c0,c1,c2,c3] 46)).heap.size=w.heap.size+1:=Array.size_push _;have hs1:w.heap.size<w1.heap.size:=by have:=hb.toBelow.size;omega
  have uJ: ∀(j:Nat) (u:Value), #[c0,c1,c2,c3][j]? =some u->w1.cell? ⟨w.heap.size,j,none⟩=some u:=fun j u hu=>by
   rw [hb.toBelow.cell (p:=⟨w.heap.size,j,none⟩) (by show w.heap.size<w.heap.size+1;omega),World.cell?_alloc_at _ _ w.heap.size j rfl];exact hu
  have hB1:DL.Below w.heap.size w w1:=((DL.Below.refl _ w).alloc (Nat.le_refl _) _).trans (hb.mono (Nat.le_succ _));rcases he with rfl|rfl
  ·exact ⟨uJ 0 c0 rfl,uJ 1 c1 rfl,uJ 2 c2 rfl,uJ 3 c3 rfl,hB1⟩
  ·have ue: ∀(j:Nat) (u:Value), #[c0,c1,c2,c3][j]? =some u->(w1.alloc (.cells #[] 46)).cell? ⟨w.heap.size,j,none⟩=some u:=fun j u hu=>Lib.cell?_alloc_some _ (uJ j u hu)
   exact ⟨ue 0 c0 rfl,ue 1 c1 rfl,ue 2 c2 rfl,ue 3 c3 rfl,hB1.alloc (by omega) _⟩
 have BU: ∀(w2:World) (base:Option Addr),DL.Below w.heap.size w w2->
   Calls Tryz.prog 120 #[.slice base 0 0,.int .i64 0,.slice (some ⟨w2.heap.size,0,none⟩) 1 1] (w2.alloc (.cells #[c0,c1,c2,c3] 46)) fun e w'=> ∃r c,e= .returned (.slice (some ⟨r,0,none⟩) 1 c)/\1<=c/\w.heap.size<=r/\r<w'.heap.size/\DL.Below w.heap.size w w'/\
    ∀(j:Nat) (u:Value),[c0,c1,c2,c3][j]? =some u->w'.cell? ⟨r,j,none⟩=some u:=by
  intro w2 base hB;have hle:w.heap.size<=w2.heap.size:=hB.toBelow.size;have hsv:(w2.alloc (.cells #[c0,c1,c2,c3] 46)).heap.size=w2.heap.size+1:=Array.size_push _;have hold:(Builtin.firstCells 4 0 (.slice base 0 0)).run Tryz.prog (w2.alloc (.cells #[c0,c1,c2,c3] 46)).drew= .ok ([]:List Value).toArray (w2.alloc (.cells #[c0,c1,c2,c3] 46)).drew:=by
   cases base with
   |none=>exact run_firstCells_none _ 4 0 0 0
   |some a=>exact run_firstCells_some _ 4 0 a 0 0 [] rfl (fun j v hj=>by simp at hj)
  refine (xX base 0 0 w2.heap.size 0 1 [] [c0,c1,c2,c3] _ (by omega) (by omega) rfl hold (fun j v hv=>by rw [Nat.zero_add,World.cell?_alloc_at _ _ w2.heap.size j rfl, <-hv];simp) hc).mono ?_;rintro e w' ⟨rfl,rfl⟩;have hge:=grownCap_ge (w2.alloc (.cells #[c0,c1,c2,c3] 46)) (0+1) 0 46;generalize grownCap (w2.alloc (.cells #[c0,c1,c2,c3] 46)) (0+1) 0 46=C at *
  refine ⟨_,C,rfl,hge,by omega,?_,(((hB.alloc (by omega) _).drew).alloc (by show w.heap.size<=(w2.alloc _).heap.size;omega) _),?_⟩
  ·show _<(((w2.alloc (.cells #[c0,c1,c2,c3] 46)).drew).alloc _).heap.size
   have:(((w2.alloc (.cells #[c0,c1,c2,c3] 46)).drew).alloc (.cells (([]++[c0,c1,c2,c3]).toArray++tf (C - (0+1))) 46)).heap.size=(w2.alloc (.cells #[c0,c1,c2,c3] 46)).heap.size+1:=Array.size_push _
   rw [this];omega
  ·intro j u hu;rw [World.cell?_alloc_at (w:=(w2.alloc (.cells #[c0,c1,c2,c3] 46)).drew) _ _ (w2.alloc (.cells #[c0,c1,c2,c3] 46)).heap.size j rfl,Array.getElem?_append_left (by rw [List.size_toArray];exact (gsZ hu).1),List.getElem?_toArray];exact hu
 go_enter Tryz.func103,Tryz.ntmps103
 go_wp2_with (first
  |(go_at_call 86;refine uk.mono ?_;rintro e w1 ⟨rfl,hb1⟩)
  |(go_at_call 119;refine (yL a cap w1).mono ?_;rintro e w2 ⟨bs,rfl,hw2⟩;obtain ⟨k0,k1,k2,k3,hB2⟩:=po w1 w2 hb1 hw2;have A2:Aside (DL.Below w.heap.size w w2):=hB2;clear hw2 hB2)
  |(go_at_call 120;refine (BU w2 bs A2.out).mono ?_;rintro e w3 ⟨r,c,rfl,q⟩))
 go_ret
 exact ⟨r,c,rfl,q⟩
theorem size_setCells(b:Nat)(vs:List Value): ∀(w:World) (o:Nat),(w.setCells b o vs).heap.size=w.heap.size:=by
 induction vs with
 |nil=>intro w o;rfl
 |cons v r ih=>intro w o;rw [World.setCells,ih];simp [World.setCell]
theorem vU(W:World)(g o:Nat)(v:Value)(h1:v.oneCell'=true)(hs:(W.cell? ⟨g,o,none⟩).isSome=true)(hf:W.frozen? ⟨g,o,none⟩=false):(store ⟨g,o,none⟩ v).run Tryz.prog W= .ok () (W.setCell ⟨g,o,none⟩ v):=by
 obtain ⟨u,hu⟩:=Option.isSome_iff_exists.1 hs;rw [run_store Tryz.prog W _ v _ h1];simp [hu,hf]
theorem Es(c0 c1 c2 c3:Value)(hc: ∀x∈[c0,c1,c2,c3],x.oneCell'=true)(W:World)(g p n:Nat)(news:List Value)(hp:p<n)(hl:news.length=n * 4)(hk: ∀(j:Nat) (u:Value),news[j]? =some u->W.cell? ⟨g,j,none⟩=some u)(hf: ∀j,W.frozen? ⟨g,j,none⟩=false):
  ∃Wa Wb Wc Wd:World,(store ⟨g,p * 4,none⟩ c0).run Tryz.prog W= .ok () Wa/\(store ⟨g,p * 4+1,none⟩ c1).run Tryz.prog Wa= .ok () Wb/\(store ⟨g,p * 4+2,none⟩ c2).run Tryz.prog Wb= .ok () Wc/\(store ⟨g,p * 4+3,none⟩ c3).run Tryz.prog Wc= .ok () Wd/\
   Wd=W.setCells g (p * 4) [c0,c1,c2,c3]/\ ∀(j:Nat) (u:Value),(news.take (p * 4)++([c0,c1,c2,c3]++news.drop ((p+1) * 4)))[j]? =some u->Wd.cell? ⟨g,j,none⟩=some u:=by
 have gG: ∀j,j<n * 4->(W.cell? ⟨g,j,none⟩).isSome=true:=fun j hj=>by rw [hk j _ (ggZ (by omega))];rfl
 have keep: ∀(V:World) (a:Addr) (v:Value) (j:Nat),(V.cell? ⟨g,j,none⟩).isSome=true->((V.setCell a v).cell? ⟨g,j,none⟩).isSome=true:=fun V a v j h=>by
  obtain ⟨u,hu⟩:=Option.isSome_iff_exists.1 h
  by_cases e:a=⟨g,j,none⟩
  ·subst e;rw [World.cell?_setCell_same _ _ _ hu];rfl
  ·rw [World.cell?_setCell_other _ _ _ _ e];exact h
 refine ⟨_,_,_,_,vU W g (p * 4) c0 (hc _ (by simp)) (gG _ (by omega)) (hf _),vU _ g (p * 4+1) c1 (hc _ (by simp)) (keep _ _ _ _ (gG _ (by omega))) (by rw [World.frozen?_setCell];exact hf _),
  vU _ g (p * 4+2) c2 (hc _ (by simp)) (keep _ _ _ _ (keep _ _ _ _ (gG _ (by omega)))) (by rw [World.frozen?_setCell,World.frozen?_setCell];exact hf _),vU _ g (p * 4+3) c3 (hc _ (by simp)) (keep _ _ _ _ (keep _ _ _ _ (keep _ _ _ _ (gG _ (by omega))))) (by rw [World.frozen?_setCell,World.frozen?_setCell,World.frozen?_setCell];exact hf _),rfl,?_⟩
 show ∀(j:Nat) (u:Value),_->(W.setCells g (p * 4) [c0,c1,c2,c3]).cell? _=_
 intro j u hu;have htl:(news.take (p * 4)).length=p * 4:=by rw [List.length_take];omega
 by_cases a1:j<p * 4
 ·rw [List.getElem?_append_left (by omega),List.getElem?_take_of_lt a1] at hu;rw [World.cell?_setCells_out _ _ _ _ _ (fun _ _=>by left;exact a1)];exact hk j u hu
 ·rw [List.getElem?_append_right (by omega),htl] at hu
  by_cases a2:j - p * 4<4
  ·rw [List.getElem?_append_left (by simpa using a2)] at hu
   have:=World.cell?_setCells_in g [c0,c1,c2,c3] (p * 4) W (fun k hk=>gG _ (by simp at hk;omega)) (j - p * 4) (by simpa using a2)
   rw [show p * 4+(j - p * 4)=j by omega] at this;rw [this, <-hu,ggZ (by simpa using a2)]
  ·rw [List.getElem?_append_right (by simp;omega),List.getElem?_drop] at hu;rw [World.cell?_setCells_out _ _ _ _ _ (fun _ _=>by right;show p * 4+4<=j;omega)];refine hk j u ?_;rw [<- hu]
   congr 1
   simp;omega
theorem Dy(v0:Value)(c0 c1 c2 c3:Value)(hc: ∀x∈[c0,c1,c2,c3],x.oneCell'=true)(b off n cap:Nat)(news:List Value)(w:World)(p:Nat)(hp:p<n)(hl:news.length=n * 4)(il:n * 56<=140737488355328)
  (hv0:v0= .slice (some ⟨b,off,none⟩) n cap) (b9: ∀j u,news[j]? =some u->w.cell? ⟨b,off+j,none⟩=some u) (h1: ∀u∈news,u.oneCell'=true)
  (uk:Calls Tryz.prog 86 #[v0,.agg #[c0,c1,c2,c3],.func (.func 35) #[] #[]] (w.alloc (.cells #[c0,c1,c2,c3] 46)) fun e w'=>e= .returned (.tuple #[.int .i64 p,.bool true])/\DL.Below (w.heap.size+1) (w.alloc (.cells #[c0,c1,c2,c3] 46)) w'):
  Calls Tryz.prog 103 #[v0,.agg #[c0,c1,c2,c3]] w fun e w'=> ∃r c,e= .returned (.slice (some ⟨r,0,none⟩) n c)/\n<=c/\w.heap.size<=r/\r<w'.heap.size/\DL.Below w.heap.size w w'/\
   ∀(j:Nat) (u:Value),(news.take (p * 4)++([c0,c1,c2,c3]++news.drop ((p+1) * 4)))[j]? =some u->w'.cell? ⟨r,j,none⟩=some u:=by
 have mx:=mixed;have q22:=nil_eq;have u22: ∀w,Sem.run Tryz.prog (underlying 22) w= .ok (TypeDesc.slice 46) w:=run_underlying tH;subst hv0;have hbw:b<w.heap.size:=block_lt_of_cell (b9 0 _ (ggZ (by omega)));have uJ: ∀w1,DL.Below (w.heap.size+1) (w.alloc (.cells #[c0,c1,c2,c3] 46)) w1-> ∀j u,news[j]? =some u->w1.cell? ⟨b,off+j,none⟩=some u:=fun w1 h j u hu=>by
  rw [h.toBelow.cell (p:=⟨b,off+j,none⟩) (by show b<w.heap.size+1;omega)];exact Lib.cell?_alloc_some _ (b9 j u hu)
 have hzl: ∀k,(tf k).size=k * 4:=fun k=>by simp [tf,Builtin.zeroCells,Value.cells]
 have po: ∀w1 w2 G,n<=G->DL.Below (w.heap.size+1) (w.alloc (.cells #[c0,c1,c2,c3] 46)) w1->w2=(w1.alloc (.cells #[] 46)).drew.alloc (.cells (news.toArray++tf (G - n)) 46)->
   w2.cell? ⟨w.heap.size,0,none⟩=some c0/\w2.cell? ⟨w.heap.size,1,none⟩=some c1/\w2.cell? ⟨w.heap.size,2,none⟩=some c2/\w2.cell? ⟨w.heap.size,3,none⟩=some c3/\DL.Below w.heap.size w w2/\w.heap.size<w1.heap.size/\w2.heap.size=w1.heap.size+2/\(∀ j,w2.frozen? ⟨w1.heap.size+1,j,none⟩=false)/\
   (∀ (j:Nat) (u:Value),news[j]? =some u->w2.cell? ⟨w1.heap.size+1,j,none⟩=some u):=by
  intro w1 w2 G hG hb he;have hs0:(w.alloc (.cells #[c0,c1,c2,c3] 46)).heap.size=w.heap.size+1:=Array.size_push _;have hs1:w.heap.size<w1.heap.size:=by have:=hb.toBelow.size;omega
  have hsa:(w1.alloc (.cells #[] 46)).heap.size=w1.heap.size+1:=Array.size_push _;have hs2:w2.heap.size=w1.heap.size+2:=by
   rw [he]
   have:((w1.alloc (.cells #[] 46)).drew.alloc (.cells (news.toArray++tf (G - n)) 46)).heap.size=(w1.alloc (.cells #[] 46)).heap.size+1:=Array.size_push _
   rw [this,hsa]
  have ue: ∀(j:Nat) (u:Value), #[c0,c1,c2,c3][j]? =some u->w2.cell? ⟨w.heap.size,j,none⟩=some u:=fun j u hu=>by
   rw [he];refine Lib.cell?_alloc_some _ ?_;show (w1.alloc (.cells #[] 46)).cell? _=_
   refine Lib.cell?_alloc_some _ ?_;rw [hb.toBelow.cell (p:=⟨w.heap.size,j,none⟩) (by show w.heap.size<w.heap.size+1;omega),World.cell?_alloc_at _ _ w.heap.size j rfl];exact hu
  refine ⟨ue 0 c0 rfl,ue 1 c1 rfl,ue 2 c2 rfl,ue 3 c3 rfl,?_,hs1,hs2,fun j=>?_,fun j u hu=>?_⟩
  ·rw [he];exact (((((DL.Below.refl _ w).alloc (Nat.le_refl _) _).trans (hb.mono (Nat.le_succ _))).alloc (by omega) _).drew).alloc (by show w.heap.size<=(w1.alloc _).heap.size;rw [hsa];omega) _
  ·rw [he, <-hsa];exact World.frozen?_alloc_at (w:=(w1.alloc (.cells #[] 46)).drew) _ _ _ j rfl
  ·rw [he, <-hsa,World.cell?_alloc_at (w:=(w1.alloc (.cells #[] 46)).drew) _ _ (w1.alloc (.cells #[] 46)).heap.size j rfl,Array.getElem?_append_left (by rw [List.size_toArray];exact (gsZ hu).1),List.getElem?_toArray];exact hu
 go_enter Tryz.func103,Tryz.ntmps103
 go_wp2_with (first
  |(go_at_call 86;refine uk.mono ?_;rintro e w1 ⟨rfl,hb1⟩)
  |(go_at_call 119;refine (zB b off n cap news w1 (by omega) hl (by omega) (uJ w1 hb1) h1).mono ?_;rintro e w2 ⟨G,hG1,hG2,rfl,hw2⟩;obtain ⟨k0,k1,k2,k3,kB,kS,kT,kf,kc⟩:=po w1 w2 G hG1 hb1 hw2;have AB:Aside (DL.Below w.heap.size w w2/\w.heap.size<w1.heap.size/\w2.heap.size=w1.heap.size+2):=⟨kB,kS,kT⟩;clear kB kS kT;have A2:Aside (w2=(w1.alloc (.cells #[] 46)).drew.alloc (.cells (news.toArray++tf (G - n)) 46)):=hw2;clear hw2;obtain ⟨Wa,Wb,Wc,Wd,s0,s1,s2,s3,eD,kD⟩:=Es c0 c1 c2 c3 hc w2 (w1.heap.size+1) p n news hp hl kc kf;have AD:Aside (Wd=w2.setCells (w1.heap.size+1) (p * 4) [c0,c1,c2,c3]):=eD;clear eD kf kc))
 go_ret
 obtain ⟨kB,kS,kT⟩:=AB.out;refine ⟨w1.heap.size+1,G,rfl,hG1,by omega,?_,?_,kD⟩
 ·rw [AD.out,size_setCells];omega
 ·rw [AD.out];exact tE _ (by omega) _ _ _ kB
structure Al {α β:Type} (R:α->β->Prop) (xs:List α) (ts:List β):Prop where
 len:xs.length=ts.length
 at_: ∀(i:Nat) (x:α) (t:β),xs[i]? =some x->ts[i]? =some t->R x t
section
variable {α β:Type}{R:α->β->Prop}{xs ys:List α}{ts us:List β}
theorem Al.take(h:Al R xs ts)(k:Nat):Al R (xs.take k) (ts.take k):=⟨by rw [List.length_take,List.length_take,h.len],fun i x t hx ht=>by
 rw [List.getElem?_take] at hx ht;split at hx
 ·rename_i hk;rw [if_pos hk] at ht;exact h.at_ i x t hx ht
 ·cases hx⟩
theorem Al.drop(h:Al R xs ts)(k:Nat):Al R (xs.drop k) (ts.drop k):=⟨by rw [List.length_drop,List.length_drop,h.len],fun i x t hx ht=>by
 rw [List.getElem?_drop] at hx ht;exact h.at_ _ x t hx ht⟩
theorem Al.append(h:Al R xs ts)(k:Al R ys us):Al R (xs++ys) (ts++us):=⟨by rw [List.length_append,List.length_append,h.len,k.len],fun i x t hx ht=>by
 by_cases hi:i<xs.length
 ·rw [List.getElem?_append_left hi] at hx;rw [List.getElem?_append_left (by rw [<- h.len];exact hi)] at ht;exact h.at_ i x t hx ht
 ·rw [List.getElem?_append_right (by omega)] at hx;rw [List.getElem?_append_right (by rw [<- h.len];omega), <-h.len] at ht;exact k.at_ _ x t hx ht⟩
end
theorem u5(st:List RE):(st.map tc).flatMap T.cells=st.flatMap ta:=by
 induction st with
 |nil=>rfl
 |cons x xs ih=>rw [List.map_cons,List.flatMap_cons,List.flatMap_cons,ih];rfl
theorem tM(st:List RE):(st.flatMap ta).length=st.length * 4:=by
 induction st with
 |nil=>rfl
 |cons x xs ih=>rw [List.flatMap_cons,List.length_append,ih,List.length_cons];show 4+_=_;omega
theorem vO(st:List RE)(k:Nat):(st.take k).flatMap ta=(st.flatMap ta).take (k * 4):=by
 induction st generalizing k with
 |nil=>simp
 |cons x xs ih=>
  cases k with
  |zero=>simp
  |succ k=>
   rw [List.take_succ_cons,List.flatMap_cons,List.flatMap_cons,ih,show (k+1) * 4=(ta x).length+k * 4 by show _=4+k * 4;omega,List.take_append,List.take_of_length_le (l:=ta x) (Nat.le_add_right _ _),Nat.add_sub_cancel_left]
theorem vM(st:List RE)(k:Nat):(st.drop k).flatMap ta=(st.flatMap ta).drop (k * 4):=by
 induction st generalizing k with
 |nil=>simp
 |cons x xs ih=>
  cases k with
  |zero=>simp
  |succ k=>
   rw [List.drop_succ_cons,List.flatMap_cons,ih,show (k+1) * 4=(ta x).length+k * 4 by show _=4+k * 4;omega,List.drop_append];simp
theorem zd(st:List RE): ∀t∈st.flatMap ta,t.one=true:=fun t ht=>by
 obtain ⟨e,_,h⟩:=List.mem_flatMap.1 ht;simp only [ta,List.mem_cons,List.not_mem_nil,or_false] at h;rcases h with rfl|rfl|rfl|rfl <;> rfl
theorem Eo{S:ar}{w:World}{r n c:Nat}{L:List Value}{st:List RE}(hn:st.length=n)(hc:n<=c)(hL:Al (fun x t=>Rep S w x t) L (st.flatMap ta))(b9: ∀(j:Nat) (u:Value),L[j]? =some u->w.cell? ⟨r,j,none⟩=some u)(hS: ∀o,S r o):
  Rep S w (.slice (some ⟨r,0,none⟩) n c) (esT st):=by
 refine Rep.slice (some ⟨r,0,none⟩) r 0 n c 4 (st.map tc) (fun i=>L[i]?.getD undef) (by rw [List.length_map,hn]) hc (fun x hx=>?_) (fun t ht=>?_) (fun _=>rfl) (fun i hi=>?_) (fun i t ht=>?_)
 ·obtain ⟨e,_,rfl⟩:=List.mem_map.1 hx;rfl
 ·rw [u5] at ht;exact zd st t ht
 ·rw [u5, <-hL.len] at hi;rw [Nat.zero_add,b9 i L[i] (ggZ hi),ggZ hi];exact ⟨rfl,hS i⟩
 ·rw [u5] at ht;have hi:=(gsZ ht).1;rw [<- hL.len] at hi;show Rep S w (L[i]?.getD undef) t
  rw [ggZ hi];exact hL.at_ i _ t (ggZ hi) ht
theorem Fx(st:List RE)(hs:tI st)(hl:st.length<2^40)(hk: ∀x∈st,kOk x)(e:RE)(he:kOk e):DCalls Tryz.prog 103 [esT st,tc e] (esT (tQ e st)):=by
 refine ⟨dX Tryz.func103 rfl rfl,fun S w vs hS hG hlen aq=>?_⟩;obtain ⟨v0,v1,rfl⟩: ∃v0 v1,vs=[v0,v1]:=by
  match vs,hlen with
  |[a,b],_=>exact ⟨a,b,rfl⟩
 have r0:=aq 0 v0 _ rfl rfl;have r1:=aq 1 v1 _ rfl rfl;obtain ⟨c0,c1,c2,c3,rfl⟩: ∃c0 c1 c2 c3,v1= .agg #[c0,c1,c2,c3]:=by
  cases r1 with
  |agg cs ts hs h1 h=>
   have hs:cs.size=4:=hs;refine ⟨cs[0],cs[1],cs[2],cs[3],?_⟩
   congr 1
   apply Array.ext
   ·simp [hs]
   ·intro i h1 h2
    match i,h1 with
    |0,_|1,_|2,_|3,_=>rfl
    |i+4,h1=>omega
 have hcs:Al (fun x t=>Rep S w x t) [c0,c1,c2,c3] (ta e):=by
  cases r1 with
  |agg cs ts hs h1 h=>exact ⟨rfl,fun i x t hx ht=>h i x t (by rw [<- hx];simp) ht⟩
 have hc1: ∀x∈[c0,c1,c2,c3],x.oneCell'=true:=fun x hx=>by
  obtain ⟨i,hi,rfl⟩:=List.getElem_of_mem hx;have hi':i<(ta e).length:=hi;exact (hcs.at_ i _ _ (ggZ hi) (ggZ hi')).one (zd [e] _ (by simp [List.getElem_mem]))
 have hsz:(w.alloc (.cells #[c0,c1,c2,c3] 46)).heap.size=w.heap.size+1:=Array.size_push _;have hB1:DL.Below w.heap.size w (w.alloc (.cells #[c0,c1,c2,c3] 46)):=(DL.Below.refl _ w).alloc (Nat.le_refl _) _;have up: ∀{x:Value} {t:T},Rep S w x t->Rep S (w.alloc (.cells #[c0,c1,c2,c3] 46)) x t:=fun h=>h.mono (fun _ _ hs=>hs) (fun b o hs=>aB.dw hB1 (hS b o hs))
 have hpl:=(zO st hs hl hk e he).2 S (w.alloc (.cells #[c0,c1,c2,c3] 46)) [v0,.agg #[c0,c1,c2,c3],.func (.func 35) #[] #[]] (fun b o h=>by rw [hsz];have:=hS b o h;omega) (hG.up (fun _ _ h=>h) hB1) rfl (fun i v t hv ht=>by
  match i,hv,ht with
  |0,hv,ht=>cases hv;cases ht;exact up r0
  |1,hv,ht=>cases hv;cases ht;exact up r1
  |2,hv,ht=>cases hv;cases ht;exact .clos _ #[] [] rfl (fun i x t hx=>by simp at hx)
  |i+3,hv,_=>simp at hv)
 have uk:Calls Tryz.prog 86 #[v0,.agg #[c0,c1,c2,c3],.func (.func 35) #[] #[]] (w.alloc (.cells #[c0,c1,c2,c3] 46)) fun en w'=>en= .returned (.tuple #[.int .i64 (tu st e:Nat),.bool (isE st e)])/\DL.Below (w.heap.size+1) (w.alloc (.cells #[c0,c1,c2,c3] 46)) w':=by
  refine hpl.mono ?_;rintro en w' ⟨v,rfl,hb,hr⟩;rw [hsz] at hb;refine ⟨congrArg _ ?_,hb⟩;cases hr with
  |tup cs ts hs h=>
   have hs:cs.size=2:=hs;have e0:=h 0 cs[0] _ (Array.getElem?_eq_getElem (by omega)) rfl;have e1:=h 1 cs[1] _ (Array.getElem?_eq_getElem (by omega)) rfl;have e0:=e0.aA;have e1:=e1.aO
   congr 1
   apply Array.ext
   ·simp [hs]
   ·intro i h1 h2
    match i,h1 with
    |0,_=>exact e0
    |1,_=>exact e1
    |i+2,h1=>omega
 have BZ:=xF st e;have fin: ∀(w':World) (r n c:Nat) (news:List Value) (k:Nat),Al (fun x t=>Rep S w x t) news (st.flatMap ta)->(st.take (tu st e)++e::st.drop k).length=n->n<=c->w.heap.size<=r->r<w'.heap.size->DL.Below w.heap.size w w'->
   tQ e st=st.take (tu st e)++e::st.drop k->(∀ (j:Nat) (u:Value),(news.take (tu st e * 4)++([c0,c1,c2,c3]++news.drop (k * 4)))[j]? =some u->w'.cell? ⟨r,j,none⟩=some u)->
   ∃v,Ending.returned (.slice (some ⟨r,0,none⟩) n c)= .returned v/\DL.Below w.heap.size w w'/\Rep (fun b o=>S b o\/(w.heap.size<=b/\b<w'.heap.size)) w' v (esT (tQ e st)):=by
  intro w' r n c news k hA hn hc hr hr2 hb eW b9;refine ⟨_,rfl,hb,?_⟩;rw [eW];have hup: ∀{x:Value} {t:T},Rep S w x t->Rep (fun b o=>S b o\/(w.heap.size<=b/\b<w'.heap.size)) w' x t:=fun h=>h.mono (fun _ _ hs=>Or.inl hs) (fun b o hs=>aB.dw hb (hS b o hs))
  refine Eo (L:=news.take (tu st e * 4)++([c0,c1,c2,c3]++news.drop (k * 4))) hn hc ?_ b9 (fun o=>Or.inr ⟨hr,hr2⟩);rw [List.flatMap_append,List.flatMap_cons,vO,vM];have hA':Al (fun x t=>Rep (fun b o=>S b o\/(w.heap.size<=b/\b<w'.heap.size)) w' x t) news (st.flatMap ta):=⟨hA.len,fun i x t hx ht=>hup (hA.at_ i x t hx ht)⟩
  have qZ:Al (fun x t=>Rep (fun b o=>S b o\/(w.heap.size<=b/\b<w'.heap.size)) w' x t) [c0,c1,c2,c3] (ta e):=⟨hcs.len,fun i x t hx ht=>hup (hcs.at_ i x t hx ht)⟩
  exact (hA'.take _).append (qZ.append (hA'.drop _))
 have eW:=Cd hs e;have Gd:(ud st e.var e.key).isSome=isE st e:=rfl;rw [Gd] at eW
 by_cases h0:st=[]
 ·subst h0;obtain ⟨a,cap,rfl⟩: ∃a cap,v0= .slice a 0 cap:=by
   cases r0 with
   |slice a b o len cap n xs g hl hc hu h1 ha hg h=>
    have:len=0:=by simpa using hl.symm
    subst this;exact ⟨a,cap,rfl⟩
  have hp0:tu [] e=0:=rfl;have hi0:isE [] e=false:=rfl;rw [hi0] at uk;refine (Dx c0 c1 c2 c3 hc1 a cap w uk).mono ?_;rintro en w' ⟨r,c,rfl,q1,q2,q3,q4,q5⟩;exact fin w' r 1 c [] 0 ⟨rfl,fun i x t hx=>by simp at hx⟩ rfl q1 q2 q3 q4 rfl (fun j u hu=>q5 j u (by simpa using hu))
 ·have hn:0<st.length:=List.length_pos_iff.2 h0;obtain ⟨b,off,cap,news,hv0,hnl,Ba,hA⟩: ∃b off cap news,v0= .slice (some ⟨b,off,none⟩) st.length cap/\news.length=st.length * 4/\(∀ (j:Nat) (u:Value),news[j]? =some u->w.cell? ⟨b,off+j,none⟩=some u)/\Al (fun x t=>Rep S w x t) news (st.flatMap ta):=by
   cases r0 with
   |slice a b o len cap n xs g hl hc hu h1 ha hg h=>
    rw [u5] at ha hg h;have hle:len=st.length:=by simpa using hl.symm
    subst hle;have hfl:=tM st;rw [ha (by omega)];refine ⟨b,o,cap,(List.range (st.length * 4)).map g,rfl,by simp,fun j u hu=>?_,by simp [hfl],fun i x t hx ht=>?_⟩
    ·obtain ⟨k,hk,rfl⟩:=List.getElem?_map .. ▸hu |> Option.map_eq_some_iff.1
     have hj:j<st.length * 4:=by
      have:=(gsZ hk).1
      simpa using this
     have:k=j:=by rw [List.getElem?_range hj] at hk;exact (Option.some.inj hk).symm
     subst this;exact (hg k (by omega)).1
    ·obtain ⟨k,hk,rfl⟩:=List.getElem?_map .. ▸hx |> Option.map_eq_some_iff.1
     have hj:i<st.length * 4:=by
      have:=(gsZ hk).1
      simpa using this
     have:k=i:=by rw [List.getElem?_range hj] at hk;exact (Option.some.inj hk).symm
     subst this;exact h k t ht
  have h1n: ∀u∈news,u.oneCell'=true:=fun u hu=>by
   obtain ⟨i,hi,rfl⟩:=List.getElem_of_mem hu;have hi':i<(st.flatMap ta).length:=by rw [<- hA.len];exact hi
   exact (hA.at_ i _ _ (ggZ hi) (ggZ hi')).one (zd st _ (List.getElem_mem hi'))
  cases hi:isE st e with
  |false=>
   rw [hi] at uk eW;refine (Dw v0 c0 c1 c2 c3 hc1 b off st.length cap news w (tu st e) hn BZ hnl (by omega) hv0 Ba h1n uk).mono ?_;rintro en w' ⟨r,c,rfl,q1,q2,q3,q4,q5⟩;exact fin w' r (st.length+1) c news (tu st e) hA (by rw [List.length_append,List.length_take,List.length_cons,List.length_drop];omega) q1 q2 q3 q4 eW q5
  |true=>
   rw [hi] at uk eW;have hlt:tu st e<st.length:=by
    rcases Nat.lt_or_ge (tu st e) st.length with h|h
    ·exact h
    ·rw [zK hs (by omega)] at hi;cases hi
   refine (Dy v0 c0 c1 c2 c3 hc1 b off st.length cap news w (tu st e) hlt hnl (by omega) hv0 Ba h1n uk).mono ?_;rintro en w' ⟨r,c,rfl,q1,q2,q3,q4,q5⟩;exact fin w' r st.length c news (tu st e+1) hA (by rw [List.length_append,List.length_take,List.length_cons,List.length_drop];omega) q1 q2 q3 q4 eW q5
end Go.ST
end
noncomputable section
namespace Go.ST0
open Go Go.DL Go.Proofs
def BD:aV:=(sr [oo 3 (.box 1 (tm 1)),oo 4 (.mov (.const .nil))] (sr [mv 5 0,oo 6 (.call 119 [tm 5]),oo 7 (.mkfn 122 [tm 3]),oo 8 (.call 121 [(tm 6),(tm 7)]),mv 4 8] .ret))
theorem B7:(Tryz.f106.body.bind (bp Tryz.prog 9 []))=some BD:=by kernel_rfl
def BE:aV:=(sr [oo 4 (.mov (.const .nil))] (sr [mv 8 0,mv 9 1,oo 10 (.call 84 [(tm 8),(tm 9)]),mv 5 10] (.seq (sr [mv 11 5,oo 12 (.bin .eql (tm 11) (.const (.int .i64 (-1))))] (.cond (tm 12) (sr [mv 13 0,mv 4 13] .ret) .skip)) (.seq (sr [mv 14 5,oo 15 (.bin .add (tm 14) (Kc 1)),mv 6 15] (.block 0 (.loop (.seq (sr [mv 16 6,mv 17 0,ln 18 17,oo 19 (.bin .lss (tm 16) (tm 18))] (.cond (tm 19) .skip (.exit 0))) (.seq (.block 1 (sr [mv 22 0,mv 23 6,ix 24 4 22 23,lA 25 4 24,⟨some 7,.alloc [S0,.nil,Z0,Z0],none,[]⟩,o0 (.store 4 (tm 7) (tm 25))] (sr [mv 26 1,lA 27 4 7,oo 28 (.bV (tm 26) [tm 27]),oo 29 (.not (tm 28))] (.cond (tm 29) (sr [mv 30 0,mv 31 5,lA 32 4 7,ix 33 4 30 31,o0 (.store 4 (tm 33) (tm 32))] (rg [mv 34 5,oo 35 (.bin .add (tm 34) (Kc 1)),mv 5 35])) .skip)))) (rg [mv 20 6,oo 21 (.bin .add (tm 20) (Kc 1)),mv 6 21])))))) (sr [mv 36 0,mv 37 5,oo 38 (.slice 4 (tm 36) (some (tm 37)) none),⟨none,.clr 4 [S0,.nil,Z0,Z0] (tm 38),none,[]⟩] (sr [mv 39 0,mv 40 5,oo 41 (.slice 4 (tm 39) none (some (tm 40))),mv 4 41] .ret))))))
theorem B8:(Tryz.f121.body.bind (bp Tryz.prog 42 []))=some BE:=by kernel_rfl
end Go.ST0
end
section
namespace Go.ST
open Go Go.DL Go.MM Go.Proofs
open Go.TY hiding Fd
theorem Ck:DCalls Tryz.prog 119 [esT []] (esT []):=by
 refine ⟨dX Tryz.func119 rfl rfl,fun S w vs hS hG hlen aq=>?_⟩;obtain ⟨v0,rfl⟩: ∃v0,vs=[v0]:=by
  match vs,hlen with
  |[a],_=>exact ⟨a,rfl⟩
 have r0:=aq 0 v0 _ rfl rfl;obtain ⟨a,cap,rfl⟩: ∃a cap,v0= .slice a 0 cap:=by
  cases r0 with
  |slice a b o len cap n xs g hl hc hu h1 ha hg h=>
   have:len=0:=by simpa using hl.symm
   subst this;exact ⟨a,cap,rfl⟩
 refine (yL a cap w).mono ?_;rintro e w' ⟨b,rfl,hw⟩;refine ⟨_,rfl,?_,?_⟩
 ·rcases hw with rfl|rfl
  ·exact DL.Below.refl _ _
  ·exact (DL.Below.refl _ _).alloc (Nat.le_refl _) _
 ·exact Rep.slice b 0 0 0 0 4 [] (fun _=>undef) rfl (Nat.le_refl _) (by simp) (by simp) (by simp) (fun i hi=>by simp at hi) (fun i t ht=>by simp at ht)
theorem yh(x:RE)(f:FuncId)(c:T)(b:Bool)(hf:DCalls Tryz.prog f [tc x,c] (.bool b)):DCalls Tryz.prog 122 [tc x,.cptr [.clos f [c]] 0] (.bool !b):=by
 refine dl2 mixed [.tmp 3] [.bool _] Tryz.func122 Gx ?_
 repeat' ((conv=>whnf);first|exact trivial|refine sV _ (hf) ?_|refine rbx ?_|(refine And.intro (by first|exact td _) ?_)|refine aS ?_|refine nT_ ?_)
theorem we(st:List RE):chunk 4 st.length (st.flatMap ta)=st.map tc:=by
 induction st with
 |nil=>rfl
 |cons x xs ih=>
  rw [List.flatMap_cons,List.length_cons,List.map_cons];show DL.elemOf 4 (List.take 4 (ta x++xs.flatMap ta))::chunk 4 xs.length (List.drop 4 (ta x++xs.flatMap ta))=_
  rw [show List.drop 4 (ta x++xs.flatMap ta)=xs.flatMap ta from rfl,ih];rfl
theorem xP: ∀(n:Nat) (a b:List T),n * 4<=a.length->chunk 4 n (a++b)=chunk 4 n a:=by
 intro n
 induction n with
 |zero=>intro a b _;rfl
 |succ n ih=>
  intro a b h;show DL.elemOf 4 ((a++b).take 4)::chunk 4 n ((a++b).drop 4)=DL.elemOf 4 (a.take 4)::chunk 4 n (a.drop 4)
  rw [List.take_append_of_le_length (by omega),List.drop_append_of_le_length (by omega),ih _ _ (by rw [List.length_drop];omega)]
theorem C7(st:List RE)(k:Nat)(hk:k<=st.length):chunk 4 k (st.flatMap ta)=(st.take k).map tc:=by
 have h:=xP;have e:st.flatMap ta=(st.take k).flatMap ta++(st.drop k).flatMap ta:=by rw [<- List.flatMap_append,List.take_append_drop]
 have hl:(st.take k).length=k:=by rw [List.length_take];omega
 rw [e,h k _ _ (by rw [tM,hl];omega)]
 have:=we (st.take k)
 rwa [hl] at this
theorem zT{L:List RE}{j:Nat}(h:j<L.length):((L.flatMap ta).drop (j * 4)).take 4=ta L[j]:=by
 rw [<- vM,List.drop_eq_getElem_cons h];rfl
theorem Ce{L:List RE}{i:Nat}(h:i<L.length)(e:RE):aP (L.flatMap ta) (i * 4) 4 (ta e)=(L.set i e).flatMap ta:=by
 unfold aP;rw [<- vO,show i * 4+4=(i+1) * 4 by omega, <-vM,List.set_eq_take_append_cons_drop,if_pos h,List.flatMap_append,List.flatMap_cons]
theorem Dp{ks:List Nat}{bx:Nat->Option BX}{n off a b size:Nat}(h:a=b):LeV ks bx (.view n off a size) (.view n off b size):=by rw [h];exact .same _
theorem Gy{ks:List Nat}{bx:Nat->Option BX}{n m:Nat}{ts us:List T}(h1:n=m)(h:ts=us):LeB ks bx (.d n ts) (some (.d m us)):=by rw [h,h1];exact .same _
theorem DW{L:List RE}{i n:Nat}(hi:i<=n)(hL:L.length=n):aP (L.flatMap ta) (i * 4) ((n - i) * 4) (List.replicate (n - i) [T.str ⟨#[]⟩,.nil,I 0,I 0]).flatten=(L.take i).flatMap ta++(List.replicate (n - i) [T.str ⟨#[]⟩,.nil,I 0,I 0]).flatten:=by
 unfold aP;rw [<- vO,List.drop_eq_nil_of_le (by rw [tM,hL];omega),List.append_nil]
theorem Aj{α:Type}{p:α->Bool}{xs:List α}{i:Nat}(h:tZ p xs=i): ∀j (hj:j<xs.length),j<i->p xs[j]=false:=by
 unfold tZ at h;cases hf:xs.findIdx? p with
 |none=>rw [hf] at h;dsimp only at h;omega
 |some k=>
  rw [hf] at h;obtain ⟨h1,h2,h3⟩:=List.findIdx?_eq_some_iff_getElem.1 hf;dsimp only at h;intro j hj hji
  have:=h3 j (by omega)
  simpa using this
theorem Co(st:List RE)(hl:st.length<2^40)(f:FuncId)(c:T)(p:RE->Bool)(hf: ∀x∈st,DCalls Tryz.prog f [tc x,c] (.bool (p x))):
  DCalls Tryz.prog 106 [esT st,.clos f [c]] (esT (st.filter p)):=by
 have hix:=wG st 122 (.cptr [.clos f [c]] 0) (fun x=> !p x) (by omega) fun i h=>yh st[i] f c (p st[i]) (hf _ (List.getElem_mem h))
 rcases st with _|⟨x0,st0⟩
 ·refine dl2 mixed [.tmp 4] [.slice 4 _] Tryz.func106 ST0.B7 ?_;have hD:DCalls Tryz.prog 121 [esT [],.clos 122 [.cptr [.clos f [c]] 0]] (esT []):=by
   refine dl2 mixed [.tmp 4] [.slice 4 _] Tryz.func121 ST0.B8 ?_;have e:tZ (fun x=> !p x) ([]:List RE)= -1:=rfl;rw [e] at hix
   repeat' ((conv=>whnf);first|refine sV _ (hix) ?_|refine aE1 ?_|refine aS ?_|exact trivial)
  repeat' ((conv=>whnf);first|refine sV _ (Ck) ?_|refine sV _ (hD) ?_|refine aS ?_|exact trivial)
 generalize hst:x0::st0=st at *
 have aH:0<st.length:=by rw [<- hst];simp
 have hfl:0<((st.map tc).flatMap T.cells).length:=by rw [u5,tM];omega
 refine dl2 mixed [.tmp 4] [.slice 4 _] Tryz.func106 B7 ?_
 repeat' ((conv=>whnf);first|refine aS ?_|fail)
 refine sP mixed Tryz.func119 Gw rfl rfl (rs:=[.tmp 2]) rfl 500 (nlZ rfl) ?_;have hap:4=4/\0<(st.map tc).length/\(st.map tc).length * 56<=140737488355328:=⟨rfl,by rw [List.length_map];exact aH,by rw [List.length_map];omega⟩
 repeat' ((conv=>whnf);first|(refine And.intro (by first|exact hfl|exact hap) ?_)|refine aS ?_|fail)
 refine ⟨_,rfl,?_⟩
 skip
 refine sP mixed Tryz.func121 B8 rfl rfl (rs:=[.tmp 4]) rfl 700 (nlZ rfl) ?_;have Af: ∀(bx:Nat->Option BX),bx 507=some (.d ((st.map tc).length * 4) ((st.map tc).flatMap T.cells))->conv bx (.view 507 0 (st.map tc).length 4)=some (esT st,[507]):=fun bx hb=>by
  have:conv bx (.view 507 0 (st.map tc).length 4)=(match bx 507 with|some (.d m ts)=>cond (Nat.blt 0 4&&Nat.ble (0+(st.map tc).length * 4) m) (some (T.slice 4 (chunk 4 (st.map tc).length (ts.drop 0)),[507])) none|_=>none):=rfl
  rw [this,hb];simp only;have h1:Nat.ble (0+(st.map tc).length * 4) ((st.map tc).length * 4)=true:=Nat.ble_eq_true_of_le (by omega);rw [h1,List.drop_zero,u5,List.length_map,we];rfl
 have hcv: ∀(bx:Nat->Option BX) (L:List RE) (k:Nat),bx 507=some (.d (st.length * 4) (L.flatMap ta))->L.length=st.length->k<=L.length->conv bx (.view 507 0 k 4)=some (esT (L.take k),[507]):=fun bx L k hb hL hk=>by
  have:conv bx (.view 507 0 k 4)=(match bx 507 with|some (.d m ts)=>cond (Nat.blt 0 4&&Nat.ble (0+k * 4) m) (some (T.slice 4 (chunk 4 k (ts.drop 0)),[507])) none|_=>none):=rfl
  rw [this,hb];simp only;have h1:Nat.ble (0+k * 4) (st.length * 4)=true:=Nat.ble_eq_true_of_le (by omega);rw [h1,List.drop_zero,C7 L k hk];rfl
 conv=>whnf
 split
 ·rename_i ts heq;have e:=heq.symm.trans (rO (Af _ rfl) rfl);cases e
 rotate_left
 ·rename_i heq;have e:=heq.symm.trans (rO (Af _ rfl) rfl);cases e
 rename_i ts r0 rs heq;have e:=heq.symm.trans (rO (Af _ rfl) rfl);cases e;refine ⟨_,hix,rfl,?_⟩;clear heq;rcases wq (fun x=> !p x) st with ⟨hx,hno⟩|⟨k,hk,hx,hfd⟩
 ·have F9:st.filter p=st:=by
   rw [List.filter_eq_self];intro x hx
   have:=List.find?_eq_none.1 hno x hx
   simpa using this
  rw [F9];have hE:tZ (fun x=> !p x) st= -1:=hx
  repeat' ((conv=>whnf);first|refine ry hE ?_|refine aS ?_|fail)
  refine ⟨_,rfl,?_⟩
  skip
  refine ⟨?_,trivial⟩;have hr0: ∀bx:Nat->Option BX,bx 507=some (.d ((st.map tc).length * 4) ((st.map tc).flatMap T.cells))->Option.map (fun x=>x.1) (nA bx (.view 507 0 (st.map tc).length 4))=some (esT st):=fun bx hb=>congrArg (Option.map Prod.fst) (Af bx hb)
  refine hr0 _ ?_;rfl
 ·have hkp:p st[k]=false:=by simpa using List.find?_some hfd
  have F2:(st.take (k+1)).filter p=st.take k:=by
   rw [List.take_succ_eq_append_getElem hk,List.filter_append];have h1:(st.take k).filter p=st.take k:=by
    rw [List.filter_eq_self];intro x hxm;obtain ⟨j,hj,rfl⟩:=List.getElem_of_mem hxm;rw [List.length_take] at hj;rw [List.getElem_take]
    have:=Aj hx j (by omega) (by omega)
    simpa using this
   rw [h1];simp [hkp]
  have hE:tZ (fun x=> !p x) st≠ -1:=by rw [hx];omega
  have hA:((k:Nat):Int)=tZ (fun x=> !p x) st:=hx.symm;have hB:((k+1:Nat):Int)=IntKind.wrap .i64 (tZ (fun x=> !p x) st+1):=by rw [hx,np] <;> omega
  have hLm:st.length=(st.map tc).length:=by rw [List.length_map]
  have hLn:st.length * 4=(st.map tc).length * 4:=by rw [List.length_map]
  have hcl: ∀x∈st,DCalls Tryz.prog 122 [tc x,.cptr [.clos f [c]] 0] (.bool !(p x)):=fun x hx=>yh x f c (p x) (hf x hx)
  repeat' ((conv=>whnf);first|refine rv hE ?_|refine aS ?_|fail)
  refine sa 0 (α:=Nat×Nat×List RE) (β:=Nat×List RE) (fun q=>{sl:=[(0,.view 507 0 st.length 4),(1,.fn 122 [.ptr 3 0]),(5,.t (I q.1)),(6,.t (I ((q.2.1+1:Nat):Int)))],bx:=[(3,.d 1 [.clos f [c]]),(507,.d (st.length * 4) (q.2.2.flatMap ta))],gh:=[],off:=700})
   (fun q=>q.1<q.2.1+1/\q.2.1+1<=st.length/\q.2.2.length=st.length/\q.2.2.take q.1=(st.take (q.2.1+1)).filter p/\q.2.2.drop (q.2.1+1)=st.drop (q.2.1+1)) (fun q=>st.length - q.2.1)
   (fun q=>{sl:=[(0,.view 507 0 st.length 4),(5,.t (I q.1))],bx:=[(507,.d (st.length * 4) (q.2.flatMap ta))],gh:=[],off:=700}) (fun q=>q.1<st.length/\q.2.length=st.length/\q.2.take q.1=st.filter p) (k,k,st) ⟨Nat.lt_succ_self k,hk,rfl,F2.symm,rfl⟩ ?_ ?_ ?_
  ·repeat' (first|(exact leI hA)|(exact leI hB)|(exact Dp hLm)|(exact Gy hLn (u5 st).symm)|exact wJ|refine And.intro ?_ ?_)
  ·rintro ⟨i,j',L⟩ ⟨q1,q2,q3,q4,q5⟩;dsimp only at q1 q2 q3 q4 q5;rcases Nat.lt_or_ge (j'+1) st.length with hj|hj
   ·have hlt:((j'+1:Nat):Int)<(st.length:Int):=by omega
    have hjL:j'+1<L.length:=by omega
    have hxL:L[j'+1]=st[j'+1]:=by
     have e:L[j'+1]? =st[j'+1]? :=by have:=congrArg List.head? q5;simpa [List.head?_drop] using this
     rw [ggZ hjL,ggZ hj] at e;exact Option.some.inj e
    have gD:T.agg (((L.flatMap ta).drop (0+((j'+1:Nat):Int).toNat * 4)).take 4)= .agg (ta st[j'+1]):=by
     rw [Int.toNat_natCast,Nat.zero_add,zT hjL,hxL]
    have bZ:=hcl st[j'+1] (List.getElem_mem hj);have hff:(st.take (j'+1+1)).filter p=L.take i++(if p st[j'+1] then [st[j'+1]] else []):=by
     rw [List.take_succ_eq_append_getElem hj,List.filter_append,q4];cases h:p st[j'+1] <;> simp [h]
    have yt:L.drop (j'+1+1)=st.drop (j'+1+1):=by
     rw [List.drop_eq_getElem_cons hjL,List.drop_eq_getElem_cons hj] at q5;exact (List.cons.inj q5).2
    have hJ:((j'+1+1:Nat):Int)=IntKind.wrap .i64 (((j'+1:Nat):Int)+1):=by rw [np] <;> omega
    have hI:((i+1:Nat):Int)=IntKind.wrap .i64 ((i:Int)+1):=by rw [np] <;> omega
    generalize hxx:st[j'+1]=x at *
    cases hp:p x with
    |false=>
     rw [hp] at hff bZ
     repeat' ((conv=>whnf);first|refine ru hlt ?_|(refine nv_ (.agg (ta x)) (by first|exact gD) ?_)|refine ⟨_,bZ,rfl,?_⟩|(refine And.intro (by first|exact td _|((simp;omega);done)|fail) ?_)|refine aS ?_|fail)
     exact ⟨(i,j'+1,L),⟨by dsimp only;omega,hj,q3,by rw [hff];simp,yt⟩,by dsimp only;omega,by repeat' (first|(exact leI hJ)|exact wJ|refine And.intro ?_ ?_)⟩
    |true=>
     rw [hp] at hff bZ;have hi:i<L.length:=by omega
     have sG:=Ce hi x;have EX:(L.set i x).flatMap ta=aP (L.flatMap ta) (0+((i:Nat):Int).toNat * 4) 4 (ta x):=by rw [Int.toNat_natCast,Nat.zero_add,sG]
     have Gi:(aP [T.str ⟨#[]⟩,.nil,I 0,I 0] 0 4 (ta x)).length=4/\0+((i:Nat):Int).toNat * 4+4<=st.length * 4:=⟨rfl,by rw [Int.toNat_natCast];omega⟩
     repeat' ((conv=>whnf);first|refine ru hlt ?_|(refine nv_ (.agg (ta x)) (by first|exact gD) ?_)|refine ⟨_,bZ,rfl,?_⟩|(refine And.intro (by first|exact td _|exact Gi|((simp;omega);done)|fail) ?_)|refine aS ?_|fail)
     refine ⟨(i+1,j'+1,L.set i x),⟨by dsimp only;omega,hj,by simpa using q3,?_,?_⟩,by dsimp only;omega,by repeat' (first|(exact leI hJ)|(exact leI hI)|(exact s8 EX)|exact wJ|refine And.intro ?_ ?_)⟩
     ·rw [hff,List.take_set,List.take_succ_eq_append_getElem hi,List.set_append_right _ _ (by simp;omega)];simp [List.length_take,Nat.min_eq_left (Nat.le_of_lt hi)]
     ·show (L.set i x).drop (j'+1+1)=_
      rw [List.drop_set_of_lt (by omega)];exact yt
   ·have hlt: ¬((j'+1:Nat):Int)<(st.length:Int):=by omega
    have hj2:j'+1=st.length:=by omega
    rw [hj2,List.take_length] at q4
    repeat' ((conv=>whnf);first|refine rq hlt ?_|refine aS ?_|fail)
    exact ⟨(i,L),⟨by dsimp only;omega,q3,q4⟩,by repeat' (first|exact wJ|refine And.intro ?_ ?_)⟩
  ·rintro ⟨i,L⟩ ⟨q1,q3,q4⟩;dsimp only at q1 q3 q4;have hz:aP (L.flatMap ta) (0+((i:Nat):Int).toNat * 4) ((((st.length:Nat):Int).toNat - ((i:Nat):Int).toNat) * 4) (List.replicate (((st.length:Nat):Int).toNat - ((i:Nat):Int).toNat) [T.str ⟨#[]⟩,.nil,I 0,I 0]).flatten=(L.take i).flatMap ta++(List.replicate (st.length - i) [T.str ⟨#[]⟩,.nil,I 0,I 0]).flatten:=by
    rw [Int.toNat_natCast,Int.toNat_natCast,Nat.zero_add];exact DW (by omega) q3
   have hr1: ∀bx:Nat->Option BX,bx 507=some (.d (st.length * 4) (aP (L.flatMap ta) (0+((i:Nat):Int).toNat * 4) ((((st.length:Nat):Int).toNat - ((i:Nat):Int).toNat) * 4) (List.replicate (((st.length:Nat):Int).toNat - ((i:Nat):Int).toNat) [T.str ⟨#[]⟩,.nil,I 0,I 0]).flatten))->Option.map (fun x=>x.1) (nA bx (.view 507 0 i 4))=some (esT (st.filter p)):=fun bx hb=>by
    have h0:nA bx (.view 507 0 i 4)=(match bx 507 with|some (.d m ts)=>cond (Nat.blt 0 4&&Nat.ble (0+i * 4) m) (some (T.slice 4 (chunk 4 i (ts.drop 0)),[507])) none|_=>none):=rfl;rw [h0,hb];simp only;have h1:Nat.ble (0+i * 4) (st.length * 4)=true:=Nat.ble_eq_true_of_le (by omega);have hl2:(L.take i).length=i:=by rw [List.length_take];omega
    have h2:=we (L.take i);rw [hl2] at h2;rw [h1,List.drop_zero,hz,xP i _ _ (by rw [tM,hl2];omega),h2,q4];rfl
   refine And.intro (by dsimp only;simp only [Int.toNat_natCast];omega) ?_
   conv=>whnf
   refine And.intro (by dsimp only;omega) ?_
   conv=>whnf
   refine And.intro (by dsimp only;omega) ?_
   conv=>whnf
   refine ⟨_,rfl,?_⟩
   conv=>whnf
   refine And.intro ?_ trivial;refine hr1 _ ?_;rfl
end Go.ST
end
section
namespace Go.ST1
open Go Go.DL Go.Proofs
noncomputable def c81:aV:=(.seq (.cut (rg [oo 3 (.box 1 (tm 1)),oo 4 (.mov (.const .nil))])) (sr [mv 5 0,oo 6 (.mkfn 107 [tm 3]),oo 7 (.call 106 [(tm 5),(tm 6)]),mv 4 7] .ret))
theorem l81:(Tryz.f81.body.bind (bp Tryz.prog 8 [6000000]))=some c81:=by kernel_rfl
end Go.ST1
end
section
namespace Go.ST
open Go Go.DL Go.MM Go.Proofs
open Go.TY hiding Fd
theorem Fu(x:RE)(v:ByteArray):DCalls Tryz.prog 107 [tc x,.cptr [.str v] 0] (.bool (decide (x.var=v))):=by
 refine dl2 mixed [.tmp 3] [.bool _] Tryz.func107 Gp ?_;have h:=eqS x.var v
 repeat' ((conv=>whnf);first|exact trivial|refine nb_ _ h ?_|refine rbx ?_|(refine And.intro (by first|exact td _) ?_)|refine aS ?_|refine nT_ ?_)
theorem Cm(st:List RE)(v:ByteArray)(hl:st.length<2^40):DCalls Tryz.prog 81 [esT st,.str v] (esT (ofE st v)):=by
 refine dl2 mixed [.tmp 4] [.slice 4 _] Tryz.func81 Go.ST1.l81 ?_;have h:=Co st hl 107 (.cptr [.str v] 0) (fun e=>decide (e.var=v)) fun x _=>Fu x v
 refine sO (β:=Unit) (fun _=>{sl:=[(0,.t (esT st)),(3,.t (.cptr [.str v] 0))],bx:=[]}) (fun _=>True) ?_ ?_
 ·repeat' ((conv=>whnf);first|(exact ⟨(),trivial,by (repeat' (first|(exact LeV.conv _ _ _ rfl (fun n _ hk=>absurd (show n∈([]:List Nat) from hk) (by simp)))|exact wJ|refine And.intro ?_ ?_));done⟩)|refine aS ?_|fail)
 rintro _ _
 repeat' ((conv=>whnf);first|refine sV _ (h) ?_|refine aS ?_|exact trivial)
end Go.ST
end
section
namespace Go.Proofs
open Go.Shelf
def Tryz.xC:Go.Shelf.Ren:=⟨fun|4=>70|n=>n,fun|22=>22|25=>46|3=>3|4=>4|9=>9|20=>20|0=>0|n=>n,fun|n=>n⟩
theorem Tryz.xc:Go.Proofs.Lays8.n4 Tryz.prog Tryz.xC:={
 mixed:=by kernel_rfl
 f4:=⟨Tryz.f70.name,by decide,Tryz.func70.trans (congrArg some (by kernel_rfl))⟩
 t0:=Tryz.underlying0
 a0:=Tryz.isAgg0
 z0:=Tryz.sizeOf0
 v0:=Tryz.zeroValue0
 t3:=Tryz.underlying3
 a3:=Tryz.isAgg3
 z3:=Tryz.sizeOf3
 v3:=Tryz.zeroValue3
 t4:=Tryz.underlying4
 a4:=Tryz.isAgg4
 z4:=Tryz.sizeOf4
 v4:=Tryz.zeroValue4
 t9:=Tryz.underlying9
 a9:=Tryz.isAgg9
 z9:=Tryz.sizeOf9
 v9:=Tryz.zeroValue9
 t20:=Tryz.underlying20
 a20:=Tryz.isAgg20
 z20:=Tryz.sizeOf20
 v20:=Tryz.zeroValue20
 t22:=Tryz.underlying22
 a22:=Tryz.isAgg22
 z22:=Tryz.sizeOf22
 v22:=Tryz.zeroValue22 }
end Go.Proofs
end
section
namespace Go.ST
open Go Go.DL Go.MM Go.Proofs Go.Shelf Go.RowKit
theorem DD(w:World)(p:Option Addr)(n c:Nat)(news:List Value)(hl:news.length=n * 4)(hp:p=none->n=0)(hc: ∀a,p=some a-> ∀(j:Nat) (u:Value),news[j]? =some u->w.cell? (a.add j)=some u)(h1: ∀u∈news,u.oneCell'=true):
  Src Tryz.prog 4 22 (.slice p n c) n news w:=by
 cases p with
 |none=>
  have:=hp rfl
  subst this
  have:news=[]:=List.eq_nil_of_length_eq_zero (by omega)
  subst this;exact Src.ofNil w tH c
 |some a=>exact Src.ofSlice w tH a n c news hl (hc a rfl) h1
theorem EM(w:World):Calls Tryz.prog 70 #[.slice none 0 0,.int .i64 0] w fun e w'=>e= .returned (.slice none 0 0)/\w'=w:=
 Any8.slices_Grow_room Tryz.xc none 0 0 0 w (Nat.le_refl _) (by omega) (by omega) (by omega)
theorem EP(w:World)(n:Nat)(m:Int)(hm:m=n)(h:0<n)(hb:n<2^40):Calls Tryz.prog 70 #[.slice none 0 0,.int .i64 m] w fun e w'=> ∃G,n<=G/\e= .returned (.slice (some ⟨w.heap.size,0,none⟩) 0 G)/\w'=w.drew.alloc (.cells (tf n++tf (G - n)) 46):=by
 subst hm;obtain ⟨i0,hi,hz0,hz1,hz2⟩:=info_parts u7;refine (Any8.slices_Grow_grow Tryz.xc i0 zeV hi hz0 (by omega) none 0 0 n [] w (Nat.le_refl _) (by omega) (by rw [hz2];omega) (by omega) (by simp) (fun _=>rfl) (fun a h=>by cases h)).mono ?_;rintro e w' ⟨rfl,rfl⟩;refine ⟨_,Nat.le_trans (Nat.le_of_eq (Nat.zero_add n).symm) (grownCap_ge _ _ _ _),rfl,?_⟩;simp;rfl
theorem ye(w:World)(ty:TypeId)(g n G m:Nat)(x:Value)(news:List Value)(hs:Src Tryz.prog 4 22 x m news w)(bn:n+m<=G)(hc: ∀j,j<G * 4->(w.cell? ⟨g,j,none⟩).isSome=true)(hf: ∀j,w.frozen? ⟨g,j,none⟩=false):
  (Builtin.append_ #[22,22] ty #[.slice (some ⟨g,0,none⟩) n G,x]).run Tryz.prog w= .ok (.slice (some ⟨g,0,none⟩) (n+m) G) (w.setCells g (n * 4) news):=by
 obtain ⟨i0,hi,hz0,hz1,hz2⟩:=info_parts u7
 have:=run_append_room_src (P:=Tryz.prog) w 22 22 ty 46 i0 tH hi g 0 n G x m news (by rw [hz1];exact hs) bn (fun j hj=>by rw [hz1];exact hc _ (by have:=hs.newsLen;omega)) (fun j _=>hf _)
 rw [hz1,Nat.zero_add] at this;exact this
theorem Da(W:World)(vb cap na ca nb cb:Nat)(pa pb:Option Addr)(A B:List Value)(k0:W.cell? ⟨vb,0,none⟩=some (.slice pa na ca))(k1:W.cell? ⟨vb,1,none⟩=some (.slice pb nb cb))(hna:na<2^30)(hnb:nb<2^30)
  (sA: ∀w',DL.Below W.heap.size W w'->Src Tryz.prog 4 22 (.slice pa na ca) na A w') (sB: ∀w',DL.Below W.heap.size W w'->Src Tryz.prog 4 22 (.slice pb nb cb) nb B w') (h0:0<na+nb):
  Calls Tryz.prog 42 #[.slice (some ⟨vb,0,none⟩) 2 cap] W fun e w'=> ∃G,na+nb<=G/\e= .returned (.slice (some ⟨W.heap.size,0,none⟩) (na+nb) G)/\
   w'=((W.drew.alloc (.cells (tf (na+nb)++tf (G - (na+nb))) 46)).setCells W.heap.size 0 A).setCells W.heap.size (na * 4) B:=by
 have q22:=nil_eq;have u22: ∀w,Sem.run Tryz.prog (underlying 22) w= .ok (TypeDesc.slice 46) w:=run_underlying tH;have mx:=mixed;have w1:wrap64 (na:Int)=na:=by unfold wrap64;omega
 have w2:wrap64 ((na:Int)+nb)=((na+nb:Nat):Int):=by unfold wrap64;omega
 have n1: ¬((na:Int)<0):=by omega
 have n2: ¬(((na+nb:Nat):Int)<0):=by omega
 have GP:W.drew.heap.size=W.heap.size:=rfl;have hB1: ∀G,DL.Below W.heap.size W (W.drew.alloc (.cells (tf (na+nb)++tf (G - (na+nb))) 46)):=fun G=>((DL.Below.refl _ _).drew).alloc (Nat.le_refl _) _
 have hbv:vb<W.heap.size:=block_lt_of_cell k0;have hk0: ∀w',DL.Below W.heap.size W w'->w'.cell? ⟨vb,0,none⟩=some (.slice pa na ca):=fun w' h=>by rw [h.toBelow.cell (p:=⟨vb,0,none⟩) hbv];exact k0
 have hk1: ∀w',DL.Below W.heap.size W w'->w'.cell? ⟨vb,1,none⟩=some (.slice pb nb cb):=fun w' h=>by rw [h.toBelow.cell (p:=⟨vb,1,none⟩) hbv];exact k1
 have hzl: ∀k,(tf k).size=k * 4:=fun k=>by simp [tf,Builtin.zeroCells,Value.cells]
 have c1: ∀G,na+nb<=G-> ∀j,j<G * 4->((W.drew.alloc (.cells (tf (na+nb)++tf (G - (na+nb))) 46)).cell? ⟨W.heap.size,j,none⟩).isSome=true:=fun G hG j hj=>by
  rw [World.cell?_alloc_at (w:=W.drew) _ _ W.heap.size j rfl,Array.getElem?_eq_getElem (by rw [Array.size_append,hzl,hzl];omega)];rfl
 have f1: ∀G j,(W.drew.alloc (.cells (tf (na+nb)++tf (G - (na+nb))) 46)).frozen? ⟨W.heap.size,j,none⟩=false:=fun G j=>World.frozen?_alloc_at (w:=W.drew) _ _ W.heap.size j rfl
 go_enter Tryz.func42,Tryz.ntmps42
 go_wp2
 refine wp_loop_rounds 3 ?_;rw [rounds_succ]
 go_wp2
 rw [rounds_succ]
 go_wp2
 rw [rounds_succ]
 go_wp2_with (go_at_call 70;refine (EP W (na+nb) _ (by omega) h0 (by omega)).mono ?_;rintro e w' ⟨G,hG,rfl,hw'⟩;have AW:Aside (w'=W.drew.alloc (.cells (tf (na+nb)++tf (G - (na+nb))) 46)):=hw';clear hw')
 have hw':=AW.out;have hB:=hB1 G;have hC:=c1 G hG;have hF:=f1 G;rw [<- hw'] at hB hC hF;have hC2: ∀j,j<G * 4->((w'.setCells W.heap.size 0 A).cell? ⟨W.heap.size,j,none⟩).isSome=true:=fun j hj=>by
  have hAl:=(sA W (DL.Below.refl _ _)).newsLen;exact tP _ A 0 w' (fun t ht=>by rw [Nat.zero_add];exact hC t (by omega)) j (hC j hj)
 have hB2:DL.Below W.heap.size W (w'.setCells W.heap.size 0 A):=tE _ (Nat.le_refl _) _ _ _ hB;have r1:=fun ty=>ye w' ty W.heap.size 0 G na (.slice pa na ca) A (sA w' hB) (by omega) hC hF
 have r2:=fun ty=>ye (w'.setCells W.heap.size 0 A) ty W.heap.size na G nb (.slice pb nb cb) B (sB _ hB2) (by omega) hC2 (fun j=>by rw [World.frozen?_setCells];exact hF j)
 have q0:=hk0 w' hB;have q1:=hk1 _ hB2;simp only [Nat.zero_add,Nat.zero_mul] at r1;clear hw' hB hB2 hC hC2 hF hB1 c1 f1 hk0 hk1 sA sB k0 k1;obtain ⟨W2,hW2⟩: ∃W2,W2=w'.setCells W.heap.size 0 A:=⟨_,rfl⟩
 rw [<- hW2] at r1 r2 q1;have A2:Aside (W2=w'.setCells W.heap.size 0 A):=hW2;clear hW2;refine wp_loop_rounds 3 ?_;rw [rounds_succ]
 go_wp2_with (at_builtin;refine Lib.wpList_append_run _ rfl _ _ _ _ rfl _ _ rfl rfl _ _ (r1 _) ?_)
 rw [rounds_succ]
 go_wp2_with (at_builtin;refine Lib.wpList_append_run _ rfl _ _ _ _ rfl _ _ rfl rfl _ _ (r2 _) ?_)
 rw [rounds_succ]
 go_wp2
 go_ret
 exact ⟨G,hG,rfl,by rw [A2.out,AW.out]⟩
theorem zh(w:World)(ty:TypeId)(x:Value)(hs:Src Tryz.prog 4 22 x 0 [] w):(Builtin.append_ #[22,22] ty #[.slice none 0 0,x]).run Tryz.prog w= .ok (.slice none 0 0) w:=by
 obtain ⟨i0,hi,hz0,hz1,hz2⟩:=info_parts u7;have h4:=hs.cells;have h5:=hs.cellsD;rcases hs.kind with ⟨e',hk⟩|hk <;> simp [Builtin.append_,run_underlying tH,sizeOf,typeInfo,hi,hz1,hs.len,h4]
theorem C9(W:World)(vb cap ca cb:Nat)(pa pb:Option Addr)(k0:W.cell? ⟨vb,0,none⟩=some (.slice pa 0 ca))(k1:W.cell? ⟨vb,1,none⟩=some (.slice pb 0 cb))
  (sA:Src Tryz.prog 4 22 (.slice pa 0 ca) 0 [] W) (sB:Src Tryz.prog 4 22 (.slice pb 0 cb) 0 [] W):
  Calls Tryz.prog 42 #[.slice (some ⟨vb,0,none⟩) 2 cap] W fun e w'=>e= .returned (.slice none 0 0)/\w'=W:=by
 have q22:=nil_eq;have u22: ∀w,Sem.run Tryz.prog (underlying 22) w= .ok (TypeDesc.slice 46) w:=run_underlying tH;have mx:=mixed;have r1:=fun ty=>zh W ty _ sA
 have r2:=fun ty=>zh W ty _ sB
 go_enter Tryz.func42,Tryz.ntmps42
 go_wp2
 refine wp_loop_rounds 3 ?_;rw [rounds_succ]
 go_wp2
 rw [rounds_succ]
 go_wp2
 rw [rounds_succ]
 go_wp2_with (go_at_call 70;refine (EM W).mono ?_;rintro e w' ⟨rfl,rfl⟩)
 refine wp_loop_rounds 3 ?_;rw [rounds_succ]
 go_wp2_with (at_builtin;refine Lib.wpList_append_run _ rfl _ _ _ _ rfl _ _ rfl rfl _ _ (r1 _) ?_)
 rw [rounds_succ]
 go_wp2_with (at_builtin;refine Lib.wpList_append_run _ rfl _ _ _ _ rfl _ _ rfl rfl _ _ (r2 _) ?_)
 rw [rounds_succ]
 go_wp2
 go_ret
 exact ⟨rfl,rfl⟩
end Go.ST
end
section
namespace Go.ST
open Go Go.DL Go.MM Go.Proofs
theorem uW(b:Nat)(e:TypeId)(s:Nat×Nat): ∀(vs:List Value) (o:Nat) (w:World) (c:Array Value),w.heap[b]? =some (.cells c e s)-> ∃c',(w.setCells b o vs).heap[b]? =some (.cells c' e s)/\c'.size=c.size
 |[],_,_,c,h=>⟨c,h,rfl⟩
 |v::vs,o,w,c,h=>by
  have h1:(w.setCell ⟨b,o,none⟩ v).heap[b]? =some (.cells (c.setIfInBounds o v) e s):=by
   unfold World.setCell;simp [Array.getElem?_modify,h]
  obtain ⟨c',g1,g2⟩:=uW b e s vs (o+1) _ _ h1;exact ⟨c',g1,by rw [g2,Array.size_setIfInBounds]⟩
theorem Bq{S:ar}{w:World}{v:Value}{L:List RE}(h:Rep S w v (esT L)): ∃(a:Option Addr) (cap:Nat) (news:List Value),v= .slice a L.length cap/\news.length=L.length * 4/\(a=none->L.length=0)/\
  (∀ ad,a=some ad-> ∀(j:Nat) (u:Value),news[j]? =some u->w.cell? (ad.add j)=some u)/\Al (fun x t=>Rep S w x t) news (L.flatMap ta):=by
 cases h with
 |slice a b o len cap n xs g hl hc hu h1 ha hg h=>
  rw [u5] at *
  have hlen:len=L.length:=by rw [<- hl,List.length_map]
  subst hlen;refine ⟨a,cap,(List.range (L.length * 4)).map g,rfl,by simp,fun hn=>?_,fun ad had j u hj=>?_,⟨by rw [tM];simp,fun i x t hx ht=>?_⟩⟩
  ·rcases Nat.eq_zero_or_pos L.length with h0|h0
   ·exact h0
   ·have:=ha (by rw [tM];omega)
    rw [hn] at this;cases this
  ·have hj':=(gsZ hj).1;rw [List.length_map,List.length_range] at hj'
   have:=ha (by rw [tM];omega)
   rw [had] at this;cases this;rw [List.getElem?_map,List.getElem?_range hj'] at hj;cases hj;rw [Addr.add_lit];exact (hg j (by rw [tM];exact hj')).1
  ·have hi:=(gsZ hx).1;rw [List.length_map,List.length_range] at hi;rw [List.getElem?_map,List.getElem?_range hi] at hx;cases hx;exact h i t ht
theorem AZ(a b:List RE)(ha:a.length<2^30)(hb:b.length<2^30){st:St}{r d:Nat}{K:St->Prop}(hq:st.bx (d+st.off)=none)(pz:a++b=[]->K (st.set (some d) (.t .nil)))
  (hk:0<(a++b).length->K ({st with bx:=upd st.bx (d+st.off) (some (.d ((a++b).length * 4) ((a++b).flatMap ta)))}.set (some d) (.view (d+st.off) 0 (a++b).length 4))):
  WC Tryz.prog 42 [.own r 22 1 [esT a,esT b]] (some d) st K:=by
 refine ⟨dX Tryz.func42 rfl rfl,fun N w0 S0 E t vs h hlen hv hd=>?_⟩;have hsz:vs.size=1:=hlen;have hvs:vs= #[vs[0]]:=by
  apply Array.ext
  ·simp [hsz]
  ·intro i h1 h2
   match i,h1 with
   |0,_=>rfl
   |i+1,h1=>omega
 have ho:=(hv 0 vs[0] _ (by simp [hsz]) rfl).eU;generalize vs[0]=v0 at *
 subst hvs;obtain ⟨cells,k1,k2,k3⟩:=ho.ex;rcases k1.2 with ⟨rfl,hn⟩|⟨g,cap,cur,rfl,hbg,hg,cO,hm,hs,htk⟩
 ·cases hn
 have hcl:cells.length=2:=k2;obtain ⟨va,vb,rfl⟩: ∃va vb,cells=[va,vb]:=by
  match cells,hcl with
  |[x,y],_=>exact ⟨x,y,rfl⟩
 obtain ⟨pa,ca,A,rfl,hA1,hA2,hA3,hA4⟩:=Bq (k3 0 va (esT a) rfl rfl);obtain ⟨pb,cb,B,rfl,hB1,hB2,hB3,hB4⟩:=Bq (k3 1 vb (esT b) rfl rfl);have hc0:E.w.cell? ⟨g,0,none⟩=some (.slice pa a.length ca):=by
  rw [cell_of_row _ _ _ _ _ _ hg]
  have:=congrArg (fun l:List Value=>l[0]?) htk
  simpa using this
 have hc1:E.w.cell? ⟨g,1,none⟩=some (.slice pb b.length cb):=by
  rw [cell_of_row _ _ _ _ _ _ hg]
  have:=congrArg (fun l:List Value=>l[1]?) htk
  simpa using this
 have one: ∀{l:List Value} {L:List RE},Al (fun x t=>Rep E.S E.w x t) l (L.flatMap ta)-> ∀u∈l,u.oneCell'=true:=fun {l L} h u hu=>by
  obtain ⟨i,hi,rfl⟩:=List.getElem_of_mem hu;have hi':i<(L.flatMap ta).length:=by rw [<- h.len];exact hi
  exact (h.at_ i _ _ (ggZ hi) (ggZ hi')).one (zd L _ (List.getElem_mem hi'))
 have src: ∀{l:List Value} {L:List RE} {p:Option Addr} {c:Nat},l.length=L.length * 4->(p=none->L.length=0)->(∀ ad,p=some ad-> ∀(j:Nat) (u:Value),l[j]? =some u->E.w.cell? (ad.add j)=some u)->Al (fun x t=>Rep E.S E.w x t) l (L.flatMap ta)-> ∀w',DL.Below E.w.heap.size E.w w'->
   Src Tryz.prog 4 22 (.slice p L.length c) L.length l w':=fun h1 h2 h3 h4 w' hb=>DD w' _ _ _ _ h1 h2 (fun ad had j u hj=>by
  have:=h3 ad had j u hj
  have hlt:(ad.add j).block<E.w.heap.size:=block_lt_of_cell this;rw [hb.toBelow.cell hlt];exact this) (one h4)
 rcases Nat.eq_zero_or_pos (a++b).length with h0|h0
 ·rw [List.length_append] at h0;have ha0:a=[]:=List.eq_nil_of_length_eq_zero (by omega);have hb0:b=[]:=List.eq_nil_of_length_eq_zero (by omega);subst ha0;subst hb0;have hA0:A=[]:=List.eq_nil_of_length_eq_zero hA1;have hB0:B=[]:=List.eq_nil_of_length_eq_zero hB1;have s1:=src hA1 hA2 hA3 hA4 (c:=ca) E.w (DL.Below.refl _ _);have s2:=src hB1 hB2 hB3 hB4 (c:=cb) E.w (DL.Below.refl _ _);rw [hA0] at s1;rw [hB0] at s2;refine (C9 E.w g cap ca cb pa pb hc0 hc1 s1 s2).mono ?_;rintro e w' ⟨rfl,rfl⟩;exact ⟨_,rfl,E,_,rfl,pz rfl,dB h hd (.t _ _ .nil)⟩
 have hk:=hk h0;rw [List.length_append] at h0;refine (Da E.w g cap a.length ca b.length cb pa pb A B hc0 hc1 ha hb (src hA1 hA2 hA3 hA4) (src hB1 hB2 hB3 hB4) h0).mono ?_;rintro e w' ⟨G,hG,rfl,hw'⟩;have hzl: ∀k,(tf k).size=k * 4:=fun k=>by simp [tf,Builtin.zeroCells,Value.cells]
 have hBl:DL.Below E.w.heap.size E.w w':=by
  rw [hw'];exact tE _ (Nat.le_refl _) _ _ _ (tE _ (Nat.le_refl _) _ _ _ (((DL.Below.refl _ _).drew).alloc (Nat.le_refl _) _))
 obtain ⟨cur1,Ae,F6⟩: ∃cur',w'.heap[E.w.heap.size]? =some (.cells cur' 46 (0,0))/\cur'.size=G * 4:=by
  obtain ⟨c1,g1,z1⟩:=uW E.w.heap.size 46 (0,0) A 0 (E.w.drew.alloc (.cells (tf (a.length+b.length)++tf (G - (a.length+b.length))) 46)) _ (heap_alloc_new E.w.drew _);obtain ⟨c2,g2,z2⟩:=uW E.w.heap.size 46 (0,0) B (a.length * 4) _ _ g1;rw [hw'];exact ⟨c2,g2,by rw [z2,z1,Array.size_append,hzl,hzl, <-Nat.add_mul];congr 1;omega⟩
 have b9: ∀(j:Nat) (u:Value),(A++B)[j]? =some u->cur1[j]? =some u:=fun j u hu=>by
  have c1: ∀j,j<G * 4->((E.w.drew.alloc (.cells (tf (a.length+b.length)++tf (G - (a.length+b.length))) 46)).cell? ⟨E.w.heap.size,j,none⟩).isSome=true:=fun j hj=>by
   rw [World.cell?_alloc_at (w:=E.w.drew) _ _ E.w.heap.size j rfl,Array.getElem?_eq_getElem (by rw [Array.size_append,hzl,hzl];omega)];rfl
  rw [<- cell_of_row _ _ _ _ _ _ Ae,hw'];have hj:=(gsZ hu).1;rw [List.length_append] at hj
  by_cases hjA:j<A.length
  ·rw [List.getElem?_append_left hjA] at hu;rw [World.cell?_setCells_out _ _ _ _ _ (fun _ _=>by left;show j<a.length * 4;omega)]
   have:=World.cell?_setCells_in E.w.heap.size A 0 (E.w.drew.alloc (.cells (tf (a.length+b.length)++tf (G - (a.length+b.length))) 46)) (fun k hk=>c1 _ (by omega)) j hjA
   rw [Nat.zero_add] at this;rw [this, <-hu,ggZ hjA]
  ·rw [List.getElem?_append_right (by omega)] at hu
   have:=World.cell?_setCells_in E.w.heap.size B (a.length * 4) ((E.w.drew.alloc (.cells (tf (a.length+b.length)++tf (G - (a.length+b.length))) 46)).setCells E.w.heap.size 0 A) (fun k hk=>tP _ A 0 _ (fun t ht=>by rw [Nat.zero_add];exact c1 t (by omega)) _ (c1 _ (by omega))) (j - A.length) (by omega)
   rw [show a.length * 4+(j - A.length)=j by omega] at this;rw [this, <-hu,ggZ (by omega)]
 have h':SR N w0 S0 {E with w:=w' } st t:=h.world hBl E.S (fun b o=>⟨.inl,fun hh=>hh.elim id fun k=>k.1⟩);have klt: ∀m,E.live m=true->E.κ m<E.w.heap.size:=fun m hm=>lj (a:=⟨t,[]⟩) h hm
 have hAB:Al (fun x t=>Rep E.S E.w x t) (A++B) ((a++b).flatMap ta):=by rw [List.flatMap_append];exact hA4.append hB4
 have yq:(A++B).length=(a++b).length * 4:=by rw [hAB.len,tM]
 have hgl:E.w.heap.size<w'.heap.size:=(Array.getElem?_eq_some_iff.1 Ae).1;have h2:=h'.oQ (q:=d+st.off) (g:=E.w.heap.size) hq (fun m hm=>by have:=klt m hm;show E.κ m≠_;omega) (fun r' hr=>by have:=(h.rows r' _ hr).2.1;omega)
  (bx:=.d ((a++b).length * 4) ((a++b).flatMap ta)) ⟨by show E.B<=E.w.heap.size;rw [h.base];exact h.below.size,fun o hs=>absurd (h.lt _ o hs) (by omega),_,Ae,.cells cur1 46 _ <| .d _ _ (tM _) (by rw [F6,List.length_append];exact Nat.mul_le_mul_right _ hG) fun i x u hx ht=>by
   have hi:i<(A++B).length:=by rw [hAB.len];exact (gsZ ht).1
   have hx':=b9 i _ (ggZ hi);rw [hx] at hx';have hR:=hAB.at_ i x u (by rw [ggZ hi];exact hx'.symm) ht;exact ⟨hR.mono (fun _ _ hs=>hs) (fun b o hs=>aB.dw hBl (h.lt b o hs)),zd _ _ (List.mem_of_getElem? ht)⟩⟩
 refine ⟨_,rfl,_,_,rfl,hk,dB h2 hd ?_⟩
 have:=VR.view (E:={E with w:=w',κ:=upd E.κ (d+st.off) E.w.heap.size,live:=upd E.live (d+st.off) true }) (d+st.off) 0 (a++b).length 4 G (by show upd E.live _ true _=true;exact aj _ _ _) (by rw [List.length_append];exact hG)
 have hκ:upd E.κ (d+st.off) E.w.heap.size (d+st.off)=E.w.heap.size:=aj _ _ _;simp only [hκ,List.length_append] at this;rw [List.length_append];exact this
end Go.ST
end
section
namespace Go.Proofs
open Go.Shelf
def Tryz.xD:Go.Shelf.Ren:=⟨fun|6=>43|15=>72|14=>71|28=>95|29=>96|20=>87|21=>88|22=>89|23=>90|24=>91|25=>92|26=>93|27=>94|46=>113|47=>114|48=>115|49=>116|50=>117|57=>123|n=>n,fun|22=>22|24=>46|25=>61|3=>3|39=>86|0=>0|53=>94|55=>85|4=>4|46=>135|45=>134|50=>131|5=>5|9=>9|66=>155|70=>159|76=>163|77=>164|n=>n,fun|n=>n⟩
theorem Tryz.Ap:Go.Proofs.SlLaysF0.n6 Tryz.prog Tryz.xD:={
 mixed:=by kernel_rfl
 f6:=⟨Tryz.f43.name,by decide,Tryz.func43.trans (congrArg some (by kernel_rfl))⟩
 f14:=⟨Tryz.f71.name,by decide,Tryz.func71.trans (congrArg some (by kernel_rfl))⟩
 f15:=Tryz.func72.trans (congrArg some (by kernel_rfl))
 f20:=⟨Tryz.f87.name,by decide,Tryz.func87.trans (congrArg some (by kernel_rfl))⟩
 f21:=⟨Tryz.f88.name,by decide,Tryz.func88.trans (congrArg some (by kernel_rfl))⟩
 f22:=⟨Tryz.f89.name,by decide,Tryz.func89.trans (congrArg some (by kernel_rfl))⟩
 f23:=⟨Tryz.f90.name,by decide,Tryz.func90.trans (congrArg some (by kernel_rfl))⟩
 f24:=⟨Tryz.f91.name,by decide,Tryz.func91.trans (congrArg some (by kernel_rfl))⟩
 f25:=⟨Tryz.f92.name,by decide,Tryz.func92.trans (congrArg some (by kernel_rfl))⟩
 f26:=⟨Tryz.f93.name,by decide,Tryz.func93.trans (congrArg some (by kernel_rfl))⟩
 f27:=⟨Tryz.f94.name,by decide,Tryz.func94.trans (congrArg some (by kernel_rfl))⟩
 f28:=Tryz.func95.trans (congrArg some (by kernel_rfl))
 f29:=Tryz.func96.trans (congrArg some (by kernel_rfl))
 f46:=⟨Tryz.f113.name,by decide,Tryz.func113.trans (congrArg some (by kernel_rfl))⟩
 f47:=Tryz.func114.trans (congrArg some (by kernel_rfl))
 f48:=Tryz.func115.trans (congrArg some (by kernel_rfl))
 f49:=⟨Tryz.f116.name,by decide,Tryz.func116.trans (congrArg some (by kernel_rfl))⟩
 f50:=⟨Tryz.f117.name,by decide,Tryz.func117.trans (congrArg some (by kernel_rfl))⟩
 f57:=⟨Tryz.f123.name,by decide,Tryz.func123.trans (congrArg some (by kernel_rfl))⟩
 t0:=Tryz.underlying0
 a0:=Tryz.isAgg0
 z0:=Tryz.sizeOf0
 v0:=Tryz.zeroValue0
 t3:=Tryz.underlying3
 a3:=Tryz.isAgg3
 z3:=Tryz.sizeOf3
 v3:=Tryz.zeroValue3
 t4:=Tryz.underlying4
 a4:=Tryz.isAgg4
 z4:=Tryz.sizeOf4
 v4:=Tryz.zeroValue4
 t5:=Tryz.underlying5
 a5:=Tryz.isAgg5
 z5:=Tryz.sizeOf5
 v5:=Tryz.zeroValue5
 t9:=Tryz.underlying9
 a9:=Tryz.isAgg9
 z9:=Tryz.sizeOf9
 v9:=Tryz.zeroValue9
 t22:=Tryz.underlying22
 a22:=Tryz.isAgg22
 z22:=Tryz.sizeOf22
 v22:=Tryz.zeroValue22
 t25:=Tryz.underlying61
 a25:=Tryz.isAgg61
 z25:=Tryz.sizeOf61
 v25:=Tryz.zeroValue61
 t39:=Tryz.underlying86
 a39:=Tryz.isAgg86
 z39:=Tryz.sizeOf86
 v39:=Tryz.zeroValue86
 t45:=Tryz.underlying134
 a45:=Tryz.isAgg134
 z45:=Tryz.sizeOf134
 v45:=Tryz.zeroValue134
 t46:=Tryz.underlying135
 a46:=Tryz.isAgg135
 z46:=Tryz.sizeOf135
 v46:=Tryz.zeroValue135
 t50:=Tryz.underlying131
 a50:=Tryz.isAgg131
 z50:=Tryz.sizeOf131
 v50:=Tryz.zeroValue131
 t53:=Tryz.underlying94
 a53:=Tryz.isAgg94
 z53:=Tryz.sizeOf94
 v53:=Tryz.zeroValue94
 t55:=Tryz.underlying85
 a55:=Tryz.isAgg85
 z55:=Tryz.sizeOf85
 v55:=Tryz.zeroValue85
 t66:=Tryz.underlying155
 a66:=Tryz.isAgg155
 z66:=Tryz.sizeOf155
 v66:=Tryz.zeroValue155
 t70:=Tryz.underlying159
 a70:=Tryz.isAgg159
 z70:=Tryz.sizeOf159
 v70:=Tryz.zeroValue159
 t76:=Tryz.underlying163
 a76:=Tryz.isAgg163
 z76:=Tryz.sizeOf163
 v76:=Tryz.zeroValue163
 t77:=Tryz.underlying164
 a77:=Tryz.isAgg164
 z77:=Tryz.sizeOf164
 v77:=Tryz.zeroValue164 }
end Go.Proofs
end
section
namespace Go.ST2
open Go Go.DL Go.Proofs
noncomputable def c18:aV:=(sr [oo 4 (.mov (.const .nil)),oo 5 (.mov (Kc 0))] (sr [mv 8 0,mv 9 1,oo 10 (.buildS 22 1 2 [.nil] [(0,(tm 8)),(1,(tm 9))]),oo 11 (.inl 42 [tm 10]),mv 6 11] (sr [mv 12 6,oo 13 (.inl 43 [(tm 12),(.const (.clos 35 []))])] (.seq (sr [mv 14 6,ln 15 14,oo 16 (.mov (Kc 0))] (.block 0 (.loop (sr [oo 17 (.bin .lss (tm 16) (tm 15))] (.seq (.cond (tm 17) .skip (.exit 0)) (.seq (.block 1 (sr [mv 18 16,mv 7 18] (sr [mv 19 7,oo 20 (.bin .gtr (tm 19) (Kc 0)),mv 21 20,mT 22 6 21,mT 23 7 21,oT 24 21 (.bin .sub (tm 23) (Kc 1)),oT 25 21 (.idxL 4 (tm 22) (tm 24)),oT 26 21 (.load 4 true (tm 25)),mT 27 6 21,mT 28 7 21,oT 29 21 (.idxL 4 (tm 27) (tm 28)),oT 30 21 (.load 4 true (tm 29)),oT 31 21 (.call 35 [(tm 26),(tm 30)]),oT 32 21 (.bin .eql (tm 31) (Kc 0)),oo 33 (.pick (tm 21) (tm 32) kF)] (.cond (tm 33) (sr [oo 4 (.mov (.const .nil)),oo 5 (.mov (Kc 10))] .ret) .skip)))) (rg [oo 34 (.bin .add (tm 16) (Kc 1)),mv 16 34]))))))) (sr [mv 35 6,mv 4 35,oo 5 (.mov (Kc 0))] .ret)))))
theorem l18:(Tryz.f18.body.bind (bp Tryz.prog 36 [42,43]))=some c18:=by kernel_rfl
end Go.ST2
end
section
namespace Go.ST
open Go Go.DL Go.MM Go.Proofs
theorem Br:lq Tryz.prog 43 4:=
 lq.of Tryz.Ap 4 (fun w=>Tryz.isAgg46 w) (fun w=>Tryz.sizeOf46 w) (dX Tryz.func43 rfl rfl)
theorem zp{P:Program}{f:FuncId}{k:Nat}{u:V}{d:Option Nat}{st:St}{K:St->Prop}(hs:lq P f k)(hk:K (st.set d (.t (.tup [])))):WC P f [.t .nil,u] d st K:=by
 refine ⟨hs.callable,fun N w0 S0 E a vs h hlen hv hd=>?_⟩;have hsz:vs.size=2:=hlen;have hv0:=(hv 0 vs[0] _ (by simp [hsz]) rfl).ax;have hvs:vs= #[vs[0],vs[1]]:=by
  apply Array.ext
  ·simp [hsz]
  ·intro i h1 h2
   match i,h1 with
   |0,_=>rfl
   |1,_=>rfl
   |i+2,h1=>omega
 have hsl:vs[0]= .slice none 0 0:=by
  generalize vs[0]=v at hv0;cases hv0;rfl
 have bZ:=hs.none_ none 0 vs[1] E.w;rw [<- hsl, <-hvs] at bZ;refine bZ.mono ?_;rintro e' w' ⟨rfl,rfl⟩;exact ⟨_,rfl,_,_,rfl,hk,dB h hd (.t _ _ (.tup #[] [] rfl fun i x t hx=>by simp at hx))⟩
def unI:T->Int
 |.int _ i=>i
 |_=>0
def unE:T->RE
 |.agg [.str v,.slice _ ks,.int _ n,.int _ t]=>⟨v,ks.map unI,n,t⟩
 |_=>⟨⟨#[]⟩,[],0,0⟩
theorem wE(e:RE):unE (tc e)=e:=by
 obtain ⟨v,k,n,t⟩:=e;show RE.mk v ((k.map I).map unI) n t=_
 rw [List.map_map,show unI ∘ I=id from rfl,List.map_id]
def cfE(x y:T):Int:=tq (unE x) (unE y)
theorem uw(a b:RE):cfE (tc a) (tc b)=tq a b:=by unfold cfE;rw [wE,wE]
theorem Bl{zs:List RE}{ys:List T}(h:ys.Perm (zs.map tc)): ∃us:List RE,us.Perm zs/\ys=us.map tc:=by
 refine ⟨ys.map unE,?_,?_⟩
 ·have:=h.map unE
  rw [List.map_map] at this;rwa [show unE ∘ tc=id from funext wE,List.map_id] at this
 ·rw [List.map_map]
  have:ys.map (tc ∘ unE)=ys.map id:=List.map_congr_left fun y hy=>by
   obtain ⟨z,_,rfl⟩:=List.mem_map.1 (h.mem_iff.1 hy);show tc (unE (tc z))=tc z
   rw [wE]
  rw [this,List.map_id]
theorem Aw{l:List RE}(h: ∃(i:Nat) (hi:i+1<l.length),tq l[i] l[i+1]≠ -1):uv l=false:=by
 cases ho:uv l with
 |false=>rfl
 |true=>
  obtain ⟨i,hi,hne⟩:=h;exact absurd (List.pairwise_iff_getElem.1 (uM.1 ho) i (i+1) (by omega) hi (by omega)) hne
theorem Bk{l:List RE}(h: ∀(i:Nat) (hi:i+1<l.length),tq l[i] l[i+1]= -1):uv l=true:=by
 induction l with
 |nil=>rfl
 |cons a r ih=>
  cases r with
  |nil=>rfl
  |cons b r=>
   show (decide (tq a b= -1)&&uv (b::r))=true
   rw [Bool.and_eq_true];exact ⟨decide_eq_true (h 0 (by simp)),ih fun i hi=>h (i+1) (by simpa using hi)⟩
theorem Bm{cs vs:List T}{n:Nat}(h:cs.length=n):aP cs 0 n vs=vs:=by
 unfold aP;rw [List.take_zero,List.nil_append,List.drop_eq_nil_of_le (by omega),List.append_nil]
def GA:Option (List RE)->T
 |some zs=>.tup [esT zs,I 0]
 |none=>.tup [.nil,I 10]
theorem CP(a b:List RE)(ha:a.length<2^30)(hb:b.length<2^30)(hka: ∀x∈a,kOk x)(hkb: ∀x∈b,kOk x)(r:T)(e:Int)
  (hr: ∀zs:List RE,zs.Perm (a++b)->(zs.Pairwise fun x y=>tq y x≠ -1)->(uv zs=true->r=esT zs/\e=0)/\(uv zs=false->r= .nil/\e=10)):DCalls Tryz.prog 18 [esT a,esT b] (.tup [r,I e]):=by
 refine dl2 mixed [.tmp 4,.tmp 5] [r,I e] Tryz.func18 Go.ST2.l18 ?_;have Eb: ∀x∈a++b,kOk x:=fun x hx=>(List.mem_append.1 hx).elim (hka x) (hkb x)
 have hlen:(a++b).length<2^31:=by rw [List.length_append];omega
 repeat' ((conv=>whnf);first|refine AZ a b ha hb rfl (fun h0=>?_) (fun h0=>?_)|refine aS ?_|fail)
 ·have:=hr [] (by rw [h0]) List.Pairwise.nil
  obtain ⟨rfl,rfl⟩:=this.1 rfl
  repeat' ((conv=>whnf);first|refine zp Br ?_)
  refine sa 0 (α:=Unit) (β:=Unit) (fun _=>{sl:=[(6,.t .nil),(15,.t (I 0)),(16,.t (I 0))],bx:=[]}) (fun _=>True) (fun _=>0) (fun _=>{sl:=[(6,.t (esT []))],bx:=[]}) (fun _=>True) () trivial ?_ ?_ ?_
  ·repeat' (first|exact wJ|refine And.intro ?_ ?_)
  ·rintro - -
   repeat' ((conv=>whnf);first|(exact ⟨(),trivial,by (repeat' (first|(exact LeV.empty 4)|exact wJ|refine And.intro ?_ ?_));done⟩)|refine aD0 ?_|refine aS ?_|fail)
  ·rintro - -
   repeat' ((conv=>whnf);first|refine rix ?_|refine aS ?_|exact trivial)
 ·have hfl:=tM (a++b);have hch:chunk 4 (a++b).length (((a++b).flatMap ta).drop 0)=(a++b).map tc:=by rw [List.drop_zero];exact we _
  have hk1: ∀x∈(a++b).map tc, ∃e:RE,x=tc e/\kOk e:=fun x hx=>by
   obtain ⟨e,he,rfl⟩:=List.mem_map.1 hx;exact ⟨e,rfl,Eb e he⟩
  repeat' ((conv=>whnf);first|refine sN (n:=11) (off:=0) (len:=(a++b).length) (k:=4) (m:=(a++b).length * 4) (ts:=(a++b).flatMap ta) Br rfl (by omega) (by decide) (by omega) (.inl rfl) (dX Tryz.func35 rfl rfl) cfE ?_ ?_ ?_ ?_ (fun ys hy hps=>?_)|fail)
  ·rw [hch];intro x hx y hy;obtain ⟨e,rfl,he⟩:=hk1 x hx;obtain ⟨f,rfl,hf⟩:=hk1 y hy;rw [uw];exact uI e f he hf
  ·rw [hch];intro x hx;obtain ⟨e,rfl,he⟩:=hk1 x hx;rw [uw,tg.refl];decide
  ·rw [hch];intro x hx y hy z hz;obtain ⟨e,rfl, -⟩:=hk1 x hx;obtain ⟨f,rfl, -⟩:=hk1 y hy;obtain ⟨g,rfl, -⟩:=hk1 z hz;rw [uw,uw,uw];intro h1 h2
   have:=tg.t e f g (by have:=tg.r e f;omega) (by have:=tg.r f g;omega)
   omega
  ·rw [hch];intro x hx y hy z hz;obtain ⟨e,rfl, -⟩:=hk1 x hx;obtain ⟨f,rfl, -⟩:=hk1 y hy;obtain ⟨g,rfl, -⟩:=hk1 z hz;rw [uw,uw,uw];intro h1 h2 h3;have r1:=tg.r e f;have r2:=tg.r f g;have r3:=tg.r e g;have s1:=tg.s e f;have s2:=tg.s f g;rcases r1 with r1|r1|r1
   ·omega
   ·have:=tg.z e f r1 g;omega
   ·rcases r2 with r2|r2|r2
    ·omega
    ·have:=tg.z' r2 e;omega
    ·have:=tg.t g f e (by omega) (by omega)
     have:=tg.s e g
     omega
  ·rw [hch] at hy;obtain ⟨zs,hp,rfl⟩:=Bl hy;have hpw:zs.Pairwise fun x y=>tq y x≠ -1:=by
    refine (List.pairwise_map.1 hps).imp fun {x y} h=>?_
    rw [uw] at h;omega
   obtain ⟨hrt,hrf⟩:=hr zs hp hpw;have hzl:zs.length=(a++b).length:=hp.length_eq;have hzk: ∀x∈zs,kOk x:=fun x hx=>Eb x (hp.mem_iff.1 hx)
   have eW:zs.flatMap ta=aP ((a++b).flatMap ta) 0 ((a++b).length * 4) ((zs.map tc).flatMap T.cells):=by rw [Bm (tM _),u5]
   clear hr hch hk1 hps hy;generalize (a++b).length=n at *
   generalize (a++b).flatMap ta=cs at *
   have hr0: ∀bx:Nat->Option BX,bx 11=some (.d (n * 4) (aP cs 0 (n * 4) ((zs.map tc).flatMap T.cells)))->conv bx (.view 11 0 n 4)=some (esT zs,[11]):=fun bx hb=>by
    have:conv bx (.view 11 0 n 4)=(match bx 11 with|some (.d m ts)=>cond (Nat.blt 0 4&&Nat.ble (0+n * 4) m) (some (T.slice 4 (chunk 4 n (ts.drop 0)),[11])) none|_=>none):=rfl
    rw [this,hb, <-eW];simp only;have h1:Nat.ble (0+n * 4) (n * 4)=true:=Nat.ble_eq_true_of_le (by omega);rw [h1,List.drop_zero, <-hzl,we zs];rfl
   have Ed:((zs.map tc).length:Int)=(n:Int):=by rw [List.length_map,hzl]
   refine sa 0 (α:=Nat) (β:=Unit) (fun i=>{sl:=[(6,.t (esT zs)),(15,.t (I n)),(16,.t (I i))],bx:=[]})
    (fun i=>i<=n/\ ∀j (h:j+1<zs.length),j+1<i->tq zs[j] zs[j+1]= -1) (fun i=>n - i)
    (fun _=>{sl:=[(6,.t (esT zs))],bx:=[]}) (fun _=>uv zs=true) 0 ⟨Nat.zero_le _,fun j _ h=>by omega⟩ ?_ ?_ ?_
   ·repeat' (first|(exact LeV.conv _ _ _ (hr0 _ rfl) (fun n _ hk=>absurd (show n∈([]:List Nat) from hk) (by simp)))|exact wJ|refine And.intro ?_ ?_)
   ·rintro i ⟨hi,hinv⟩;rcases Nat.lt_or_ge i n with h|h
    ·have hlt:(i:Int)<(n:Int):=by omega
     have hnx:((i+1:Nat):Int)=IntKind.wrap .i64 ((i:Int)+1):=by rw [np] <;> omega
     cases i with
     |zero=>
      repeat' ((conv=>whnf);first|refine ru hlt ?_|(exact ⟨1,⟨h,fun j _ hj=>by omega⟩,(by omega),by (repeat' (first|(exact leI hnx)|exact wJ|refine And.intro ?_ ?_));done⟩)|refine aN0 ?_|refine aS ?_|fail)
     |succ j=>
      have hgt:((j+1:Nat):Int)>0:=by omega
      have hj0:j<zs.length:=by omega
      have hj1:j+1<zs.length:=by omega
      have hw:IntKind.wrap .i64 (((j+1:Nat):Int) - 1)=(j:Int):=by rw [np] <;> omega
      have hg0:(zs.map tc)[(IntKind.wrap .i64 (((j+1:Nat):Int) - 1)).toNat]?.getD .nil= .agg (ta zs[j]):=by
       rw [hw,Int.toNat_natCast,tS hj0]
      have hg1:(zs.map tc)[((j+1:Nat):Int).toNat]?.getD .nil= .agg (ta zs[j+1]):=by
       rw [Int.toNat_natCast,tS hj1]
      have hb0:0<=IntKind.wrap .i64 (((j+1:Nat):Int) - 1)/\IntKind.wrap .i64 (((j+1:Nat):Int) - 1)<((zs.map tc).length:Int):=by rw [hw,Ed];omega
      have hb1:0<=((j+1:Nat):Int)/\((j+1:Nat):Int)<((zs.map tc).length:Int):=by rw [Ed];omega
      have hC:=uI zs[j] zs[j+1] (hzk _ (List.getElem_mem hj0)) (hzk _ (List.getElem_mem hj1));have hcr:=tg.r zs[j] zs[j+1];have hne:=List.pairwise_iff_getElem.1 hpw j (j+1) hj0 hj1 (by omega);have hcs:=tg.s zs[j] zs[j+1]
      by_cases hz:tq zs[j] zs[j+1]=0
      ·obtain ⟨rfl,rfl⟩:=hrf (Aw ⟨j,hj1,by omega⟩)
       repeat' ((conv=>whnf);first|exact trivial|refine ru hlt ?_|refine ru hgt ?_|(refine nv_ (.agg (ta zs[j])) (by first|exact hg0) ?_)|(refine nv_ (.agg (ta zs[j+1])) (by first|exact hg1) ?_)|refine sV _ (hC) ?_|refine ry hz ?_|refine rix ?_|(refine And.intro (by first|exact hb0|exact hb1|exact td _) ?_)|refine aS ?_|refine nT_ ?_)
      ·have EU: ∀k (hk:k+1<zs.length),k+1<j+1+1->tq zs[k] zs[k+1]= -1:=fun k hk hk2=>by
        rcases Nat.lt_or_ge (k+1) (j+1) with h3|h3
        ·exact hinv k hk h3
        ·have:k=j:=by omega
         subst this;omega
       repeat' ((conv=>whnf);first|refine ru hlt ?_|refine ru hgt ?_|(refine nv_ (.agg (ta zs[j])) (by first|exact hg0) ?_)|(refine nv_ (.agg (ta zs[j+1])) (by first|exact hg1) ?_)|refine sV _ (hC) ?_|refine rv hz ?_|(exact ⟨j+1+1,⟨h,EU⟩,(by omega),by (repeat' (first|(exact leI hnx)|exact wJ|refine And.intro ?_ ?_));done⟩)|(refine And.intro (by first|exact hb0|exact hb1|exact td _) ?_)|refine aS ?_|refine nT_ ?_)
    ·have hlt: ¬(i:Int)<(n:Int):=by omega
     have ho:uv zs=true:=Bk fun j hj=>hinv j hj (by omega)
     repeat' ((conv=>whnf);first|refine rq hlt ?_|(exact ⟨(),ho,by (repeat' (first|exact wJ|refine And.intro ?_ ?_));done⟩)|refine aS ?_|fail)
   ·rintro - ho;obtain ⟨rfl,rfl⟩:=hrt ho
    repeat' ((conv=>whnf);first|refine rix ?_|refine aS ?_|exact trivial)
theorem Eu(a b:List RE)(hia:tI a)(hib:tI b)(ha:a.length<2^30)(hb:b.length<2^30)(hka: ∀x∈a,kOk x)(hkb: ∀x∈b,kOk x):DCalls Tryz.prog 18 [esT a,esT b] (GA (w9 a b)):=by
 have hJ:=fun (zs:List RE) (hp:zs.Perm (a++b)) hs=>zu hia hib hp hs
 cases h:w9 a b with
 |none=>
  refine CP a b ha hb hka hkb .nil 10 fun zs hp hs=>⟨fun ho=>?_,fun _=>⟨rfl,rfl⟩⟩
  have:=hJ zs hp hs
  rw [h,if_pos ho] at this;cases this
 |some w=>
  refine CP a b ha hb hka hkb (esT w) 0 fun zs hp hs=>⟨fun ho=>?_,fun ho=>?_⟩
  ·have:=hJ zs hp hs
   rw [h,if_pos ho] at this;cases this;exact ⟨rfl,rfl⟩
  ·have:=hJ zs hp hs
   rw [h,if_neg (by simp [ho])] at this;cases this
end Go.ST
end
section
end
noncomputable section
namespace Go.ST4
open Go Go.DL Go.Proofs
def c65:aV:=(sr [oo 5 (.box 10 (tm 2)),oo 6 (.mov (.const .nil)),oo 7 (.mov kF)] (sr [oo 8 (.mov (.const .nil))] (.seq (sr [mv 13 1,ln 14 13,oo 15 (.mov (Kc 0))] (.block 0 (.loop (sr [oo 16 (.bin .lss (tm 15) (tm 14))] (.seq (.cond (tm 16) .skip (.exit 0)) (.seq (.block 1 (sr [ix 17 1 13 15,ld 18 17,mv 10 18] (sr [mv 20 0,mv 21 10,oo 22 (.call 82 [(tm 20),(tm 21)]),mv 19 22,oo 23 (.ext (tm 19) 0),oo 24 (.ext (tm 19) 1),⟨some 11,.alloc [S0,Z0,Z0],none,[]⟩,o0 (.store 3 (tm 11) (tm 23)),mv 12 24] (.seq (sr [mv 25 12,oo 26 (.not (tm 25))] (.cond (tm 26) (sr [oo 6 (.mov (.const .nil)),oo 7 (.mov kF)] .ret) .skip)) (rg [mv 27 8,lA 28 3 11,lA 29 10 5,oo 30 (.call 83 [(tm 28),(tm 29)]),oo 31 (.buildF 1 1 [Z0] [(0,(tm 30))]),oo 32 (.append 38 3 1 8 (tm 27) (tm 31)),mv 8 32]))))) (rg [oo 33 (.bin .add (tm 15) (Kc 1)),mv 15 33]))))))) (sr [mv 34 8,mv 6 34,oo 7 (.mov kT)] .ret))))
theorem l65:(Tryz.f65.body.bind (bp Tryz.prog 35 [8000031]))=some c65:=by kernel_rfl
def c80:aV:=(sr [mv 9 0,oo 10 (.nilck (tm 9)),fa 11 0 10,ld 12 11,mv 13 1,oo 14 (.call 82 [(tm 12),(tm 13)]),mv 8 14,oo 15 (.ext (tm 8) 0),oo 16 (.ext (tm 8) 1),⟨some 6,.alloc [S0,Z0,Z0],none,[]⟩,o0 (.store 3 (tm 6) (tm 15)),mv 7 16] (sr [mv 17 7] (.cond (tm 17) (rg [mv 18 0,lA 19 3 6,mv 20 0,oo 21 (.nilck (tm 20)),fa 22 8 21,lA 23 10 22,mv 24 2,lA 25 3 6,oo 26 (.call 105 [tm 25]),oo 27 (.minI (tm 24) (tm 26)),oo 28 (.call 104 [(tm 19),(tm 23),(tm 27)]),oo 29 (.nilck (tm 18)),fa 30 8 29,o0 (.store 10 (tm 30) (tm 28))]) .skip)))
theorem l80:(Tryz.f80.body.bind (bp Tryz.prog 31 []))=some c80:=by kernel_rfl
def c79:aV:=(sr [oo 2 (.mov kF)] (.seq (sr [mv 3 0,oo 4 (.nilck (tm 3)),fa 5 23 4,ld 6 5,oo 7 (.not (tm 6)),mv 8 7,mT 9 0 8,oT 10 8 (.nilck (tm 9)),oT 11 8 (.offA 7 (tm 10)),oT 12 8 (.load 1 false (tm 11)),mT 13 0 8,oT 14 8 (.nilck (tm 13)),oT 15 8 (.offA 1 (tm 14)),oT 16 8 (.offA 1 (tm 15)),oT 17 8 (.load 1 false (tm 16)),oT 18 8 (.call 81 [(tm 12),(tm 17)]),oT 19 8 (.len (tm 18)),oT 20 8 (.bin .geq (tm 19) (Kc 100)),oo 21 (.pick (tm 8) (tm 20) kF)] (.cond (tm 21) (sr [oo 2 (.mov kF)] .ret) .skip)) (sr [mv 22 0,mv 23 0,oo 24 (.nilck (tm 23)),fa 25 7 24,ld 26 25,mv 27 0,oo 28 (.nilck (tm 27)),fa 29 19 28,lA 30 4 29,oo 31 (.call 103 [(tm 26),(tm 30)]),oo 32 (.nilck (tm 22)),fa 33 7 32,o0 (.store 1 (tm 33) (tm 31))] (sr [oo 2 (.mov kT)] .ret))))
theorem l79:(Tryz.f79.body.bind (bp Tryz.prog 34 []))=some c79:=by kernel_rfl
def c59:aV:=(sr [oo 2 (.mov kF)] (sr [mv 3 0,mv 4 0,mv 5 0,oo 6 (.nilck (tm 5)),fa 7 19 6,fa 8 2 7,ld 9 8,oo 10 (.bin .add (tm 9) (Kc 1)),oo 11 (.minI (tm 10) (Kc 65535)),mv 12 0,oo 13 (.nilck (tm 12)),fa 14 18 13,ld 15 14,oo 16 (.nilck (tm 3)),fa 17 19 16,fa 18 2 17,o0 (.store 1 (tm 18) (tm 11)),oo 19 (.nilck (tm 4)),fa 20 19 19,fa 21 3 20,o0 (.store 1 (tm 21) (tm 15))] (.seq (sr [mv 22 0,oo 23 (.inl 79 [tm 22]),oo 24 (.not (tm 23))] (.cond (tm 24) (sr [oo 2 (.mov kF)] .ret) .skip)) (sr [mv 25 0,mv 26 0,oo 27 (.nilck (tm 26)),fa 28 1 27,fa 29 3 28,ld 30 29,mv 31 0,oo 32 (.nilck (tm 31)),fa 33 19 32,fa 34 2 33,ld 35 34,oo 36 (.inl 80 [(tm 25),(tm 30),(tm 35)])] (sr [oo 2 (.mov kT)] .ret)))))
theorem l59:(Tryz.f59.body.bind (bp Tryz.prog 37 [79,80]))=some c59:=by kernel_rfl
def c60:aV:=(sr [oo 2 (.mov kF)] (sr [mv 3 0,mv 4 0,oo 5 (.nilck (tm 4)),fa 6 18 5,ld 7 6,oo 8 (.nilck (tm 3)),fa 9 19 8,fa 10 3 9,o0 (.store 1 (tm 10) (tm 7))] (sr [mv 11 0,oo 12 (.inl 79 [tm 11]),mv 2 12] .ret)))
theorem l60:(Tryz.f60.body.bind (bp Tryz.prog 13 [79]))=some c60:=by kernel_rfl
def c61:aV:=(sr [oo 2 (.mov kF)] (sr [mv 3 0,oo 4 (.nilck (tm 3)),fa 5 23 4,ld 6 5,mv 7 6,mT 8 0 7,oT 9 7 (.nilck (tm 8)),oT 10 7 (.offA 19 (tm 9)),oT 11 7 (.offA 3 (tm 10)),oT 12 7 (.load 1 false (tm 11)),mT 13 0 7,oT 14 7 (.nilck (tm 13)),oT 15 7 (.offA 18 (tm 14)),oT 16 7 (.load 1 false (tm 15)),mT 17 0 7,oT 18 7 (.nilck (tm 17)),oT 19 7 (.offA 1 (tm 18)),oT 20 7 (.offA 4 (tm 19)),oT 21 7 (.load 1 false (tm 20)),oT 22 7 (.bin .sub (tm 16) (tm 21)),oT 23 7 (.bin .geq (tm 12) (tm 22)),oo 24 (.pick (tm 7) (tm 23) kF),mv 2 24] .ret))
theorem l61:(Tryz.f61.body.bind (bp Tryz.prog 25 []))=some c61:=by kernel_rfl
def c62:aV:=(sr [oo 2 (.mov kF)] (sr [mv 6 0,mv 7 0,oo 8 (.nilck (tm 7)),fa 9 18 8,ld 10 9,oo 11 (.nilck (tm 6)),fa 12 19 11,fa 13 3 12,o0 (.store 1 (tm 13) (tm 10))] (.seq (sr [mv 14 0,oo 15 (.nilck (tm 14)),fa 16 23 15,ld 17 16,oo 18 (.not (tm 17))] (.cond (tm 18) (sr [oo 19 (.mkmap false [.int .i64]),mv 3 19] (.seq (sr [mv 20 0,oo 21 (.nilck (tm 20)),fa 22 7 21,ld 23 22,mv 24 0,oo 25 (.nilck (tm 24)),fa 26 1 25,fa 27 1 26,ld 28 27,oo 29 (.call 81 [(tm 23),(tm 28)]),ln 30 29,oo 31 (.mov (Kc 0))] (.block 0 (.loop (sr [oo 32 (.bin .lss (tm 31) (tm 30))] (.seq (.cond (tm 32) .skip (.exit 0)) (.seq (.block 1 (sr [ix 33 4 29 31,lA 34 4 33,⟨some 5,.alloc [S0,.nil,Z0,Z0],none,[]⟩,o0 (.store 4 (tm 5) (tm 34))] (rg [mv 35 3,fa 36 2 5,ld 37 36,o0 (.bA false [.int .i64] (tm 35) (tm 37) kT)]))) (rg [oo 38 (.bin .add (tm 31) (Kc 1)),mv 31 38]))))))) (.seq (sr [mv 39 0,mv 40 0,oo 41 (.nilck (tm 40)),fa 42 1 41,fa 43 4 42,ld 44 43,oo 45 (.nilck (tm 39)),fa 46 19 45,fa 47 2 46,o0 (.store 1 (tm 47) (tm 44))] (.block 2 (.loop (.seq (sr [mv 48 3,mv 49 0,oo 50 (.nilck (tm 49)),fa 51 19 50,fa 52 2 51,ld 53 52,oo 54 (.mlook false [.int .i64] (.bool false) false (tm 48) (tm 53))] (.cond (tm 54) .skip (.exit 2))) (.seq (.block 3 .skip) (rg [mv 55 0,oo 56 (.nilck (tm 55)),fa 57 19 56,fa 58 2 57,ld 59 58,oo 60 (.bin .add (tm 59) (Kc 1)),oo 61 (.nilck (tm 55)),fa 62 19 61,fa 63 2 62,o0 (.store 1 (tm 63) (tm 60))])))))) (sr [mv 64 0,oo 65 (.nilck (tm 64)),fa 66 19 65,fa 67 2 66,ld 68 67,mv 69 0,oo 70 (.nilck (tm 69)),fa 71 1 70,fa 72 5 71,ld 73 72,oo 74 (.bin .gtr (tm 68) (tm 73))] (.cond (tm 74) (sr [oo 2 (.mov kF)] .ret) .skip))))) .skip)) (.seq (sr [mv 75 0,oo 76 (.inl 79 [tm 75]),oo 77 (.not (tm 76))] (.cond (tm 77) (sr [oo 2 (.mov kF)] .ret) .skip)) (sr [mv 78 0,mv 79 0,oo 80 (.nilck (tm 79)),fa 81 1 80,fa 82 3 81,ld 83 82,mv 84 0,oo 85 (.nilck (tm 84)),fa 86 19 85,fa 87 2 86,ld 88 87,oo 89 (.inl 80 [(tm 78),(tm 83),(tm 88)])] (sr [oo 2 (.mov kT)] .ret))))))
theorem l62:(Tryz.f62.body.bind (bp Tryz.prog 90 [79,80]))=some c62:=by kernel_rfl
def c85:aV:=(sr [oo 3 (.box 4 (tm 0)),oo 4 (.mov kF)] (sr [fa 5 0 3,ld 6 5,ld 7 1,oo 8 (.nilck (tm 7)),fa 9 1 8,fa 10 1 9,ld 11 10,oo 12 (.bin .eql (tm 6) (tm 11)),mv 13 12,oT 14 13 (.offA 2 (tm 3)),oT 15 13 (.load 1 false (tm 14)),oT 16 13 (.load 1 false (tm 2)),oT 17 13 (.bin .eql (tm 15) (tm 16)),oo 18 (.pick (tm 13) (tm 17) kF),mv 4 18] .ret))
theorem l85:(Tryz.f85.body.bind (bp Tryz.prog 19 []))=some c85:=by kernel_rfl
def c64:aV:=(sr [oo 2 (.mov kF)] (sr [mv 7 0,oo 8 (.nilck (tm 7)),fa 9 19 8,mv 10 0,oo 11 (.nilck (tm 10)),fa 12 1 11,lA 13 6 12,⟨some 4,.alloc [Z0,S0,.nil,S0,Z0,Z0],none,[]⟩,mv 3 9,o0 (.store 6 (tm 4) (tm 13))] (.seq (sr [mv 14 0,oo 15 (.nilck (tm 14)),fa 16 23 15,ld 17 16,oo 18 (.not (tm 17))] (.cond (tm 18) (rg [mv 19 3,mv 20 3,fa 21 4 4,ld 22 21,mv 23 0,oo 24 (.nilck (tm 23)),fa 25 18 24,ld 26 25,oo 27 (.nilck (tm 19)),fa 28 2 27,o0 (.store 1 (tm 28) (tm 22)),oo 29 (.nilck (tm 20)),fa 30 3 29,o0 (.store 1 (tm 30) (tm 26))]) .skip)) (sr [mv 31 0,oo 32 (.nilck (tm 31)),fa 33 18 32,ld 34 33,mv 35 3,oo 36 (.nilck (tm 35)),fa 37 3 36,ld 38 37,oo 39 (.bin .sub (tm 34) (tm 38)),oo 40 (.maxI (Kc 0) (tm 39)),fa 41 5 4,ld 42 41,oo 43 (.bin .quo (tm 40) (tm 42)),mv 5 43] (.seq (sr [mv 44 3,oo 45 (.nilck (tm 44)),fa 46 2 45,ld 47 46,mv 48 5,oo 49 (.bin .add (tm 47) (tm 48)),fa 50 4 4,ld 51 50,oo 52 (.bin .geq (tm 49) (tm 51))] (.cond (tm 52) (rg [mv 53 3,mv 54 3,fa 55 4 4,ld 56 55,mv 57 0,oo 58 (.nilck (tm 57)),fa 59 18 58,ld 60 59,oo 61 (.nilck (tm 53)),fa 62 2 61,o0 (.store 1 (tm 62) (tm 56)),oo 63 (.nilck (tm 54)),fa 64 3 63,o0 (.store 1 (tm 64) (tm 60))]) (.region [mv 65 3,mv 66 3,mv 67 3,oo 68 (.nilck (tm 67)),fa 69 2 68,ld 70 69,mv 71 5,oo 72 (.bin .add (tm 70) (tm 71)),mv 73 3,oo 74 (.nilck (tm 73)),fa 75 3 74,ld 76 75,mv 77 5,fa 78 5 4,ld 79 78,oo 80 (.bin .mul (tm 77) (tm 79)),oo 81 (.bin .add (tm 76) (tm 80)),oo 82 (.nilck (tm 65)),fa 83 2 82,o0 (.store 1 (tm 83) (tm 72)),oo 84 (.nilck (tm 66)),fa 85 3 84,o0 (.store 1 (tm 85) (tm 81))] [[],[],[],[],[],[],[],[],[],[],[],[],[],[],[],[],[],[],[],[14],[],[],[]]))) (sr [mv 86 3,oo 87 (.nilck (tm 86)),fa 88 2 87,ld 89 88,oo 90 (.bin .gtr (tm 89) (Kc 0)),mv 6 90] (.seq (sr [mv 91 6] (.cond (tm 91) (rg [mv 92 3,oo 93 (.nilck (tm 92)),fa 94 2 93,ld 95 94,oo 96 (.bin .sub (tm 95) (Kc 1)),oo 97 (.nilck (tm 92)),fa 98 2 97,o0 (.store 1 (tm 98) (tm 96))]) .skip)) (sr [mv 99 0,oo 100 (.inl 79 [tm 99]),mv 101 100,mT 102 6 101,oo 103 (.pick (tm 101) (tm 102) kF),mv 2 103] .ret))))))))
theorem l64:(Tryz.f64.body.bind (bp Tryz.prog 104 [79]))=some c64:=by kernel_rfl
end Go.ST4
end
