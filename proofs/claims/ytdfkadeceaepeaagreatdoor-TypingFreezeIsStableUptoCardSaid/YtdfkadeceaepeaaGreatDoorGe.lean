/- Joined by program: parts of a data level over the model, of the program's functions over it, and of the statement's proof. -/
import Derived.Test.YtdfkadeceaepeaaGreatDoorProg
import Derived.Test.YtdfkadeceaepeaaGreatDoorGc
import Derived.KernelRfl
import Derived.Test.YtdfkadeceaepeaaGreatDoorGd
import Derived.Shelf.Sort.Plain
import Derived.Shelf.Slices.In.SortNone
set_option maxRecDepth 100000
set_option maxHeartbeats 8000000
noncomputable section
namespace Go.TY
open Go Go.DL Go.Proofs
def c68:aV:=(.seq (.region [oo 1 (.box 5 (tm 0)),oo 2 (.mov (Kc 0))] []) (.seq (.region [lA 3 5 1,oo 4 (.call 105 [tm 3]),oo 5 (.mkfn 107 [tm 1]),oo 6 (.call 106 [(tm 4),(tm 5)]),mv 2 6] []) .ret))
theorem l68:(Tryz.f68.body.bind (bz Tryz.prog 7 []))=some c68:=by kernel_rfl
def c72:aV:=(.seq (.region [oo 1 (.box 9 (tm 0)),oo 2 (.mov (Kc 0))] []) (.seq (.region [lA 3 9 1,oo 4 (.call 113 [tm 3]),oo 5 (.mkfn 114 [tm 1]),oo 6 (.call 106 [(tm 4),(tm 5)]),mv 2 6] []) .ret))
theorem l72:(Tryz.f72.body.bind (bz Tryz.prog 7 []))=some c72:=by kernel_rfl
def c79:aV:=(.seq (.region [oo 1 (.box 6 (tm 0)),oo 2 (.mov (Kc 0))] []) (.seq (.seq (.region [lA 3 6 1,oo 4 (.call 123 [tm 3]),oo 5 (.not (tm 4))] []) (.cond (tm 5) (.seq (.region [oo 2 (.mov (Kc 1))] []) .ret) .skip)) (.seq (.region [oo 2 (.mov (Kc 0))] []) .ret)))
theorem l79:(Tryz.f79.body.bind (bz Tryz.prog 6 []))=some c79:=by kernel_rfl
def c95:aV:=(.seq (.region [oo 2 (.mov (Kc 0))] []) (.seq (.seq (.region [mv 7 0,ln 8 7,oo 9 (.bin .gtr (tm 8) (Kc 8))] []) (.cond (tm 9) (.seq (.region [oo 2 (.mov (Kc 2))] []) .ret) .skip)) (.seq (.seq (.region [mv 10 0,ln 11 10,oo 12 (.mov (Kc 0))] []) (.block 0 (.loop (.seq (.region [oo 13 (.bin .lss (tm 12) (tm 11))] []) (.seq (.cond (tm 13) .skip (.exit 0)) (.seq (.block 1 (.seq (.region [ix 14 15 10 12,lA 15 15 14,⟨some 4,.alloc [Z0,Z0,S0,Z0,Z0,.nil,S0,Z0,.nil,Z0,S0,.nil,S0,Z0,Z0],none,[]⟩,o0 (.store 15 (tm 4) (tm 15))] []) (.seq (.seq (.region [fa 16 0 4,lA 17 9 16,oo 18 (.call 72 [tm 17]),mv 5 18] []) (.seq (.region [mv 19 5,oo 20 (.bin .neq (tm 19) (Kc 0))] []) (.cond (tm 20) (.seq (.region [mv 21 5,mv 2 21] []) .ret) .skip))) (.seq (.region [fa 22 9 4,lA 23 6 22,oo 24 (.call 79 [tm 23]),mv 6 24] []) (.seq (.region [mv 25 6,oo 26 (.bin .neq (tm 25) (Kc 0))] []) (.cond (tm 26) (.seq (.region [mv 27 6,mv 2 27] []) .ret) .skip)))))) (.region [oo 28 (.bin .add (tm 12) (Kc 1)),mv 12 28] []))))))) (.seq (.region [oo 2 (.mov (Kc 0))] []) .ret))))
theorem l95:(Tryz.f95.body.bind (bz Tryz.prog 29 []))=some c95:=by kernel_rfl
def Lu:aV:=(.seq (.region [oo 1 (.box 5 (tm 0)),oo 2 (.alloc [Z0,Z0])] []) (.seq (.region [fa 3 4 1,ld 4 3,oo 5 (.call 139 [(tm 4),(.const (.clos 105 []))]),o0 (.store 2 (tm 2) (tm 5))] []) .ret))
theorem MZ:(Tryz.f105.body.bind (bz Tryz.prog 6 []))=some Lu:=by kernel_rfl
def Lv:aV:=(.seq (.region [oo 2 (.box 2 (tm 0)),oo 4 (.mov (Kc 0))] []) (.seq (.seq (.region [lA 6 2 2,oo 7 (.call 140 [tm 6]),mv 5 7] []) (.seq (.region [mv 8 5,oo 9 (.bin .neq (tm 8) (Kc 0))] []) (.cond (tm 9) (.seq (.region [mv 10 5,mv 4 10] []) .ret) .skip))) (.seq (.seq (.region [mv 11 1,oo 12 (.bX (tm 11) []),oo 13 (.not (tm 12))] []) (.cond (tm 13) (.seq (.region [oo 4 (.mov (Kc 1))] []) .ret) .skip)) (.seq (.region [oo 4 (.mov (Kc 0))] []) .ret))))
theorem M0:(Tryz.f106.body.bind (bz Tryz.prog 14 []))=some Lv:=by kernel_rfl
def Lw:aV:=(.seq (.region [oo 1 (.mov kF)] []) (.seq (.region [lA 2 5 0,oo 3 (.call 108 [tm 2]),mv 1 3] []) .ret))
theorem M5:(Tryz.f107.body.bind (bz Tryz.prog 4 []))=some Lw:=by kernel_rfl
def Lx:aV:=(.seq (.region [oo 1 (.box 5 (tm 0)),oo 2 (.mov kF)] []) (.seq (.cut (.region [fa 4 1 1,ld 5 4,⟨some 6,.bin .eql (tm 5) (.const S0),none,[]⟩,mv 7 6,oT 8 7 (.offA 2 (tm 1)),oT 9 7 (.load 1 false (tm 8)),oT 10 7 (.bin .eql (tm 9) (Kc 0)),oo 11 (.pick (tm 7) (tm 10) kF),mv 12 11,oT 13 12 (.offA 3 (tm 1)),oT 14 12 (.load 1 false (tm 13)),oT 15 12 (.bin .eql (tm 14) (Kc 0)),oo 16 (.pick (tm 12) (tm 15) kF),mv 3 16] [])) (.seq (.seq (.region [fa 17 0 1,ld 18 17] []) (.block 0 (.seq (.seq (.region [oo 20 (.bin .eql (tm 18) (Kc 1)),mv 19 20] []) (.cond (tm 19) .skip (.region [oo 21 (.bin .eql (tm 18) (Kc 2)),mv 19 21] []))) (.cond (tm 19) (.seq (.region [mv 22 3,mv 23 22,oT 24 23 (.offA 4 (tm 1)),oT 25 23 (.load 1 false (tm 24)),oT 26 23 (.len (tm 25)),oT 27 23 (.bin .eql (tm 26) (Kc 0)),oo 28 (.pick (tm 23) (tm 27) kF),mv 2 28] []) .ret) (.seq (.region [oo 30 (.bin .eql (tm 18) (Kc 3)),mv 29 30] []) (.cond (tm 29) (.seq (.region [fa 31 1 1,ld 32 31,oo 33 (.call 141 [tm 32]),mv 34 33,oT 35 34 (.offA 2 (tm 1)),oT 36 34 (.load 1 false (tm 35)),oT 37 34 (.call 142 [tm 36]),oo 38 (.pick (tm 34) (tm 37) kF),mv 39 38,oT 40 39 (.offA 3 (tm 1)),oT 41 39 (.load 1 false (tm 40)),oT 42 39 (.bin .eql (tm 41) (Kc 0)),oo 43 (.pick (tm 39) (tm 42) kF),mv 44 43,oT 45 44 (.offA 4 (tm 1)),oT 46 44 (.load 1 false (tm 45)),oT 47 44 (.len (tm 46)),oT 48 44 (.bin .eql (tm 47) (Kc 0)),oo 49 (.pick (tm 44) (tm 48) kF),mv 2 49] []) .ret) (.seq (.region [oo 51 (.bin .eql (tm 18) (Kc 4)),mv 50 51] []) (.cond (tm 50) (.seq (.region [fa 52 1 1,ld 53 52,oo 54 (.call 141 [tm 53]),mv 55 54,oT 56 55 (.offA 2 (tm 1)),oT 57 55 (.load 1 false (tm 56)),oT 58 55 (.call 142 [tm 57]),oo 59 (.pick (tm 55) (tm 58) kF),mv 60 59,oT 61 60 (.offA 3 (tm 1)),oT 62 60 (.load 1 false (tm 61)),oT 63 60 (.bin .geq (tm 62) (Kc 0)),oo 64 (.pick (tm 60) (tm 63) kF),mv 65 64,oT 66 65 (.offA 3 (tm 1)),oT 67 65 (.load 1 false (tm 66)),oT 68 65 (.bin .leq (tm 67) (Kc 16)),oo 69 (.pick (tm 65) (tm 68) kF),mv 70 69,oT 71 70 (.offA 4 (tm 1)),oT 72 70 (.load 1 false (tm 71)),oT 73 70 (.len (tm 72)),oT 74 70 (.bin .eql (tm 73) (Kc 0)),oo 75 (.pick (tm 70) (tm 74) kF),mv 2 75] []) .ret) (.seq (.region [oo 77 (.bin .eql (tm 18) (Kc 5)),mv 76 77] []) (.cond (tm 76) (.seq (.region [fa 78 1 1,ld 79 78,oo 80 (.call 141 [tm 79]),mv 81 80,oT 82 81 (.offA 2 (tm 1)),oT 83 81 (.load 1 false (tm 82)),oT 84 81 (.call 142 [tm 83]),oo 85 (.pick (tm 81) (tm 84) kF),mv 86 85,oT 87 86 (.offA 3 (tm 1)),oT 88 86 (.load 1 false (tm 87)),oT 89 86 (.call 142 [tm 88]),oo 90 (.pick (tm 86) (tm 89) kF),mv 91 90,oT 92 91 (.offA 2 (tm 1)),oT 93 91 (.load 1 false (tm 92)),oT 94 91 (.offA 3 (tm 1)),oT 95 91 (.load 1 false (tm 94)),oT 96 91 (.bin .leq (tm 93) (tm 95)),oo 97 (.pick (tm 91) (tm 96) kF),mv 98 97,oT 99 98 (.offA 4 (tm 1)),oT 100 98 (.load 1 false (tm 99)),oT 101 98 (.len (tm 100)),oT 102 98 (.bin .eql (tm 101) (Kc 0)),oo 103 (.pick (tm 98) (tm 102) kF),mv 2 103] []) .ret) (.seq (.region [oo 105 (.bin .eql (tm 18) (Kc 9)),mv 104 105] []) (.cond (tm 104) (.seq (.region [fa 106 1 1,ld 107 106,⟨some 108,.bin .eql (tm 107) (.const S0),none,[]⟩,mv 109 108,oT 110 109 (.offA 2 (tm 1)),oT 111 109 (.load 1 false (tm 110)),oT 112 109 (.call 143 [tm 111]),oo 113 (.pick (tm 109) (tm 112) kF),mv 114 113,oT 115 114 (.offA 3 (tm 1)),oT 116 114 (.load 1 false (tm 115)),oT 117 114 (.call 143 [tm 116]),oo 118 (.pick (tm 114) (tm 117) kF),mv 119 118,oT 120 119 (.offA 2 (tm 1)),oT 121 119 (.load 1 false (tm 120)),oT 122 119 (.offA 3 (tm 1)),oT 123 119 (.load 1 false (tm 122)),oT 124 119 (.bin .lss (tm 121) (tm 123)),oo 125 (.pick (tm 119) (tm 124) kF),mv 126 125,oT 127 126 (.offA 4 (tm 1)),oT 128 126 (.load 1 false (tm 127)),oT 129 126 (.len (tm 128)),oT 130 126 (.bin .eql (tm 129) (Kc 0)),oo 131 (.pick (tm 126) (tm 130) kF),mv 2 131] []) .ret) (.seq (.region [oo 133 (.bin .eql (tm 18) (Kc 6)),mv 132 133] []) (.cond (tm 132) (.seq (.region [mv 134 3,mv 135 134,oT 136 135 (.offA 4 (tm 1)),oT 137 135 (.load 1 false (tm 136)),oT 138 135 (.call 144 [(tm 137),(Kc 1),(.const (.clos 108 []))]),oo 139 (.pick (tm 135) (tm 138) kF),mv 2 139] []) .ret) (.seq (.seq (.region [oo 141 (.bin .eql (tm 18) (Kc 7)),mv 140 141] []) (.cond (tm 140) .skip (.region [oo 142 (.bin .eql (tm 18) (Kc 8)),mv 140 142] []))) (.cond (tm 140) (.seq (.region [mv 143 3,mv 144 143,oT 145 144 (.offA 4 (tm 1)),oT 146 144 (.load 1 false (tm 145)),oT 147 144 (.call 144 [(tm 146),(Kc 2),(.const (.clos 108 []))]),oo 148 (.pick (tm 144) (tm 147) kF),mv 2 148] []) .ret) .skip)))))))))))))))) (.seq (.region [oo 2 (.mov kF)] []) .ret))))
theorem M6:(Tryz.f108.body.bind (bz Tryz.prog 149 [6000001]))=some Lx:=by kernel_rfl
def LC:aV:=(.seq (.region [oo 1 (.box 9 (tm 0)),oo 2 (.alloc [Z0,Z0])] []) (.seq (.region [fa 4 8 1,ld 5 4,oo 6 (.call 147 [(tm 5),(.const (.clos 113 []))]),oo 3 (.alloc [Z0,Z0]),o0 (.store 2 (tm 3) (tm 6))] []) (.seq (.seq (.region [fa 7 0 1,ld 8 7,oo 9 (.bin .eql (tm 8) (Kc 1))] []) (.cond (tm 9) (.region [lA 10 2 3,fa 11 1 1,lA 12 5 11,oo 13 (.call 105 [tm 12]),oo 14 (.call 148 [(tm 10),(tm 13)]),o0 (.store 2 (tm 3) (tm 14))] []) .skip)) (.seq (.region [lA 15 2 3,o0 (.store 2 (tm 2) (tm 15))] []) .ret))))
theorem Nb:(Tryz.f113.body.bind (bz Tryz.prog 16 []))=some LC:=by kernel_rfl
def LD:aV:=(.seq (.region [oo 1 (.mov kF)] []) (.seq (.region [lA 2 9 0,oo 3 (.call 115 [tm 2]),mv 1 3] []) .ret))
theorem Nc:(Tryz.f114.body.bind (bz Tryz.prog 4 []))=some LD:=by kernel_rfl
def LF:aV:=(.seq (.region [oo 1 (.box 9 (tm 0)),oo 2 (.mov kF)] []) (.seq (.cut (.region [fa 5 1 1,lA 6 5 5,⟨some 7,.build [Z0,S0,Z0,Z0,.nil] [],none,[]⟩,oo 8 (.call 149 [(tm 6),(tm 7)]),fa 9 6 1,ld 10 9,⟨some 11,.bin .eql (tm 10) (.const S0),none,[]⟩,mv 12 11,oT 13 12 (.offA 7 (tm 1)),oT 14 12 (.load 1 false (tm 13)),oT 15 12 (.bin .eql (tm 14) (Kc 0)),oo 16 (.pick (tm 12) (tm 15) kF),mv 3 8,mv 4 16] [])) (.seq (.seq (.region [fa 17 0 1,ld 18 17] []) (.block 0 (.seq (.region [oo 20 (.bin .eql (tm 18) (Kc 1)),mv 19 20] []) (.cond (tm 19) (.seq (.region [mv 21 4,mv 22 21,oT 23 22 (.offA 8 (tm 1)),oT 24 22 (.load 1 false (tm 23)),oT 25 22 (.len (tm 24)),oT 26 22 (.bin .eql (tm 25) (Kc 0)),oo 27 (.pick (tm 22) (tm 26) kF),mv 28 27,oT 29 28 (.offA 1 (tm 1)),oT 30 28 (.load 5 true (tm 29)),oT 31 28 (.call 108 [tm 30]),oo 32 (.pick (tm 28) (tm 31) kF),mv 2 32] []) .ret) (.seq (.region [oo 34 (.bin .eql (tm 18) (Kc 2)),mv 33 34] []) (.cond (tm 33) (.seq (.region [mv 35 3,mv 36 35,oT 37 36 (.offA 8 (tm 1)),oT 38 36 (.load 1 false (tm 37)),oT 39 36 (.len (tm 38)),oT 40 36 (.bin .eql (tm 39) (Kc 0)),oo 41 (.pick (tm 36) (tm 40) kF),mv 42 41,oT 43 42 (.offA 6 (tm 1)),oT 44 42 (.load 1 false (tm 43)),oT 45 42 (.call 141 [tm 44]),oo 46 (.pick (tm 42) (tm 45) kF),mv 47 46,oT 48 47 (.offA 7 (tm 1)),oT 49 47 (.load 1 false (tm 48)),oT 50 47 (.call 142 [tm 49]),oo 51 (.pick (tm 47) (tm 50) kF),mv 2 51] []) .ret) (.seq (.region [oo 53 (.bin .eql (tm 18) (Kc 5)),mv 52 53] []) (.cond (tm 52) (.seq (.region [mv 54 3,mv 55 54,mT 56 4 55,oo 57 (.pick (tm 55) (tm 56) kF),mv 58 57,oT 59 58 (.offA 8 (tm 1)),oT 60 58 (.load 1 false (tm 59)),oT 61 58 (.call 150 [(tm 60),(Kc 1),(.const (.clos 115 []))]),oo 62 (.pick (tm 58) (tm 61) kF),mv 2 62] []) .ret) (.seq (.seq (.region [oo 64 (.bin .eql (tm 18) (Kc 3)),mv 63 64] []) (.cond (tm 63) .skip (.region [oo 65 (.bin .eql (tm 18) (Kc 4)),mv 63 65] []))) (.cond (tm 63) (.seq (.region [mv 66 3,mv 67 66,mT 68 4 67,oo 69 (.pick (tm 67) (tm 68) kF),mv 70 69,oT 71 70 (.offA 8 (tm 1)),oT 72 70 (.load 1 false (tm 71)),oT 73 70 (.call 150 [(tm 72),(Kc 2),(.const (.clos 115 []))]),oo 74 (.pick (tm 70) (tm 73) kF),mv 2 74] []) .ret) .skip)))))))))) (.seq (.region [oo 2 (.mov kF)] []) .ret))))
theorem Nd:(Tryz.f115.body.bind (bz Tryz.prog 75 [6000001]))=some LF:=by kernel_rfl
def LL:aV:=(.seq (.region [oo 1 (.box 6 (tm 0)),oo 2 (.mov kF)] []) (.seq (.seq (.region [lA 4 6 1,⟨some 5,.build [Z0,S0,.nil,S0,Z0,Z0] [],none,[]⟩,oo 6 (.call 151 [(tm 4),(tm 5)])] []) (.cond (tm 6) (.seq (.region [oo 2 (.mov kT)] []) .ret) .skip)) (.seq (.seq (.cut (.region [fa 7 1 1,ld 8 7,oo 9 (.call 152 [tm 8]),oo 10 (.not (tm 9)),mv 11 10,oF 12 11 (.offA 2 (tm 1)),oF 13 11 (.load 1 false (tm 12)),oF 14 11 (.len (tm 13)),oF 15 11 (.bin .eql (tm 14) (Kc 0)),oo 16 (.pick (tm 11) kT (tm 15)),mv 17 16,oF 18 17 (.offA 2 (tm 1)),oF 19 17 (.load 1 false (tm 18)),oF 20 17 (.len (tm 19)),oF 21 17 (.bin .gtr (tm 20) (Kc 4)),oo 22 (.pick (tm 17) kT (tm 21)),mv 23 22,oF 24 23 (.offA 2 (tm 1)),oF 25 23 (.load 1 false (tm 24)),oF 26 23 (.offA 2 (tm 1)),oF 27 23 (.load 1 false (tm 26)),oF 28 23 (.len (tm 27)),oF 29 23 (.call 153 [(tm 25),(tm 28),(.const (.clos 141 []))]),oF 30 23 (.not (tm 29)),oo 31 (.pick (tm 23) kT (tm 30))] [])) (.cond (tm 31) (.seq (.region [oo 2 (.mov kF)] []) .ret) .skip)) (.seq (.cut (.region [fa 32 4 1,ld 33 32,oo 34 (.bin .eql (tm 33) (Kc 0)),mv 35 34,oT 36 35 (.offA 5 (tm 1)),oT 37 35 (.load 1 false (tm 36)),oT 38 35 (.bin .eql (tm 37) (Kc 0)),oo 39 (.pick (tm 35) (tm 38) kF),mv 3 39] [])) (.seq (.seq (.region [fa 40 0 1,ld 41 40] []) (.block 0 (.seq (.region [oo 43 (.bin .eql (tm 41) (Kc 1)),mv 42 43] []) (.cond (tm 42) (.seq (.region [mv 44 3,mv 45 44,oT 46 45 (.offA 3 (tm 1)),oT 47 45 (.load 1 false (tm 46)),⟨some 48,.bin .eql (tm 47) (.const S0),some (45,true),[]⟩,mT 49 48 45,oF 50 49 (.offA 3 (tm 1)),oF 51 49 (.load 1 false (tm 50)),oF 52 49 (.call 141 [tm 51]),oT 53 45 (.pick (tm 49) kT (tm 52)),oo 54 (.pick (tm 45) (tm 53) kF),mv 2 54] []) .ret) (.seq (.region [oo 56 (.bin .eql (tm 41) (Kc 2)),mv 55 56] []) (.cond (tm 55) (.seq (.region [mv 57 3,mv 58 57,oT 59 58 (.offA 3 (tm 1)),oT 60 58 (.load 1 false (tm 59)),⟨some 61,.bin .eql (tm 60) (.const S0),some (58,true),[]⟩,oo 62 (.pick (tm 58) (tm 61) kF),mv 2 62] []) .ret) (.seq (.region [oo 64 (.bin .eql (tm 41) (Kc 3)),mv 63 64] []) (.cond (tm 63) (.seq (.region [fa 65 4 1,ld 66 65,oo 67 (.call 143 [tm 66]),mv 68 67,oT 69 68 (.offA 5 (tm 1)),oT 70 68 (.load 1 false (tm 69)),oT 71 68 (.bin .eql (tm 70) (Kc 0)),oo 72 (.pick (tm 68) (tm 71) kF),mv 73 72,oT 74 73 (.offA 3 (tm 1)),oT 75 73 (.load 1 false (tm 74)),⟨some 76,.bin .eql (tm 75) (.const S0),some (73,true),[]⟩,oo 77 (.pick (tm 73) (tm 76) kF),mv 2 77] []) .ret) (.seq (.region [oo 79 (.bin .eql (tm 41) (Kc 4)),mv 78 79] []) (.cond (tm 78) (.seq (.region [fa 80 3 1,ld 81 80,oo 82 (.call 141 [tm 81]),mv 83 82,oT 84 83 (.offA 4 (tm 1)),oT 85 83 (.load 1 false (tm 84)),oT 86 83 (.call 142 [tm 85]),oo 87 (.pick (tm 83) (tm 86) kF),mv 88 87,oT 89 88 (.offA 5 (tm 1)),oT 90 88 (.load 1 false (tm 89)),oT 91 88 (.call 142 [tm 90]),oo 92 (.pick (tm 88) (tm 91) kF),mv 93 92,oT 94 93 (.offA 4 (tm 1)),oT 95 93 (.load 1 false (tm 94)),oT 96 93 (.offA 5 (tm 1)),oT 97 93 (.load 1 false (tm 96)),oT 98 93 (.bin .leq (tm 95) (tm 97)),oo 99 (.pick (tm 93) (tm 98) kF),mv 2 99] []) .ret) (.seq (.region [oo 101 (.bin .eql (tm 41) (Kc 5)),mv 100 101] []) (.cond (tm 100) (.seq (.region [mv 102 3,mv 103 102,oT 104 103 (.offA 3 (tm 1)),oT 105 103 (.load 1 false (tm 104)),oT 106 103 (.call 141 [tm 105]),oo 107 (.pick (tm 103) (tm 106) kF),mv 2 107] []) .ret) (.seq (.region [oo 109 (.bin .eql (tm 41) (Kc 6)),mv 108 109] []) (.cond (tm 108) (.seq (.region [fa 110 3 1,ld 111 110,⟨some 112,.bin .eql (tm 111) (.const S0),none,[]⟩,mv 113 112,oT 114 113 (.offA 4 (tm 1)),oT 115 113 (.load 1 false (tm 114)),oT 116 113 (.bin .geq (tm 115) (Kc 1)),oo 117 (.pick (tm 113) (tm 116) kF),mv 118 117,oT 119 118 (.offA 4 (tm 1)),oT 120 118 (.load 1 false (tm 119)),oT 121 118 (.call 142 [tm 120]),oo 122 (.pick (tm 118) (tm 121) kF),mv 123 122,oT 124 123 (.offA 5 (tm 1)),oT 125 123 (.load 1 false (tm 124)),oT 126 123 (.bin .geq (tm 125) (Kc 1)),oo 127 (.pick (tm 123) (tm 126) kF),mv 128 127,oT 129 128 (.offA 5 (tm 1)),oT 130 128 (.load 1 false (tm 129)),oT 131 128 (.call 143 [tm 130]),oo 132 (.pick (tm 128) (tm 131) kF),mv 2 132] []) .ret) .skip)))))))))))))) (.seq (.region [oo 2 (.mov kF)] []) .ret))))))
theorem Nk:(Tryz.f123.body.bind (bz Tryz.prog 133 [6000005,6000003]))=some LL:=by kernel_rfl
def LW:aV:=(.seq (.region [oo 4 (.alloc [Z0,Z0])] []) (.seq (.region [oo 8 (.build [Z0,Z0] [(0,1,(Kc 1)),(1,1,(Kc 1))]),oo 5 (.alloc [Z0,Z0]),o0 (.store 2 (tm 5) (tm 8))] []) (.seq (.seq (.region [mv 9 0,ln 10 9,oo 11 (.mov (Kc 0))] []) (.block 0 (.loop (.seq (.region [oo 12 (.bin .lss (tm 11) (tm 10))] []) (.seq (.cond (tm 12) .skip (.exit 0)) (.seq (.block 1 (.seq (.region [ix 13 5 9 11,lA 14 5 13,⟨some 7,.alloc [Z0,S0,Z0,Z0,.nil],none,[]⟩,o0 (.store 5 (tm 7) (tm 14))] []) (.region [lA 15 2 5,mv 16 1,lA 17 5 7,oo 18 (.bX (tm 16) [tm 17]),oo 19 (.call 148 [(tm 15),(tm 18)]),o0 (.store 2 (tm 5) (tm 19))] []))) (.region [oo 20 (.bin .add (tm 11) (Kc 1)),mv 11 20] []))))))) (.seq (.region [lA 21 2 5,o0 (.store 2 (tm 4) (tm 21))] []) .ret))))
theorem Ny:(Tryz.f139.body.bind (bz Tryz.prog 22 []))=some LW:=by kernel_rfl
def LX:aV:=(.seq (.region [oo 1 (.box 2 (tm 0)),oo 2 (.mov (Kc 0))] []) (.seq (.seq (.region [fa 3 0 1,ld 4 3,oo 5 (.bin .gtr (tm 4) (Kc 200)),mv 6 5,oF 7 6 (.offA 1 (tm 1)),oF 8 6 (.load 1 false (tm 7)),oF 9 6 (.bin .gtr (tm 8) (Kc 20)),oo 10 (.pick (tm 6) kT (tm 9))] []) (.cond (tm 10) (.seq (.region [oo 2 (.mov (Kc 2))] []) .ret) .skip)) (.seq (.region [oo 2 (.mov (Kc 0))] []) .ret)))
theorem Nz:(Tryz.f140.body.bind (bz Tryz.prog 11 []))=some LX:=by kernel_rfl
def LY:aV:=(.seq (.region [oo 2 (.mov kF)] []) (.seq (.region [mv 3 0,⟨some 4,.bin .eql (tm 3) (.const (.str ⟨#[112,111,114,116]⟩)),none,[]⟩,mv 5 4,mF 6 0 5,oF 7 5 (.call 152 [tm 6]),oo 8 (.pick (tm 5) kT (tm 7)),mv 2 8] []) .ret))
theorem NA:(Tryz.f141.body.bind (bz Tryz.prog 9 []))=some LY:=by kernel_rfl
def LZ:aV:=(.seq (.region [oo 2 (.mov kF)] []) (.seq (.region [mv 3 0,oo 4 (.bin .geq (tm 3) (Kc 0)),mv 5 4,mT 6 0 5,oT 7 5 (.bin .leq (tm 6) (Kc 65535)),oo 8 (.pick (tm 5) (tm 7) kF),mv 2 8] []) .ret))
theorem NB:(Tryz.f142.body.bind (bz Tryz.prog 9 []))=some LZ:=by kernel_rfl
def L0:aV:=(.seq (.region [oo 2 (.mov kF)] []) (.seq (.region [mv 3 0,oo 4 (.bin .geq (tm 3) (Kc 0)),mv 5 4,mT 6 0 5,oT 7 5 (.bin .leq (tm 6) (Kc 1073741824)),oo 8 (.pick (tm 5) (tm 7) kF),mv 2 8] []) .ret))
theorem NC:(Tryz.f143.body.bind (bz Tryz.prog 9 []))=some L0:=by kernel_rfl
def L5:aV:=(.seq (.region [oo 5 (.box 1 (tm 2)),oo 6 (.mov kF)] []) (.seq (.region [mv 7 0,ln 8 7,mv 9 1,oo 10 (.bin .eql (tm 8) (tm 9)),mv 11 10,mT 12 0 11,oT 13 11 (.mkfn 162 [tm 5]),oT 14 11 (.call 161 [(tm 12),(tm 13)]),oT 15 11 (.not (tm 14)),oo 16 (.pick (tm 11) (tm 15) kF),mv 6 16] []) .ret))
theorem ND:(Tryz.f144.body.bind (bz Tryz.prog 17 []))=some L5:=by kernel_rfl
def L6:aV:=(.seq (.region [oo 4 (.alloc [Z0,Z0])] []) (.seq (.region [oo 8 (.build [Z0,Z0] [(0,1,(Kc 1)),(1,1,(Kc 1))]),oo 5 (.alloc [Z0,Z0]),o0 (.store 2 (tm 5) (tm 8))] []) (.seq (.seq (.region [mv 9 0,ln 10 9,oo 11 (.mov (Kc 0))] []) (.block 0 (.loop (.seq (.region [oo 12 (.bin .lss (tm 11) (tm 10))] []) (.seq (.cond (tm 12) .skip (.exit 0)) (.seq (.block 1 (.seq (.region [ix 13 9 9 11,lA 14 9 13,⟨some 7,.alloc [Z0,Z0,S0,Z0,Z0,.nil,S0,Z0,.nil],none,[]⟩,o0 (.store 9 (tm 7) (tm 14))] []) (.region [lA 15 2 5,mv 16 1,lA 17 9 7,oo 18 (.bX (tm 16) [tm 17]),oo 19 (.call 148 [(tm 15),(tm 18)]),o0 (.store 2 (tm 5) (tm 19))] []))) (.region [oo 20 (.bin .add (tm 11) (Kc 1)),mv 11 20] []))))))) (.seq (.region [lA 21 2 5,o0 (.store 2 (tm 4) (tm 21))] []) .ret))))
theorem NF:(Tryz.f147.body.bind (bz Tryz.prog 22 []))=some L6:=by kernel_rfl
def L7:aV:=(.seq (.region [oo 2 (.box 2 (tm 0)),oo 3 (.box 2 (tm 1)),oo 4 (.alloc [Z0,Z0])] []) (.seq (.region [fa 5 0 2,ld 6 5,fa 7 0 3,ld 8 7,oo 9 (.bin .add (tm 6) (tm 8)),fa 10 1 2,ld 11 10,fa 12 1 3,ld 13 12,oo 14 (.bin .add (tm 13) (Kc 1)),oo 15 (.maxI (tm 11) (tm 14)),oo 16 (.build [Z0,Z0] [(0,1,(tm 9)),(1,1,(tm 15))]),o0 (.store 2 (tm 4) (tm 16))] []) .ret))
theorem NG:(Tryz.f148.body.bind (bz Tryz.prog 17 []))=some L7:=by kernel_rfl
def L8:aV:=(.seq (.region [oo 2 (.box 5 (tm 0)),oo 3 (.box 5 (tm 1)),oo 4 (.mov kF)] []) (.seq (.region [fa 5 0 2,ld 6 5,fa 7 0 3,ld 8 7,oo 9 (.bin .eql (tm 6) (tm 8)),mv 10 9,oT 11 10 (.offA 1 (tm 2)),oT 12 10 (.load 1 false (tm 11)),oT 13 10 (.offA 1 (tm 3)),oT 14 10 (.load 1 false (tm 13)),oT 15 10 (.bin .eql (tm 12) (tm 14)),oo 16 (.pick (tm 10) (tm 15) kF),mv 17 16,oT 18 17 (.offA 2 (tm 2)),oT 19 17 (.load 1 false (tm 18)),oT 20 17 (.offA 2 (tm 3)),oT 21 17 (.load 1 false (tm 20)),oT 22 17 (.bin .eql (tm 19) (tm 21)),oo 23 (.pick (tm 17) (tm 22) kF),mv 24 23,oT 25 24 (.offA 3 (tm 2)),oT 26 24 (.load 1 false (tm 25)),oT 27 24 (.offA 3 (tm 3)),oT 28 24 (.load 1 false (tm 27)),oT 29 24 (.bin .eql (tm 26) (tm 28)),oo 30 (.pick (tm 24) (tm 29) kF),mv 31 30,oT 32 31 (.offA 4 (tm 2)),oT 33 31 (.load 1 false (tm 32)),oT 34 31 (.offA 4 (tm 3)),oT 35 31 (.load 1 false (tm 34)),oT 36 31 (.call 163 [(tm 33),(tm 35),(.const (.clos 149 []))]),oo 37 (.pick (tm 31) (tm 36) kF),mv 4 37] []) .ret))
theorem NH:(Tryz.f149.body.bind (bz Tryz.prog 38 []))=some L8:=by kernel_rfl
def L9:aV:=(.seq (.region [oo 5 (.box 1 (tm 2)),oo 6 (.mov kF)] []) (.seq (.region [mv 7 0,ln 8 7,mv 9 1,oo 10 (.bin .eql (tm 8) (tm 9)),mv 11 10,mT 12 0 11,oT 13 11 (.mkfn 165 [tm 5]),oT 14 11 (.call 164 [(tm 12),(tm 13)]),oT 15 11 (.not (tm 14)),oo 16 (.pick (tm 11) (tm 15) kF),mv 6 16] []) .ret))
theorem NI:(Tryz.f150.body.bind (bz Tryz.prog 17 []))=some L9:=by kernel_rfl
def Ma:aV:=(.seq (.region [oo 2 (.box 6 (tm 0)),oo 3 (.box 6 (tm 1)),oo 4 (.mov kF)] []) (.seq (.region [fa 5 0 2,ld 6 5,fa 7 0 3,ld 8 7,oo 9 (.bin .eql (tm 6) (tm 8)),mv 10 9,oT 11 10 (.offA 1 (tm 2)),oT 12 10 (.load 1 false (tm 11)),oT 13 10 (.offA 1 (tm 3)),oT 14 10 (.load 1 false (tm 13)),oT 15 10 (.bin .eql (tm 12) (tm 14)),oo 16 (.pick (tm 10) (tm 15) kF),mv 17 16,oT 18 17 (.offA 3 (tm 2)),oT 19 17 (.load 1 false (tm 18)),oT 20 17 (.offA 3 (tm 3)),oT 21 17 (.load 1 false (tm 20)),oT 22 17 (.bin .eql (tm 19) (tm 21)),oo 23 (.pick (tm 17) (tm 22) kF),mv 24 23,oT 25 24 (.offA 4 (tm 2)),oT 26 24 (.load 1 false (tm 25)),oT 27 24 (.offA 4 (tm 3)),oT 28 24 (.load 1 false (tm 27)),oT 29 24 (.bin .eql (tm 26) (tm 28)),oo 30 (.pick (tm 24) (tm 29) kF),mv 31 30,oT 32 31 (.offA 5 (tm 2)),oT 33 31 (.load 1 false (tm 32)),oT 34 31 (.offA 5 (tm 3)),oT 35 31 (.load 1 false (tm 34)),oT 36 31 (.bin .eql (tm 33) (tm 35)),oo 37 (.pick (tm 31) (tm 36) kF),mv 38 37,oT 39 38 (.offA 2 (tm 2)),oT 40 38 (.load 1 false (tm 39)),oT 41 38 (.offA 2 (tm 3)),oT 42 38 (.load 1 false (tm 41)),oT 43 38 (.call 166 [(tm 40),(tm 42)]),oo 44 (.pick (tm 38) (tm 43) kF),mv 4 44] []) .ret))
theorem NJ:(Tryz.f151.body.bind (bz Tryz.prog 45 []))=some Ma:=by kernel_rfl
def Mb:aV:=(.seq (.region [oo 2 (.mov kF)] []) (.seq (.region [mv 3 0,oo 4 (.call 167 [tm 3]),mv 2 4] []) .ret))
theorem NK:(Tryz.f152.body.bind (bz Tryz.prog 5 []))=some Mb:=by kernel_rfl
def Mc:aV:=(.seq (.region [oo 5 (.box 1 (tm 2)),oo 6 (.mov kF)] []) (.seq (.region [mv 7 0,ln 8 7,mv 9 1,oo 10 (.bin .eql (tm 8) (tm 9)),mv 11 10,mT 12 0 11,oT 13 11 (.mkfn 168 [tm 5]),oT 14 11 (.call 124 [(tm 12),(tm 13)]),oT 15 11 (.not (tm 14)),oo 16 (.pick (tm 11) (tm 15) kF),mv 6 16] []) .ret))
theorem NL:(Tryz.f153.body.bind (bz Tryz.prog 17 []))=some Mc:=by kernel_rfl
def Md:aV:=(.seq (.region [oo 4 (.mov (Kc 0))] []) (.seq (.seq (.region [mv 6 0,ln 7 6,oo 8 (.mov (Kc 0))] []) (.block 0 (.loop (.seq (.region [oo 9 (.bin .lss (tm 8) (tm 7))] []) (.seq (.cond (tm 9) .skip (.exit 0)) (.seq (.block 1 (.seq (.region [mv 10 8,mv 5 10] []) (.seq (.region [mv 11 1,mv 12 0,mv 13 5,ix 14 1 12 13,ld 15 14,oo 16 (.bX (tm 11) [tm 15])] []) (.cond (tm 16) (.seq (.region [mv 17 5,mv 4 17] []) .ret) .skip)))) (.region [oo 18 (.bin .add (tm 8) (Kc 1)),mv 8 18] []))))))) (.seq (.region [oo 4 (.mov (.const (.int .i64 (-1))))] []) .ret)))
theorem NM:(Tryz.f154.body.bind (bz Tryz.prog 19 []))=some Md:=by kernel_rfl
def Mf:aV:=(.seq (.region [oo 4 (.mov kF)] []) (.seq (.region [mv 5 0,mv 6 1,oo 7 (.call 190 [(tm 5),(tm 6)]),oo 8 (.bin .geq (tm 7) (Kc 0)),mv 4 8] []) .ret))
theorem NO:(Tryz.f161.body.bind (bz Tryz.prog 9 []))=some Mf:=by kernel_rfl
def Mg:aV:=(.seq (.region [oo 2 (.box 5 (tm 0)),oo 3 (.mov kF)] []) (.seq (.region [ld 4 1,lA 5 5 2,oo 6 (.bX (tm 4) [tm 5]),oo 7 (.not (tm 6)),mv 3 7] []) .ret))
theorem NP:(Tryz.f162.body.bind (bz Tryz.prog 8 []))=some Mg:=by kernel_rfl
def Mh:aV:=(.seq (.region [oo 6 (.mov kF)] []) (.seq (.seq (.region [mv 10 0,ln 11 10,mv 12 1,ln 13 12,oo 14 (.bin .neq (tm 11) (tm 13))] []) (.cond (tm 14) (.seq (.region [oo 6 (.mov kF)] []) .ret) .skip)) (.seq (.seq (.region [mv 15 0,ln 16 15,oo 17 (.mov (Kc 0))] []) (.block 0 (.loop (.seq (.region [oo 18 (.bin .lss (tm 17) (tm 16))] []) (.seq (.cond (tm 18) .skip (.exit 0)) (.seq (.block 1 (.seq (.region [mv 19 17,ix 20 5 15 17,lA 21 5 20,⟨some 8,.alloc [Z0,S0,Z0,Z0,.nil],none,[]⟩,mv 7 19,o0 (.store 5 (tm 8) (tm 21))] []) (.seq (.region [mv 22 1,mv 23 7,ix 24 5 22 23,lA 25 5 24,⟨some 9,.alloc [Z0,S0,Z0,Z0,.nil],none,[]⟩,o0 (.store 5 (tm 9) (tm 25))] []) (.seq (.region [mv 26 2,lA 27 5 8,lA 28 5 9,oo 29 (.bX (tm 26) [(tm 27),(tm 28)]),oo 30 (.not (tm 29))] []) (.cond (tm 30) (.seq (.region [oo 6 (.mov kF)] []) .ret) .skip))))) (.region [oo 31 (.bin .add (tm 17) (Kc 1)),mv 17 31] []))))))) (.seq (.region [oo 6 (.mov kT)] []) .ret))))
theorem NQ:(Tryz.f163.body.bind (bz Tryz.prog 32 []))=some Mh:=by kernel_rfl
def Mi:aV:=(.seq (.region [oo 4 (.mov kF)] []) (.seq (.region [mv 5 0,mv 6 1,oo 7 (.call 191 [(tm 5),(tm 6)]),oo 8 (.bin .geq (tm 7) (Kc 0)),mv 4 8] []) .ret))
theorem NR:(Tryz.f164.body.bind (bz Tryz.prog 9 []))=some Mi:=by kernel_rfl
def Mj:aV:=(.seq (.region [oo 2 (.box 9 (tm 0)),oo 3 (.mov kF)] []) (.seq (.region [ld 4 1,lA 5 9 2,oo 6 (.bX (tm 4) [tm 5]),oo 7 (.not (tm 6)),mv 3 7] []) .ret))
theorem NS:(Tryz.f165.body.bind (bz Tryz.prog 8 []))=some Mj:=by kernel_rfl
def Mk:aV:=(.seq (.region [oo 4 (.mov kF)] []) (.seq (.seq (.region [mv 6 0,ln 7 6,mv 8 1,ln 9 8,oo 10 (.bin .neq (tm 7) (tm 9))] []) (.cond (tm 10) (.seq (.region [oo 4 (.mov kF)] []) .ret) .skip)) (.seq (.seq (.region [mv 11 0,ln 12 11,oo 13 (.mov (Kc 0))] []) (.block 0 (.loop (.seq (.region [oo 14 (.bin .lss (tm 13) (tm 12))] []) (.seq (.cond (tm 14) .skip (.exit 0)) (.seq (.block 1 (.seq (.region [mv 15 13,mv 5 15] []) (.seq (.region [mv 16 0,mv 17 5,ix 18 1 16 17,ld 19 18,mv 20 1,mv 21 5,ix 22 1 20 21,ld 23 22,oo 24 (.bin .neq (tm 19) (tm 23))] []) (.cond (tm 24) (.seq (.region [oo 4 (.mov kF)] []) .ret) .skip)))) (.region [oo 25 (.bin .add (tm 13) (Kc 1)),mv 13 25] []))))))) (.seq (.region [oo 4 (.mov kT)] []) .ret))))
theorem NT:(Tryz.f166.body.bind (bz Tryz.prog 26 []))=some Mk:=by kernel_rfl
def Ml:aV:=(.seq (.region [oo 2 (.mov kF)] []) (.seq (.seq (.region [mv 5 0,⟨some 6,.bin .eql (tm 5) (.const S0),none,[]⟩,mv 7 6,mF 8 0 7,oF 9 7 (.lenS (tm 8)),oF 10 7 (.bin .gtr (tm 9) (Kc 24)),oo 11 (.pick (tm 7) kT (tm 10)),mv 12 11,mF 13 0 12,oF 14 12 (.idxS (tm 13) (Kc 0)),oF 15 12 (.call 192 [tm 14]),oF 16 12 (.not (tm 15)),oo 17 (.pick (tm 12) kT (tm 16))] []) (.cond (tm 17) (.seq (.region [oo 2 (.mov kF)] []) .ret) .skip)) (.seq (.region [oo 19 (.sliceA 49 1 (.const (.glob 0 0)) none none),mv 20 0,oo 21 (.call 193 [(tm 19),(tm 20)]),mv 18 21,oo 22 (.ext (tm 18) 0),oo 23 (.ext (tm 18) 1),mv 3 22,mv 4 23] []) (.seq (.region [mv 24 4,oo 25 (.not (tm 24)),mv 26 25,mT 27 0 26,oT 28 26 (.call 194 [(tm 27),(.const (.clos 195 []))]),mT 29 0 26,oT 30 26 (.bin .eql (tm 28) (tm 29)),oo 31 (.pick (tm 26) (tm 30) kF),mv 2 31] []) .ret))))
theorem NU:(Tryz.f167.body.bind (bz Tryz.prog 32 []))=some Ml:=by kernel_rfl
def Mm:aV:=(.seq (.region [oo 3 (.mov kF)] []) (.seq (.region [ld 4 1,mv 5 0,oo 6 (.bX (tm 4) [tm 5]),oo 7 (.not (tm 6)),mv 3 7] []) .ret))
theorem NV:(Tryz.f168.body.bind (bz Tryz.prog 8 []))=some Mm:=by kernel_rfl
def Mp:aV:=(.seq (.region [oo 4 (.mov (Kc 0))] []) (.seq (.seq (.region [mv 6 0,ln 7 6,oo 8 (.mov (Kc 0))] []) (.block 0 (.loop (.seq (.region [oo 9 (.bin .lss (tm 8) (tm 7))] []) (.seq (.cond (tm 9) .skip (.exit 0)) (.seq (.block 1 (.seq (.region [mv 10 8,mv 5 10] []) (.seq (.region [mv 11 1,mv 12 0,mv 13 5,ix 14 5 12 13,lA 15 5 14,oo 16 (.bX (tm 11) [tm 15])] []) (.cond (tm 16) (.seq (.region [mv 17 5,mv 4 17] []) .ret) .skip)))) (.region [oo 18 (.bin .add (tm 8) (Kc 1)),mv 8 18] []))))))) (.seq (.region [oo 4 (.mov (.const (.int .i64 (-1))))] []) .ret)))
theorem NY:(Tryz.f190.body.bind (bz Tryz.prog 19 []))=some Mp:=by kernel_rfl
def Mq:aV:=(.seq (.region [oo 4 (.mov (Kc 0))] []) (.seq (.seq (.region [mv 6 0,ln 7 6,oo 8 (.mov (Kc 0))] []) (.block 0 (.loop (.seq (.region [oo 9 (.bin .lss (tm 8) (tm 7))] []) (.seq (.cond (tm 9) .skip (.exit 0)) (.seq (.block 1 (.seq (.region [mv 10 8,mv 5 10] []) (.seq (.region [mv 11 1,mv 12 0,mv 13 5,ix 14 9 12 13,lA 15 9 14,oo 16 (.bX (tm 11) [tm 15])] []) (.cond (tm 16) (.seq (.region [mv 17 5,mv 4 17] []) .ret) .skip)))) (.region [oo 18 (.bin .add (tm 8) (Kc 1)),mv 8 18] []))))))) (.seq (.region [oo 4 (.mov (.const (.int .i64 (-1))))] []) .ret)))
theorem NZ:(Tryz.f191.body.bind (bz Tryz.prog 19 []))=some Mq:=by kernel_rfl
def Mr:aV:=(.seq (.region [oo 2 (.mov kF)] []) (.seq (.region [mv 3 0,oo 4 (.call 210 [(tm 3),(.const (Ui 97)),(.const (Ui 122))]),mv 2 4] []) .ret))
theorem N0:(Tryz.f192.body.bind (bz Tryz.prog 5 []))=some Mr:=by kernel_rfl
def Ms:aV:=(.seq (.region [oo 4 (.mov (Kc 0)),oo 5 (.mov kF)] []) (.seq (.region [mv 10 0,ln 11 10,mv 6 11] []) (.seq (.region [mv 12 6,oo 7 (.mov (Kc 0)),mv 8 12] []) (.seq (.block 0 (.loop (.seq (.seq (.region [mv 13 7,mv 14 8,oo 15 (.bin .lss (tm 13) (tm 14))] []) (.cond (tm 15) .skip (.exit 0))) (.block 1 (.seq (.region [mv 16 7,mv 17 8,oo 18 (.bin .add (tm 16) (tm 17)),oo 19 (.conv .u64 (tm 18)),oo 20 (.bin .shr (tm 19) (.const (.int .u64 1))),oo 21 (.conv .i64 (tm 20)),mv 9 21] []) (.seq (.region [mv 22 0,mv 23 9,ix 24 1 22 23,ld 25 24,mv 26 1,oo 27 (.call 176 [(tm 25),(tm 26)])] []) (.cond (tm 27) (.region [mv 28 9,oo 29 (.bin .add (tm 28) (Kc 1)),mv 7 29] []) (.region [mv 30 9,mv 8 30] [])))))))) (.seq (.region [mv 31 7,mv 32 7,mv 33 6,oo 34 (.bin .lss (tm 32) (tm 33)),mv 35 34,mT 36 0 35,mT 37 7 35,oT 38 35 (.idxL 1 (tm 36) (tm 37)),oT 39 35 (.load 1 false (tm 38)),mT 40 1 35,oT 41 35 (.bin .eql (tm 39) (tm 40)),mT 42 41 35,mF 43 0 42,mF 44 7 42,oF 45 42 (.idxL 1 (tm 43) (tm 44)),oF 46 42 (.load 1 false (tm 45)),oF 47 42 (.call 211 [tm 46]),mF 48 47 42,mT 49 1 48,oT 50 48 (.call 211 [tm 49]),oF 51 42 (.pick (tm 48) (tm 50) kF),oT 52 35 (.pick (tm 42) kT (tm 51)),oo 53 (.pick (tm 35) (tm 52) kF),mv 4 31,mv 5 53] []) .ret)))))
theorem N1:(Tryz.f193.body.bind (bz Tryz.prog 54 []))=some Ms:=by kernel_rfl
def Mt:aV:=(.seq (.region [⟨some 4,.mov (.const S0),none,[]⟩] []) (.seq (.region [oo 5 (.mov (Kc 0))] []) (.seq (.block 0 (.loop (.seq (.seq (.region [mv 6 5,mv 7 0,oo 8 (.lenS (tm 7)),oo 9 (.bin .lss (tm 6) (tm 8)),mv 10 9,mT 11 1 10,mT 12 0 10,mT 13 5 10,oT 14 10 (.sliceS (tm 12) (some (tm 13)) none),oT 15 10 (.bX (tm 11) [tm 14]),oo 16 (.pick (tm 10) (tm 15) kF)] []) (.cond (tm 16) .skip (.exit 0))) (.block 1 (.region [mv 17 5,oo 18 (.bin .add (tm 17) (Kc 1)),mv 5 18] []))))) (.seq (.region [mv 19 0,mv 20 5,oo 21 (.sliceS (tm 19) none (some (tm 20))),mv 4 21] []) .ret))))
theorem N2:(Tryz.f194.body.bind (bz Tryz.prog 22 []))=some Mt:=by kernel_rfl
def Mu:aV:=(.seq (.region [oo 2 (.mov kF)] []) (.seq (.region [mv 3 0,oo 4 (.idxS (tm 3) (Kc 0)),oo 5 (.call 196 [tm 4]),mv 2 5] []) .ret))
theorem N3:(Tryz.f195.body.bind (bz Tryz.prog 6 []))=some Mu:=by kernel_rfl
def Mv:aV:=(.seq (.region [oo 2 (.mov kF)] []) (.seq (.region [mv 3 0,oo 4 (.call 192 [tm 3]),mv 5 4,mF 6 0 5,oF 7 5 (.call 212 [tm 6]),oo 8 (.pick (tm 5) kT (tm 7)),mv 9 8,mF 10 0 9,oF 11 9 (.bin .eql (tm 10) (.const (Ui 95))),oo 12 (.pick (tm 9) kT (tm 11)),mv 2 12] []) .ret))
theorem N4:(Tryz.f196.body.bind (bz Tryz.prog 13 []))=some Mv:=by kernel_rfl
def Mo:aV:=(.seq (.region [oo 4 (.mov kF)] []) (.seq (.region [mv 5 0,oo 6 (.call 205 [tm 5]),mv 7 6,mT 8 1 7,oT 9 7 (.call 205 [tm 8]),oT 10 7 (.not (tm 9)),oo 11 (.pick (tm 7) (tm 10) kF),mv 12 11,mF 13 0 12,mF 14 1 12,oF 15 12 (.bin .lss (tm 13) (tm 14)),oo 16 (.pick (tm 12) kT (tm 15)),mv 4 16] []) .ret))
theorem NX:(Tryz.f176.body.bind (bz Tryz.prog 17 []))=some Mo:=by kernel_rfl
def Mz:aV:=(.seq (.region [oo 2 (.mov kF)] []) (.seq (.region [mv 3 0,mv 4 0,oo 5 (.bin .neq (tm 3) (tm 4)),mv 2 5] []) .ret))
theorem N8:(Tryz.f205.body.bind (bz Tryz.prog 6 []))=some Mz:=by kernel_rfl
def MA:aV:=(.seq (.region [oo 6 (.mov kF)] []) (.seq (.region [mv 7 0,mv 8 1,oo 9 (.bin .geq (tm 7) (tm 8)),mv 10 9,mT 11 0 10,mT 12 2 10,oT 13 10 (.bin .leq (tm 11) (tm 12)),oo 14 (.pick (tm 10) (tm 13) kF),mv 6 14] []) .ret))
theorem N9:(Tryz.f210.body.bind (bz Tryz.prog 15 []))=some MA:=by kernel_rfl
def MB:aV:=(.seq (.region [oo 2 (.mov kF)] []) (.seq (.region [mv 3 0,mv 4 0,oo 5 (.bin .neq (tm 3) (tm 4)),mv 2 5] []) .ret))
theorem Oa:(Tryz.f211.body.bind (bz Tryz.prog 6 []))=some MB:=by kernel_rfl
def MD:aV:=(.seq (.region [oo 2 (.mov kF)] []) (.seq (.region [mv 3 0,oo 4 (.call 210 [(tm 3),(.const (Ui 48)),(.const (Ui 57))]),mv 2 4] []) .ret))
theorem Ob:(Tryz.f212.body.bind (bz Tryz.prog 5 []))=some MD:=by kernel_rfl
def LM:aV:=(.seq (.region [oo 4 (.mov kF)] []) (.seq (.region [mv 5 0,mv 6 1,oo 7 (.call 154 [(tm 5),(tm 6)]),oo 8 (.bin .geq (tm 7) (Kc 0)),mv 4 8] []) .ret))
theorem Nl:(Tryz.f124.body.bind (bz Tryz.prog 9 []))=some LM:=by kernel_rfl
end Go.TY
end
section
namespace Go.TY
open Go Go.DL Go.MM Go.Proofs
theorem B4 (c lo hi:Int):DCalls Tryz.prog 210 [U c,U lo,U hi] (.bool (decide (lo≤c)&&decide (c≤hi))):=by
 refine qF (rs:=[.tmp 6]) mixed Tryz.func210 N9 rfl rfl rfl (r:=[.bool _]) (nlZ rfl) ?_
 repeat' ((conv=>whnf);first|exact trivial|refine nD_ (fun hq=>?_) (fun hq=>?_)|refine rb1 ?_|refine rb0 ?_|refine aS ?_|fail)
theorem zY (c:Int):DCalls Tryz.prog 192 [U c] (.bool (tM c)):=by
 refine qF (rs:=[.tmp 2]) mixed Tryz.func192 N0 rfl rfl rfl (r:=[.bool _]) (nlZ rfl) ?_
 have h:=B4 c 97 122
 unfold tM
 repeat' ((conv=>whnf);first|exact trivial|refine rp _ (h) ?_|refine rbx ?_|fail)
theorem Ft (c:Int):DCalls Tryz.prog 212 [U c] (.bool (uF c)):=by
 refine qF (rs:=[.tmp 2]) mixed Tryz.func212 Ob rfl rfl rfl (r:=[.bool _]) (nlZ rfl) ?_
 have h:=B4 c 48 57
 unfold uF
 repeat' ((conv=>whnf);first|exact trivial|refine rp _ (h) ?_|refine rbx ?_|fail)
theorem B1 (c:Int):DCalls Tryz.prog 196 [U c] (.bool (uY c)):=by
 refine qF (rs:=[.tmp 2]) mixed Tryz.func196 N4 rfl rfl rfl (r:=[.bool _]) (nlZ rfl) ?_
 unfold uY
 have h1:=zY c
 have h2:=Ft c
 generalize tM c=a at *
 generalize uF c=b at *
 cases a <;> cases b
 all_goals repeat' ((conv=>whnf);first|exact trivial|refine rp _ (h1) ?_|refine rp _ (h2) ?_|refine nE_ (fun hq=>?_) (fun hq=>?_)|refine rb1 ?_|refine rb0 ?_|refine aS ?_|fail)
theorem Hr (s:ByteArray) (hs:0<s.size):DCalls Tryz.prog 195 [.str s] (.bool (uY (tD s 0))):=by
 refine qF (rs:=[.tmp 2]) mixed Tryz.func195 N3 rfl rfl rfl (r:=[.bool _]) (nlZ rfl) ?_
 have h1:=B1 (tD s 0)
 repeat' ((conv=>whnf);first|exact trivial|refine rp _ (h1) ?_|refine nT_ ?_|refine rbx ?_|refine aS ?_|fail)
theorem AO (s:ByteArray) (i:Nat) (hi:i<s.size):tD (s.extract i s.size) 0=tD s i:=by
 unfold tD
 rw [ByteArray.toList_eq,ByteArray.toList_eq]
 have:0<s.size - i:=by omega
 have h2:i<s.data.size:=hi
 simp [ByteArray.data_extract,this]
 rw [Array.getElem?_eq_getElem h2];rfl
theorem extract_size (s:ByteArray) (i:Nat) (hi:i<s.size):0<(s.extract i s.size).size:=by
 rw [ByteArray.size_extract];omega
theorem Al: ∀l:List UInt8,tX l≤l.length
 |[]=>Nat.le_refl _
 |b::bs=>by
  have:=Al bs
  unfold tX
  split
  ·rw [List.length_cons];omega
  ·exact Nat.zero_le _
theorem FU (s:ByteArray) (hs:s.size<2^62):DCalls Tryz.prog 194 [.str s,.clos 195 []] (.str (s.extract 0 (tX s.toList))):=by
 refine qF (rs:=[.tmp 4]) mixed Tryz.func194 N2 rfl rfl rfl (r:=[.str _]) (nlZ rfl) ?_
 have hl:=uT s
 skip
 refine qQ 0 (α:=Nat) (β:=Unit) (fun i=>{sl:=[(0,.t (.str s)),(1,.t (.clos 195 [])),(5,.t (I i))],bx:=[]})
  (fun i=>i≤s.size∧ ∀j,j<i→uY (tD s j)=true) (fun i=>s.size - i) (fun _=>{sl:=[(0,.t (.str s)),(5,.t (I (tX s.toList)))],bx:=[]}) (fun _=>True) 0 (by simp) ?_ ?_ ?_
 ·repeat' (first|exact trivial|exact LeV.same _|exact rfl|exact fun _ _ _=>trivial|refine And.intro ?_ ?_)
 ·rintro i ⟨hi,hp⟩
  rcases Nat.lt_or_ge i s.size with h|h
  ·have h0:=Hr (s.extract i s.size) (extract_size s i h)
   rw [AO s i h] at h0
   cases hb:uY (tD s i) with
   |true=>
    rw [hb] at h0
    repeat' ((conv=>whnf);first|(refine nv_ (.str (s.extract i s.size)) (by first|(simp;done)|fail) ?_)|refine rp _ (h0) ?_|refine aD1 ?_|refine aS ?_|fail)
    refine ⟨i+1,⟨h,fun j hj=>?_⟩,by omega,?_⟩
    ·rcases Nat.lt_or_ge j i with h4|h4
     ·exact hp j h4
     ·obtain rfl:j=i:=by omega
      exact hb
    ·repeat' (first|exact trivial|exact LeV.same _|exact rfl|exact fun _ _ _=>trivial|exact lI|refine And.intro ?_ ?_)
   |false=>
    rw [hb] at h0
    have e:tX s.toList=i:=wz (by omega) hp (.inr hb)
    repeat' ((conv=>whnf);first|(refine nv_ (.str (s.extract i s.size)) (by first|(simp;done)|fail) ?_)|refine rp _ (h0) ?_|refine aD1 ?_|refine aS ?_|fail)
    refine ⟨(),trivial,?_⟩
    repeat' (first|(exact leI (by rw [e]))|exact trivial|exact LeV.same _|exact rfl|exact fun _ _ _=>trivial|refine And.intro ?_ ?_)
  ·have e:tX s.toList=i:=wz (by omega) hp (.inl (by omega))
   repeat' ((conv=>whnf);first|refine aD0 ?_|refine aS ?_|fail)
   refine ⟨(),trivial,?_⟩
   repeat' (first|(exact leI (by rw [e]))|exact trivial|exact LeV.same _|exact rfl|exact fun _ _ _=>trivial|refine And.intro ?_ ?_)
 ·rintro _ _
  have hr:tX s.toList≤s.toList.length:=Al _
  repeat' ((conv=>whnf);first|exact trivial|(refine nv_ (.str (s.extract 0 (tX s.toList))) (by first|(simp;done)|fail) ?_)|refine aS ?_|fail)
theorem B0 (s:ByteArray):DCalls Tryz.prog 205 [.str s] (.bool false):=by
 refine qF (rs:=[.tmp 2]) mixed Tryz.func205 N8 rfl rfl rfl (r:=[.bool false]) (nlZ rfl) ?_
 repeat' ((conv=>whnf);first|exact trivial|refine nb_ false (by simp) ?_|refine rb0 ?_|refine aS ?_|fail)
theorem BZ (s:ByteArray):DCalls Tryz.prog 211 [.str s] (.bool false):=by
 refine qF (rs:=[.tmp 2]) mixed Tryz.func211 Oa rfl rfl rfl (r:=[.bool false]) (nlZ rfl) ?_
 repeat' ((conv=>whnf);first|exact trivial|refine nb_ false (by simp) ?_|refine rb0 ?_|refine aS ?_|fail)
theorem Hq (a b:ByteArray):DCalls Tryz.prog 176 [.str a,.str b] (.bool (ltS a b)):=by
 refine qF (rs:=[.tmp 4]) mixed Tryz.func176 NX rfl rfl rfl (r:=[.bool _]) (nlZ rfl) ?_
 have h1:=B0 a
 have h2:=B0 b
 repeat' ((conv=>whnf);first|exact trivial|refine rp _ (h1) ?_|refine nb_ (ltS a b) rfl ?_|refine rbx ?_|refine aS ?_|fail)
def uZ (xs:List ByteArray) (s:ByteArray):Nat:=(xs.takeWhile fun x=>ltS x s).length
theorem GS (xs:List ByteArray) (s:ByteArray):uZ xs s≤xs.length:=by
 unfold uZ
 exact (List.takeWhile_prefix _).length_le
theorem xK {s:ByteArray}: ∀{xs:List ByteArray} (_:Inc ltS xs) {m:Nat} (h:m<xs.length),ltS xs[m] s=true↔m<uZ xs s
 |[],_,m,h=>by simp at h
 |x::xs,hi,m,h=>by
  have h2:=List.pairwise_cons.1 hi
  unfold uZ
  rw [List.takeWhile_cons]
  cases hx:ltS x s with
  |true=>
   simp only [if_true,List.length_cons]
   cases m with
   |zero=>simp [hx]
   |succ m=>
    have:=xK (s:=s) h2.2 (m:=m) (by simpa using h)
    unfold uZ at this
    simp only [List.getElem_cons_succ]
    rw [this];omega
  |false=>
   simp only [Bool.false_eq_true,if_false,List.length_nil,Nat.not_lt_zero,iff_false,Bool.not_eq_true]
   cases m with
   |zero=>simpa using hx
   |succ m=>
    have hm:m<xs.length:=by simpa using h
    simp only [List.getElem_cons_succ]
    cases e:ltS xs[m] s with
    |false=>rfl
    |true=>
     have:=Bc.tr _ _ _ (h2.1 xs[m] (List.getElem_mem _)) e
     rw [hx] at this;cases this
theorem Fz {s:ByteArray} {xs:List ByteArray} (hi:Inc ltS xs):s∈xs↔ ∃h:uZ xs s<xs.length,xs[uZ xs s]=s:=by
 constructor
 ·intro hm
  obtain ⟨m,hm,e⟩:=List.getElem_of_mem hm
  have h1: ¬m<uZ xs s:=fun h=>by
   have:=(xK hi hm).2 h
   rw [e,Bc.irr] at this;cases this
  have h2:uZ xs s<xs.length:=by omega
  refine ⟨h2,?_⟩
  by_cases h3:uZ xs s=m
  ·simp only [h3,e]
  ·exfalso
   have h4:uZ xs s<m:=by omega
   have h5:=List.pairwise_iff_getElem.1 hi _ _ h2 hm h4
   rw [e] at h5
   have:=(xK hi h2).1 h5
   omega
 ·rintro ⟨h,e⟩
  rw [← e];exact List.getElem_mem h
theorem FQ (xs:List ByteArray) (s:ByteArray) (hi:Inc ltS xs) (hl:xs.length<2^40):
  DCalls Tryz.prog 193 [.slice 1 (xs.map .str),.str s] (.tup [I (uZ xs s),.bool (decide (s∈xs))]):=by
 refine qF (rs:=[.tmp 4,.tmp 5]) mixed Tryz.func193 N1 rfl rfl rfl (r:=[I (uZ xs s),.bool (decide (s∈xs))]) (nlZ rfl) ?_
 have hble:=GS xs s
 have hm:=Fz (s:=s) hi
 have hkk:=fun m h=>@xK s xs hi m h
 generalize uZ xs s=cn at *
 skip
 refine qQ 0 (α:=Nat×Nat) (β:=Unit) (fun p=>{sl:=[(0,.t (.slice 1 (xs.map .str))),(1,.t (.str s)),(6,.t (I xs.length)),(7,.t (I p.1)),(8,.t (I p.2))],bx:=[]})
  (fun p=>p.1≤cn∧cn≤p.2∧p.2≤xs.length) (fun p=>p.2 - p.1) (fun _=>{sl:=[(0,.t (.slice 1 (xs.map .str))),(1,.t (.str s)),(6,.t (I xs.length)),(7,.t (I (cn)))],bx:=[]}) (fun _=>True) (0,xs.length) (by simp;omega) ?_ ?_ ?_
 ·repeat' (first|(exact leI (by simp))|exact trivial|exact LeV.same _|exact rfl|exact fun _ _ _=>trivial|refine And.intro ?_ ?_)
 ·rintro ⟨i,j⟩ ⟨h1,h2,h3⟩
  dsimp only at h1 h2 h3
  by_cases hij:i<j
  case neg=>
   repeat' ((conv=>whnf);first|refine aD0 ?_|refine aS ?_|fail)
   refine ⟨(),trivial,?_⟩
   repeat' (first|(exact leI (by show (cn:Int)=(i:Int);omega))|exact trivial|exact LeV.same _|exact rfl|exact fun _ _ _=>trivial|refine And.intro ?_ ?_)
  have e1:IntKind.wrap .i64 ((IntKind.wrap .u64 (IntKind.wrap .i64 ((i:Int)+(j:Int)))).fdiv (2^(min (1:Int).toNat (IntKind.bits .u64))))=(((i+j) / 2:Nat):Int):=by
   rw [mu (n:=(i:Int)+j) (by omega) (by omega)]
   have u1: ∀n:Int,0≤n→n<18446744073709551616→IntKind.wrap .u64 n=n:=fun n h0 h1=>by
    unfold IntKind.wrap
    simp [IntKind.bits,IntKind.signed]
    omega
   rw [u1 ((i:Int)+j) (by omega) (by omega)]
   have e2:((i:Int)+(j:Int)).fdiv (2^(min (1:Int).toNat (IntKind.bits .u64)))=(((i+j) / 2:Nat):Int):=by
    show ((i:Int)+(j:Int)).fdiv 2=_
    rw [Int.fdiv_eq_ediv_of_nonneg _ (by omega)];omega
   rw [e2,mu (by omega) (by omega)]
  have h4:(i+j) / 2<xs.length:=by omega
  have hk:=hkk _ h4
  have hL:=Hq xs[(i+j) / 2] s
  generalize ltS xs[(i+j) / 2] s=b at *
  cases b
  case true=>
   have:(i+j) / 2<cn:=hk.1 rfl
   repeat' ((conv=>whnf);first|(refine nv_ (.str xs[(i+j) / 2]) (by first|((dsimp only;rw [e1,Int.toNat_natCast];simp [h4]);done)|fail) ?_)|refine rp _ (hL) ?_|refine nT_ ?_|refine aD1 ?_|(refine And.intro (by first|((dsimp only;rw [e1];simp;omega);done)|fail) ?_)|refine aS ?_|fail)
   refine ⟨((i+j) / 2+1,j),⟨this,h2,h3⟩,by simp;omega,?_⟩
   repeat' (first|(exact leI (by dsimp only;rw [e1,mu] <;> omega))|exact trivial|exact LeV.same _|exact rfl|exact fun _ _ _=>trivial|refine And.intro ?_ ?_)
  case false=>
   have: ¬(i+j) / 2<cn:=fun h=>by have:=hk.2 h;cases this
   repeat' ((conv=>whnf);first|(refine nv_ (.str xs[(i+j) / 2]) (by first|((dsimp only;rw [e1,Int.toNat_natCast];simp [h4]);done)|fail) ?_)|refine rp _ (hL) ?_|refine nT_ ?_|refine aD1 ?_|(refine And.intro (by first|((dsimp only;rw [e1];simp;omega);done)|fail) ?_)|refine aS ?_|fail)
   refine ⟨(i,(i+j) / 2),⟨h1,by simp;omega,by simp;omega⟩,by simp;omega,?_⟩
   repeat' (first|(exact leI (by dsimp only;rw [e1]))|exact trivial|exact LeV.same _|exact rfl|exact fun _ _ _=>trivial|refine And.intro ?_ ?_)
 ·rintro _ _
  by_cases hc:cn<xs.length
  ·have hN:=BZ xs[cn]
   have hN2:=BZ s
   by_cases e:xs[cn]=s
   ·have e2:decide (s∈xs)=true:=decide_eq_true (hm.2 ⟨hc,e⟩)
    rw [e2]
    repeat' ((conv=>whnf);first|exact trivial|(refine nv_ (.str xs[cn]) (by first|(simp [hc];done)|fail) ?_)|refine nb_ true ((congrArg (fun z:ByteArray=>z.toList==s.toList) e).trans (by simp)) ?_|refine nT_ ?_|refine aD1 ?_|refine rb1 ?_|refine rix ?_|refine aS ?_|fail)
   ·have e2:decide (s∈xs)=false:=decide_eq_false fun h=>by
     obtain ⟨_,k⟩:=hm.1 h;exact absurd k e
    rw [e2]
    repeat' ((conv=>whnf);first|exact trivial|(refine nv_ (.str xs[cn]) (by first|(simp [hc];done)|fail) ?_)|refine nb_ false (by simpa using fun h=>e (Av h)) ?_|refine rp _ (hN) ?_|refine nT_ ?_|refine aD1 ?_|refine rb0 ?_|refine rix ?_|refine aS ?_|fail)
  ·have e2:decide (s∈xs)=false:=decide_eq_false fun h=>by
    obtain ⟨k,_⟩:=hm.1 h;exact absurd k hc
   rw [e2]
   repeat' ((conv=>whnf);first|exact trivial|refine aD0 ?_|refine rb0 ?_|refine rix ?_|refine aS ?_|fail)
theorem Fx:Inc ltS wordsG:=by
 unfold Inc
 decide+kernel
theorem sE {a b:ByteArray}:sa a b=true↔a=b:=by
 constructor
 ·intro h
  unfold sa at h
  exact ByteArray.ext (Array.ext' (by simpa using h))
 ·intro h
  subst h
  unfold sa;simp
theorem FZ (s:ByteArray):decide (s∈wordsG)=vH s:=by
 have e:wordsG=wZ:=by decide+kernel
 rw [e]
 unfold vH
 cases h:wZ.any fun w=>sa w s with
 |true=>
  obtain ⟨w,hw,hs⟩:=List.any_eq_true.1 h
  rw [← sE.1 hs]
  exact decide_eq_true hw
 |false=>
  rw [List.any_eq_false] at h
  exact decide_eq_false fun hm=>h s hm (sE.2 rfl)
theorem Fe {s:ByteArray} (h:s.size=0):s=e0:=by
 have:s.data.toList=[]:=List.eq_nil_of_length_eq_zero h
 exact ByteArray.ext (Array.ext' this)
theorem I7 (s:ByteArray) (hs:s.size<2^62):DCalls Tryz.prog 167 [.str s] (.bool (uz s)):=by
 refine qF (rs:=[.tmp 2]) mixed Tryz.func167 NU rfl rfl rfl (r:=[.bool _]) (nlZ rfl) ?_
 unfold uz
 have h1:=zY (tD s 0)
 have h2:=FQ wordsG s Fx (by decide)
 rw [FZ] at h2
 have h3:=FU s hs
 have hr:=Al s.toList
 have hsz:=uT s
 have hpre:((s.extract 0 (tX s.toList)).toList==s.toList)=(tX s.toList==s.size):=by
  by_cases e:tX s.toList=s.size
  ·rw [e]
   have:s.extract 0 s.size=s:=ByteArray.ext (by rw [ByteArray.data_extract];exact Array.extract_eq_self_of_le (Nat.le_refl _))
   rw [this];simp
  ·have h1:(s.extract 0 (tX s.toList)).toList≠s.toList:=fun h=>by
    have:=congrArg List.length h
    rw [uT,uT,ByteArray.size_extract] at this
    omega
   rw [beq_false_of_ne h1,beq_false_of_ne e]
 generalize tM (tD s 0)=a at *
 generalize vH s=w at *
 generalize uZ wordsG s=cn at *
 by_cases hz:s.size=0
 ·have:s=e0:=Fe hz
  subst this
  repeat' ((conv=>whnf);first|exact trivial|refine nb_ true (show (e0.toList==e0.toList)=true by simp) ?_|refine rb0 ?_|refine aS ?_|fail)
 ·have hne:(s.toList==(⟨#[]⟩:ByteArray).toList)=false:=by
   have:s.toList≠[]:=fun h=>by rw [h] at hsz;simp at hsz;omega
   simpa using this
  by_cases h24:s.size≤24
  ·simp only [h24,show 0<s.size by omega,decide_true,Bool.true_and]
   cases a <;> cases w <;> repeat' ((conv=>whnf);first|exact trivial|refine nb_ _ hne ?_|refine rp _ (h1) ?_|(refine nv_ (.slice 1 (wordsG.map .str)) (by first|(rfl;done)|fail) ?_)|refine rp _ (h2) ?_|refine rp _ (h3) ?_|refine nb_ _ hpre ?_|refine nT_ ?_|refine aD0 ?_|refine rb0 ?_|refine rbx ?_|refine aS ?_|fail)
  ·simp only [h24,decide_false,Bool.and_false,Bool.false_and]
   repeat' ((conv=>whnf);first|exact trivial|refine nb_ _ hne ?_|refine aD1 ?_|refine rb0 ?_|refine aS ?_|fail)
theorem BS (s:ByteArray) (hs:s.size<2^62):DCalls Tryz.prog 152 [.str s] (.bool (uz s)):=by
 refine qF (rs:=[.tmp 2]) mixed Tryz.func152 NK rfl rfl rfl (r:=[.bool _]) (nlZ rfl) ?_
 have h1:=I7 s hs
 repeat' ((conv=>whnf);first|exact trivial|refine rp _ (h1) ?_|refine rbx ?_|fail)
theorem xV (s:ByteArray) (hs:s.size<2^62):DCalls Tryz.prog 141 [.str s] (.bool (sN s)):=by
 refine qF (rs:=[.tmp 2]) mixed Tryz.func141 NA rfl rfl rfl (r:=[.bool _]) (nlZ rfl) ?_
 have h1:=BS s hs
 unfold sN
 have h2:=su s sZ
 generalize uz s=a at *
 generalize sa s sZ=b at *
 cases a <;> cases b <;> repeat' ((conv=>whnf);first|exact trivial|refine rp _ (h1) ?_|refine nb_ _ h2 ?_|refine rb1 ?_|refine rb0 ?_|refine aS ?_|fail)
end Go.TY
end
section
namespace Go.TY
open Go Go.DL Go.MM Go.Proofs
theorem B3 (a b c d:Nat) (h1:a+c<2^62) (_:b<2^62) (h3:d<2^62):DCalls Tryz.prog 148 [sz a b,sz c d] (sz (a+c) (max b (d+1))):=by
 refine qF (rs:=[.cell 4 131]) mixed Tryz.func148 NG rfl rfl rfl (r:=[sz (a+c) (max b (d+1))]) (nlZ rfl) ?_
 repeat' ((conv=>whnf);first|refine nT_ ?_|refine aS ?_|fail)
 refine And.intro (congrArg some ?_) trivial
 simp (disch:=omega) only [mu,aK,List.take,List.drop,List.nil_append,List.cons_append]
 unfold sz I
 have e:(if (d:Int)+1>(b:Int) then (d:Int)+1 else (b:Int))=((max b (d+1):Nat):Int):=by split <;> omega
 rw [e,Int.natCast_add]
theorem Hu (n d:Nat):DCalls Tryz.prog 140 [sz n d] (I (vl n d)):=by
 refine qF (rs:=[.tmp 2]) mixed Tryz.func140 Nz rfl rfl rfl (r:=[.int _ _]) (nlZ rfl) ?_
 unfold vl
 by_cases h:n≤200
 ·by_cases h2:d≤20
  ·rw [if_pos ⟨h,h2⟩];repeat' ((conv=>whnf);first|exact trivial|refine nT_ ?_|refine aD0 ?_|refine rix ?_|refine aS ?_|fail)
  ·rw [if_neg (by omega)];repeat' ((conv=>whnf);first|exact trivial|refine nT_ ?_|refine aD1 ?_|refine aD0 ?_|refine rix ?_|refine aS ?_|fail)
 ·rw [if_neg (by omega)];repeat' ((conv=>whnf);first|exact trivial|refine nT_ ?_|refine aD1 ?_|refine rix ?_|refine aS ?_|fail)
theorem Ja (l:List RP) (hl:sB l<2^60) (ih: ∀(i:Nat) (h:i<l.length),DCalls Tryz.prog 105 [.agg (sb l[i])] (sz l[i].nodes l[i].depth)):
  DCalls Tryz.prog 139 [.slice 5 (l.map sA),.clos 105 []] (sz (1+sB l) (1+ti l)):=by
 refine qF (rs:=[.cell 4 131]) mixed Tryz.func139 Ny rfl rfl rfl (r:=[sz _ _]) (nlZ rfl) ?_
 repeat' ((conv=>whnf);first|refine aS ?_|fail)
 refine q7 (α:=Nat) (fun i=>{sl:=[(1,.t (.clos 105 [])),(4,.ptr 4 0),(5,.ptr 5 0),(9,.t (.slice 5 (l.map sA))),(10,.t (I l.length)),(11,.t (I i))],bx:=[(4,.d 2 [I 0,I 0]),(5,.d 2 [I (1+sB (l.take i):Nat),I (1+ti (l.take i):Nat)])]})
  (fun i=>i≤l.length) (fun i=>l.length - i) 0 (by omega) ?_ ?_
 ·repeat' (first|(exact leI (by simp))|exact trivial|exact LeV.same _|exact LeB.same _|exact rfl|exact fun _ _ _=>trivial|refine And.intro ?_ ?_)
 rintro i hi
 rcases Nat.lt_or_ge i l.length with h|h
 ·have hn:=tF h
  have hd:=wP h
  have hm:=tE (l:=l) (j:=i+1)
  have hdn:=l[i].vG
  have hd1:=wH (l.take i)
  have hln:=tS l
  have hw:=B3 (1+sB (l.take i)) (1+ti (l.take i)) l[i].nodes l[i].depth (by omega) (by omega) (by omega)
  have hi0:DCalls Tryz.prog 105 [.agg (aK [I 0,.str ⟨#[]⟩,I 0,I 0,.nil] 0 5 (sb l[i]))] (sz l[i].nodes l[i].depth):=by rw [mL (n:=5) rfl];exact ih i h
  repeat' ((conv=>whnf);first|(refine nv_ (.agg (sb l[i])) (by first|(simp [h,si];done)|fail) ?_)|refine rp _ (hi0) ?_|refine rp _ (hw) ?_|refine nT_ ?_|refine aD1 ?_|(refine And.intro (by first|exact sr _|exact ⟨sr _,nlZ rfl⟩|fail) ?_)|refine aS ?_|fail)
  refine ⟨i+1,by omega,by omega,?_⟩
  repeat' (first|exact trivial|exact LeV.same _|exact LeB.same _|exact rfl|exact fun _ _ _=>trivial|exact lI|refine r7 ?_|refine And.intro ?_ ?_)
  rw [hn,hd,show 1+(sB (l.take i)+l[i].nodes)=1+sB (l.take i)+l[i].nodes by omega,show 1+max (ti (l.take i)) l[i].depth=max (1+ti (l.take i)) (l[i].depth+1) by omega]
  rfl
 ·have:i=l.length:=by omega
  subst this
  rw [List.take_length]
  repeat' ((conv=>whnf);first|exact trivial|refine aD0 ?_|refine aS ?_|fail)
theorem CF (N:Nat): ∀r:RP,r.nodes≤N→N<2^60→DCalls Tryz.prog 105 [.agg (sb r)] (sz r.nodes r.depth):=by
 induction N with
 |zero=>intro r h;have:=r.uc;omega
 |succ N ih=>
  rintro ⟨k,f,n,m,l⟩ hr hN
  refine qF (rs:=[.cell 2 131]) mixed Tryz.func105 MZ rfl rfl rfl (r:=[sz _ _]) (nlZ rfl) ?_
  simp only [RP.nodes,RP.depth] at hr ⊢
  have h1:=Ja l (by omega) fun i h=>ih l[i] (by
   have hn:=tF h
   have hm:=tE (l:=l) (j:=i+1)
   omega) (by omega)
  repeat' ((conv=>whnf);first|exact trivial|refine rp _ (h1) ?_|refine nT_ ?_|(refine And.intro (by first|exact sr _|fail) ?_)|refine aS ?_|fail)
theorem I9 (l:List RO) (hl:th l<2^60) (ih: ∀(i:Nat) (h:i<l.length),DCalls Tryz.prog 113 [.agg (r9 l[i])] (sz l[i].size l[i].deep)):
  DCalls Tryz.prog 147 [.slice 9 (l.map sL),.clos 113 []] (sz (1+tk l) (1+tj l)):=by
 refine qF (rs:=[.cell 4 131]) mixed Tryz.func147 NF rfl rfl rfl (r:=[sz _ _]) (nlZ rfl) ?_
 repeat' ((conv=>whnf);first|refine aS ?_|fail)
 refine q7 (α:=Nat) (fun i=>{sl:=[(1,.t (.clos 113 [])),(4,.ptr 4 0),(5,.ptr 5 0),(9,.t (.slice 9 (l.map sL))),(10,.t (I l.length)),(11,.t (I i))],bx:=[(4,.d 2 [I 0,I 0]),(5,.d 2 [I (1+tk (l.take i):Nat),I (1+tj (l.take i):Nat)])]})
  (fun i=>i≤l.length) (fun i=>l.length - i) 0 (by omega) ?_ ?_
 ·repeat' (first|(exact leI (by simp))|exact trivial|exact LeV.same _|exact LeB.same _|exact rfl|exact fun _ _ _=>trivial|refine And.intro ?_ ?_)
 rintro i hi
 rcases Nat.lt_or_ge i l.length with h|h
 ·have hn:=wm h
  have hd:=vU h
  have hsz:=uq l
  have hsm:=uq (l.take (i+1))
  have hwm:=tT (l:=l) (j:=i+1)
  have hdn:=l[i].yz
  have hsn:=l[i].size_le
  have hd1:=u7 (l.take i)
  have hs1:=uq (l.take i)
  have hwm1:=tT (l:=l) (j:=i)
  have hwt:=uh h
  have hln:=uL l
  have hw:=B3 (1+tk (l.take i)) (1+tj (l.take i)) l[i].size l[i].deep (by omega) (by omega) (by omega)
  have hi0:DCalls Tryz.prog 113 [.agg (aK [I 0,I 0,.str ⟨#[]⟩,I 0,I 0,.nil,.str ⟨#[]⟩,I 0,.nil] 0 9 (r9 l[i]))] (sz l[i].size l[i].deep):=by rw [mL (n:=9) rfl];exact ih i h
  repeat' ((conv=>whnf);first|(refine nv_ (.agg (r9 l[i])) (by first|(simp [h,sy];done)|fail) ?_)|refine rp _ (hi0) ?_|refine rp _ (hw) ?_|refine nT_ ?_|refine aD1 ?_|(refine And.intro (by first|exact sd _|exact ⟨sd _,nlZ rfl⟩|fail) ?_)|refine aS ?_|fail)
  refine ⟨i+1,by omega,by omega,?_⟩
  repeat' (first|exact trivial|exact LeV.same _|exact LeB.same _|exact rfl|exact fun _ _ _=>trivial|exact lI|refine r7 ?_|refine And.intro ?_ ?_)
  rw [hn,hd,show 1+(tk (l.take i)+l[i].size)=1+tk (l.take i)+l[i].size by omega,show 1+max (tj (l.take i)) l[i].deep=max (1+tj (l.take i)) (l[i].deep+1) by omega]
  rfl
 ·have:i=l.length:=by omega
  subst this
  rw [List.take_length]
  repeat' ((conv=>whnf);first|exact trivial|refine aD0 ?_|refine aS ?_|fail)
theorem Hv (N:Nat): ∀r:RO,r.wt≤N→N<2^60→DCalls Tryz.prog 113 [.agg (r9 r)] (sz r.size r.deep):=by
 induction N with
 |zero=>intro r h;obtain ⟨k,p,f,n,a⟩:=r;simp only [RO.wt] at h;omega
 |succ N ih=>
  rintro ⟨k,⟨pk,pf,pn,pm,pa⟩,f,n,l⟩ hr hN
  refine qF (rs:=[.cell 2 131]) mixed Tryz.func113 Nb rfl rfl rfl (r:=[sz _ _]) (nlZ rfl) ?_
  simp only [RO.wt] at hr
  have h1:=I9 l (by omega) fun i h=>ih l[i] (by
   have hn:=uh h
   have hm:=tT (l:=l) (j:=i+1)
   omega) (by omega)
  have h2:=CF _ (.mk pk pf pn pm pa) (Nat.le_refl _) (by omega)
  have hs:=uq l
  have hd:=u7 l
  have hdp:=(RP.mk pk pf pn pm pa).vG
  by_cases hk:k=1
  ·subst hk
   have h3:=B3 (1+tk l) (1+tj l) (RP.mk pk pf pn pm pa).nodes (RP.mk pk pf pn pm pa).depth (by omega) (by omega) (by omega)
   have e1:(RO.mk 1 (.mk pk pf pn pm pa) f n l).size=1+tk l+(RP.mk pk pf pn pm pa).nodes:=by rw [RO.size,if_pos rfl];omega
   have e2:(RO.mk 1 (.mk pk pf pn pm pa) f n l).deep=max (1+tj l) ((RP.mk pk pf pn pm pa).depth+1):=by rw [RO.deep,if_pos rfl];omega
   rw [e1,e2]
   repeat' ((conv=>whnf);first|exact trivial|refine rp _ (h1) ?_|refine rp _ (h2) ?_|refine rp _ (h3) ?_|refine nT_ ?_|refine aE1 ?_|(refine And.intro (by first|exact sd _|fail) ?_)|refine aS ?_|fail)
  ·have e1:(RO.mk k (.mk pk pf pn pm pa) f n l).size=1+tk l:=by rw [RO.size,if_neg hk]
   have e2:(RO.mk k (.mk pk pf pn pm pa) f n l).deep=1+tj l:=by rw [RO.deep,if_neg hk];omega
   rw [e1,e2]
   repeat' ((conv=>whnf);first|exact trivial|refine rp _ (h1) ?_|refine nT_ ?_|refine aE0 ?_|(refine And.intro (by first|exact sd _|fail) ?_)|refine aS ?_|fail)
def vh {α:Type} (p:α→Bool) (xs:List α):Int:=match xs.findIdx? p with
 |some i=>(i:Int)
 |none=> -1
theorem yC {α:Type} {p:α→Bool} {xs:List α} {i:Nat} (h:i<xs.length) (hb:p xs[i]=true) (hp: ∀j (h:j<xs.length),j<i→p xs[j]=false):vh p xs=i:=by
 unfold vh
 have:xs.findIdx? p=some i:=List.findIdx?_eq_some_iff_getElem.2 ⟨h,hb,fun j hj=>by simp [hp j (by omega) hj]⟩
 rw [this]
theorem yD {α:Type} {p:α→Bool} {xs:List α} (hp: ∀j (h:j<xs.length),p xs[j]=false):vh p xs= -1:=by
 unfold vh
 have:xs.findIdx? p=none:=List.findIdx?_eq_none_iff.2 fun x hx=>by
  obtain ⟨j,hj,rfl⟩:=List.getElem_of_mem hx
  exact hp j hj
 rw [this]
theorem xP {α:Type} (p:α→Bool) (xs:List α):xs.any p=decide (vh p xs≥0):=by
 unfold vh
 cases h:xs.findIdx? p with
 |none=>
  have:=List.findIdx?_eq_none_iff.1 h
  simpa using this
 |some i=>
  obtain ⟨h1,h2,_⟩:=List.findIdx?_eq_some_iff_getElem.1 h
  have:xs.any p=true:=List.any_eq_true.2 ⟨xs[i],List.getElem_mem h1,h2⟩
  rw [this];simp
theorem DQ (xs:List RP) (f:FuncId) (c:T) (p:RP→Bool) (hl:xs.length<2^60) (hc: ∀(i:Nat) (h:i<xs.length),DCalls Tryz.prog f [.agg (sb xs[i]),c] (.bool (p xs[i]))):
  DCalls Tryz.prog 190 [.slice 5 (xs.map sA),.clos f [c]] (I (vh p xs)):=by
 refine qF (rs:=[.tmp 4]) mixed Tryz.func190 NY rfl rfl rfl (r:=[.int _ _]) (nlZ rfl) ?_
 skip
 refine q7 (α:=Nat) (fun i=>{sl:=[(0,.t (.slice 5 (xs.map sA))),(1,.t (.clos f [c])),(6,.t (.slice 5 (xs.map sA))),(7,.t (I xs.length)),(8,.t (I i))],bx:=[]})
  (fun i=>i≤xs.length∧ ∀j (h:j<xs.length),j<i→p xs[j]=false) (fun i=>xs.length - i) 0 (by simp) ?_ ?_
 ·repeat' (first|(exact leI (by simp))|exact trivial|exact LeV.same _|exact rfl|exact fun _ _ _=>trivial|refine And.intro ?_ ?_)
 rintro i ⟨hi,hp⟩
 rcases Nat.lt_or_ge i xs.length with h|h
 ·have h0:=hc i h
  cases hb:p xs[i] with
  |true=>
   rw [hb] at h0
   rw [yC h hb hp]
   repeat' ((conv=>whnf);first|exact trivial|(refine nv_ (.agg (sb xs[i])) (by first|(simp [h,si];done)|fail) ?_)|refine rp _ (h0) ?_|refine nT_ ?_|refine aD1 ?_|refine rix ?_|(refine And.intro (by first|exact sr _|fail) ?_)|refine aS ?_|fail)
  |false=>
   rw [hb] at h0
   repeat' ((conv=>whnf);first|(refine nv_ (.agg (sb xs[i])) (by first|(simp [h,si];done)|fail) ?_)|refine rp _ (h0) ?_|refine nT_ ?_|refine aD1 ?_|(refine And.intro (by first|exact sr _|fail) ?_)|refine aS ?_|fail)
   refine ⟨i+1,⟨h,fun j hj hlt=>?_⟩,by omega,?_⟩
   ·rcases Nat.lt_or_ge j i with h4|h4
    ·exact hp j hj h4
    ·obtain rfl:j=i:=by omega
     exact hb
   ·repeat' (first|exact trivial|exact LeV.same _|exact rfl|exact fun _ _ _=>trivial|exact lI|refine And.intro ?_ ?_)
 ·rw [yD fun j hj=>hp j hj (by omega)]
  repeat' ((conv=>whnf);first|exact trivial|refine aD0 ?_|refine rix ?_|refine aS ?_|fail)
theorem DP (xs:List RP) (f:FuncId) (c:T) (p:RP→Bool) (hl:xs.length<2^60) (hc: ∀(i:Nat) (h:i<xs.length),DCalls Tryz.prog f [.agg (sb xs[i]),c] (.bool (p xs[i]))):
  DCalls Tryz.prog 161 [.slice 5 (xs.map sA),.clos f [c]] (.bool (xs.any p)):=by
 refine qF (rs:=[.tmp 4]) mixed Tryz.func161 NO rfl rfl rfl (r:=[.bool _]) (nlZ rfl) ?_
 have h1:=DQ xs f c p hl hc
 rw [xP p xs]
 generalize vh p xs=k at *
 repeat' ((conv=>whnf);first|exact trivial|refine rp _ (h1) ?_|refine nD_ (fun hq=>?_) (fun hq=>?_)|refine rb1 ?_|refine rb0 ?_|refine aS ?_|fail)
theorem Ci (x:RP) (f:FuncId) (b:Bool) (hc:DCalls Tryz.prog f [.agg (sb x)] (.bool b)):
  DCalls Tryz.prog 162 [.agg (sb x),.cptr [.clos f []] 0] (.bool !b):=by
 refine qF (rs:=[.tmp 3]) mixed Tryz.func162 NP rfl rfl rfl (r:=[.bool _]) (nlZ rfl) ?_
 repeat' ((conv=>whnf);first|exact trivial|refine rp _ (hc) ?_|refine nT_ ?_|refine rbx ?_|(refine And.intro (by first|exact sr _|fail) ?_)|refine aS ?_|fail)
theorem BU (xs:List RP) (f:FuncId) (n:Int) (p:RP→Bool) (hl:xs.length<2^60) (hc: ∀(i:Nat) (h:i<xs.length),DCalls Tryz.prog f [.agg (sb xs[i])] (.bool (p xs[i]))):
  DCalls Tryz.prog 144 [.slice 5 (xs.map sA),I n,.clos f []] (.bool (((xs.length:Int)==n)&&xs.all p)):=by
 refine qF (rs:=[.tmp 6]) mixed Tryz.func144 ND rfl rfl rfl (r:=[.bool _]) (nlZ rfl) ?_
 have h1:=DP xs 162 (.cptr [.clos f []] 0) (fun x=> !p x) hl fun i h=>Ci xs[i] f (p xs[i]) (hc i h)
 have e:xs.all p= !(xs.any fun x=> !p x):=by rw [List.all_eq_not_any_not]
 rw [e]
 generalize (xs.any fun x=> !p x)=b at *
 by_cases hn:(xs.length:Int)=n
 ·repeat' ((conv=>whnf);first|exact trivial|refine rp _ (h1) ?_|refine aE1 ?_|refine rbx ?_|refine aS ?_|fail)
 ·repeat' ((conv=>whnf);first|exact trivial|refine aE0 ?_|refine rb0 ?_|refine aS ?_|fail)
theorem BW (xs:List RO) (f:FuncId) (c:T) (p:RO→Bool) (hl:xs.length<2^60) (hc: ∀(i:Nat) (h:i<xs.length),DCalls Tryz.prog f [.agg (r9 xs[i]),c] (.bool (p xs[i]))):
  DCalls Tryz.prog 191 [.slice 9 (xs.map sL),.clos f [c]] (I (vh p xs)):=by
 refine qF (rs:=[.tmp 4]) mixed Tryz.func191 NZ rfl rfl rfl (r:=[.int _ _]) (nlZ rfl) ?_
 skip
 refine q7 (α:=Nat) (fun i=>{sl:=[(0,.t (.slice 9 (xs.map sL))),(1,.t (.clos f [c])),(6,.t (.slice 9 (xs.map sL))),(7,.t (I xs.length)),(8,.t (I i))],bx:=[]})
  (fun i=>i≤xs.length∧ ∀j (h:j<xs.length),j<i→p xs[j]=false) (fun i=>xs.length - i) 0 (by simp) ?_ ?_
 ·repeat' (first|(exact leI (by simp))|exact trivial|exact LeV.same _|exact rfl|exact fun _ _ _=>trivial|refine And.intro ?_ ?_)
 rintro i ⟨hi,hp⟩
 rcases Nat.lt_or_ge i xs.length with h|h
 ·have h0:=hc i h
  cases hb:p xs[i] with
  |true=>
   rw [hb] at h0
   rw [yC h hb hp]
   repeat' ((conv=>whnf);first|exact trivial|(refine nv_ (.agg (r9 xs[i])) (by first|(simp [h,sy];done)|fail) ?_)|refine rp _ (h0) ?_|refine nT_ ?_|refine aD1 ?_|refine rix ?_|(refine And.intro (by first|exact sd _|fail) ?_)|refine aS ?_|fail)
  |false=>
   rw [hb] at h0
   repeat' ((conv=>whnf);first|(refine nv_ (.agg (r9 xs[i])) (by first|(simp [h,sy];done)|fail) ?_)|refine rp _ (h0) ?_|refine nT_ ?_|refine aD1 ?_|(refine And.intro (by first|exact sd _|fail) ?_)|refine aS ?_|fail)
   refine ⟨i+1,⟨h,fun j hj hlt=>?_⟩,by omega,?_⟩
   ·rcases Nat.lt_or_ge j i with h4|h4
    ·exact hp j hj h4
    ·obtain rfl:j=i:=by omega
     exact hb
   ·repeat' (first|exact trivial|exact LeV.same _|exact rfl|exact fun _ _ _=>trivial|exact lI|refine And.intro ?_ ?_)
 ·rw [yD fun j hj=>hp j hj (by omega)]
  repeat' ((conv=>whnf);first|exact trivial|refine aD0 ?_|refine rix ?_|refine aS ?_|fail)
theorem BV (xs:List RO) (f:FuncId) (c:T) (p:RO→Bool) (hl:xs.length<2^60) (hc: ∀(i:Nat) (h:i<xs.length),DCalls Tryz.prog f [.agg (r9 xs[i]),c] (.bool (p xs[i]))):
  DCalls Tryz.prog 164 [.slice 9 (xs.map sL),.clos f [c]] (.bool (xs.any p)):=by
 refine qF (rs:=[.tmp 4]) mixed Tryz.func164 NR rfl rfl rfl (r:=[.bool _]) (nlZ rfl) ?_
 have h1:=BW xs f c p hl hc
 rw [xP p xs]
 generalize vh p xs=k at *
 repeat' ((conv=>whnf);first|exact trivial|refine rp _ (h1) ?_|refine nD_ (fun hq=>?_) (fun hq=>?_)|refine rb1 ?_|refine rb0 ?_|refine aS ?_|fail)
theorem AQ (x:RO) (f:FuncId) (b:Bool) (hc:DCalls Tryz.prog f [.agg (r9 x)] (.bool b)):
  DCalls Tryz.prog 165 [.agg (r9 x),.cptr [.clos f []] 0] (.bool !b):=by
 refine qF (rs:=[.tmp 3]) mixed Tryz.func165 NS rfl rfl rfl (r:=[.bool _]) (nlZ rfl) ?_
 repeat' ((conv=>whnf);first|exact trivial|refine rp _ (hc) ?_|refine nT_ ?_|refine rbx ?_|(refine And.intro (by first|exact sd _|fail) ?_)|refine aS ?_|fail)
theorem Aq (xs:List RO) (f:FuncId) (n:Int) (p:RO→Bool) (hl:xs.length<2^60) (hc: ∀(i:Nat) (h:i<xs.length),DCalls Tryz.prog f [.agg (r9 xs[i])] (.bool (p xs[i]))):
  DCalls Tryz.prog 150 [.slice 9 (xs.map sL),I n,.clos f []] (.bool (((xs.length:Int)==n)&&xs.all p)):=by
 refine qF (rs:=[.tmp 6]) mixed Tryz.func150 NI rfl rfl rfl (r:=[.bool _]) (nlZ rfl) ?_
 have h1:=BV xs 165 (.cptr [.clos f []] 0) (fun x=> !p x) hl fun i h=>AQ xs[i] f (p xs[i]) (hc i h)
 have e:xs.all p= !(xs.any fun x=> !p x):=by rw [List.all_eq_not_any_not]
 rw [e]
 generalize (xs.any fun x=> !p x)=b at *
 by_cases hn:(xs.length:Int)=n
 ·repeat' ((conv=>whnf);first|exact trivial|refine rp _ (h1) ?_|refine aE1 ?_|refine rbx ?_|refine aS ?_|fail)
 ·repeat' ((conv=>whnf);first|exact trivial|refine aE0 ?_|refine rb0 ?_|refine aS ?_|fail)
theorem BY (xs:List ByteArray) (f:FuncId) (c:T) (p:ByteArray→Bool) (hl:xs.length<2^60) (hc: ∀(i:Nat) (h:i<xs.length),DCalls Tryz.prog f [.str xs[i],c] (.bool (p xs[i]))):
  DCalls Tryz.prog 154 [.slice 1 (xs.map T.str),.clos f [c]] (I (vh p xs)):=by
 refine qF (rs:=[.tmp 4]) mixed Tryz.func154 NM rfl rfl rfl (r:=[.int _ _]) (nlZ rfl) ?_
 skip
 refine q7 (α:=Nat) (fun i=>{sl:=[(0,.t (.slice 1 (xs.map T.str))),(1,.t (.clos f [c])),(6,.t (.slice 1 (xs.map T.str))),(7,.t (I xs.length)),(8,.t (I i))],bx:=[]})
  (fun i=>i≤xs.length∧ ∀j (h:j<xs.length),j<i→p xs[j]=false) (fun i=>xs.length - i) 0 (by simp) ?_ ?_
 ·repeat' (first|(exact leI (by simp))|exact trivial|exact LeV.same _|exact rfl|exact fun _ _ _=>trivial|refine And.intro ?_ ?_)
 rintro i ⟨hi,hp⟩
 rcases Nat.lt_or_ge i xs.length with h|h
 ·have h0:=hc i h
  cases hb:p xs[i] with
  |true=>
   rw [hb] at h0
   rw [yC h hb hp]
   repeat' ((conv=>whnf);first|exact trivial|(refine nv_ (.str xs[i]) (by first|(simp [h];done)|fail) ?_)|refine rp _ (h0) ?_|refine nT_ ?_|refine aD1 ?_|refine rix ?_|refine aS ?_|fail)
  |false=>
   rw [hb] at h0
   repeat' ((conv=>whnf);first|(refine nv_ (.str xs[i]) (by first|(simp [h];done)|fail) ?_)|refine rp _ (h0) ?_|refine nT_ ?_|refine aD1 ?_|refine aS ?_|fail)
   refine ⟨i+1,⟨h,fun j hj hlt=>?_⟩,by omega,?_⟩
   ·rcases Nat.lt_or_ge j i with h4|h4
    ·exact hp j hj h4
    ·obtain rfl:j=i:=by omega
     exact hb
   ·repeat' (first|exact trivial|exact LeV.same _|exact rfl|exact fun _ _ _=>trivial|exact lI|refine And.intro ?_ ?_)
 ·rw [yD fun j hj=>hp j hj (by omega)]
  repeat' ((conv=>whnf);first|exact trivial|refine aD0 ?_|refine rix ?_|refine aS ?_|fail)
theorem yv (xs:List ByteArray) (f:FuncId) (c:T) (p:ByteArray→Bool) (hl:xs.length<2^60) (hc: ∀(i:Nat) (h:i<xs.length),DCalls Tryz.prog f [.str xs[i],c] (.bool (p xs[i]))):
  DCalls Tryz.prog 124 [.slice 1 (xs.map T.str),.clos f [c]] (.bool (xs.any p)):=by
 refine qF (rs:=[.tmp 4]) mixed Tryz.func124 Nl rfl rfl rfl (r:=[.bool _]) (nlZ rfl) ?_
 have h1:=BY xs f c p hl hc
 rw [xP p xs]
 generalize vh p xs=k at *
 repeat' ((conv=>whnf);first|exact trivial|refine rp _ (h1) ?_|refine nD_ (fun hq=>?_) (fun hq=>?_)|refine rb1 ?_|refine rb0 ?_|refine aS ?_|fail)
theorem AR (x:ByteArray) (f:FuncId) (b:Bool) (hc:DCalls Tryz.prog f [.str x] (.bool b)):
  DCalls Tryz.prog 168 [.str x,.cptr [.clos f []] 0] (.bool !b):=by
 refine qF (rs:=[.tmp 3]) mixed Tryz.func168 NV rfl rfl rfl (r:=[.bool _]) (nlZ rfl) ?_
 repeat' ((conv=>whnf);first|exact trivial|refine rp _ (hc) ?_|refine nT_ ?_|refine rbx ?_|refine aS ?_|fail)
theorem Ar (xs:List ByteArray) (f:FuncId) (n:Int) (p:ByteArray→Bool) (hl:xs.length<2^60) (hc: ∀(i:Nat) (h:i<xs.length),DCalls Tryz.prog f [.str xs[i]] (.bool (p xs[i]))):
  DCalls Tryz.prog 153 [.slice 1 (xs.map T.str),I n,.clos f []] (.bool (((xs.length:Int)==n)&&xs.all p)):=by
 refine qF (rs:=[.tmp 6]) mixed Tryz.func153 NL rfl rfl rfl (r:=[.bool _]) (nlZ rfl) ?_
 have h1:=yv xs 168 (.cptr [.clos f []] 0) (fun x=> !p x) hl fun i h=>AR xs[i] f (p xs[i]) (hc i h)
 have e:xs.all p= !(xs.any fun x=> !p x):=by rw [List.all_eq_not_any_not]
 rw [e]
 generalize (xs.any fun x=> !p x)=b at *
 by_cases hn:(xs.length:Int)=n
 ·repeat' ((conv=>whnf);first|exact trivial|refine rp _ (h1) ?_|refine aE1 ?_|refine rbx ?_|refine aS ?_|fail)
 ·repeat' ((conv=>whnf);first|exact trivial|refine aE0 ?_|refine rb0 ?_|refine aS ?_|fail)
end Go.TY
end
section
namespace Go.TY
open Go Go.DL Go.MM Go.Proofs
theorem xG (n:Int):DCalls Tryz.prog 142 [I n] (.bool (tO n)):=by
 refine qF (rs:=[.tmp 2]) mixed Tryz.func142 NB rfl rfl rfl (r:=[.bool _]) (nlZ rfl) ?_
 unfold tO
 repeat' ((conv=>whnf);first|exact trivial|refine nD_ (fun hq=>?_) (fun hq=>?_)|refine rb1 ?_|refine rb0 ?_|refine aS ?_|fail)
def uQ (n:Int):Bool:=decide (0≤n)&&decide (n≤1073741824)
theorem zZ (n:Int):DCalls Tryz.prog 143 [I n] (.bool (uQ n)):=by
 refine qF (rs:=[.tmp 2]) mixed Tryz.func143 NC rfl rfl rfl (r:=[.bool _]) (nlZ rfl) ?_
 unfold uQ
 repeat' ((conv=>whnf);first|exact trivial|refine nD_ (fun hq=>?_) (fun hq=>?_)|refine rb1 ?_|refine rb0 ?_|refine aS ?_|fail)
theorem x6: ∀l:List RP,tf l=l.all sD
 |[]=>rfl
 |r::rs=>by rw [tf,x6 rs];rfl
theorem x5: ∀l:List RO,s7 l=l.all sC
 |[]=>rfl
 |r::rs=>by rw [s7,x5 rs];rfl
def CN (k:Int) (br b nd:Bool) (n m:Int) (len:Nat) (al:Bool):Bool:=
 if k=1∨k=2 then br&&(len==0)
 else if k=3 then nd&&tO n&&(m==0)&&(len==0)
 else if k=4 then nd&&tO n&&decide (m≥0)&&decide (m≤16)&&(len==0)
 else if k=5 then nd&&tO n&&tO m&&decide (n≤m)&&(len==0)
 else if k=9 then b&&uQ n&&uQ m&&decide (n<m)&&(len==0)
 else if k=6 then br&&(((len:Int)==1)&&al)
 else if k=7∨k=8 then br&&(((len:Int)==2)&&al)
 else false
theorem xJ (a:Nat) (b:Nat):((a:Int)==(b:Int))=(a==b):=by
 rw [Bool.eq_iff_iff];simp;omega
theorem A8 (k:Int) (f:ByteArray) (n m:Int) (l:List RP):sD (.mk k f n m l)=CN k (vp f n m) (sa f e0) (sN f) n m l.length (l.all sD):=by
 rw [sD,x6]
 have hall:l.length=0→l.all sD=true:=fun h=>by rw [List.eq_nil_of_length_eq_zero h];rfl
 have leaf: ∀(x:Bool),(x&&(l.length==0)&&l.all sD)=(x&&(l.length==0)):=fun x=>by
  by_cases h0:l.length=0
  ·rw [hall h0,Bool.and_true]
  ·rw [show (l.length==0)=false from beq_false_of_ne h0,Bool.and_false,Bool.false_and]
 generalize l.all sD=al at *
 unfold CN okP xI
 by_cases h1:k=1∨k=2
 ·rw [if_pos h1,if_pos h1,if_neg (by omega),if_neg (by omega),leaf]
 rw [if_neg h1,if_neg h1]
 by_cases h3:k=3
 ·rw [if_pos h3,if_pos h3,if_neg (by omega),if_neg (by omega),leaf]
 rw [if_neg h3,if_neg h3]
 by_cases h4:k=4
 ·rw [if_pos h4,if_pos h4,if_neg (by omega),if_neg (by omega),leaf]
 rw [if_neg h4,if_neg h4]
 by_cases h5:k=5
 ·rw [if_pos h5,if_pos h5,if_neg (by omega),if_neg (by omega),leaf]
  refine congrArg (fun x=>x&&(l.length==0)) ?_
  rw [Bool.eq_iff_iff]
  simp only [tO,Bool.and_eq_true,decide_eq_true_eq]
  exact ⟨fun h=>⟨⟨⟨h.1.1.1,by omega,by omega⟩,by omega,by omega⟩,by omega⟩,fun h=>⟨⟨⟨h.1.1.1,by omega⟩,by omega⟩,by omega⟩⟩
 rw [if_neg h5,if_neg h5]
 by_cases h9:k=9
 ·rw [if_pos h9,if_neg (show ¬(k=6∨k=7∨k=8) by omega),if_pos h9,if_neg (by omega),if_neg (by omega),leaf]
  refine congrArg (fun x=>x&&(l.length==0)) ?_
  rw [Bool.eq_iff_iff]
  simp only [uQ,Bool.and_eq_true,decide_eq_true_eq]
  exact ⟨fun h=>⟨⟨⟨h.1.1.1,by omega,by omega⟩,by omega,by omega⟩,by omega⟩,fun h=>⟨⟨⟨h.1.1.1,by omega⟩,by omega⟩,by omega⟩⟩
 simp only [h9,if_false]
 by_cases h6:k=6
 ·rw [if_pos (Or.inl h6),if_pos h6,if_pos h6,Bool.and_assoc,show ((l.length:Int)==1)=(l.length==1) from xJ _ 1]
 rw [if_neg h6,if_neg h6]
 by_cases h7:k=7∨k=8
 ·rw [if_pos (Or.inr h7),if_pos h7,if_pos h7,Bool.and_assoc,show ((l.length:Int)==2)=(l.length==2) from xJ _ 2]
 rw [if_neg (show ¬(k=6∨k=7∨k=8) by omega),if_neg h7,if_neg h7]
 simp
theorem AM (N:Nat): ∀r:RP,r.nodes≤N→N<2^60→uI r→DCalls Tryz.prog 108 [.agg (sb r)] (.bool (sD r)):=by
 induction N with
 |zero=>intro r h;have:=r.uc;omega
 |succ N ih=>
  rintro ⟨k,f,n,m,l⟩ hr hN hnm
  refine qF (rs:=[.tmp 2]) mixed Tryz.func108 M6 rfl rfl rfl (r:=[.bool _]) (nlZ rfl) ?_
  simp only [RP.nodes] at hr
  have hll:=tS l
  have h104:=xV f hnm.1
  have hvn:=xG n
  have hvm:=xG m
  have htn:=zZ n
  have htm:=zZ m
  have hev:=fun n=>BU l 108 n sD (by omega) fun i h=>ih l[i] (by
   have hn:=tF h
   have hm:=tE (l:=l) (j:=i+1)
   omega) (by omega) (xo hnm.2 i h)
  have h1:=hev 1
  have h2:=hev 2
  have hE:=su f e0
  rw [A8]
  clear ih hev hr
  repeat' ((conv=>whnf);first|refine aS ?_|fail)
  refine rh (β:=Unit) (fun _=>{sl:=[(1,.ptr 1 0),(3,.t (.bool (vp f n m)))],bx:=[(1,.d 5 (sb (.mk k f n m l)))]}) (fun _=>True) ?_ ?_
  ·unfold vp
   generalize sa f e0=b at *
   repeat' ((conv=>whnf);first|refine nb_ b hE ?_|(exact ⟨(),trivial,by (repeat' (first|exact trivial|exact LeV.same _|exact LeB.same _|exact rfl|exact fun _ _ _=>trivial|exact lB|refine And.intro ?_ ?_));done⟩)|refine nT_ ?_|refine nE_ (fun hq=>?_) (fun hq=>?_)|refine aS ?_|(cases b)|fail)
  rintro _ _
  generalize vp f n m=br at *
  generalize sa f e0=b at *
  generalize sN f=nd at *
  generalize l.all sD=al at *
  have hlen:(l.map sA).length=l.length:=List.length_map _
  have key: ∀(z:Bool),(l.length==0)=z→(z=true∧((l.map sA).length:Int)=0)∨(z=false∧((l.map sA).length:Int)≠0):=fun z hz=>by
   cases z with
   |true=>
    have h0:l.length=0:=by simpa using hz
    exact Or.inl ⟨rfl,by omega⟩
   |false=>
    have h0:l.length≠0:=by simpa using hz
    exact Or.inr ⟨rfl,by omega⟩
  unfold CN
  generalize hz:(l.length==0)=z at *
  generalize tO n=vn at *
  generalize tO m=vm at *
  generalize uQ n=tn at *
  generalize uQ m=tm at *
  by_cases k1:k=1∨k=2
  ·rw [if_pos k1]
   rcases key z rfl with ⟨rfl,e1⟩|⟨rfl,e1⟩ <;> rcases k1 with rfl|rfl <;> cases br <;> repeat' ((conv=>whnf);first|exact trivial|refine qi e1 ?_|refine qh e1 ?_|refine nT_ ?_|refine aE1 ?_|refine aE0 ?_|refine rb1 ?_|refine rb0 ?_|refine aS ?_|fail)
  rw [if_neg k1]
  by_cases k3:k=3
  ·subst k3
   rw [if_pos rfl]
   rcases key z rfl with ⟨rfl,e1⟩|⟨rfl,e1⟩ <;> cases nd <;> cases vn <;> repeat' ((conv=>whnf);first|exact trivial|refine rp _ (h104) ?_|refine rp _ (hvn) ?_|refine qi e1 ?_|refine qh e1 ?_|refine nT_ ?_|refine aE1 ?_|refine aE0 ?_|refine nE_ (fun hq=>?_) (fun hq=>?_)|refine rb1 ?_|refine rb0 ?_|refine aS ?_|fail)
  rw [if_neg k3]
  by_cases k4:k=4
  ·subst k4
   rw [if_pos rfl]
   rcases key z rfl with ⟨rfl,e1⟩|⟨rfl,e1⟩ <;> cases nd <;> cases vn <;> repeat' ((conv=>whnf);first|exact trivial|refine rp _ (h104) ?_|refine rp _ (hvn) ?_|refine qi e1 ?_|refine qh e1 ?_|refine nT_ ?_|refine aE1 ?_|refine aE0 ?_|refine nD_ (fun hq=>?_) (fun hq=>?_)|refine rb1 ?_|refine rb0 ?_|refine aS ?_|fail)
  rw [if_neg k4]
  by_cases k5:k=5
  ·subst k5
   rw [if_pos rfl]
   rcases key z rfl with ⟨rfl,e1⟩|⟨rfl,e1⟩ <;> cases nd <;> cases vn <;> cases vm <;> repeat' ((conv=>whnf);first|exact trivial|refine rp _ (h104) ?_|refine rp _ (hvn) ?_|refine rp _ (hvm) ?_|refine qi e1 ?_|refine qh e1 ?_|refine nT_ ?_|refine aE1 ?_|refine aE0 ?_|refine nD_ (fun hq=>?_) (fun hq=>?_)|refine rb1 ?_|refine rb0 ?_|refine aS ?_|fail)
  rw [if_neg k5]
  by_cases k9:k=9
  ·subst k9
   rw [if_pos rfl]
   rcases key z rfl with ⟨rfl,e1⟩|⟨rfl,e1⟩ <;> cases b <;> cases tn <;> cases tm <;> repeat' ((conv=>whnf);first|exact trivial|refine nb_ _ hE ?_|refine rp _ (htn) ?_|refine rp _ (htm) ?_|refine qi e1 ?_|refine qh e1 ?_|refine nT_ ?_|refine aE1 ?_|refine aE0 ?_|refine nD_ (fun hq=>?_) (fun hq=>?_)|refine rb1 ?_|refine rb0 ?_|refine aS ?_|fail)
  rw [if_neg k9]
  by_cases k6:k=6
  ·subst k6
   rw [if_pos rfl]
   cases br <;> repeat' ((conv=>whnf);first|exact trivial|refine rp _ (h1) ?_|refine nT_ ?_|refine aE1 ?_|refine aE0 ?_|refine rb0 ?_|refine rbx ?_|refine aS ?_|fail)
  rw [if_neg k6]
  by_cases k7:k=7∨k=8
  ·rw [if_pos k7]
   rcases k7 with rfl|rfl <;> cases br <;> repeat' ((conv=>whnf);first|exact trivial|refine rp _ (h2) ?_|refine nT_ ?_|refine aE1 ?_|refine aE0 ?_|refine rb0 ?_|refine rbx ?_|refine aS ?_|fail)
  rw [if_neg k7]
  repeat' ((conv=>whnf);first|exact trivial|refine nT_ ?_|refine aE0 ?_|refine rb0 ?_|refine aS ?_|fail)
end Go.TY
end
section
namespace Go.TY
open Go Go.DL Go.MM Go.Proofs
theorem Fm (l:List RP):DCalls Tryz.prog 163 [.slice 5 (l.map sA),.nil,.clos 149 []] (.bool (l.length==0)):=by
 refine qF (rs:=[.tmp 6]) mixed Tryz.func163 NQ rfl rfl rfl (r:=[.bool _]) (nlZ rfl) ?_
 cases l with
 |cons a l=>
  repeat' ((conv=>whnf);first|exact trivial|refine aN1 ?_|refine rb0 ?_|refine aS ?_|fail)
 |nil=>
  repeat' ((conv=>whnf);first|refine aN0 ?_|refine aS ?_|fail)
  refine q7 (α:=Unit) (fun _=>{sl:=[(15,.t (.slice 5 [])),(16,.t (I 0)),(17,.t (I 0))],bx:=[]}) (fun _=>True) (fun _=>0) () trivial ?_ ?_
  ·repeat' (first|exact trivial|exact LeV.same _|exact rfl|exact fun _ _ _=>trivial|refine And.intro ?_ ?_)
  rintro _ _
  repeat' ((conv=>whnf);first|exact trivial|refine aD0 ?_|refine rb1 ?_|refine aS ?_|fail)
theorem FV (r:RP):DCalls Tryz.prog 149 [.agg (sb r),.agg [I 0,.str e0,I 0,I 0,.nil]] (.bool (tQ r)):=by
 obtain ⟨k,f,n,m,l⟩:=r
 refine qF (rs:=[.tmp 4]) mixed Tryz.func149 NH rfl rfl rfl (r:=[.bool _]) (nlZ rfl) ?_
 simp only [tQ]
 have h2:=su f e0
 have h3:=Fm l
 generalize sa f e0=b at *
 generalize (l.length==0)=z at *
 cases b <;> repeat' ((conv=>whnf);first|exact trivial|refine nb_ _ h2 ?_|refine rp _ (h3) ?_|refine nT_ ?_|refine nE_ (fun hq=>?_) (fun hq=>?_)|refine rb0 ?_|refine rbx ?_|refine aS ?_|fail)
def CM (k:Int) (emp br nd vn fp:Bool) (len:Nat) (al:Bool):Bool:=
 if k=1 then br&&(len==0)&&fp
 else if k=2 then emp&&(len==0)&&nd&&vn
 else if k=5 then emp&&br&&(((len:Int)==1)&&al)
 else if k=3∨k=4 then emp&&br&&(((len:Int)==2)&&al)
 else false
theorem A7 (k:Int) (p:RP) (f:ByteArray) (n:Int) (l:List RO):sC (.mk k p f n l)=CM k (tQ p) (wa f n) (sN f) (tO n) (sD p) l.length (l.all sC):=by
 rw [sC,x5]
 have hall:l.length=0→l.all sC=true:=fun h=>by rw [List.eq_nil_of_length_eq_zero h];rfl
 have leaf: ∀(x:Bool),(x&&(l.length==0)&&l.all sC)=(x&&(l.length==0)):=fun x=>by
  by_cases h0:l.length=0
  ·rw [hall h0,Bool.and_true]
  ·rw [show (l.length==0)=false from beq_false_of_ne h0,Bool.and_false,Bool.false_and]
 generalize l.all sC=al at *
 unfold CM okO wG
 by_cases h1:k=1
 ·subst h1
  simp only [if_true,show ¬((1:Int)=3∨(1:Int)=4) by omega,show ¬((1:Int)=5) by omega,if_false]
  rw [leaf]
  generalize sD p=a
  generalize wa f n=b
  cases a <;> cases b <;> simp
 rw [if_neg h1,if_neg h1]
 by_cases h2:k=2
 ·subst h2
  simp only [if_true,show ¬((2:Int)=3∨(2:Int)=4) by omega,show ¬((2:Int)=5) by omega,if_false]
  rw [leaf]
  unfold tO
  generalize sN f=a
  generalize tQ p=b
  generalize (l.length==0)=z
  cases a <;> cases b <;> cases z <;> simp
 rw [if_neg h2,if_neg h2]
 by_cases h5:k=5
 ·subst h5
  simp only [if_true,show ¬((5:Int)=3∨(5:Int)=4) by omega,or_true,if_false]
  rw [show ((l.length:Int)==1)=(l.length==1) from xJ _ 1,Bool.and_assoc]
 simp only [h5,if_false,or_false]
 by_cases h3:k=3∨k=4
 ·rw [if_pos h3,if_pos h3,if_pos h3,show ((l.length:Int)==2)=(l.length==2) from xJ _ 2,Bool.and_assoc]
 ·rw [if_neg h3,if_neg h3,if_neg h3]
  simp
theorem Fq (N:Nat): ∀r:RO,r.wt≤N→N<2^60→uj r→DCalls Tryz.prog 115 [.agg (r9 r)] (.bool (sC r)):=by
 induction N with
 |zero=>intro r h;obtain ⟨k,p,f,n,a⟩:=r;simp only [RO.wt] at h;omega
 |succ N ih=>
  rintro ⟨k,⟨pk,pf,pn,pm,pa⟩,f,n,l⟩ hr hN hnm
  refine qF (rs:=[.tmp 2]) mixed Tryz.func115 Nd rfl rfl rfl (r:=[.bool _]) (nlZ rfl) ?_
  simp only [RO.wt] at hr
  have hll:=uL l
  have h104:=xV f hnm.2.1
  have hvn:=xG n
  have hsp:=FV (.mk pk pf pn pm pa)
  have hfp:=AM _ (.mk pk pf pn pm pa) (Nat.le_refl _) (by omega) hnm.1
  have hev:=fun n=>Aq l 115 n sC (by omega) fun i h=>ih l[i] (by
   have hn:=uh h
   have hm:=tT (l:=l) (j:=i+1)
   omega) (by omega) (xj hnm.2.2 i h)
  have h1:=hev 1
  have h2:=hev 2
  have hE:=su f e0
  rw [A7]
  clear ih hev hr
  repeat' ((conv=>whnf);first|refine aS ?_|fail)
  refine rh (β:=Unit) (fun _=>{sl:=[(1,.ptr 1 0),(3,.t (.bool (tQ (.mk pk pf pn pm pa)))),(4,.t (.bool (wa f n)))],bx:=[(1,.d 9 (r9 (.mk k (.mk pk pf pn pm pa) f n l)))]}) (fun _=>True) ?_ ?_
  ·unfold wa
   generalize sa f e0=b at *
   generalize tQ (.mk pk pf pn pm pa)=em at *
   cases b <;> repeat' ((conv=>whnf);first|refine nb_ _ hE ?_|refine rp _ (hsp) ?_|(exact ⟨(),trivial,by (repeat' (first|exact trivial|exact LeV.same _|exact LeB.same _|exact rfl|exact fun _ _ _=>trivial|exact lB|refine And.intro ?_ ?_));done⟩)|refine nT_ ?_|refine nE_ (fun hq=>?_) (fun hq=>?_)|refine aS ?_|fail)
  rintro _ _
  generalize wa f n=br at *
  generalize sN f=nd at *
  generalize tQ (.mk pk pf pn pm pa)=em at *
  generalize sD (.mk pk pf pn pm pa)=fp at *
  generalize l.all sC=al at *
  have hlen:(l.map sL).length=l.length:=List.length_map _
  have key: ∀(z:Bool),(l.length==0)=z→(z=true∧((l.map sL).length:Int)=0)∨(z=false∧((l.map sL).length:Int)≠0):=fun z hz=>by
   cases z with
   |true=>
    have h0:l.length=0:=by simpa using hz
    exact Or.inl ⟨rfl,by omega⟩
   |false=>
    have h0:l.length≠0:=by simpa using hz
    exact Or.inr ⟨rfl,by omega⟩
  unfold CM
  generalize hz:(l.length==0)=z at *
  generalize tO n=vn at *
  by_cases k1:k=1
  ·subst k1
   rw [if_pos rfl]
   rcases key z rfl with ⟨rfl,e1⟩|⟨rfl,e1⟩ <;> cases br <;> repeat' ((conv=>whnf);first|exact trivial|refine rp _ (hfp) ?_|refine qi e1 ?_|refine qh e1 ?_|refine nT_ ?_|refine aE1 ?_|refine rb0 ?_|refine rbx ?_|refine aS ?_|fail)
  rw [if_neg k1]
  by_cases k2:k=2
  ·subst k2
   rw [if_pos rfl]
   rcases key z rfl with ⟨rfl,e1⟩|⟨rfl,e1⟩ <;> cases em <;> cases nd <;> repeat' ((conv=>whnf);first|exact trivial|refine rp _ (h104) ?_|refine rp _ (hvn) ?_|refine qi e1 ?_|refine qh e1 ?_|refine nT_ ?_|refine aE1 ?_|refine aE0 ?_|refine rb0 ?_|refine rbx ?_|refine aS ?_|fail)
  rw [if_neg k2]
  by_cases k5:k=5
  ·subst k5
   rw [if_pos rfl]
   cases em <;> cases br <;> repeat' ((conv=>whnf);first|exact trivial|refine rp _ (h1) ?_|refine nT_ ?_|refine aE1 ?_|refine aE0 ?_|refine rb0 ?_|refine rbx ?_|refine aS ?_|fail)
  rw [if_neg k5]
  by_cases k3:k=3∨k=4
  ·rw [if_pos k3]
   rcases k3 with rfl|rfl <;> cases em <;> cases br <;> repeat' ((conv=>whnf);first|exact trivial|refine rp _ (h2) ?_|refine nT_ ?_|refine aE1 ?_|refine aE0 ?_|refine rb0 ?_|refine rbx ?_|refine aS ?_|fail)
  rw [if_neg k3]
  repeat' ((conv=>whnf);first|exact trivial|refine nT_ ?_|refine aE0 ?_|refine rb0 ?_|refine aS ?_|fail)
theorem CD (n d:Nat) (f:FuncId) (c:T) (b:Bool) (h:DCalls Tryz.prog f [c] (.bool b)):DCalls Tryz.prog 106 [sz n d,.clos f [c]] (I (wK (vl n d) b)):=by
 refine qF (rs:=[.tmp 4]) mixed Tryz.func106 M0 rfl rfl rfl (r:=[.int _ _]) (nlZ rfl) ?_
 have h1:=Hu n d
 unfold wK
 by_cases hl:vl n d=0
 ·rw [hl] at h1 ⊢
  rw [if_pos rfl]
  cases b <;> repeat' ((conv=>whnf);first|exact trivial|refine rp _ (h1) ?_|refine rp _ (h) ?_|refine aN0 ?_|refine rix ?_|refine aS ?_|fail)
 ·rw [if_neg hl]
  generalize vl n d=e at *
  repeat' ((conv=>whnf);first|exact trivial|refine rp _ (h1) ?_|refine aN1 ?_|refine rix ?_|refine aS ?_|fail)
theorem Cg (r:RP) (hr:r.nodes<2^60) (hn:uI r):DCalls Tryz.prog 68 [.agg (sb r)] (I (xu r)):=by
 refine qF (rs:=[.tmp 2]) mixed Tryz.func68 l68 rfl rfl rfl (r:=[.int _ _]) (nlZ rfl) ?_
 unfold xu
 have h1:=CF _ r (Nat.le_refl _) hr
 have h2:DCalls Tryz.prog 107 [.cptr (sb r) 0] (.bool (sD r)):=by
  refine qF (rs:=[.tmp 1]) mixed Tryz.func107 M5 rfl rfl rfl (r:=[.bool _]) (nlZ rfl) ?_
  have h:=AM _ r (Nat.le_refl _) hr hn
  repeat' ((conv=>whnf);first|exact trivial|refine rp _ (h) ?_|refine nT_ ?_|refine rbx ?_|(refine And.intro (by first|exact sr _|fail) ?_)|fail)
 have h3:=CD r.nodes r.depth 107 _ _ h2
 repeat' ((conv=>whnf);first|exact trivial|refine rp _ (h1) ?_|refine rp _ (h3) ?_|refine rix ?_|(refine And.intro (by first|exact sr _|fail) ?_)|refine aS ?_|fail)
theorem x4 (r:RO) (hr:r.wt<2^60) (hn:uj r):DCalls Tryz.prog 72 [.agg (r9 r)] (I (sO r)):=by
 refine qF (rs:=[.tmp 2]) mixed Tryz.func72 l72 rfl rfl rfl (r:=[.int _ _]) (nlZ rfl) ?_
 unfold sO
 have h1:=Hv _ r (Nat.le_refl _) hr
 have h2:DCalls Tryz.prog 114 [.cptr (r9 r) 0] (.bool (sC r)):=by
  refine qF (rs:=[.tmp 1]) mixed Tryz.func114 Nc rfl rfl rfl (r:=[.bool _]) (nlZ rfl) ?_
  have h:=Fq _ r (Nat.le_refl _) hr hn
  repeat' ((conv=>whnf);first|exact trivial|refine rp _ (h) ?_|refine nT_ ?_|refine rbx ?_|(refine And.intro (by first|exact sd _|fail) ?_)|fail)
 have h3:=CD r.size r.deep 114 _ _ h2
 repeat' ((conv=>whnf);first|exact trivial|refine rp _ (h1) ?_|refine rp _ (h3) ?_|refine rix ?_|(refine And.intro (by first|exact sd _|fail) ?_)|refine aS ?_|fail)
end Go.TY
end
noncomputable section
namespace Go.TY
open Go Go.DL Go.Proofs
def c15:aV:=(.seq (.region [oo 3 (.box 5 (tm 1)),oo 4 (.mov (Kc 0))] []) (.seq (.seq (.region [lA 6 5 3,oo 7 (.call 68 [tm 6]),mv 5 7] []) (.seq (.region [mv 8 5,oo 9 (.bin .neq (tm 8) (Kc 0))] []) (.cond (tm 9) (.seq (.region [mv 10 5,mv 4 10] []) .ret) .skip))) (.seq (.region [mv 11 0,lA 12 5 3,oo 13 (.call 69 [(tm 11),(tm 12)]),mv 4 13] []) .ret)))
theorem l15:(Tryz.f15.body.bind (bz Tryz.prog 14 []))=some c15:=by kernel_rfl
def c19:aV:=(.seq (.region [oo 2 (.box 1 (tm 0)),oo 3 (.box 6 (tm 1)),oo 4 (.mov (Kc 0))] []) (.seq (.seq (.region [lA 11 6 3,oo 12 (.call 79 [tm 11]),mv 5 12] []) (.seq (.region [mv 13 5,oo 14 (.bin .neq (tm 13) (Kc 0)),mv 15 14,oF 16 15 (.offA 0 (tm 3)),oF 17 15 (.load 1 false (tm 16)),oF 18 15 (.bin .eql (tm 17) (Kc 0)),oo 19 (.pick (tm 15) kT (tm 18))] []) (.cond (tm 19) (.seq (.region [mv 20 5,mv 4 20] []) .ret) .skip))) (.seq (.region [oo 21 (.mkfn 80 [tm 2]),mv 6 21] []) (.seq (.seq (.cut (.region [fa 22 3 3,ld 23 22,⟨some 24,.bin .neq (tm 23) (.const S0),none,[]⟩,mv 25 24,mT 26 6 25,oT 27 25 (.offA 3 (tm 3)),oT 28 25 (.load 1 false (tm 27)),oT 29 25 (.bX (tm 26) [tm 28]),oT 30 25 (.not (tm 29)),oo 31 (.pick (tm 25) (tm 30) kF),mv 32 31,oF 33 32 (.offA 2 (tm 3)),oF 34 32 (.load 1 false (tm 33)),mF 35 6 32,oF 36 32 (.call 81 [(tm 34),(tm 35)]),oF 37 32 (.not (tm 36)),oo 38 (.pick (tm 32) kT (tm 37))] [])) (.cond (tm 38) (.seq (.region [oo 4 (.mov (Kc 4))] []) .ret) .skip)) (.seq (.seq (.region [fa 39 2 3,ld 40 39,ln 41 40,oo 42 (.mov (Kc 0))] []) (.block 0 (.loop (.seq (.region [oo 43 (.bin .lss (tm 42) (tm 41))] []) (.seq (.cond (tm 43) .skip (.exit 0)) (.seq (.block 1 (.seq (.region [mv 44 42,ix 45 1 40 42,ld 46 45,mv 7 44,mv 8 46] []) (.seq (.region [fa 47 2 3,ld 48 47,mv 49 7,oo 50 (.slice 1 (tm 48) none (some (tm 49))),mv 51 8,oo 52 (.call 82 [(tm 50),(tm 51)])] []) (.cond (tm 52) (.seq (.region [oo 4 (.mov (Kc 1))] []) .ret) .skip)))) (.region [oo 53 (.bin .add (tm 42) (Kc 1)),mv 42 53] []))))))) (.seq (.seq (.region [ld 55 2,fa 56 3 3,ld 57 56,oo 58 (.call 74 [(tm 55),(tm 57)]),mv 54 58,oo 59 (.ext (tm 54) 0),oo 60 (.ext (tm 54) 1),⟨some 9,.alloc [S0,Z0,Z0],none,[]⟩,o0 (.store 3 (tm 9) (tm 59)),mv 10 60] []) (.seq (.region [fa 61 0 3,ld 62 61,oo 63 (.bin .eql (tm 62) (Kc 4)),mv 64 63,oT 65 64 (.offA 5 (tm 3)),oT 66 64 (.load 1 false (tm 65)),oT 67 64 (.load 3 true (tm 9)),oT 68 64 (.call 75 [tm 67]),oT 69 64 (.bin .gtr (tm 66) (tm 68)),oo 70 (.pick (tm 64) (tm 69) kF)] []) (.cond (tm 70) (.seq (.region [oo 4 (.mov (Kc 1))] []) .ret) .skip))) (.seq (.region [oo 4 (.mov (Kc 0))] []) .ret)))))))
theorem l19:(Tryz.f19.body.bind (bz Tryz.prog 71 [6000005]))=some c19:=by kernel_rfl
def c80:aV:=(.seq (.region [oo 3 (.mov kF)] []) (.seq (.region [ld 7 1,mv 8 0,oo 9 (.call 74 [(tm 7),(tm 8)]),mv 6 9,oo 10 (.ext (tm 6) 0),oo 11 (.ext (tm 6) 1),⟨some 4,.alloc [S0,Z0,Z0],none,[]⟩,o0 (.store 3 (tm 4) (tm 10)),mv 5 11] []) (.seq (.region [mv 12 5,mv 3 12] []) .ret)))
theorem l80:(Tryz.f80.body.bind (bz Tryz.prog 13 []))=some c80:=by kernel_rfl
def c81:aV:=(.seq (.region [oo 3 (.box 1 (tm 1)),oo 4 (.mov kF)] []) (.seq (.region [mv 5 0,oo 6 (.mkfn 125 [tm 3]),oo 7 (.call 124 [(tm 5),(tm 6)]),oo 8 (.not (tm 7)),mv 4 8] []) .ret))
theorem l81:(Tryz.f81.body.bind (bz Tryz.prog 9 []))=some c81:=by kernel_rfl
def LN:aV:=(.seq (.region [oo 3 (.mov kF)] []) (.seq (.region [ld 4 1,mv 5 0,oo 6 (.bX (tm 4) [tm 5]),oo 7 (.not (tm 6)),mv 3 7] []) .ret))
theorem Nn:(Tryz.f125.body.bind (bz Tryz.prog 8 []))=some LN:=by kernel_rfl
def c82:aV:=(.seq (.region [oo 4 (.mov kF)] []) (.seq (.region [mv 5 0,mv 6 1,oo 7 (.call 126 [(tm 5),(tm 6)]),oo 8 (.bin .geq (tm 7) (Kc 0)),mv 4 8] []) .ret))
theorem l82:(Tryz.f82.body.bind (bz Tryz.prog 9 []))=some c82:=by kernel_rfl
def LO:aV:=(.seq (.region [oo 4 (.mov (Kc 0))] []) (.seq (.seq (.region [mv 6 0,ln 7 6,oo 8 (.mov (Kc 0))] []) (.block 0 (.loop (.seq (.region [oo 9 (.bin .lss (tm 8) (tm 7))] []) (.seq (.cond (tm 9) .skip (.exit 0)) (.seq (.block 1 (.seq (.region [mv 10 8,mv 5 10] []) (.seq (.region [mv 11 1,mv 12 0,mv 13 5,ix 14 1 12 13,ld 15 14,oo 16 (.bin .eql (tm 11) (tm 15))] []) (.cond (tm 16) (.seq (.region [mv 17 5,mv 4 17] []) .ret) .skip)))) (.region [oo 18 (.bin .add (tm 8) (Kc 1)),mv 8 18] []))))))) (.seq (.region [oo 4 (.mov (.const (.int .i64 (-1))))] []) .ret)))
theorem Np:(Tryz.f126.body.bind (bz Tryz.prog 19 []))=some LO:=by kernel_rfl
def LV:aV:=(.seq (.region [oo 2 (.mov (Kc 0))] []) (.seq (.region [oo 3 (.buildS 3 1 7 [Z0] [(0,(Kc 0)),(1,(Kc 1)),(2,(Kc 2)),(3,(Kc 2)),(4,(Kc 3)),(5,(Kc 3)),(6,(Kc 4))]),mv 4 0,ix 5 1 3 4,ld 6 5,mv 2 6] []) .ret))
theorem Nw:(Tryz.f137.body.bind (bz Tryz.prog 7 []))=some LV:=by kernel_rfl
def c38:aV:=(.seq (.region [oo 4 (.mov (Kc 0))] []) (.seq (.seq (.region [mv 12 1,oo 13 (.call 95 [tm 12]),mv 5 13] []) (.seq (.region [mv 14 5,oo 15 (.bin .neq (tm 14) (Kc 0))] []) (.cond (tm 15) (.seq (.region [mv 16 5,mv 4 16] []) .ret) .skip))) (.seq (.seq (.region [mv 17 1,ln 18 17,oo 19 (.mov (Kc 0))] []) (.block 0 (.loop (.seq (.region [oo 20 (.bin .lss (tm 19) (tm 18))] []) (.seq (.cond (tm 20) .skip (.exit 0)) (.seq (.block 1 (.seq (.region [ix 21 15 17 19,lA 22 15 21,⟨some 7,.alloc [Z0,Z0,S0,Z0,Z0,.nil,S0,Z0,.nil,Z0,S0,.nil,S0,Z0,Z0],none,[]⟩,o0 (.store 15 (tm 7) (tm 22))] []) (.seq (.seq (.region [mv 23 0,fa 24 0 7,lA 25 9 24,oo 26 (.call 17 [(tm 23),(tm 25)]),mv 8 26] []) (.seq (.region [mv 27 8,oo 28 (.bin .neq (tm 27) (Kc 0))] []) (.cond (tm 28) (.seq (.region [mv 29 8,mv 4 29] []) .ret) .skip))) (.seq (.region [mv 30 0,fa 31 9 7,lA 32 6 31,oo 33 (.call 19 [(tm 30),(tm 32)]),mv 9 33] []) (.seq (.region [mv 34 9,oo 35 (.bin .neq (tm 34) (Kc 0))] []) (.cond (tm 35) (.seq (.region [mv 36 9,mv 4 36] []) .ret) .skip)))))) (.region [oo 37 (.bin .add (tm 19) (Kc 1)),mv 19 37] []))))))) (.seq (.seq (.region [mv 39 0,mv 40 1,oo 41 (.call 96 [(tm 39),(tm 40)]),mv 38 41,oo 42 (.ext (tm 38) 0),oo 43 (.ext (tm 38) 1),mv 10 42,mv 11 43] []) (.seq (.region [mv 44 11,oo 45 (.not (tm 44))] []) (.cond (tm 45) (.seq (.region [oo 4 (.mov (Kc 11))] []) .ret) .skip))) (.seq (.region [oo 4 (.mov (Kc 0))] []) .ret)))))
theorem l38:(Tryz.f38.body.bind (bz Tryz.prog 46 []))=some c38:=by kernel_rfl
def c39:aV:=(.seq (.region [oo 4 (.mov (.const .nil))] []) (.seq (.region [mv 11 0,mv 12 1,oo 13 (.call 96 [(tm 11),(tm 12)]),mv 10 13,oo 14 (.ext (tm 10) 0),oo 15 (.ext (tm 10) 1),mv 5 14,mv 6 15] []) (.seq (.region [oo 7 (.mov (.const .nil))] []) (.seq (.seq (.region [mv 16 5,oo 17 (.call 97 [tm 16]),oo 18 (.call 87 [tm 17]),ln 19 18,oo 20 (.mov (Kc 0))] []) (.block 0 (.loop (.seq (.region [oo 21 (.bin .lss (tm 20) (tm 19))] []) (.seq (.cond (tm 21) .skip (.exit 0)) (.seq (.block 1 (.seq (.region [ix 22 1 18 20,ld 23 22,mv 9 23] []) (.region [mv 24 7,mv 25 5,mv 26 9,⟨some 27,.mlook false [.str] (.agg [S0,Z0,.nil,Z0,Z0]) false (tm 25) (tm 26),none,[]⟩,⟨some 28,.buildF 5 1 [S0,Z0,.nil,Z0,Z0] [(0,(tm 27))],none,[]⟩,oo 29 (.append 62 66 5 64 (tm 24) (tm 28)),mv 7 29] []))) (.region [oo 30 (.bin .add (tm 20) (Kc 1)),mv 20 30] []))))))) (.seq (.region [mv 31 7,mv 4 31] []) .ret)))))
theorem l39:(Tryz.f39.body.bind (bz Tryz.prog 32 [8000028]))=some c39:=by kernel_rfl
def c55:aV:=(.seq (.region [oo 4 (.mov (.const .nil))] []) (.seq (.region [oo 5 (.mov (.const .nil))] []) (.seq (.seq (.region [mv 8 0,ln 9 8,oo 10 (.mov (Kc 0))] []) (.block 0 (.loop (.seq (.region [oo 11 (.bin .lss (tm 10) (tm 9))] []) (.seq (.cond (tm 11) .skip (.exit 0)) (.seq (.block 1 (.seq (.region [ix 12 15 8 10,lA 13 15 12,⟨some 7,.alloc [Z0,Z0,S0,Z0,Z0,.nil,S0,Z0,.nil,Z0,S0,.nil,S0,Z0,Z0],none,[]⟩,o0 (.store 15 (tm 7) (tm 13))] []) (.seq (.region [fa 14 0 7,lA 15 9 14,mv 16 1,oo 17 (.call 49 [(tm 15),(tm 16)]),fa 18 0 7,o0 (.store 9 (tm 18) (tm 17))] []) (.region [mv 19 5,lA 20 15 7,⟨some 21,.buildF 15 1 [Z0,Z0,S0,Z0,Z0,.nil,S0,Z0,.nil,Z0,S0,.nil,S0,Z0,Z0] [(0,(tm 20))],none,[]⟩,oo 22 (.append 56 61 15 200 (tm 19) (tm 21)),mv 5 22] [])))) (.region [oo 23 (.bin .add (tm 10) (Kc 1)),mv 10 23] []))))))) (.seq (.region [mv 24 5,mv 4 24] []) .ret))))
theorem l55:(Tryz.f55.body.bind (bz Tryz.prog 25 [8000021]))=some c55:=by kernel_rfl
def c30:aV:=(.seq (.region [oo 1 (.box 9 (tm 0)),oo 2 (.mov (Kc 0))] []) (.seq (.seq (.region [fa 3 0 1,ld 4 3] []) (.block 0 (.seq (.region [oo 6 (.bin .eql (tm 4) (Kc 3)),mv 5 6] []) (.cond (tm 5) (.seq (.region [fa 7 8 1,ld 8 7,oo 9 (.idxL 9 (tm 8) (Kc 0)),lA 10 9 9,oo 11 (.call 30 [tm 10]),fa 12 8 1,ld 13 12,oo 14 (.idxL 9 (tm 13) (Kc 1)),lA 15 9 14,oo 16 (.call 30 [tm 15]),oo 17 (.bin .add (tm 11) (tm 16)),oo 18 (.minI (tm 17) (Kc 65536)),mv 2 18] []) .ret) (.seq (.region [oo 20 (.bin .eql (tm 4) (Kc 4)),mv 19 20] []) (.cond (tm 19) (.seq (.region [fa 21 8 1,ld 22 21,oo 23 (.idxL 9 (tm 22) (Kc 0)),lA 24 9 23,oo 25 (.call 30 [tm 24]),fa 26 8 1,ld 27 26,oo 28 (.idxL 9 (tm 27) (Kc 1)),lA 29 9 28,oo 30 (.call 30 [tm 29]),oo 31 (.bin .mul (tm 25) (tm 30)),oo 32 (.minI (tm 31) (Kc 65536)),mv 2 32] []) .ret) (.seq (.region [oo 34 (.bin .eql (tm 4) (Kc 5)),mv 33 34] []) (.cond (tm 33) (.seq (.seq (.region [fa 35 8 1,ld 36 35,oo 37 (.idxL 9 (tm 36) (Kc 0)),lA 38 9 37,oo 39 (.call 30 [tm 38]),oo 40 (.bin .eql (tm 39) (Kc 0))] []) (.cond (tm 40) (.seq (.region [oo 2 (.mov (Kc 1))] []) .ret) .skip)) (.seq (.region [oo 2 (.mov (Kc 65536))] []) .ret)) .skip)))))))) (.seq (.seq (.region [fa 41 0 1,ld 42 41,oo 43 (.bin .eql (tm 42) (Kc 1)),mv 44 43,oT 45 44 (.offA 1 (tm 1)),oT 46 44 (.offA 0 (tm 45)),oT 47 44 (.load 1 false (tm 46)),oT 48 44 (.bin .eql (tm 47) (Kc 2)),oo 49 (.pick (tm 44) (tm 48) kF)] []) (.cond (tm 49) (.seq (.region [oo 2 (.mov (Kc 0))] []) .ret) .skip)) (.seq (.region [oo 2 (.mov (Kc 1))] []) .ret))))
theorem l30:(Tryz.f30.body.bind (bz Tryz.prog 50 []))=some c30:=by kernel_rfl
def c99:aV:=(.seq (.region [oo 4 (.mov kF)] []) (.seq (.seq (.region [mv 6 0,ln 7 6,mv 8 1,ln 9 8,oo 10 (.bin .neq (tm 7) (tm 9))] []) (.cond (tm 10) (.seq (.region [oo 4 (.mov kF)] []) .ret) .skip)) (.seq (.seq (.region [mv 11 0,ln 12 11,oo 13 (.mov (Kc 0))] []) (.block 0 (.loop (.seq (.region [oo 14 (.bin .lss (tm 13) (tm 12))] []) (.seq (.cond (tm 14) .skip (.exit 0)) (.seq (.block 1 (.seq (.region [mv 15 13,mv 5 15] []) (.seq (.region [mv 16 0,mv 17 5,ix 18 1 16 17,ld 19 18,mv 20 1,mv 21 5,ix 22 1 20 21,ld 23 22,oo 24 (.bin .neq (tm 19) (tm 23))] []) (.cond (tm 24) (.seq (.region [oo 4 (.mov kF)] []) .ret) .skip)))) (.region [oo 25 (.bin .add (tm 13) (Kc 1)),mv 13 25] []))))))) (.seq (.region [oo 4 (.mov kT)] []) .ret))))
theorem l99:(Tryz.f99.body.bind (bz Tryz.prog 26 []))=some c99:=by kernel_rfl
end Go.TY
end
section
namespace Go.TY
open Go Go.DL Go.MM Go.Proofs
theorem I8 (l:List Fd) (hl:LOk l) (r:RP) (hr:r.nodes<2^40) (hn:uI r):DCalls Tryz.prog 15 [fds l,.agg (sb r)] (I (AU l r)):=by
 refine qF (rs:=[.tmp 4]) mixed Tryz.func15 l15 rfl rfl rfl (r:=[.int _ _]) (nlZ rfl) ?_
 have h1:=Cg r (by omega) hn
 have h2:=Fp l hl r hr
 unfold AU
 by_cases hc:xu r=0
 ·rw [hc] at h1
  rw [if_neg (by simpa using hc)]
  repeat' ((conv=>whnf);first|exact trivial|refine rp _ (h1) ?_|refine rp _ (h2) ?_|refine aN0 ?_|refine rix ?_|(refine And.intro (by first|exact sr _|fail) ?_)|refine aS ?_|fail)
 ·rw [if_pos hc]
  generalize xu r=e at *
  repeat' ((conv=>whnf);first|exact trivial|refine rp _ (h1) ?_|refine aN1 ?_|refine rix ?_|(refine And.intro (by first|exact sr _|fail) ?_)|refine aS ?_|fail)
attribute [local irreducible] aF gL WCM YC
theorem BT (l:List Fd) (hl:LOk l) (r:RO) (hr:r.wt<2^40) (hn:uj r):DCalls Tryz.prog 17 [fds l,.agg (r9 r)] (I (tu l r)):=by
 rw [← uE]
 refine qG Tryz.func17 MH rfl (r:=[I (tu l r)]) (nlZ rfl) ?_
 have hlen:(sj r).length≤r.wt:=by rw [s9,tR];exact r.ve
 have hwt: ∀o∈sj r,o.wt≤r.wt:=by rw [s9];exact uo r
 have hcp:=x4 r (by omega) hn
 rw [← uE] at hcp
 unfold tu
 rw [← s9]
 rw [show Tryz.f17.ntmps=47 from rfl,show Tryz.f17.results.toList=[.cell 4 33] from rfl,k17]
 have ht:=yG r
 rw [sI] at ht
 generalize hv:(sj r).map (uu l)=v at *
 refine aF.seq (J3 ?_)
 repeat' ((conv=>whnf);first|(refine And.intro (by first|exact tz _|fail) ?_)|refine aS ?_|fail)
 refine aF.seq (J9 ?_)
 by_cases hc:sO r=0
 case neg=>
  rw [if_pos hc]
  generalize sO r=e at *
  repeat' ((conv=>whnf);first|refine rp _ (hcp) ?_|refine aN1 ?_|refine aS ?_|fail)
  exact ⟨⟨⟨Nat.lt_succ_self 0,rfl⟩,trivial⟩,fun _ _=>trivial⟩
 rw [hc] at hcp
 rw [if_neg (by simpa using hc)]
 repeat' ((conv=>whnf);first|refine rp _ (hcp) ?_|refine aN0 ?_|refine aS ?_|fail)
 refine aF.seq (aF.seq (Kg ?_))
 repeat' ((conv=>whnf);first|refine rp _ (ht) ?_|fail)
 refine aF.bL (s:={sl:=[(2,.ptr 2 0),(4,.ptr 4 0),(16,.t (.clos 116 [.cptr (sU r) 0]))],bx:=[(2,.d 1 [fds l]),(4,.d 1 [I 0])]}) (by repeat' (first|exact trivial|exact LeV.same _|exact LeB.same _|exact rfl|exact fun _ _ _=>trivial|refine And.intro ?_ ?_)) ?_
 refine aF.block (wk (N:=47) rfl r rfl 100 (fun n=>10≤n∧n<100) 100 (Nat.le_refl _) (by omega) (fun n h=>rf fun p hp=>?_) (fun n h=>rf fun p hp=>?_) (by exact rJ) (outs:=tC l v) (stop:=fun c cx o=>cx=(fun _ _=>True)∧w8 l v c o) ?_ (fun l0 D fn tmps hN=>?_) ?_ ?_)
 ·simp only [List.mem_cons,List.not_mem_nil,or_false] at hp
  rcases hp with rfl|rfl <;> (dsimp only;omega)
 ·simp only [List.mem_cons,List.not_mem_nil,or_false] at hp
  rcases hp with rfl|rfl <;> (dsimp only;omega)
 ·intro q hq
  simp only [tC,List.mem_cons,List.not_mem_nil,or_false] at hq
  rcases hq with rfl|rfl <;> rfl
 ·refine dL.top (d:=6) (n:=9) (lo:=10) (hi:=100) (Ff l v) (fun n h1 h2=>⟨h1,h2⟩) hN (by decide) (fun hw=>Km hw) rfl (by decide) (by decide) (fun x hx=>?_) (fun k cs b G C hk hcs=>?_)
  ·obtain ⟨t,_,rfl⟩:=List.mem_map.1 hx
   exact ⟨_,sI t,tz t⟩
  rw [List.getElem?_map,Option.map_eq_some_iff] at hk
  obtain ⟨t,htk,hte⟩:=hk
  rw [sI] at hte
  obtain rfl:sU t=cs:=T.agg.inj hte
  have hvk:v[k]? =some (uu l t):=by rw [← hv,List.getElem?_map,htk];rfl
  have hs:=Bf hvk
  have hfst:=AH hvk
  have htw:=hwt t (List.mem_of_getElem? htk)
  cases hok:okB v k with
  |false=>exact aF.absurd (n:=4) (m:=1) (ts:=[]) (by show some (BX.d 1 (if okB v k=true then [I 0] else []))=_;rw [hok];rfl) (by decide)
  |true=>
  have ho:tC l v k=[(2,.d 1 [fds l]),(4,.d 1 [I 0])]:=by unfold tC;rw [hok];rfl
  rw [ho]
  rw [hok,Bool.true_and] at hs
  have hfst:=hfst hok
  clear hok ho
  refine Ks ?_
  clear hte
  obtain ⟨kd,⟨pk,pf,pn,pm,pa⟩,f,n,args⟩:=t
  have endN: ∀s:St,s.gh=G→s.cx=C→(∀ q, ¬(10≤q∧q<100)→s.bx q=aH b [(2,.d 1 [fds l]),(4,.d 1 [I 0])] q)→uu l (.mk kd (.mk pk pf pn pm pa) f n args)=0→RB b G C 10 100 (tC l v (k+1)) (w8 l v) .normal s:=fun s h1 h2 h3 h4=>by
   refine ⟨h1,h2,_,h3,?_⟩
   unfold tC
   rw [hs,h4];rfl
  have endR: ∀s:St,s.gh=G→s.cx=C→(∀ q, ¬(10≤q∧q<100)→s.bx q=aH b [(2,.d 1 [fds l]),(4,.d 1 [I (uu l (.mk kd (.mk pk pf pn pm pa) f n args))])] q)→uu l (.mk kd (.mk pk pf pn pm pa) f n args)≠0→RB b G C 10 100 (tC l v (k+1)) (w8 l v) .ret s:=fun s h1 h2 h3 h4=>by
   have e:=hfst h4
   exact ⟨h1,h2,_,h3,rfl,by rw [e];exact h4,by rw [e]⟩
  have hq:uu l (.mk kd (.mk pk pf pn pm pa) f n args)=(if kd=1 then wJ l (.mk pk pf pn pm pa) else if kd=2 then A6 l f n else 0):=by simp only [uu]
  generalize uu l (.mk kd (.mk pk pf pn pm pa) f n args)=x at *
  by_cases k1:kd=1
  ·rw [if_pos k1] at hq
   have hf:=Fp l hl (.mk pk pf pn pm pa) (by simp only [RO.wt] at htw;omega)
   rw [← hq] at hf
   by_cases hx:x=0
   ·repeat' ((conv=>whnf);first|refine qi k1 ?_|(refine nv_ (.agg (sb (.mk pk pf pn pm pa))) (by first|(rfl;done)|fail) ?_)|refine rp _ (hf) ?_|refine qj hx ?_|refine nT_ ?_|refine aS ?_|fail)
    (conv=>whnf)
    refine endN _ rfl rfl (fun q hq=>?_) hx
    have hm:=qO (b:=b) hq
    show cond (Nat.beq q 16) _ (cond (Nat.beq q 2) _ (cond (Nat.beq q 4) _ (gy 10 100 b q)))=cond (Nat.beq q 2) _ (cond (Nat.beq q 4) _ (b q))
    rw [eM (show q≠16 by omega),hm];rfl
   ·repeat' ((conv=>whnf);first|refine qi k1 ?_|(refine nv_ (.agg (sb (.mk pk pf pn pm pa))) (by first|(rfl;done)|fail) ?_)|refine rp _ (hf) ?_|refine qm hx ?_|refine nT_ ?_|refine aS ?_|fail)
    (conv=>whnf)
    refine endR _ rfl rfl (fun q hq=>?_) hx
    have hm:=qO (b:=b) hq
    by_cases h4:q=4
    ·subst h4;rfl
    show cond (Nat.beq q 4) _ (cond (Nat.beq q 16) _ (cond (Nat.beq q 2) _ (cond (Nat.beq q 4) _ (gy 10 100 b q))))=cond (Nat.beq q 2) _ (cond (Nat.beq q 4) _ (b q))
    rw [eM (show q≠16 by omega),eM h4,hm];rfl
  rw [if_neg k1] at hq
  by_cases k2:kd=2
  ·rw [if_pos k2] at hq
   have h74:=t74 l f hl.len
   unfold uU at h74
   unfold A6 at hq
   cases hF:findF l f with
   |none=>
    rw [hF] at h74 hq
    dsimp only at h74 hq
    subst hq
    repeat' ((conv=>whnf);first|refine qh k1 ?_|refine qi k2 ?_|refine rp _ (h74) ?_|refine nT_ ?_|refine aS ?_|fail)
    (conv=>whnf)
    refine endR _ rfl rfl (fun q hq=>?_) (by decide)
    have hm:=qO (b:=b) hq
    by_cases h4:q=4
    ·subst h4;rfl
    show cond (Nat.beq q 4) _ (cond (Nat.beq q 18) _ (cond (Nat.beq q 18) _ (cond (Nat.beq q 16) _ (cond (Nat.beq q 2) _ (cond (Nat.beq q 4) _ (gy 10 100 b q))))))=cond (Nat.beq q 2) _ (cond (Nat.beq q 4) _ (b q))
    rw [eM (show q≠18 by omega),eM (show q≠16 by omega),eM h4,hm];rfl
   |some F=>
    rw [hF] at h74 hq
    dsimp only at h74 hq
    have h97:=t97 F (hl.find hF)
    generalize (2^F.w - 1:Nat)=M at *
    by_cases hb:n>(M:Int)
    ·rw [if_pos hb] at hq
     subst hq
     repeat' ((conv=>whnf);first|refine qh k1 ?_|refine qi k2 ?_|refine rp _ (h74) ?_|refine rp _ (h97) ?_|refine qg hb ?_|refine nT_ ?_|refine aS ?_|fail)
     (conv=>whnf)
     refine endR _ rfl rfl (fun q hq=>?_) (by decide)
     have hm:=qO (b:=b) hq
     by_cases h4:q=4
     ·subst h4;rfl
     show cond (Nat.beq q 4) _ (cond (Nat.beq q 18) _ (cond (Nat.beq q 18) _ (cond (Nat.beq q 16) _ (cond (Nat.beq q 2) _ (cond (Nat.beq q 4) _ (gy 10 100 b q))))))=cond (Nat.beq q 2) _ (cond (Nat.beq q 4) _ (b q))
     rw [eM (show q≠18 by omega),eM (show q≠16 by omega),eM h4,hm];rfl
    ·rw [if_neg hb] at hq
     repeat' ((conv=>whnf);first|refine qh k1 ?_|refine qi k2 ?_|refine rp _ (h74) ?_|refine rp _ (h97) ?_|refine qe hb ?_|refine nT_ ?_|refine aS ?_|fail)
     (conv=>whnf)
     refine endN _ rfl rfl (fun q hq=>?_) hq
     have hm:=qO (b:=b) hq
     show cond (Nat.beq q 18) _ (cond (Nat.beq q 18) _ (cond (Nat.beq q 16) _ (cond (Nat.beq q 2) _ (cond (Nat.beq q 4) _ (gy 10 100 b q)))))=cond (Nat.beq q 2) _ (cond (Nat.beq q 4) _ (b q))
     rw [eM (show q≠18 by omega),eM (show q≠16 by omega),hm];rfl
  ·rw [if_neg k2] at hq
   repeat' ((conv=>whnf);first|refine qh k1 ?_|refine qh k2 ?_|refine nT_ ?_|refine aS ?_|fail)
   (conv=>whnf)
   refine endN _ rfl rfl (fun q hq=>?_) hq
   have hm:=qO (b:=b) hq
   show cond (Nat.beq q 16) _ (cond (Nat.beq q 2) _ (cond (Nat.beq q 4) _ (gy 10 100 b q)))=cond (Nat.beq q 2) _ (cond (Nat.beq q 4) _ (b q))
   rw [eM (show q≠16 by omega),hm];rfl
 ·have hlv:(sj r).length=v.length:=by rw [← hv,List.length_map]
  rw [hlv]
  cases hok:okB v v.length with
  |false=>exact aF.absurd (n:=4) (m:=1) (ts:=[]) (by show some (BX.d 1 (if okB v v.length=true then [I 0] else []))=_;rw [hok];rfl) (by decide)
  |true=>
   rw [Cu hok]
   have ho:tC l v v.length=[(2,.d 1 [fds l]),(4,.d 1 [I 0])]:=by unfold tC;rw [hok];rfl
   rw [ho]
   refine Kx ?_
   repeat' ((conv=>whnf);first|refine aS ?_|fail)
   exact ⟨⟨⟨Nat.lt_succ_self 0,rfl⟩,trivial⟩,fun _ _=>trivial⟩
 ·rintro c cx o ⟨rfl,rfl,hne,rfl⟩
  refine Or.inl ⟨rfl,?_,fun _ _=>trivial⟩
  (conv=>whnf)
  exact ⟨⟨Nat.lt_succ_self 0,rfl⟩,trivial⟩
end Go.TY
end
section
namespace Go.TY
open Go Go.DL Go.MM Go.Proofs
theorem Fo (l:List ByteArray):DCalls Tryz.prog 166 [.slice 1 (l.map .str),.nil] (.bool (l.length==0)):=by
 refine qF (rs:=[.tmp 4]) mixed Tryz.func166 NT rfl rfl rfl (r:=[.bool _]) (nlZ rfl) ?_
 cases l with
 |cons a l=>
  repeat' ((conv=>whnf);first|exact trivial|refine aN1 ?_|refine rb0 ?_|refine aS ?_|fail)
 |nil=>
  repeat' ((conv=>whnf);first|refine aN0 ?_|refine aS ?_|fail)
  refine q7 (α:=Unit) (fun _=>{sl:=[(11,.t (.slice 1 [])),(12,.t (I 0)),(13,.t (I 0))],bx:=[]}) (fun _=>True) (fun _=>0) () trivial ?_ ?_
  ·repeat' (first|exact trivial|exact LeV.same _|exact rfl|exact fun _ _ _=>trivial|refine And.intro ?_ ?_)
  rintro _ _
  repeat' ((conv=>whnf);first|exact trivial|refine aD0 ?_|refine rb1 ?_|refine aS ?_|fail)
def vB (s:RS):Bool:=(s.kind==0)&&sa s.var e0&&sa s.field e0&&(s.n==0)&&(s.m==0)&&(s.key.length==0)
theorem FW (s:RS):DCalls Tryz.prog 151 [.agg (se s),.agg [I 0,.str e0,.nil,.str e0,I 0,I 0]] (.bool (vB s)):=by
 obtain ⟨k,v,l,f,n,m⟩:=s
 refine qF (rs:=[.tmp 4]) mixed Tryz.func151 NJ rfl rfl rfl (r:=[.bool _]) (nlZ rfl) ?_
 simp only [vB]
 have h1:=su v e0
 have h2:=su f e0
 have h3:=Fo l
 generalize sa v e0=a at *
 generalize sa f e0=b at *
 generalize (l.length==0)=z at *
 by_cases hk:k=0
 ·by_cases hn:n=0
  ·by_cases hm:m=0
   ·subst hk;subst hn;subst hm
    cases a <;> cases b <;> repeat' ((conv=>whnf);first|exact trivial|refine nb_ _ h1 ?_|refine nb_ _ h2 ?_|refine rp _ (h3) ?_|refine nT_ ?_|refine aE1 ?_|refine rb0 ?_|refine rbx ?_|refine aS ?_|fail)
   ·have e:(m==0)=false:=beq_false_of_ne hm
    rw [e,hk,hn]
    cases a <;> cases b <;> repeat' ((conv=>whnf);first|exact trivial|refine nb_ _ h1 ?_|refine nb_ _ h2 ?_|refine nT_ ?_|refine aE1 ?_|refine aE0 ?_|refine rb0 ?_|refine aS ?_|fail)
  ·have e:(n==0)=false:=beq_false_of_ne hn
   rw [e,hk]
   cases a <;> cases b <;> repeat' ((conv=>whnf);first|exact trivial|refine nb_ _ h1 ?_|refine nb_ _ h2 ?_|refine nT_ ?_|refine aE1 ?_|refine aE0 ?_|refine rb0 ?_|refine aS ?_|fail)
 ·have e:(k==0)=false:=beq_false_of_ne hk
  rw [e]
  repeat' ((conv=>whnf);first|exact trivial|refine nT_ ?_|refine aE0 ?_|refine rb0 ?_|refine aS ?_|fail)
def uD (k:Int) (br e nd:Bool) (n m:Int):Bool:=
 if k=1 then br&&(e||nd)
 else if k=2 then br&&e
 else if k=3 then uQ n&&(m==0)&&e
 else if k=4 then nd&&tO n&&tO m&&decide (n≤m)
 else if k=5 then br&&nd
 else if k=6 then e&&decide (n≥1)&&tO n&&decide (m≥1)&&uQ m
 else false
def okS (s:RS):Bool:=vB s||(uz s.var&&decide (1≤s.key.length)&&decide (s.key.length≤4)&&s.key.all sN&&uD s.kind ((s.n==0)&&(s.m==0)) (sa s.field e0) (sN s.field) s.n s.m)
def sV (s:RS):Int:=if okS s then 0 else 1
theorem Fs (s:RS) (hv:s.var.size<2^62) (hf:s.field.size<2^62) (hk: ∀k∈s.key,k.size<2^62) (hl:s.key.length<2^60):DCalls Tryz.prog 123 [.agg (se s)] (.bool (okS s)):=by
 refine qF (rs:=[.tmp 2]) mixed Tryz.func123 Nk rfl rfl rfl (r:=[.bool _]) (nlZ rfl) ?_
 have h0:=FW s
 unfold okS
 generalize vB s=z0 at *
 obtain ⟨k,v,l,f,n,m⟩:=s
 dsimp only at hv hf hk hl ⊢
 cases z0 with
 |true=>repeat' ((conv=>whnf);first|exact trivial|refine rp _ (h0) ?_|refine rb1 ?_|refine aS ?_|fail)
 |false=>
 rw [Bool.false_or]
 have h1:=BS v hv
 have h2:=Ar l 141 l.length sN hl fun i h=>xV l[i] (hk _ (List.getElem_mem h))
 rw [show ((l.length:Int)==(l.length:Int))=true by simp,Bool.true_and] at h2
 have h3:=xV f hf
 have hE:=su f e0
 have hvn:=xG n
 have hvm:=xG m
 have htn:=zZ n
 have htm:=zZ m
 have hlen:((l.map T.str).length:Int)=(l.length:Int):=by rw [List.length_map]
 generalize uz v=pv at *
 generalize l.all sN=al at *
 generalize sN f=nd at *
 generalize sa f e0=e at *
 repeat' ((conv=>whnf);first|refine rp _ (h0) ?_|refine aS ?_|fail)
 refine rh (β:=Unit) (fun _=>{sl:=[(1,.ptr 1 0),(31,.t (.bool (!(pv&&decide (1≤l.length)&&decide (l.length≤4)&&al))))],bx:=[(1,.d 6 (se ⟨k,v,l,f,n,m⟩))]}) (fun _=>True) ?_ ?_
 ·have h2':DCalls Tryz.prog 153 [.slice 1 (l.map .str),I ((l.map T.str).length:Int),.clos 141 []] (.bool al):=by rw [hlen];exact h2
  by_cases c0:l.length=0
  ·have e0':((l.map T.str).length:Int)=0:=by omega
   rw [decide_eq_false (show ¬1≤l.length by omega),Bool.and_false,Bool.false_and,Bool.false_and]
   cases pv <;> repeat' ((conv=>whnf);first|refine rp _ (h1) ?_|refine qi e0' ?_|(exact ⟨(),trivial,by (repeat' (first|exact trivial|exact LeV.same _|exact LeB.same _|exact rfl|exact fun _ _ _=>trivial|refine And.intro ?_ ?_));done⟩)|refine nT_ ?_|refine aS ?_|fail)
  ·have e0':((l.map T.str).length:Int)≠0:=by omega
   rw [decide_eq_true (show 1≤l.length by omega),Bool.and_true]
   by_cases c4:l.length≤4
   ·have e4: ¬((l.map T.str).length:Int)>4:=by omega
    rw [decide_eq_true c4,Bool.and_true]
    cases pv <;> cases al <;> repeat' ((conv=>whnf);first|refine rp _ (h1) ?_|refine qh e0' ?_|refine qe e4 ?_|refine rp _ (h2') ?_|(exact ⟨(),trivial,by (repeat' (first|exact trivial|exact LeV.same _|exact LeB.same _|exact rfl|exact fun _ _ _=>trivial|refine And.intro ?_ ?_));done⟩)|refine nT_ ?_|refine aS ?_|fail)
   ·have e4:((l.map T.str).length:Int)>4:=by omega
    rw [decide_eq_false c4,Bool.and_false,Bool.false_and]
    cases pv <;> repeat' ((conv=>whnf);first|refine rp _ (h1) ?_|refine qh e0' ?_|refine qg e4 ?_|(exact ⟨(),trivial,by (repeat' (first|exact trivial|exact LeV.same _|exact LeB.same _|exact rfl|exact fun _ _ _=>trivial|refine And.intro ?_ ?_));done⟩)|refine nT_ ?_|refine aS ?_|fail)
 rintro _ _
 generalize (pv&&decide (1≤l.length)&&decide (l.length≤4)&&al)=g at *
 cases g with
 |false=>repeat' ((conv=>whnf);first|exact trivial|refine rb0 ?_|fail)
 |true=>
 rw [Bool.true_and]
 skip
 refine rh (β:=Unit) (fun _=>{sl:=[(1,.ptr 1 0),(3,.t (.bool ((n==0)&&(m==0))))],bx:=[(1,.d 6 (se ⟨k,v,l,f,n,m⟩))]}) (fun _=>True) ?_ ?_
 ·by_cases hn:n=0
  ·by_cases hm:m=0
   ·rw [show ((n==0)&&(m==0))=true by simp [hn,hm]]
    repeat' ((conv=>whnf);first|refine qi hn ?_|refine qi hm ?_|(exact ⟨(),trivial,by (repeat' (first|exact trivial|exact LeV.same _|exact LeB.same _|exact rfl|exact fun _ _ _=>trivial|refine And.intro ?_ ?_));done⟩)|refine nT_ ?_|refine aS ?_|fail)
   ·rw [show ((n==0)&&(m==0))=false by simp [hm]]
    repeat' ((conv=>whnf);first|refine qi hn ?_|refine qh hm ?_|(exact ⟨(),trivial,by (repeat' (first|exact trivial|exact LeV.same _|exact LeB.same _|exact rfl|exact fun _ _ _=>trivial|refine And.intro ?_ ?_));done⟩)|refine nT_ ?_|refine aS ?_|fail)
  ·rw [show ((n==0)&&(m==0))=false by simp [hn]]
   repeat' ((conv=>whnf);first|refine qh hn ?_|(exact ⟨(),trivial,by (repeat' (first|exact trivial|exact LeV.same _|exact LeB.same _|exact rfl|exact fun _ _ _=>trivial|refine And.intro ?_ ?_));done⟩)|refine nT_ ?_|refine aS ?_|fail)
 rintro _ _
 unfold uD
 generalize ((n==0)&&(m==0))=br at *
 generalize tO n=vn at *
 generalize tO m=vm at *
 generalize uQ n=tn at *
 generalize uQ m=tm at *
 by_cases k1:k=1
 ·subst k1
  rw [if_pos rfl]
  cases br <;> cases e <;> repeat' ((conv=>whnf);first|exact trivial|refine nb_ _ hE ?_|refine rp _ (h3) ?_|refine nT_ ?_|refine aE1 ?_|refine rb1 ?_|refine rb0 ?_|refine rbx ?_|refine aS ?_|fail)
 rw [if_neg k1]
 by_cases k2:k=2
 ·subst k2
  rw [if_pos rfl]
  cases br <;> repeat' ((conv=>whnf);first|exact trivial|refine nb_ _ hE ?_|refine nT_ ?_|refine aE1 ?_|refine aE0 ?_|refine rb0 ?_|refine rbx ?_|refine aS ?_|fail)
 rw [if_neg k2]
 by_cases k3:k=3
 ·subst k3
  rw [if_pos rfl]
  by_cases hm:m=0
  ·rw [show (m==0)=true by simp [hm]]
   cases tn <;> repeat' ((conv=>whnf);first|exact trivial|refine nb_ _ hE ?_|refine rp _ (htn) ?_|refine qi hm ?_|refine nT_ ?_|refine aE1 ?_|refine aE0 ?_|refine rb0 ?_|refine rbx ?_|refine aS ?_|fail)
  ·rw [show (m==0)=false by simp [hm]]
   cases tn <;> repeat' ((conv=>whnf);first|exact trivial|refine rp _ (htn) ?_|refine qh hm ?_|refine nT_ ?_|refine aE1 ?_|refine aE0 ?_|refine rb0 ?_|refine aS ?_|fail)
 rw [if_neg k3]
 by_cases k4:k=4
 ·subst k4
  rw [if_pos rfl]
  cases nd <;> cases vn <;> cases vm <;> repeat' ((conv=>whnf);first|exact trivial|refine rp _ (h3) ?_|refine rp _ (hvn) ?_|refine rp _ (hvm) ?_|refine nT_ ?_|refine aE1 ?_|refine aE0 ?_|refine nD_ (fun hq=>?_) (fun hq=>?_)|refine rb1 ?_|refine rb0 ?_|refine aS ?_|fail)
 rw [if_neg k4]
 by_cases k5:k=5
 ·subst k5
  rw [if_pos rfl]
  cases br <;> repeat' ((conv=>whnf);first|exact trivial|refine rp _ (h3) ?_|refine nT_ ?_|refine aE1 ?_|refine aE0 ?_|refine rb0 ?_|refine rbx ?_|refine aS ?_|fail)
 rw [if_neg k5]
 by_cases k6:k=6
 ·subst k6
  rw [if_pos rfl]
  cases e <;> cases vn <;> repeat' ((conv=>whnf);first|exact trivial|refine nb_ _ hE ?_|refine rp _ (hvn) ?_|refine rp _ (htm) ?_|refine nT_ ?_|refine aE1 ?_|refine aE0 ?_|refine nD_ (fun hq=>?_) (fun hq=>?_)|refine rb0 ?_|refine rbx ?_|refine aS ?_|fail)
 rw [if_neg k6]
 repeat' ((conv=>whnf);first|exact trivial|refine nT_ ?_|refine aE0 ?_|refine rb0 ?_|refine aS ?_|fail)
theorem y7 (s:RS) (h:SmS (2^60) s):DCalls Tryz.prog 79 [.agg (se s)] (I (sV s)):=by
 refine qF (rs:=[.tmp 2]) mixed Tryz.func79 l79 rfl rfl rfl (r:=[.int _ _]) (nlZ rfl) ?_
 have h1:=Fs s (by have:=h.var;omega) (by have:=h.field;omega) (fun k hk=>by have:=h.keys k hk;omega) h.len
 unfold sV
 generalize okS s=b at *
 cases b <;> repeat' ((conv=>whnf);first|exact trivial|refine rp _ (h1) ?_|refine rix ?_|(refine And.intro (by first|(rfl;done)|fail) ?_)|fail)
def fz2 {α:Type} (f g:α→Int) (xs:List α):Int:=sG (xs.flatMap fun x=>[f x,g x])
theorem zz {α:Type} {f g:α→Int}: ∀{xs:List α} {i:Nat} (h:i<xs.length),(∀ j (h:j<xs.length),j<i→f xs[j]=0∧g xs[j]=0)→f xs[i]≠0→fz2 f g xs=f xs[i]
 |x::xs,0,h,_,h0=>by simp at h0;simp [fz2,sG,h0]
 |x::xs,i+1,h,hz,h0=>by
  have h1:=hz 0 (by simp) (by omega)
  simp only [List.getElem_cons_zero] at h1
  have:=zz (f:=f) (g:=g) (xs:=xs) (i:=i) (by simpa using h) (fun j hj hlt=>hz (j+1) (by simpa using hj) (by omega)) h0
  unfold fz2 at this ⊢
  simp only [List.flatMap_cons,List.cons_append,List.nil_append,sG,h1.1,h1.2,ne_eq,not_true_eq_false,if_false,List.getElem_cons_succ]
  exact this
theorem zA {α:Type} {f g:α→Int}: ∀{xs:List α} {i:Nat} (h:i<xs.length),(∀ j (h:j<xs.length),j<i→f xs[j]=0∧g xs[j]=0)→f xs[i]=0→g xs[i]≠0→fz2 f g xs=g xs[i]
 |x::xs,0,h,_,hf,h0=>by simp at h0 hf;simp [fz2,sG,h0,hf]
 |x::xs,i+1,h,hz,hf,h0=>by
  have h1:=hz 0 (by simp) (by omega)
  simp only [List.getElem_cons_zero] at h1
  have:=zA (f:=f) (g:=g) (xs:=xs) (i:=i) (by simpa using h) (fun j hj hlt=>hz (j+1) (by simpa using hj) (by omega)) hf h0
  unfold fz2 at this ⊢
  simp only [List.flatMap_cons,List.cons_append,List.nil_append,sG,h1.1,h1.2,ne_eq,not_true_eq_false,if_false,List.getElem_cons_succ]
  exact this
theorem yB {α:Type} {f g:α→Int}: ∀{xs:List α},(∀ j (h:j<xs.length),f xs[j]=0∧g xs[j]=0)→fz2 f g xs=0
 |[],_=>rfl
 |x::xs,hz=>by
  have h1:=hz 0 (by simp)
  simp only [List.getElem_cons_zero] at h1
  have:=yB (f:=f) (g:=g) (xs:=xs) fun j hj=>hz (j+1) (by simpa using hj)
  unfold fz2 at this ⊢
  simp only [List.flatMap_cons,List.cons_append,List.nil_append,sG,h1.1,h1.2,ne_eq,not_true_eq_false,if_false]
  exact this
def tZ (gs:List RG):Int:=if gs.length>8 then 2 else fz2 (fun g=>sO g.pol) (fun g=>sV g.st) gs
abbrev z15:List T:=[I 0,I 0,.str ⟨#[]⟩,I 0,I 0,.nil,.str ⟨#[]⟩,I 0,.nil,I 0,.str ⟨#[]⟩,.nil,.str ⟨#[]⟩,I 0,I 0]
theorem ue (g:RG):((aK z15 0 15 (sc g)).drop 0).take 9=r9 g.pol:=by
 rw [mL (n:=15) rfl,List.drop_zero]
 unfold sc
 rw [← sd g.pol,List.take_left]
theorem vS (g:RG):((aK z15 0 15 (sc g)).drop 9).take 6=se g.st:=by
 rw [mL (n:=15) rfl]
 unfold sc
 have e:(r9 g.pol++se g.st).drop 9=se g.st:=by
  rw [← sd g.pol,List.drop_left]
 rw [e];rfl
theorem Ap (gs:List RG) (hl:gs.length<2^60) (hg: ∀g∈gs,SmG (2^59) g):DCalls Tryz.prog 95 [.slice 15 (gs.map sg)] (I (tZ gs)):=by
 refine qF (rs:=[.tmp 2]) mixed Tryz.func95 l95 rfl rfl rfl (r:=[.int _ _]) (nlZ rfl) ?_
 have hlen:((gs.map sg).length:Int)=(gs.length:Int):=by rw [List.length_map]
 unfold tZ
 by_cases h8:gs.length>8
 ·rw [if_pos h8]
  have e8:((gs.map sg).length:Int)>8:=by omega
  repeat' ((conv=>whnf);first|exact trivial|refine qg e8 ?_|refine rix ?_|refine aS ?_|fail)
 rw [if_neg h8]
 have e8: ¬((gs.map sg).length:Int)>8:=by omega
 repeat' ((conv=>whnf);first|refine qe e8 ?_|refine aS ?_|fail)
 refine q7 (α:=Nat) (fun i=>{sl:=[(10,.t (.slice 15 (gs.map sg))),(11,.t (I gs.length)),(12,.t (I i))],bx:=[]})
  (fun i=>i≤gs.length∧ ∀j (h:j<gs.length),j<i→sO gs[j].pol=0∧sV gs[j].st=0) (fun i=>gs.length - i) 0 (by simp) ?_ ?_
 ·repeat' (first|(exact leI (by simp))|exact trivial|exact LeV.same _|exact rfl|exact fun _ _ _=>trivial|refine And.intro ?_ ?_)
 rintro i ⟨hi,hp⟩
 rcases Nat.lt_or_ge i gs.length with h|h
 ·have hm:=hg gs[i] (List.getElem_mem h)
  have h1:=x4 gs[i].pol (by have:=hm.wt;omega) (hm.names (by omega))
  have h2:=y7 gs[i].st (hm.st.mono (by omega))
  have e0:gs[i]? =some gs[i]:=ggZ h
  by_cases c1:sO gs[i].pol=0
  ·rw [c1] at h1
   by_cases c2:sV gs[i].st=0
   ·rw [c2] at h2
    repeat' ((conv=>whnf);first|(refine nv_ (.agg (sc gs[i])) (by first|((simp [h];rfl);done)|fail) ?_)|(refine nv_ (.agg (r9 gs[i].pol)) (by first|(exact congrArg T.agg (ue gs[i]);done)|fail) ?_)|(refine nv_ (.agg (se gs[i].st)) (by first|(exact congrArg T.agg (vS gs[i]);done)|fail) ?_)|refine rp _ (h1) ?_|refine rp _ (h2) ?_|refine aN0 ?_|refine aD1 ?_|(refine And.intro (by first|exact ⟨sq _,nlZ rfl⟩|exact sq _|fail) ?_)|refine aS ?_|fail)
    refine ⟨i+1,⟨h,fun j hj hlt=>?_⟩,by omega,?_⟩
    ·rcases Nat.lt_or_ge j i with h4|h4
     ·exact hp j hj h4
     ·obtain rfl:j=i:=by omega
      exact ⟨c1,c2⟩
    ·repeat' (first|exact trivial|exact LeV.same _|exact rfl|exact fun _ _ _=>trivial|exact lI|refine And.intro ?_ ?_)
   ·have e:=zA (f:=fun g:RG=>sO g.pol) (g:=fun g=>sV g.st) h hp c1 c2
    rw [e]
    generalize sV gs[i].st=x at *
    repeat' ((conv=>whnf);first|exact trivial|(refine nv_ (.agg (sc gs[i])) (by first|((simp [h];rfl);done)|fail) ?_)|(refine nv_ (.agg (r9 gs[i].pol)) (by first|(exact congrArg T.agg (ue gs[i]);done)|fail) ?_)|(refine nv_ (.agg (se gs[i].st)) (by first|(exact congrArg T.agg (vS gs[i]);done)|fail) ?_)|refine rp _ (h1) ?_|refine rp _ (h2) ?_|refine aN1 ?_|refine aN0 ?_|refine aD1 ?_|refine rix ?_|(refine And.intro (by first|exact ⟨sq _,nlZ rfl⟩|exact sq _|fail) ?_)|refine aS ?_|fail)
  ·have e:=zz (f:=fun g:RG=>sO g.pol) (g:=fun g=>sV g.st) h hp c1
   rw [e]
   generalize sO gs[i].pol=x at *
   repeat' ((conv=>whnf);first|exact trivial|(refine nv_ (.agg (sc gs[i])) (by first|((simp [h];rfl);done)|fail) ?_)|(refine nv_ (.agg (r9 gs[i].pol)) (by first|(exact congrArg T.agg (ue gs[i]);done)|fail) ?_)|refine rp _ (h1) ?_|refine aN1 ?_|refine aD1 ?_|refine rix ?_|(refine And.intro (by first|exact ⟨sq _,nlZ rfl⟩|exact sq _|fail) ?_)|refine aS ?_|fail)
 ·rw [yB fun j hj=>hp j hj (by omega)]
  repeat' ((conv=>whnf);first|exact trivial|refine aD0 ?_|refine rix ?_|refine aS ?_|fail)
end Go.TY
end
section
namespace Go.TY
open Go Go.DL Go.MM Go.Proofs
def sX (l:List Fd) (s:ByteArray):Bool:=(findF l s).isSome
theorem CC (l:List Fd) (hl:LOk l) (s:ByteArray):DCalls Tryz.prog 80 [.str s,.cptr [fds l] 0] (.bool (sX l s)):=by
 refine qF (rs:=[.tmp 3]) mixed Tryz.func80 l80 rfl rfl rfl (r:=[.bool _]) (nlZ rfl) ?_
 have h74:=t74 l s hl.len
 unfold uU at h74
 unfold sX
 cases hF:findF l s with
 |none=>
  rw [hF] at h74
  dsimp only at h74
  repeat' ((conv=>whnf);first|exact trivial|refine rp _ (h74) ?_|refine nT_ ?_|refine rb0 ?_|refine aS ?_|fail)
 |some F=>
  rw [hF] at h74
  dsimp only at h74
  repeat' ((conv=>whnf);first|exact trivial|refine rp _ (h74) ?_|refine nT_ ?_|refine rb1 ?_|refine aS ?_|fail)
theorem Jc (xs:List ByteArray) (f:FuncId) (c:T) (p:ByteArray→Bool) (hl:xs.length<2^60) (hc: ∀x∈xs,DCalls Tryz.prog f [.str x,c] (.bool (p x))):
  DCalls Tryz.prog 81 [.slice 1 (xs.map .str),.clos f [c]] (.bool (xs.all p)):=by
 refine qF (rs:=[.tmp 4]) mixed Tryz.func81 l81 rfl rfl rfl (r:=[.bool _]) (nlZ rfl) ?_
 have h1: ∀(i:Nat) (h:i<xs.length),DCalls Tryz.prog 125 [.str xs[i],.cptr [.clos f [c]] 0] (.bool (!p xs[i])):=fun i h=>by
  refine qF (rs:=[.tmp 3]) mixed Tryz.func125 Nn rfl rfl rfl (r:=[.bool _]) (nlZ rfl) ?_
  have h2:=hc xs[i] (List.getElem_mem h)
  repeat' ((conv=>whnf);first|exact trivial|refine rp _ (h2) ?_|refine nT_ ?_|refine rbx ?_|refine aS ?_|fail)
 have h2:=yv xs 125 (.cptr [.clos f [c]] 0) (fun x=> !p x) hl h1
 have e:xs.all p= !(xs.any fun x=> !p x):=by rw [List.all_eq_not_any_not]
 rw [e]
 generalize (xs.any fun x=> !p x)=b at *
 repeat' ((conv=>whnf);first|exact trivial|refine rp _ (h2) ?_|refine rbx ?_|refine aS ?_|fail)
theorem Ho (xs:List ByteArray) (s:ByteArray) (hl:xs.length<2^60):DCalls Tryz.prog 126 [.slice 1 (xs.map .str),.str s] (I (vh (fun x=>sa s x) xs)):=by
 refine qF (rs:=[.tmp 4]) mixed Tryz.func126 Np rfl rfl rfl (r:=[.int _ _]) (nlZ rfl) ?_
 skip
 refine q7 (α:=Nat) (fun i=>{sl:=[(0,.t (.slice 1 (xs.map .str))),(1,.t (.str s)),(6,.t (.slice 1 (xs.map .str))),(7,.t (I xs.length)),(8,.t (I i))],bx:=[]})
  (fun i=>i≤xs.length∧ ∀j (h:j<xs.length),j<i→(fun x=>sa s x) xs[j]=false) (fun i=>xs.length - i) 0 (by simp) ?_ ?_
 ·repeat' (first|(exact leI (by simp))|exact trivial|exact LeV.same _|exact rfl|exact fun _ _ _=>trivial|refine And.intro ?_ ?_)
 rintro i ⟨hi,hp⟩
 rcases Nat.lt_or_ge i xs.length with h|h
 ·have hE:=su s xs[i]
  cases hb:sa s xs[i] with
  |true=>
   rw [hb] at hE
   rw [yC (p:=fun x=>sa s x) h hb hp]
   repeat' ((conv=>whnf);first|exact trivial|(refine nv_ (.str xs[i]) (by first|(simp [h];done)|fail) ?_)|refine nb_ _ hE ?_|refine nT_ ?_|refine aD1 ?_|refine rix ?_|refine aS ?_|fail)
  |false=>
   rw [hb] at hE
   repeat' ((conv=>whnf);first|(refine nv_ (.str xs[i]) (by first|(simp [h];done)|fail) ?_)|refine nb_ _ hE ?_|refine nT_ ?_|refine aD1 ?_|refine aS ?_|fail)
   refine ⟨i+1,⟨h,fun j hj hlt=>?_⟩,by omega,?_⟩
   ·rcases Nat.lt_or_ge j i with h4|h4
    ·exact hp j hj h4
    ·obtain rfl:j=i:=by omega
     exact hb
   ·repeat' (first|exact trivial|exact LeV.same _|exact rfl|exact fun _ _ _=>trivial|exact lI|refine And.intro ?_ ?_)
 ·rw [yD (p:=fun x=>sa s x) fun j hj=>hp j hj (by omega)]
  repeat' ((conv=>whnf);first|exact trivial|refine aD0 ?_|refine rix ?_|refine aS ?_|fail)
theorem DO (xs:List ByteArray) (s:ByteArray) (hl:xs.length<2^60):DCalls Tryz.prog 82 [.slice 1 (xs.map .str),.str s] (.bool (xs.any fun x=>sa s x)):=by
 refine qF (rs:=[.tmp 4]) mixed Tryz.func82 l82 rfl rfl rfl (r:=[.bool _]) (nlZ rfl) ?_
 have h1:=Ho xs s hl
 rw [xP (fun x=>sa s x) xs]
 generalize vh (fun x=>sa s x) xs=k at *
 repeat' ((conv=>whnf);first|exact trivial|refine rp _ (h1) ?_|refine nD_ (fun hq=>?_) (fun hq=>?_)|refine rb1 ?_|refine rb0 ?_|refine aS ?_|fail)
def vV (ks:List ByteArray) (i:Nat):Bool:=(ks.take i).any fun x=>sa (ks.getD i e0) x
def xL (ks:List ByteArray):Bool:=(List.range ks.length).any (vV ks)
def Bd (l:List Fd) (k:Int) (f:ByteArray) (m:Int):Int:=match findF l f with
 |none=>0
 |some F=>if k=4∧m>((2^F.w - 1:Nat):Int) then 1 else 0
def ta (l:List Fd) (s:RS):Int:=
 if sV s≠0 then sV s
 else if s.kind=0 then 0
 else if (!sa s.field e0&& !sX l s.field)|| !s.key.all (sX l) then 4
 else if xL s.key then 1
 else Bd l s.kind s.field s.m
theorem AY {s:RS} (h:sV s=0) (hk:s.kind=4):sa s.field e0=false:=by
 unfold sV at h
 have h1:okS s=true:=by
  cases e:okS s with
  |true=>rfl
  |false=>rw [e] at h;simp at h
 unfold okS at h1
 have h2:vB s=false:=by unfold vB;rw [hk];rfl
 rw [h2,Bool.false_or] at h1
 simp only [Bool.and_eq_true] at h1
 have h3:=h1.2
 unfold uD at h3
 rw [hk] at h3
 simp only [show ¬((4:Int)=1) by omega,show ¬((4:Int)=2) by omega,show ¬((4:Int)=3) by omega,if_false,if_true,Bool.and_eq_true] at h3
 exact xR h3.1.1.1
theorem Fl (l:List Fd) (hl:LOk l) (s:RS) (h:SmS (2^59) s):DCalls Tryz.prog 19 [fds l,.agg (se s)] (I (ta l s)):=by
 refine qF (rs:=[.tmp 4]) mixed Tryz.func19 l19 rfl rfl rfl (r:=[.int _ _]) (nlZ rfl) ?_
 have h1:=y7 s (h.mono (by omega))
 have h4f:=fun h hk=>@AY s h hk
 have hkl:=h.len
 unfold ta
 by_cases c0:sV s=0
 case neg=>
  rw [if_pos c0]
  generalize sV s=e at *
  obtain ⟨k,v,ks,f,n,m⟩:=s
  repeat' ((conv=>whnf);first|exact trivial|refine rp _ (h1) ?_|refine aN1 ?_|refine rix ?_|refine aS ?_|fail)
 rw [c0] at h1
 have h4f:=h4f c0
 rw [if_neg (by simpa using c0)]
 clear c0
 obtain ⟨k,v,ks,f,n,m⟩:=s
 dsimp only at hkl h4f ⊢
 by_cases k0:k=0
 ·rw [if_pos k0]
  repeat' ((conv=>whnf);first|exact trivial|refine rp _ (h1) ?_|refine qi k0 ?_|refine nT_ ?_|refine aN0 ?_|refine rix ?_|refine aS ?_|fail)
 rw [if_neg k0]
 have hf:=CC l hl f
 have hks:=Jc ks 80 (.cptr [fds l] 0) (sX l) (by omega) fun x _=>CC l hl x
 have hE:=su f e0
 generalize ks.all (sX l)=al at *
 repeat' ((conv=>whnf);first|refine rp _ (h1) ?_|refine qh k0 ?_|refine nT_ ?_|refine aN0 ?_|refine aS ?_|fail)
 refine rh (β:=Unit) (fun _=>{sl:=[(2,.ptr 2 0),(3,.ptr 3 0),(38,.t (.bool ((!sa f e0&& !sX l f)|| !al)))],bx:=[(2,.d 1 [fds l]),(3,.d 6 (se ⟨k,v,ks,f,n,m⟩))]}) (fun _=>True) ?_ ?_
 ·generalize sX l f=fb at *
  generalize sa f e0=b at *
  have hN:(!(f.toList==e0.toList))= !b:=by rw [hE]
  cases b <;> cases fb <;> cases al <;> repeat' ((conv=>whnf);first|refine nb_ _ hN ?_|refine rp _ (hf) ?_|refine rp _ (hks) ?_|(exact ⟨(),trivial,by (repeat' (first|exact trivial|exact LeV.same _|exact LeB.same _|exact rfl|exact fun _ _ _=>trivial|refine And.intro ?_ ?_));done⟩)|refine nT_ ?_|refine aS ?_|fail)
 rintro _ _
 have hgood:((!sa f e0&& !sX l f)|| !al)=false→k=4→sX l f=true:=fun hb k4=>by
  rw [h4f k4] at hb
  cases hfb:sX l f with
  |true=>rfl
  |false=>rw [hfb] at hb;simp at hb
 generalize ((!sa f e0&& !sX l f)|| !al)=bad at *
 cases bad with
 |true=>repeat' ((conv=>whnf);first|exact trivial|refine rix ?_|fail)
 |false=>
 repeat' ((conv=>whnf);first|refine nT_ ?_|refine aS ?_|fail)
 refine qQ 0 (α:=Nat) (β:=Unit) (fun i=>{sl:=[(2,.ptr 2 0),(3,.ptr 3 0),(40,.t (.slice 1 (ks.map .str))),(41,.t (I ks.length)),(42,.t (I i))],bx:=[(2,.d 1 [fds l]),(3,.d 6 (se ⟨k,v,ks,f,n,m⟩))]})
  (fun i=>i≤ks.length∧ ∀j,j<i→vV ks j=false) (fun i=>ks.length - i)
  (fun _=>{sl:=[(2,.ptr 2 0),(3,.ptr 3 0)],bx:=[(2,.d 1 [fds l]),(3,.d 6 (se ⟨k,v,ks,f,n,m⟩))]}) (fun _=>xL ks=false) 0 (by simp) ?_ ?_ ?_
 ·repeat' (first|(exact leI (by simp))|exact trivial|exact LeV.same _|exact LeB.same _|exact rfl|exact fun _ _ _=>trivial|refine And.intro ?_ ?_)
 ·rintro i ⟨hi,hp⟩
  rcases Nat.lt_or_ge i ks.length with h|h
  ·have hc:=DO (ks.take i) ks[i] (by rw [List.length_take];omega)
   have hd:vV ks i=(ks.take i).any fun x=>sa ks[i] x:=by unfold vV;rw [List.getD_eq_getElem?_getD,ggZ h];rfl
   rw [← hd] at hc
   cases hb:vV ks i with
   |true=>
    rw [hb] at hc
    have e:xL ks=true:=List.any_eq_true.2 ⟨i,List.mem_range.2 h,hb⟩
    rw [e]
    repeat' ((conv=>whnf);first|exact trivial|(refine nv_ (.str ks[i]) (by first|(simp [h];done)|fail) ?_)|(refine nv_ (.slice 1 ((ks.take i).map .str)) (by first|(simp;done)|fail) ?_)|refine rp _ (hc) ?_|refine nT_ ?_|refine aD1 ?_|refine rix ?_|(refine And.intro (by first|((simp;omega);done)|fail) ?_)|refine aS ?_|fail)
   |false=>
    rw [hb] at hc
    repeat' ((conv=>whnf);first|(refine nv_ (.str ks[i]) (by first|(simp [h];done)|fail) ?_)|(refine nv_ (.slice 1 ((ks.take i).map .str)) (by first|(simp;done)|fail) ?_)|refine rp _ (hc) ?_|refine nT_ ?_|refine aD1 ?_|(refine And.intro (by first|((simp;omega);done)|fail) ?_)|refine aS ?_|fail)
    refine ⟨i+1,⟨h,fun j hj=>?_⟩,by omega,?_⟩
    ·rcases Nat.lt_or_ge j i with h4|h4
     ·exact hp j h4
     ·obtain rfl:j=i:=by omega
      exact hb
    ·repeat' (first|exact trivial|exact LeV.same _|exact LeB.same _|exact rfl|exact fun _ _ _=>trivial|exact lI|refine And.intro ?_ ?_)
  ·repeat' ((conv=>whnf);first|refine aD0 ?_|refine aS ?_|fail)
   refine ⟨(),?_,?_⟩
   ·unfold xL
    rw [List.any_eq_false]
    intro j hj
    rw [hp j (by have:=List.mem_range.1 hj;omega)];simp
   ·repeat' (first|exact trivial|exact LeV.same _|exact LeB.same _|exact rfl|exact fun _ _ _=>trivial|refine And.intro ?_ ?_)
 ·rintro _ hd
  rw [hd]
  simp only [Bool.false_eq_true,if_false]
  have h74:=t74 l f hl.len
  unfold uU at h74
  have hy:Bd l k f m=match findF l f with
   |none=>0
   |some F=>if k=4∧m>((2^F.w - 1:Nat):Int) then 1 else 0:=rfl
  generalize Bd l k f m=y at *
  cases hF:findF l f with
  |none=>
   rw [hF] at h74 hy
   dsimp only at h74 hy
   subst hy
   by_cases k4:k=4
   ·have:=hgood rfl k4
    unfold sX at this
    rw [hF] at this;cases this
   ·repeat' ((conv=>whnf);first|exact trivial|refine rp _ (h74) ?_|refine qh k4 ?_|refine nT_ ?_|refine rix ?_|refine aS ?_|fail)
  |some F=>
   rw [hF] at h74 hy
   dsimp only at h74 hy
   have h97:=t97 F (hl.find hF)
   generalize (2^F.w - 1:Nat)=M at *
   by_cases k4:k=4
   ·by_cases hm:m>(M:Int)
    ·rw [if_pos ⟨k4,hm⟩] at hy
     subst hy
     repeat' ((conv=>whnf);first|exact trivial|refine rp _ (h74) ?_|refine qi k4 ?_|refine rp _ (h97) ?_|refine qg hm ?_|refine nT_ ?_|refine rix ?_|refine aS ?_|fail)
    ·rw [if_neg (fun h=>hm h.2)] at hy
     subst hy
     repeat' ((conv=>whnf);first|exact trivial|refine rp _ (h74) ?_|refine qi k4 ?_|refine rp _ (h97) ?_|refine qe hm ?_|refine nT_ ?_|refine rix ?_|refine aS ?_|fail)
   ·rw [if_neg (fun h=>k4 h.1)] at hy
    subst hy
    repeat' ((conv=>whnf);first|exact trivial|refine rp _ (h74) ?_|refine qh k4 ?_|refine nT_ ?_|refine rix ?_|refine aS ?_|fail)
end Go.TY
end
section
namespace Go.TY
open Go Go.DL Go.MM
theorem xi: ∀{l:List Int},sG l=0↔ ∀x∈l,x=0
 |[]=>by simp [sG]
 |x::l=>by
  unfold sG
  by_cases h:x=0
  ·rw [if_neg (by simp [h]),xi]
   simp [h]
  ·rw [if_pos h]
   simp [h]
abbrev wq:RP:=.mk 0 e0 0 0 []
def xW (k:Int) (x y:RO):RO:=.mk k wq e0 0 [x,y]
theorem HR {n d:Nat}:vl n d=0↔n≤200∧d≤20:=by unfold vl;split <;> simp [*]
theorem EO {l:List Fd} {r:RO}:tu l r=0↔(vl r.size r.deep=0∧sC r=true)∧ ∀x∈sY r,uu l x=0:=by
 unfold tu
 by_cases h:sO r≠0
 ·rw [if_pos h]
  refine ⟨fun h2=>absurd h2 h,fun h2=>?_⟩
  unfold sO wK
  rw [if_pos h2.1.1,if_pos h2.1.2]
 ·rw [if_neg h,xi]
  have h1:=Decidable.not_not.1 h
  have h2:=Co h1
  exact ⟨fun k=>⟨h2,fun x hx=>k _ (List.mem_map.2 ⟨x,hx,rfl⟩)⟩,fun k y hy=>by
   obtain ⟨x,hx,rfl⟩:=List.mem_map.1 hy
   exact k.2 x hx⟩
end Go.TY
end
section
namespace Go.TY
open Go Go.DL Go.MM Go.Proofs
theorem FI {k:Int} {p:RP} {f:ByteArray} {n:Int} (h:okO k p f n=true):k=1∨k=2∨k=3∨k=4∨k=5:=by
 unfold okO at h
 by_cases h1:k=1
 ·exact Or.inl h1
 rw [if_neg h1] at h
 by_cases h2:k=2
 ·exact Or.inr (Or.inl h2)
 rw [if_neg h2] at h
 by_cases h3:k=3∨k=4∨k=5
 ·exact Or.inr (Or.inr h3)
 ·rw [if_neg h3] at h;cases h
theorem Jb (N:Nat): ∀r:RO,r.wt≤N→sC r=true→DCalls Tryz.prog 30 [.agg (r9 r)] (I (ua r)):=by
 induction N with
 |zero=>intro r h;obtain ⟨k,p,f,n,a⟩:=r;simp only [RO.wt] at h;omega
 |succ N ih=>
  rintro ⟨k,⟨pk,pf,pn,pm,pa⟩,f,n,l⟩ hr hf
  refine qF (rs:=[.tmp 2]) mixed Tryz.func30 l30 rfl rfl rfl (r:=[.int _ _]) (nlZ rfl) ?_
  simp only [RO.wt] at hr
  simp only [sC,Bool.and_eq_true] at hf
  obtain ⟨⟨f1,f2⟩,f3⟩:=hf
  have f2:l.length=wG k:=by simpa using f2
  have hc:=FI f1
  by_cases h3:k=3∨k=4
  ·have h2:l.length=2:=by rw [f2];unfold wG;rw [if_pos h3]
   obtain ⟨x,y,rfl⟩: ∃x y,l=[x,y]:=by
    match l,h2 with
    |[x,y],_=>exact ⟨x,y,rfl⟩
   simp only [s7,Bool.and_eq_true] at f3
   simp only [th] at hr
   have hx:=ih x (by omega) f3.1
   have hy:=ih y (by omega) f3.2.1
   have hlx:=AZ x
   have hly:=AZ y
   have hm:=Nat.mul_le_mul hlx hly
   rw [ua]
   simp only [wv,List.getD_cons_zero,List.getD_cons_succ]
   have hp:((ua x * ua y:Nat):Int)=(ua x:Int) * (ua y:Int):=Int.natCast_mul _ _
   generalize ua x * ua y=pr at *
   generalize ua x=cx at *
   generalize ua y=cy at *
   rcases h3 with rfl|rfl
   ·rw [if_pos rfl]
    repeat' ((conv=>whnf);first|exact trivial|(refine nv_ (.agg (r9 x)) (by first|exact sy x|fail) ?_)|(refine nv_ (.agg (r9 y)) (by first|exact sy y|fail) ?_)|refine rp _ (hx) ?_|refine rp _ (hy) ?_|refine nT_ ?_|refine aE1 ?_|refine rix ?_|(refine And.intro (by first|exact sd _|fail) ?_)|refine aS ?_|fail)
   ·rw [if_neg (by omega),if_pos rfl]
    repeat' ((conv=>whnf);first|exact trivial|(refine nv_ (.agg (r9 x)) (by first|exact sy x|fail) ?_)|(refine nv_ (.agg (r9 y)) (by first|exact sy y|fail) ?_)|refine rp _ (hx) ?_|refine rp _ (hy) ?_|refine nT_ ?_|refine aE1 ?_|refine aE0 ?_|refine rix ?_|(refine And.intro (by first|exact sd _|fail) ?_)|refine aS ?_|fail)
  by_cases h5:k=5
  ·subst h5
   have h2:l.length=1:=by rw [f2];rfl
   obtain ⟨x,rfl⟩: ∃x,l=[x]:=by
    match l,h2 with
    |[x],_=>exact ⟨x,rfl⟩
   simp only [s7,Bool.and_eq_true] at f3
   simp only [th] at hr
   have hx:=ih x (by omega) f3.1
   rw [ua]
   simp only [wv,List.getD_cons_zero,show ¬((5:Int)=3) by omega,show ¬((5:Int)=4) by omega,if_false,if_true]
   generalize ua x=cx at *
   by_cases h0:cx=0
   ·subst h0
    rw [if_pos rfl]
    repeat' ((conv=>whnf);first|exact trivial|(refine nv_ (.agg (r9 x)) (by first|exact sy x|fail) ?_)|refine rp _ (hx) ?_|refine nT_ ?_|refine aE1 ?_|refine aE0 ?_|refine rix ?_|(refine And.intro (by first|exact sd _|fail) ?_)|refine aS ?_|fail)
   ·rw [if_neg h0]
    repeat' ((conv=>whnf);first|exact trivial|(refine nv_ (.agg (r9 x)) (by first|exact sy x|fail) ?_)|refine rp _ (hx) ?_|refine nT_ ?_|refine aE1 ?_|refine aE0 ?_|refine rix ?_|(refine And.intro (by first|exact sd _|fail) ?_)|refine aS ?_|fail)
  rw [ua,if_neg (by omega),if_neg (by omega),if_neg h5]
  show wpC _ _ _ (nO _ _ [I ((if k=1∧pk=2 then 0 else 1:Nat):Int)])
  by_cases h1:k=1
  ·by_cases hp:pk=2
   ·rw [if_pos ⟨h1,hp⟩]
    repeat' ((conv=>whnf);first|exact trivial|refine qi h1 ?_|refine qi hp ?_|refine nT_ ?_|refine aE0 ?_|refine rix ?_|refine aS ?_|fail)
   ·rw [if_neg (fun h=>hp h.2)]
    repeat' ((conv=>whnf);first|exact trivial|refine qi h1 ?_|refine qh hp ?_|refine nT_ ?_|refine aE0 ?_|refine rix ?_|refine aS ?_|fail)
  ·rw [if_neg (fun h=>h1 h.1)]
   repeat' ((conv=>whnf);first|exact trivial|refine qh h1 ?_|refine nT_ ?_|refine aE0 ?_|refine rix ?_|refine aS ?_|fail)
theorem FP (a b:List Int) (hl:a.length<2^60):DCalls Tryz.prog 99 [.slice 1 (a.map I),.slice 1 (b.map I)] (.bool (a==b)):=by
 refine qF (rs:=[.tmp 4]) mixed Tryz.func99 l99 rfl rfl rfl (r:=[.bool _]) (nlZ rfl) ?_
 have ha:((a.map I).length:Int)=a.length:=by rw [List.length_map]
 have hb:((b.map I).length:Int)=b.length:=by rw [List.length_map]
 by_cases hab:a.length=b.length
 case neg=>
  have e:(a==b)=false:=beq_false_of_ne fun e=>hab (by rw [e])
  rw [e]
  have hn:((a.map I).length:Int)≠((b.map I).length:Int):=by omega
  repeat' ((conv=>whnf);first|exact trivial|refine qm hn ?_|refine rb0 ?_|refine aS ?_|fail)
 have hn:((a.map I).length:Int)=((b.map I).length:Int):=by omega
 repeat' ((conv=>whnf);first|refine qj hn ?_|refine aS ?_|fail)
 refine q7 (α:=Nat) (fun i=>{sl:=[(0,.t (.slice 1 (a.map I))),(1,.t (.slice 1 (b.map I))),(11,.t (.slice 1 (a.map I))),(12,.t (I a.length)),(13,.t (I i))],bx:=[]})
  (fun i=>i≤a.length∧ ∀j (h:j<a.length) (h':j<b.length),j<i→a[j]=b[j]) (fun i=>a.length - i) 0 (by simp) ?_ ?_
 ·repeat' (first|(exact leI (by simp))|exact trivial|exact LeV.same _|exact rfl|exact fun _ _ _=>trivial|refine And.intro ?_ ?_)
 rintro i ⟨hi,hp⟩
 rcases Nat.lt_or_ge i a.length with h|h
 ·have h':i<b.length:=by omega
  by_cases he:a[i]=b[i]
  ·repeat' ((conv=>whnf);first|(refine nv_ (I a[i]) (by first|(simp [h];done)|fail) ?_)|(refine nv_ (I b[i]) (by first|(simp [h'];done)|fail) ?_)|refine qj he ?_|refine nT_ ?_|refine aD1 ?_|refine aS ?_|fail)
   refine ⟨i+1,⟨h,fun j hj hj' hlt=>?_⟩,by omega,?_⟩
   ·rcases Nat.lt_or_ge j i with h4|h4
    ·exact hp j hj hj' h4
    ·obtain rfl:j=i:=by omega
     exact he
   ·repeat' (first|exact trivial|exact LeV.same _|exact rfl|exact fun _ _ _=>trivial|exact lI|refine And.intro ?_ ?_)
  ·have e:(a==b)=false:=beq_false_of_ne fun e=>he (by subst e;rfl)
   rw [e]
   repeat' ((conv=>whnf);first|exact trivial|(refine nv_ (I a[i]) (by first|(simp [h];done)|fail) ?_)|(refine nv_ (I b[i]) (by first|(simp [h'];done)|fail) ?_)|refine qm he ?_|refine nT_ ?_|refine aD1 ?_|refine rb0 ?_|refine aS ?_|fail)
 ·have e:(a==b)=true:=by
   have:a=b:=List.ext_getElem hab fun j h1 h2=>hp j h1 h2 (by omega)
   simp [this]
  rw [e]
  repeat' ((conv=>whnf);first|exact trivial|refine aD0 ?_|refine rb1 ?_|refine aS ?_|fail)
def xU (a b:RV):Bool:=sa a.name b.name&&(a.fam==b.fam)&&(a.n==b.n)&&(a.m==b.m)&&(a.ws==b.ws)
theorem yu {a b:RV}:xU a b=true↔a=b:=by
 obtain ⟨a1,a2,a3,a4,a5⟩:=a
 obtain ⟨b1,b2,b3,b4,b5⟩:=b
 unfold xU
 simp only [Bool.and_eq_true,sE,beq_iff_eq,RV.mk.injEq]
 exact ⟨fun h=>⟨h.1.1.1.1,h.1.1.1.2,h.2,h.1.1.2,h.1.2⟩,fun h=>⟨⟨⟨⟨h.1,h.2.1⟩,h.2.2.2.1⟩,h.2.2.2.2⟩,h.2.2.1⟩⟩
theorem FT (k:Int) (h:1≤k∧k≤6):DCalls Tryz.prog 137 [I k] (I (tH k)):=by
 refine qF (rs:=[.tmp 2]) mixed Tryz.func137 Nw rfl rfl rfl (r:=[.int _ _]) (nlZ rfl) ?_
 obtain rfl|rfl|rfl|rfl|rfl|rfl:k=1∨k=2∨k=3∨k=4∨k=5∨k=6:=by omega
 all_goals repeat' ((conv=>whnf);first|exact trivial|refine nT_ ?_|refine rix ?_|refine aS ?_|fail)
end Go.TY
end
section
namespace Go.TY
open Go Go.DL Go.Proofs
section
variable {α:Type} {enc:α→T} {d:α}
def uk (enc:α→T) (d:α) (ks:List α) (xs:List T):Prop:= ∃js:List Nat,js.Perm (List.range ks.length)∧xs=js.map fun j=>enc (ks.getD j d)
abbrev Ai (enc:α→T) (d:α) (ks:List α) (ix:List Nat):List T:=ix.map fun j=>enc (ks.getD j d)
abbrev esK (enc:α→T) (ks:List α) (vs:List T):List (T×T):=(ks.map enc).zip vs
theorem Af {ks:List α} {vs:List T} {j:Nat} {e:T×T} (h:(esK enc ks vs)[j]? =some e):e.1=enc (ks.getD j d)∧j<ks.length:=by
 rw [List.getElem?_zip_eq_some] at h
 obtain ⟨h1,_⟩:=h
 rw [List.getElem?_map,Option.map_eq_some_iff] at h1
 obtain ⟨k,hk,hk2⟩:=h1
 refine ⟨?_,(gsZ hk).1⟩
 rw [List.getD_eq_getElem?_getD,hk, ←hk2];rfl
theorem xT {ix:List Nat} {n:Nat} (hn:ix.Nodup) (hl: ∀j∈ix,j<n) (ha: ∀j,j<n→j∈ix):ix.Perm (List.range n):=
 (List.perm_ext_iff_of_nodup hn List.nodup_range).2 fun j=>⟨fun h=>List.mem_range.2 (hl j h),fun h=>ha j (List.mem_range.1 h)⟩
theorem za (es:List (T×T)) (ix:List Nat) (j:Nat) (e:T×T) (h:es[j]? =some e):jS es (ix++[j])= .tup [e.1,e.2]:=by
 unfold jS
 rw [List.getLast?_concat]
 simp [h]
theorem uB {β:Type} {f:Nat→β} {n:Nat} {v:β} (h:f n=v):upd f n v=f:=by
 funext m
 by_cases e:m=n
 ·rw [e,af,h]
 ·rw [ae _ _ _ _ e]
theorem vb {ks:List α} {xs:List T} (h:uk enc d ks xs): ∃zs:List α,zs.Perm ks∧xs=zs.map enc:=by
 obtain ⟨js,hp,rfl⟩:=h
 refine ⟨js.map fun j=>ks.getD j d,?_,by simp⟩
 have h1:((List.range ks.length).map fun j=>ks.getD j d)=ks:=by
  apply List.ext_getElem?
  intro i
  rw [List.getElem?_map]
  by_cases h:i<ks.length
  ·simp [h]
  ·simp [h]
 have:=hp.map (fun j=>ks.getD j d)
 rwa [h1] at this
theorem AS (hc: ∀a,(enc a).cells=[enc a]): ∀zs:List α,(zs.map enc).flatMap T.cells=zs.map enc
 |[]=>rfl
 |z::zs=>by rw [List.map_cons,List.flatMap_cons,hc,AS hc zs];rfl
theorem va (hc: ∀a,(enc a).cells=[enc a]) (hf: ∀a,(enc a).flat=true) (js:List Nat) (ks:List α): ∀t∈(js.map fun j=>enc (ks.getD j d)).flatMap T.cells,t.flat=true:=fun t ht=>by
 simp only [List.mem_flatMap,List.mem_map] at ht
 obtain ⟨x,⟨j,_,rfl⟩,hx⟩:=ht
 rw [hc,List.mem_singleton] at hx
 rw [hx];exact hf _
end
theorem yx: ∀(l:List T) (n:Nat),l.length=n→chunk 1 n l=l
 |[],0,_=>rfl
 |x::l,n+1,h=>by
  show x::chunk 1 n l=x::l
  rw [yx l n (by simpa using h)]
 |x::l,0,h=>by simp at h
 |[],n+1,h=>by simp at h
theorem vd {cs vs:List T} {n:Nat} (h:cs.length=n):aK cs 0 n vs=vs:=by simp [aK, ←h]
abbrev xh (x:List UInt8):T:=.str ⟨x.toArray⟩
theorem Cm (s:ByteArray):xh s.toList= .str s:=by
 unfold xh
 congr 1
 rw [ByteArray.toList_eq]
def vR (ks:List ByteArray):List ByteArray:=um ltS ks
theorem yF {ks zs:List ByteArray} (hn:ks.Nodup) (hp:zs.Perm ks):((zs.map ByteArray.toList).mergeSort (fun x y=>decide (x≤y))).map xh=(vR ks).map T.str:=by
 have hpm:=List.mergeSort_perm (zs.map ByteArray.toList) (fun x y=>decide (x≤y))
 have hs:=List.pairwise_mergeSort (le:=fun x y:List UInt8=>decide (x≤y)) (fun a b c h1 h2=>by simp only [decide_eq_true_eq] at *;exact List.le_trans h1 h2) (fun a b=>by simp only [Bool.or_eq_true,decide_eq_true_eq];exact List.le_total a b) (zs.map ByteArray.toList)
 generalize (zs.map ByteArray.toList).mergeSort (fun x y=>decide (x≤y))=ys at *
 have e1: ∀y:List UInt8,(⟨y.toArray⟩:ByteArray).toList=y:=fun y=>by rw [ByteArray.toList_eq]
 have e2:ys.map xh=(ys.map fun y=>(⟨y.toArray⟩:ByteArray)).map T.str:=by rw [List.map_map];rfl
 rw [e2]
 congr 1
 have hpz:(ys.map fun y=>(⟨y.toArray⟩:ByteArray)).Perm zs:=by
  have:=hpm.map (fun y=>(⟨y.toArray⟩:ByteArray))
  rw [List.map_map] at this
  have e3:zs.map ((fun y=>(⟨y.toArray⟩:ByteArray)) ∘ ByteArray.toList)=zs:=by
   refine (List.map_congr_left fun z _=>?_).trans (List.map_id zs)
   show (⟨z.toList.toArray⟩:ByteArray)=z
   rw [ByteArray.toList_eq]
  rwa [e3] at this
 refine y6 Bc ((hpz.trans hp).nodup_iff.2 hn) ?_ fun x=>(hpz.trans hp).mem_iff
 rw [List.pairwise_map]
 refine hs.imp fun {x y} h=>?_
 unfold ltS
 rw [e1,e1,Go.Proofs.bytesLess_eq]
 simp only [decide_eq_true_eq] at h
 exact decide_eq_false (List.not_lt.2 h)
def zi (ks:List Int):List Int:=um ltI ks
theorem Cz {ks zs:List Int} (hn:ks.Nodup) (hp:zs.Perm ks):(zs.mergeSort (fun x y=>decide (x≤y)))=zi ks:=by
 have hpm:=List.mergeSort_perm zs (fun x y=>decide (x≤y))
 have hs:=List.pairwise_mergeSort (le:=fun x y:Int=>decide (x≤y)) (fun a b c h1 h2=>by simp only [decide_eq_true_eq] at *;omega) (fun a b=>by simp only [Bool.or_eq_true,decide_eq_true_eq];omega) zs
 generalize zs.mergeSort (fun x y=>decide (x≤y))=ys at *
 refine y6 FG ((hpm.trans hp).nodup_iff.2 hn) (hs.imp fun {x y} h=>?_) fun x=>(hpm.trans hp).mem_iff
 simp only [decide_eq_true_eq] at h
 exact decide_eq_false (by omega)
end Go.TY
end
section
namespace Go.TY
open Go Go.DL Go.MM
theorem DV (a b:ByteArray):(a==b)=decide (a=b):=by
 obtain ⟨a⟩:=a
 obtain ⟨b⟩:=b
 by_cases h:a=b
 ·subst h
  rw [decide_eq_true rfl]
  show (a==a)=true
  simp
 ·rw [decide_eq_false (fun e=>h (ByteArray.mk.inj e))]
  show (a==b)=false
  exact beq_false_of_ne h
def esS (ks:List ByteArray):List (T×T):=ks.map fun s=>(T.str s,T.bool true)
def esI (ks:List Int):List (T×T):=ks.map fun s=>(T.int .i64 s,T.bool true)
theorem Be (s:ByteArray): ∀ks:List ByteArray,bG (.str s) (.bool true) (esS ks)=esS (if s∈ks then ks else ks++[s])
 |[]=>by simp [esS,bG]
 |k::ks=>by
  have ih:=Be s ks
  show cond (eqL (T.str s).cells (T.str k).cells) _ _=_
  have e:eqL (T.str s).cells (T.str k).cells=decide (s=k):=by
   show ((s==k)&&true)=_
   rw [Bool.and_true,DV]
  rw [e]
  by_cases h:s=k
  ·subst h
   rw [decide_eq_true rfl,if_pos (by simp)];rfl
  ·rw [decide_eq_false h,cond_false]
   show (T.str k,T.bool true)::bG (.str s) (.bool true) (esS ks)=_
   rw [ih]
   by_cases hm:s∈ks
   ·rw [if_pos hm,if_pos (by simp [hm])];rfl
   ·rw [if_neg hm,if_neg (by simp [h,hm])];rfl
theorem zD (s:Int): ∀ks:List Int,bG (.int .i64 s) (.bool true) (esI ks)=esI (if s∈ks then ks else ks++[s])
 |[]=>by simp [esI,bG]
 |k::ks=>by
  have ih:=zD s ks
  show cond (eqL (T.int .i64 s).cells (T.int .i64 k).cells) _ _=_
  have e:eqL (T.int .i64 s).cells (T.int .i64 k).cells=decide (s=k):=by
   show ((s==k)&&true)=_
   rw [Bool.and_true]
   by_cases h:s=k <;> simp [h]
  rw [e]
  by_cases h:s=k
  ·subst h
   rw [decide_eq_true rfl,if_pos (by simp)];rfl
  ·rw [decide_eq_false h,cond_false]
   show (T.int .i64 k,T.bool true)::bG (.int .i64 s) (.bool true) (esI ks)=_
   rw [ih]
   by_cases hm:s∈ks
   ·rw [if_pos hm,if_pos (by simp [hm])];rfl
   ·rw [if_neg hm,if_neg (by simp [h,hm])];rfl
section
variable {α:Type} [DecidableEq α]
theorem vM: ∀{l acc:List α},(once acc l).length≤acc.length+l.length
 |[],acc=>Nat.le_refl _
 |x::l,acc=>by
  unfold once
  have:=vM (l:=l) (acc:=if x∈acc then acc else acc++[x])
  rw [List.length_cons]
  split at this
  ·rw [if_pos (by assumption)];omega
  ·rw [List.length_append,List.length_singleton] at this
   rw [if_neg (by assumption)];omega
end
mutual
theorem wW: ∀r:RO,((sj r).flatMap ux).length≤r.wt
 |.mk k p f n a=>by
  have:=AJ a
  rw [sj,List.flatMap_cons,List.length_append]
  have h:(ux (.mk k p f n a)).length≤p.nodes:=by
   unfold ux
   split
   ·show (tg p).length≤_
    rw [uy,uw];exact Nat.le_refl _
   ·simp
  simp only [RO.wt];omega
theorem AJ: ∀l:List RO,((sM l).flatMap ux).length≤th l
 |[]=>by simp [sM]
 |r::rs=>by
  have h1:=wW r
  have h2:=AJ rs
  rw [sM,List.flatMap_append,List.length_append,th];omega
end
theorem zg (r:RO):td r=vq r:=by
 unfold td vq
 rw [s9]
 congr 1
 funext o
 unfold ux vN
 split
 ·rw [uy]
 ·rfl
theorem w3 {β γ:Type} {g:β→List γ}: ∀{xs:List β},(∀ x∈xs,(g x).length≤1)→(xs.flatMap g).length≤xs.length
 |[],_=>Nat.le_refl _
 |x::xs,h=>by
  have h1:=h x (by simp)
  have h2:=w3 (xs:=xs) fun y hy=>h y (by simp [hy])
  rw [List.flatMap_cons,List.length_append,List.length_cons];omega
def s4 {β γ:Type} (g:β→List γ) (xs:List β) (k:Nat):List γ:=(xs.take k).flatMap g
theorem vZ {β γ:Type} {g:β→List γ} {xs:List β} {k:Nat} {x:β} (h:xs[k]? =some x):s4 g xs (k+1)=s4 g xs k++g x:=by
 obtain ⟨hl,rfl⟩:=gsZ h
 unfold s4
 rw [List.take_succ_eq_append_getElem hl,List.flatMap_append]
 simp
theorem wI {β γ:Type} {g:β→List γ} {xs:List β}:s4 g xs xs.length=xs.flatMap g:=by
 unfold s4;rw [List.take_length]
end Go.TY
end
section
namespace Go.TYV
open Go Go.DL Go.Proofs
noncomputable def c96:aV:=(.seq (.region [oo 4 (.mov (.const .nilmap)),oo 5 (.mov kF)] []) (.seq (.region [oo 19 (.mkmap false [.str]),mv 6 19] []) (.seq (.region [oo 20 (.mkmap false [.str]),mv 7 20] []) (.seq (.seq (.region [mv 21 1,ln 22 21,oo 23 (.mov (Kc 0))] []) (.block 0 (.loop (.seq (.region [oo 24 (.bin .lss (tm 23) (tm 22))] []) (.seq (.cond (tm 24) .skip (.exit 0)) (.seq (.block 1 (.seq (.region [ix 25 15 21 23,lA 26 15 25,⟨some 9,.alloc [Z0,Z0,S0,Z0,Z0,.nil,S0,Z0,.nil,Z0,S0,.nil,S0,Z0,Z0],none,[]⟩,o0 (.store 15 (tm 9) (tm 26))] []) (.seq (.region [fa 27 9 9,lA 28 6 27,⟨some 10,.alloc [Z0,S0,.nil,S0,Z0,Z0],none,[]⟩,o0 (.store 6 (tm 10) (tm 28))] []) (.seq (.seq (.region [fa 29 0 10,ld 30 29,oo 31 (.bin .eql (tm 30) (Kc 0))] []) (.cond (tm 31) (.exit 1) .skip)) (.seq (.region [fa 32 1 10,ld 33 32,fa 34 0 10,ld 35 34,oo 36 (.call 137 [tm 35]),⟨some 37,.build [S0,Z0,.nil,Z0,Z0] [(0,1,(tm 33)),(1,1,(tm 36))],none,[]⟩,⟨some 11,.alloc [S0,Z0,.nil,Z0,Z0],none,[]⟩,o0 (.store 5 (tm 11) (tm 37))] []) (.seq (.seq (.region [fa 38 2 10,ld 39 38,ln 40 39,oo 41 (.mov (Kc 0))] []) (.block 2 (.loop (.seq (.region [oo 42 (.bin .lss (tm 41) (tm 40))] []) (.seq (.cond (tm 42) .skip (.exit 2)) (.seq (.block 3 (.seq (.region [ix 43 1 39 41,ld 44 43,mv 13 44] []) (.seq (.region [mv 46 0,mv 47 13,oo 48 (.call 74 [(tm 46),(tm 47)]),mv 45 48,oo 49 (.ext (tm 45) 0),oo 50 (.ext (tm 45) 1),⟨some 14,.alloc [S0,Z0,Z0],none,[]⟩,o0 (.store 3 (tm 14) (tm 49)),mv 15 50] []) (.region [fa 51 2 11,ld 52 51,fa 53 2 14,ld 54 53,oo 55 (.buildF 1 1 [Z0] [(0,(tm 54))]),oo 56 (.append 46 3 1 8 (tm 52) (tm 55)),fa 57 2 11,o0 (.store 1 (tm 57) (tm 56))] [])))) (.region [oo 58 (.bin .add (tm 41) (Kc 1)),mv 41 58] []))))))) (.seq (.cut (.region [fa 59 0 10,ld 60 59,oo 61 (.bin .eql (tm 60) (Kc 4)),mv 62 61,oF 63 62 (.offA 0 (tm 10)),oF 64 62 (.load 1 false (tm 63)),oF 65 62 (.bin .eql (tm 64) (Kc 6)),oo 66 (.pick (tm 62) kT (tm 65)),mv 16 66] [])) (.seq (.region [mv 68 6,fa 69 1 10,ld 70 69,⟨some 71,.mlook false [.str] (.agg [S0,Z0,.nil,Z0,Z0]) true (tm 68) (tm 70),none,[]⟩,mv 67 71,oo 72 (.ext (tm 67) 0),oo 73 (.ext (tm 67) 1),⟨some 17,.alloc [S0,Z0,.nil,Z0,Z0],none,[]⟩,o0 (.store 5 (tm 17) (tm 72)),mv 18 73] []) (.seq (.cut (.seq (.region [mv 74 16] []) (.cond (tm 74) (.region [fa 75 4 10,ld 76 75,fa 77 5 10,ld 78 77,fa 79 3 11,o0 (.store 1 (tm 79) (tm 76)),fa 80 4 11,o0 (.store 1 (tm 80) (tm 78))] [[],[],[],[],[],[3],[],[]]) .skip))) (.seq (.seq (.cut (.region [mv 81 18,mv 82 81,oT 83 82 (.offA 1 (tm 17)),oT 84 82 (.load 1 false (tm 83)),oT 85 82 (.offA 1 (tm 11)),oT 86 82 (.load 1 false (tm 85)),oT 87 82 (.bin .neq (tm 84) (tm 86)),mT 88 87 82,oF 89 88 (.offA 2 (tm 17)),oF 90 88 (.load 1 false (tm 89)),oF 91 88 (.offA 2 (tm 11)),oF 92 88 (.load 1 false (tm 91)),oF 93 88 (.call 99 [(tm 90),(tm 92)]),oF 94 88 (.not (tm 93)),oT 95 82 (.pick (tm 88) kT (tm 94)),mT 96 95 82,mF 97 16 96,mF 98 97 96,mT 99 7 98,oT 100 98 (.offA 1 (tm 10)),oT 101 98 (.load 1 false (tm 100)),oT 102 98 (.mlook false [.str] (.bool false) false (tm 99) (tm 101)),oF 103 96 (.pick (tm 98) (tm 102) kF),mF 104 103 96,oT 105 104 (.offA 3 (tm 17)),oT 106 104 (.load 1 false (tm 105)),oT 107 104 (.offA 3 (tm 11)),oT 108 104 (.load 1 false (tm 107)),oT 109 104 (.bin .neq (tm 106) (tm 108)),mT 110 109 104,oF 111 110 (.offA 4 (tm 17)),oF 112 110 (.load 1 false (tm 111)),oF 113 110 (.offA 4 (tm 11)),oF 114 110 (.load 1 false (tm 113)),oF 115 110 (.bin .neq (tm 112) (tm 114)),oT 116 104 (.pick (tm 110) kT (tm 115)),oF 117 96 (.pick (tm 104) (tm 116) kF),oT 118 82 (.pick (tm 96) kT (tm 117)),oo 119 (.pick (tm 82) (tm 118) kF)] [])) (.cond (tm 119) (.seq (.region [oo 4 (.mov (.const .nilmap)),oo 5 (.mov kF)] []) .ret) .skip)) (.seq (.seq (.region [mv 120 18,oo 121 (.not (tm 120)),mv 122 121,mF 123 16 122,oo 124 (.pick (tm 122) kT (tm 123))] []) (.cond (tm 124) (.region [mv 125 6,fa 126 1 10,ld 127 126,lA 128 5 11,o0 (.bG false [.str] (tm 125) (tm 127) (tm 128))] []) .skip)) (.region [mv 129 7,fa 130 1 10,ld 131 130,mv 132 7,fa 133 1 10,ld 134 133,oo 135 (.mlook false [.str] (.bool false) false (tm 132) (tm 134)),mv 136 135,mF 137 16 136,oo 138 (.pick (tm 136) kT (tm 137)),o0 (.bG false [.str] (tm 129) (tm 131) (tm 138))] [])))))))))))) (.region [oo 139 (.bin .add (tm 23) (Kc 1)),mv 23 139] []))))))) (.seq (.region [mv 140 6,mv 4 140,oo 5 (.mov kT)] []) .ret)))))
theorem l96:(Tryz.f96.body.bind (bz Tryz.prog 141 [6000015,5000017,6000019,8000055]))=some c96:=by kernel_rfl
end Go.TYV
end
section
namespace Go.TY
open Go Go.DL Go.MM Go.Proofs
abbrev zV:T:=.agg [.str ⟨#[]⟩,I 0,.nil,I 0,I 0]
def esV (all:List RV):List (T×T):=all.map fun v=>(T.str v.name,sQ v)
def esN (num:List (ByteArray×Bool)):List (T×T):=num.map fun p=>(T.str p.1,T.bool p.2)
theorem yA (a b:ByteArray):eqL (T.str a).cells (T.str b).cells=decide (a=b):=by
 show ((a==b)&&true)=_
 rw [Bool.and_true,DV]
theorem Ef (v:RV): ∀all:List RV,bG (.str v.name) (sQ v) (esV all)=esV (uJ v all)
 |[]=>rfl
 |x::xs=>by
  have ih:=Ef v xs
  show cond (eqL (T.str v.name).cells (T.str x.name).cells) _ _=esV (uJ v (x::xs))
  rw [yA]
  unfold uJ
  by_cases h:x.name=v.name
  ·rw [decide_eq_true h.symm,if_pos h];rfl
  ·rw [decide_eq_false (fun e=>h e.symm),if_neg h,cond_false]
   show (T.str x.name,sQ x)::bG (.str v.name) (sQ v) (esV xs)=_
   rw [ih];rfl
theorem Ee (n:ByteArray) (b:Bool): ∀num:List (ByteArray×Bool),bG (.str n) (.bool b) (esN num)=esN (xr n b num)
 |[]=>rfl
 |x::xs=>by
  have ih:=Ee n b xs
  show cond (eqL (T.str n).cells (T.str x.1).cells) _ _=esN (xr n b (x::xs))
  rw [yA]
  unfold xr
  by_cases h:x.1=n
  ·rw [decide_eq_true h.symm,if_pos h];rfl
  ·rw [decide_eq_false (fun e=>h e.symm),if_neg h,cond_false]
   show (T.str x.1,T.bool x.2)::bG (.str n) (.bool b) (esN xs)=_
   rw [ih];rfl
theorem Ah (s:ByteArray): ∀all:List RV,eb (T.str s).cells (esV all)=(tc all s).map sQ
 |[]=>rfl
 |x::xs=>by
  have ih:=Ah s xs
  show cond (eqL (T.str s).cells (T.str x.name).cells) (some (sQ x)) (eb (T.str s).cells (esV xs))=_
  rw [yA,ih]
  unfold tc
  rw [List.find?_cons]
  by_cases h:x.name=s
  ·rw [decide_eq_true h.symm,decide_eq_true h];rfl
  ·rw [decide_eq_false (fun e=>h e.symm),decide_eq_false h];rfl
theorem Ct (s:ByteArray): ∀num:List (ByteArray×Bool),eb (T.str s).cells (esN num)=(tW num s).map T.bool
 |[]=>rfl
 |x::xs=>by
  have ih:=Ct s xs
  show cond (eqL (T.str s).cells (T.str x.1).cells) (some (T.bool x.2)) (eb (T.str s).cells (esN xs))=_
  rw [yA,ih]
  unfold tW
  rw [List.find?_cons]
  by_cases h:x.1=s
  ·rw [decide_eq_true h.symm,decide_eq_true h];rfl
  ·rw [decide_eq_false (fun e=>h e.symm),decide_eq_false h];rfl
theorem HT (s:ByteArray) (all:List RV):mK zV true (eb (T.str s).cells (esV all))=match tc all s with
  |some v=>T.tup [sQ v,.bool true]
  |none=>T.tup [zV,.bool false]:=by
 rw [Ah]
 cases tc all s <;> rfl
theorem HS (s:ByteArray) (num:List (ByteArray×Bool)):mK (.bool false) false (eb (T.str s).cells (esN num))=T.bool ((tW num s).getD false):=by
 rw [Ct]
 cases tW num s <;> rfl
theorem Jd (l:List Fd) (hl:LOk l) (k:ByteArray):DCalls Tryz.prog 74 [fds l,.str k] (.tup [.agg [.str (fld l k).name,I (fld l k).a,I (fld l k).w],.bool (sX l k)]):=by
 have h:=t74 l k hl.len
 unfold uU at h
 unfold fld sX
 cases hF:findF l k with
 |none=>rw [hF] at h;exact h
 |some F=>rw [hF] at h;exact h
theorem xc (l:List Fd): ∀{a b:List RS} {st:VS},ug l st (a++b)=(ug l st a).bind fun st=>ug l st b
 |[],b,st=>rfl
 |s::a,b,st=>by
  show (uX l st s).bind (fun st=>ug l st (a++b))=((uX l st s).bind fun st=>ug l st a).bind fun st=>ug l st b
  cases uX l st s with
  |none=>rfl
  |some st'=>exact xc l
def tG (l:List Fd) (gs:List RG):Option VS:=ug l ⟨[],[]⟩ (sJ (gs.map (·.st)))
def GO:Option VS→T
 |some st=>.tup [.mapd false [.str] (st.all.map fun v=>.str v.name) (st.all.map sQ),.bool true]
 |none=>.tup [.nilmap,.bool false]
theorem BR (gs:List RG) (i:Nat) (h:i<gs.length):sJ ((gs.take (i+1)).map (·.st))=sJ ((gs.take i).map (·.st))++(if gs[i].st.kind=0 then [] else [gs[i].st]):=by
 rw [List.take_succ_eq_append_getElem h,List.map_append]
 unfold sJ
 rw [List.filter_append]
 congr 1
 by_cases hk:gs[i].st.kind=0
 ·rw [if_pos hk];simp [hk]
 ·rw [if_neg hk];simp [hk]
def DT (l:List Fd) (look:Option RV) (nb:Bool) (s:RS):Bool:=match look with
 |none=>false
 |some old=>(old.fam !=tH s.kind)|| !(old.ws==sS l s)||(s.own&&nb&&((old.n !=s.n)||(old.m !=s.m)))
theorem FY (l:List Fd) (st:VS) (s:RS):uX l st s=if DT l (tc st.all s.var) ((tW st.num s.var).getD false) s then none else some ⟨if (!(tc st.all s.var).isSome||s.own) then uJ (vOf l s) st.all else st.all,xr s.var (((tW st.num s.var).getD false)||s.own) st.num⟩:=by
 unfold uX DT
 dsimp only
 cases tc st.all s.var with
 |none=>simp
 |some old=>simp
abbrev zl (l:List Fd) (s:RS) (n m:Int):List V:=[.t (.str s.var),.t (I (tH s.kind)),.t (.slice 1 ((sS l s).map I)),.t (I n),.t (I m)]
abbrev SVa (l:List Fd) (gs:List RG) (i:Nat) (st:VS) (x:List (Nat×V)) (b:List (Nat×BX)):Wk:=
 {sl:=(0,.t (fds l))::(6,.mp 19)::(7,.mp 20)::(21,.t (.slice 15 (gs.map sg)))::(22,.t (I gs.length))::(23,.t (I i))::x,bx:=(19,.m false [.str] (esV st.all) none)::(20,.m false [.str] (esN st.num) none)::b}
theorem F2 {ks:List Nat} {bx:Nat→Option BX} {ag:Bool} {sh:List Sh} {es es':List (T×T)} (h:es=es'):LeB ks bx (.m ag sh es none) (some (.m ag sh es' none)):=by rw [h];exact .same _
theorem wy {ks:List Nat} {bx:Nat→Option BX} {n e w:Nat} {us xs:List T} (h:us=xs):LeV ks bx (.t (.slice w us)) (.own n e w xs):=by rw [h];exact LeV.data _ _ _ _
theorem Fk (a b:List Int) (hl:b.length<2^60):DCalls Tryz.prog 99 [.slice 1 (a.map I),.slice 1 (b.map I)] (.bool (a==b)):=by
 by_cases hab:a.length=b.length
 case pos=>exact FP a b (by omega)
 refine qF (rs:=[.tmp 4]) mixed Tryz.func99 l99 rfl rfl rfl (r:=[.bool _]) (nlZ rfl) ?_
 have ha:((a.map I).length:Int)=a.length:=by rw [List.length_map]
 have hb:((b.map I).length:Int)=b.length:=by rw [List.length_map]
 have e:(a==b)=false:=beq_false_of_ne fun e=>hab (by rw [e])
 rw [e]
 have hn:((a.map I).length:Int)≠((b.map I).length:Int):=by omega
 repeat' ((conv=>whnf);first|exact trivial|refine qm hn ?_|refine rb0 ?_|refine aS ?_|fail)
theorem y8 (l:List Fd) (hl:LOk l) (gs:List RG) (hgl:gs.length<2^40) (hg: ∀g∈gs,SmS (2^40) g.st∧0≤g.st.kind∧g.st.kind≤6):DCalls Tryz.prog 96 [fds l,.slice 15 (gs.map sg)] (GO (tG l gs)):=by
 have hres: ∃r1 r2,GO (tG l gs)= .tup [r1,r2]:=by cases tG l gs <;> exact ⟨_,_,rfl⟩
 obtain ⟨r1,r2,hr⟩:=hres
 rw [hr]
 refine qF (rs:=[.tmp 4,.tmp 5]) mixed Tryz.func96 Go.TYV.l96 rfl rfl rfl (r:=[r1,r2]) (nlZ rfl) ?_
 have hsome: ∀st,tG l gs=some st→r1= .mapd false [.str] (st.all.map fun v=>.str v.name) (st.all.map sQ)∧r2= .bool true:=fun st h=>by
  rw [h] at hr
  have h1:=T.tup.inj hr
  simp only [List.cons.injEq,and_true] at h1
  exact ⟨h1.1.symm,h1.2.symm⟩
 have hnone:tG l gs=none→r1= .nilmap∧r2= .bool false:=fun h=>by
  rw [h] at hr
  have h1:=T.tup.inj hr
  simp only [List.cons.injEq,and_true] at h1
  exact ⟨h1.1.symm,h1.2.symm⟩
 clear hr
 skip
 refine qQ 0 (α:=Nat×VS) (β:=VS) (fun p=>SVa l gs p.1 p.2 [] []) (fun p=>p.1≤gs.length∧ug l ⟨[],[]⟩ (sJ ((gs.take p.1).map (·.st)))=some p.2) (fun p=>gs.length - p.1)
  (fun st=>{sl:=[(6,.mp 19)],bx:=[(19,.m false [.str] (esV st.all) none)]}) (fun st=>tG l gs=some st) (0,⟨[],[]⟩) ⟨by simp,rfl⟩ ?_ ?_ ?_
 ·repeat' (first|(exact leI (by simp))|exact trivial|exact LeV.same _|exact LeB.same _|exact rfl|exact fun _ _ _=>trivial|refine And.intro ?_ ?_)
 ·rintro ⟨i,st⟩ ⟨hi,hst⟩
  dsimp only at hi hst
  rcases Nat.lt_or_ge i gs.length with h|h
  case inr=>
   have e:i=gs.length:=by omega
   subst e
   rw [List.take_length] at hst
   repeat' ((conv=>whnf);first|(exact ⟨st,hst,by (repeat' (first|exact trivial|exact LeV.same _|exact LeB.same _|exact rfl|exact fun _ _ _=>trivial|refine And.intro ?_ ?_));done⟩)|refine aD0 ?_|refine aS ?_|fail)
  obtain ⟨hsm,hk0,hk6⟩:=hg gs[i] (List.getElem_mem h)
  have hcell:=vS gs[i]
  have hso:=BR gs i h
  have hnext: ∀st',ug l st (if gs[i].st.kind=0 then [] else [gs[i].st])=some st'→(i+1≤gs.length∧ug l ⟨[],[]⟩ (sJ ((gs.take (i+1)).map (·.st)))=some st'):=fun st' h'=>⟨h,by rw [hso,xc,hst];exact h'⟩
  have hall:ug l st (if gs[i].st.kind=0 then [] else [gs[i].st])=none→tG l gs=none:=fun hn=>by
   unfold tG
   have e1:gs.map (·.st)=(gs.take (i+1)).map (·.st)++(gs.drop (i+1)).map (·.st):=by rw [← List.map_append,List.take_append_drop]
   rw [e1]
   have e2: ∀a b:List RS,sJ (a++b)=sJ a++sJ b:=fun a b=>List.filter_append ..
   rw [e2,xc,hso,xc,hst,Option.bind_some,hn];rfl
  have hz:(aK z15 0 15 (sc gs[i])).length=15:=by rw [mL (n:=15) rfl];exact sq _
  by_cases k0:gs[i].st.kind=0
  ·rw [if_pos k0] at hnext
   have hnx:=hnext st rfl
   generalize gs[i].st=s at *
   obtain ⟨k,v,ks,f,n,m⟩:=s
   dsimp only at k0
   repeat' ((conv=>whnf);first|(refine nv_ (.agg (sc gs[i])) (by first|((simp [h];rfl);done)|fail) ?_)|(refine nv_ (.agg (se ⟨k,v,ks,f,n,m⟩)) (by first|exact congrArg T.agg hcell|fail) ?_)|refine qi k0 ?_|refine nT_ ?_|refine aD1 ?_|(refine And.intro (by first|exact ⟨sq _,nlZ rfl⟩|exact sq _|fail) ?_)|refine aS ?_|fail)
   refine ⟨(i+1,st),hnx,by dsimp only;omega,by repeat' (first|exact trivial|exact LeV.same _|exact LeB.same _|exact rfl|exact fun _ _ _=>trivial|exact lI|refine And.intro ?_ ?_)⟩
  rw [if_neg k0] at hnext hall
  have hst1:ug l st [gs[i].st]=uX l st gs[i].st:=by
   show (uX l st gs[i].st).bind _=_
   cases uX l st gs[i].st <;> rfl
  rw [hst1] at hnext hall
  clear hso hst1
  generalize gs[i].st=s at *
  have hfam:=FT s.kind ⟨by omega,hk6⟩
  obtain ⟨k,v,ks,f,n,m⟩:=s
  dsimp only at k0 hk0 hk6 hfam
  have hkl:ks.length<2^40:=hsm.len
  repeat' ((conv=>whnf);first|(refine nv_ (.agg (sc gs[i])) (by first|((simp [h];rfl);done)|fail) ?_)|(refine nv_ (.agg (se ⟨k,v,ks,f,n,m⟩)) (by first|exact congrArg T.agg hcell|fail) ?_)|refine qh k0 ?_|refine rp _ (hfam) ?_|refine nT_ ?_|refine aD1 ?_|(refine And.intro (by first|exact ⟨sq _,nlZ rfl⟩|exact sq _|fail) ?_)|refine aS ?_|fail)
  refine qQ 2 (α:=Nat) (β:=Unit) (fun j=>SVa l gs i st [(10,.ptr 10 0),(11,.ptr 11 0),(39,.t (.slice 1 (ks.map .str))),(40,.t (I ks.length)),(41,.t (I j))] [(10,.d 6 (se ⟨k,v,ks,f,n,m⟩)),(11,.v [.t (.str v),.t (I (tH k)),.own 56 3 1 ((ks.take j).map fun x=>I (fld l x).w),.t (I 0),.t (I 0)])])
   (fun j=>j≤ks.length) (fun j=>ks.length - j)
   (fun _=>SVa l gs i st [(10,.ptr 10 0),(11,.ptr 11 0)] [(10,.d 6 (se ⟨k,v,ks,f,n,m⟩)),(11,.v (zl l ⟨k,v,ks,f,n,m⟩ 0 0))]) (fun _=>True) 0 (by simp) ?_ ?_ ?_
  ·repeat' (first|(exact leI (by simp))|(refine LeB.dv _ _ _ ?_)|exact trivial|exact LeV.same _|exact LeB.same _|exact rfl|exact fun _ _ _=>trivial|exact LeV.nil _ _ _|refine And.intro ?_ ?_)
  ·rintro j hj
   rcases Nat.lt_or_ge j ks.length with h1|h1
   ·have ht:=Jd l hl ks[j]
    have hk:ks.take (j+1)=ks.take j++[ks[j]]:=by rw [List.take_succ_eq_append_getElem h1]
    repeat' ((conv=>whnf);first|(refine nv_ (.str ks[j]) (by first|(simp [h1];done)|fail) ?_)|refine rp _ (ht) ?_|refine nT_ ?_|refine aD1 ?_|(refine And.intro (by first|((simp only [List.length_map,List.length_take,List.length_cons,List.length_nil];omega);done)|fail) ?_)|refine aS ?_|fail)
    refine ⟨j+1,h1,by omega,?_⟩
    repeat' (first|(exact rM (by rw [hk,List.map_append];rfl))|(refine LeB.v _ _ ?_)|exact trivial|exact LeV.same _|exact LeB.same _|exact rfl|exact fun _ _ _=>trivial|exact lI|refine And.intro ?_ ?_)
   ·have:j=ks.length:=by omega
    subst this
    rw [List.take_length]
    have hw:((sS l ⟨k,v,ks,f,n,m⟩).map I)=ks.map fun x=>I (fld l x).w:=by unfold sS;rw [List.map_map];rfl
    repeat' ((conv=>whnf);first|(exact ⟨(),trivial,by (repeat' (first|(refine LeB.v _ _ ?_)|(exact wy hw)|exact trivial|exact LeV.same _|exact LeB.same _|exact rfl|exact fun _ _ _=>trivial|refine And.intro ?_ ?_));done⟩)|refine aD0 ?_|refine aS ?_|fail)
  rintro _ _
  obtain ⟨lc,is,hlc,hl5,hcase⟩: ∃lc is,mK zV true (eb (T.str v).cells (esV st.all))= .tup [.agg lc,.bool is]∧lc.length=5∧((is=false∧tc st.all v=none)∨ ∃o,is=true∧tc st.all v=some o∧lc=wu o):=by
   rw [HT]
   cases tc st.all v with
   |none=>exact ⟨_,_,rfl,rfl,Or.inl ⟨rfl,rfl⟩⟩
   |some o=>exact ⟨_,_,rfl,rfl,Or.inr ⟨o,rfl,rfl,rfl⟩⟩
  have hp5:lc=aK [.str ⟨#[]⟩,I 0,.nil,I 0,I 0] 0 5 lc:=(mL (n:=5) rfl).symm
  obtain ⟨ow,how⟩: ∃ow,ow=RS.own ⟨k,v,ks,f,n,m⟩:=⟨_,rfl⟩
  refine rh (β:=Unit) (fun _=>SVa l gs i st [(10,.ptr 10 0),(11,.ptr 11 0),(16,.t (.bool ow))] [(10,.d 6 (se ⟨k,v,ks,f,n,m⟩)),(11,.v (zl l ⟨k,v,ks,f,n,m⟩ 0 0))]) (fun _=>True) ?_ ?_
  ·by_cases k4:k=4
   ·have e:ow=true:=by rw [how];simp [RS.own,k4]
    subst e
    repeat' ((conv=>whnf);first|refine qi k4 ?_|(exact ⟨(),trivial,by (repeat' (first|exact trivial|exact LeV.same _|exact LeB.same _|exact rfl|exact fun _ _ _=>trivial|refine And.intro ?_ ?_));done⟩)|refine nT_ ?_|refine aS ?_|fail)
   by_cases k6:k=6
   ·have e:ow=true:=by rw [how];simp [RS.own,k6]
    subst e
    repeat' ((conv=>whnf);first|refine qh k4 ?_|refine qi k6 ?_|(exact ⟨(),trivial,by (repeat' (first|exact trivial|exact LeV.same _|exact LeB.same _|exact rfl|exact fun _ _ _=>trivial|refine And.intro ?_ ?_));done⟩)|refine nT_ ?_|refine aS ?_|fail)
   have e:ow=false:=by rw [how];simp [RS.own,k4,k6]
   subst e
   repeat' ((conv=>whnf);first|refine qh k4 ?_|refine qh k6 ?_|(exact ⟨(),trivial,by (repeat' (first|exact trivial|exact LeV.same _|exact LeB.same _|exact rfl|exact fun _ _ _=>trivial|refine And.intro ?_ ?_));done⟩)|refine nT_ ?_|refine aS ?_|fail)
  rintro _ _
  repeat' ((conv=>whnf);first|(refine nv_ (.tup [.agg lc,.bool is]) (by first|exact hlc|fail) ?_)|refine nT_ ?_|(refine And.intro (by first|exact hl5|exact ⟨rfl,trivial,trivial⟩|exact ⟨rfl,rfl,trivial⟩|exact ⟨rfl,trivial⟩|fail) ?_)|refine aS ?_|fail)
  refine rh (β:=Unit) (fun _=>SVa l gs i st [(10,.ptr 10 0),(11,.ptr 11 0),(16,.t (.bool ow)),(17,.ptr 17 0),(18,.t (.bool is))] [(10,.d 6 (se ⟨k,v,ks,f,n,m⟩)),(11,.v (zl l ⟨k,v,ks,f,n,m⟩ (cond ow n 0) (cond ow m 0))),(17,.d 5 lc)]) (fun _=>True) ?_ ?_
  ·cases ow <;> repeat' ((conv=>whnf);first|(exact ⟨(),trivial,by (repeat' (first|(exact r7 hp5)|exact trivial|exact LeV.same _|exact LeB.same _|exact rfl|exact fun _ _ _=>trivial|refine And.intro ?_ ?_));done⟩)|refine nT_ ?_|refine aS ?_|fail)
  rintro _ _
  clear hlc hp5
  obtain ⟨nb,hnb⟩: ∃nb,nb=(tW st.num v).getD false:=⟨_,rfl⟩
  have hln:=HS v st.num
  rw [← hnb] at hln
  have hst2:=FY l st ⟨k,v,ks,f,n,m⟩
  dsimp only at hst2
  rw [← hnb, ←how] at hst2
  obtain ⟨bad,hbad⟩: ∃bad,bad=DT l (tc st.all v) nb ⟨k,v,ks,f,n,m⟩:=⟨_,rfl⟩
  rw [← hbad] at hst2
  have heq:=fun o:RV=>Fk o.ws (sS l ⟨k,v,ks,f,n,m⟩) (by unfold sS;rw [List.length_map];exact Nat.lt_of_lt_of_le hkl (by decide))
  refine rh (β:=Unit) (fun _=>SVa l gs i st [(10,.ptr 10 0),(11,.ptr 11 0),(16,.t (.bool ow)),(18,.t (.bool is)),(119,.t (.bool bad))] [(10,.d 6 (se ⟨k,v,ks,f,n,m⟩)),(11,.v (zl l ⟨k,v,ks,f,n,m⟩ (cond ow n 0) (cond ow m 0)))]) (fun _=>True) ?_ ?_
  ·rcases hcase with ⟨rfl,hl0⟩|⟨o,rfl,hl0,rfl⟩
   ·rw [hl0] at hbad
    have e:bad=false:=hbad
    subst e
    repeat' ((conv=>whnf);first|(exact ⟨(),trivial,by (repeat' (first|exact trivial|exact LeV.same _|exact LeB.same _|exact rfl|exact fun _ _ _=>trivial|refine And.intro ?_ ?_));done⟩)|fail)
   rw [hl0] at hbad
   unfold DT at hbad
   dsimp only at hbad
   rw [← how] at hbad
   have heq:=heq o
   generalize (o.ws==sS l ⟨k,v,ks,f,n,m⟩)=eqw at *
   generalize hb1:(o.fam !=tH k)=b1 at hbad
   generalize hb2:(o.n !=n)=b2 at hbad
   generalize hb3:(o.m !=m)=b3 at hbad
   subst hbad
   clear how hst2 hnb hall hnext
   cases b1 with
   |true=>repeat' ((conv=>whnf);first|refine nb_ _ hb1 ?_|(exact ⟨(),trivial,by (repeat' (first|exact trivial|exact LeV.same _|exact LeB.same _|exact rfl|exact fun _ _ _=>trivial|refine And.intro ?_ ?_));done⟩)|refine nT_ ?_|refine aS ?_|fail)
   |false=>
   cases eqw with
   |false=>repeat' ((conv=>whnf);first|refine nb_ _ hb1 ?_|refine rp _ (heq) ?_|(exact ⟨(),trivial,by (repeat' (first|exact trivial|exact LeV.same _|exact LeB.same _|exact rfl|exact fun _ _ _=>trivial|refine And.intro ?_ ?_));done⟩)|refine nT_ ?_|refine aS ?_|fail)
   |true=>
   cases ow with
   |false=>repeat' ((conv=>whnf);first|refine nb_ _ hb1 ?_|refine rp _ (heq) ?_|(exact ⟨(),trivial,by (repeat' (first|exact trivial|exact LeV.same _|exact LeB.same _|exact rfl|exact fun _ _ _=>trivial|refine And.intro ?_ ?_));done⟩)|refine nT_ ?_|refine aS ?_|fail)
   |true=>
   cases nb with
   |false=>repeat' ((conv=>whnf);first|refine nb_ _ hb1 ?_|refine rp _ (heq) ?_|(refine nv_ (.bool false) (by first|exact hln|fail) ?_)|(exact ⟨(),trivial,by (repeat' (first|exact trivial|exact LeV.same _|exact LeB.same _|exact rfl|exact fun _ _ _=>trivial|refine And.intro ?_ ?_));done⟩)|refine nT_ ?_|(refine And.intro (by first|exact ⟨rfl,trivial⟩|fail) ?_)|refine aS ?_|fail)
   |true=>
   cases b2 with
   |true=>repeat' ((conv=>whnf);first|refine nb_ _ hb1 ?_|refine rp _ (heq) ?_|(refine nv_ (.bool true) (by first|exact hln|fail) ?_)|refine nb_ _ hb2 ?_|(exact ⟨(),trivial,by (repeat' (first|exact trivial|exact LeV.same _|exact LeB.same _|exact rfl|exact fun _ _ _=>trivial|refine And.intro ?_ ?_));done⟩)|refine nT_ ?_|(refine And.intro (by first|exact ⟨rfl,trivial⟩|fail) ?_)|refine aS ?_|fail)
   |false=>
   cases b3 <;> repeat' ((conv=>whnf);first|refine nb_ _ hb1 ?_|refine rp _ (heq) ?_|(refine nv_ (.bool true) (by first|exact hln|fail) ?_)|refine nb_ _ hb2 ?_|refine nb_ _ hb3 ?_|(exact ⟨(),trivial,by (repeat' (first|exact trivial|exact LeV.same _|exact LeB.same _|exact rfl|exact fun _ _ _=>trivial|refine And.intro ?_ ?_));done⟩)|refine nT_ ?_|(refine And.intro (by first|exact ⟨rfl,trivial⟩|fail) ?_)|refine aS ?_|fail)
  rintro _ _
  clear heq
  cases bad with
  |true=>
   rw [if_pos rfl] at hst2
   obtain ⟨rfl,rfl⟩:=hnone (hall hst2)
   repeat' ((conv=>whnf);first|exact trivial|refine rb0 ?_|refine aS ?_|fail)
  |false=>
  rw [if_neg (by simp)] at hst2
  have hnx:=hnext _ hst2
  have his:(tc st.all v).isSome=is:=by rcases hcase with ⟨rfl,h⟩|⟨o,rfl,h,_⟩ <;> rw [h] <;> rfl
  have he:vOf l ⟨k,v,ks,f,n,m⟩=⟨v,tH k,sS l ⟨k,v,ks,f,n,m⟩,cond ow n 0,cond ow m 0⟩:=by
   unfold vOf
   rw [← how]
   cases ow <;> rfl
  rw [his,he] at hnx
  have hV:=Ef ⟨v,tH k,sS l ⟨k,v,ks,f,n,m⟩,cond ow n 0,cond ow m 0⟩ st.all
  have hN:=Ee v (nb||ow) st.num
  clear he his hst2 how hbad hnb hall hnext hcase
  cases is <;> cases ow <;> cases nb <;> (repeat' ((conv=>whnf);first|(refine nv_ (.bool _) (by first|exact hln|fail) ?_)|(refine ⟨(i+1,_),hnx,by (dsimp only;omega),by (repeat' (first|(exact F2 hV.symm)|(exact F2 hN.symm)|exact trivial|exact LeV.same _|exact LeB.same _|exact rfl|exact fun _ _ _=>trivial|exact lI|refine And.intro ?_ ?_));done⟩)|refine nT_ ?_|(refine And.intro (by first|exact ⟨rfl,trivial⟩|fail) ?_)|refine aS ?_|fail))
 ·rintro st hv
  obtain ⟨rfl,rfl⟩:=hsome st hv
  skip
  (conv=>whnf)
  refine ⟨?_,rfl,trivial⟩
  show some (T.mapd false [.str] ((esV st.all).map (·.1)) ((esV st.all).map (·.2)))=some _
  unfold esV
  rw [List.map_map,List.map_map];rfl
end Go.TY
end
section
namespace Go.TY
open Go Go.DL Go.MM Go.Proofs
theorem B7 {s:RS} (h:sV s=0):0≤s.kind∧s.kind≤6:=by
 unfold sV at h
 have h1:okS s=true:=by
  cases e:okS s with
  |true=>rfl
  |false=>rw [e] at h;simp at h
 unfold okS at h1
 rw [Bool.or_eq_true] at h1
 rcases h1 with h1|h1
 ·unfold vB at h1
  simp only [Bool.and_eq_true,beq_iff_eq] at h1
  omega
 simp only [Bool.and_eq_true] at h1
 have h3:=h1.2
 unfold uD at h3
 by_cases k1:s.kind=1
 ·omega
 by_cases k2:s.kind=2
 ·omega
 by_cases k3:s.kind=3
 ·omega
 by_cases k4:s.kind=4
 ·omega
 by_cases k5:s.kind=5
 ·omega
 by_cases k6:s.kind=6
 ·omega
 simp only [k1,k2,k3,k4,k5,k6,if_false] at h3
 cases h3
theorem DN {l:List Fd} {s:RS} (h:ta l s=0):0≤s.kind∧s.kind≤6:=by
 refine B7 ?_
 unfold ta at h
 by_cases c:sV s=0
 ·exact c
 ·rw [if_pos c] at h;exact h
theorem Ag {α:Type} {f g:α→Int}: ∀{xs:List α},fz2 f g xs=0→ ∀x∈xs,f x=0∧g x=0
 |[],_,_,hx=>by cases hx
 |x::xs,h,y,hy=>by
  have h:sG (f x::g x::xs.flatMap fun x=>[f x,g x])=0:=h
  simp only [sG] at h
  by_cases h1:f x=0
  ·by_cases h2:g x=0
   ·simp only [h1,h2] at h
    rcases List.mem_cons.1 hy with rfl|hy
    ·exact ⟨h1,h2⟩
    ·exact Ag (by simpa [fz2] using h) y hy
   ·simp [h1,h2] at h
  ·simp [h1] at h
def uW (l:List Fd) (gs:List RG):Int:=
 if tZ gs≠0 then tZ gs
 else if fz2 (fun g=>tu l g.pol) (fun g=>ta l g.st) gs≠0 then fz2 (fun g=>tu l g.pol) (fun g=>ta l g.st) gs
 else if (tG l gs).isNone then 11 else 0
theorem AL (l:List Fd) (hl:LOk l) (gs:List RG) (hgl:gs.length<2^40) (hg: ∀g∈gs,SmG (2^39) g):DCalls Tryz.prog 38 [fds l,.slice 15 (gs.map sg)] (I (uW l gs)):=by
 refine qF (rs:=[.tmp 4]) mixed Tryz.func38 l38 rfl rfl rfl (r:=[.int _ _]) (nlZ rfl) ?_
 have hc:=Ap gs (by omega) fun g hgm=>⟨(hg g hgm).st.mono (by omega),by have:=(hg g hgm).wt;omega,fun _=>(hg g hgm).names (by omega)⟩
 unfold uW
 by_cases c0:tZ gs=0
 case neg=>
  rw [if_pos c0]
  generalize tZ gs=x at *
  repeat' ((conv=>whnf);first|exact trivial|refine rp _ (hc) ?_|refine qm c0 ?_|refine rix ?_|refine aS ?_|fail)
 rw [if_neg (by simpa using c0)]
 rw [c0] at hc
 repeat' ((conv=>whnf);first|refine rp _ (hc) ?_|refine aN0 ?_|refine aS ?_|fail)
 refine qQ 0 (α:=Nat) (β:=Unit) (fun i=>{sl:=[(0,.t (fds l)),(1,.t (.slice 15 (gs.map sg))),(17,.t (.slice 15 (gs.map sg))),(18,.t (I gs.length)),(19,.t (I i))],bx:=[]})
  (fun i=>i≤gs.length∧ ∀j (h:j<gs.length),j<i→tu l gs[j].pol=0∧ta l gs[j].st=0) (fun i=>gs.length - i)
  (fun _=>{sl:=[(0,.t (fds l)),(1,.t (.slice 15 (gs.map sg)))],bx:=[]}) (fun _=>fz2 (fun g=>tu l g.pol) (fun g=>ta l g.st) gs=0) 0 (by simp) ?_ ?_ ?_
 ·repeat' (first|(exact leI (by simp))|exact trivial|exact LeV.same _|exact rfl|exact fun _ _ _=>trivial|refine And.intro ?_ ?_)
 ·rintro i ⟨hi,hp⟩
  rcases Nat.lt_or_ge i gs.length with h|h
  ·have hm:=hg gs[i] (List.getElem_mem h)
   have h1:=BT l hl gs[i].pol (by have:=hm.wt;omega) (hm.names (by omega))
   have h2:=Fl l hl gs[i].st (hm.st.mono (by omega))
   by_cases c1:tu l gs[i].pol=0
   ·rw [c1] at h1
    by_cases c2:ta l gs[i].st=0
    ·rw [c2] at h2
     repeat' ((conv=>whnf);first|(refine nv_ (.agg (sc gs[i])) (by first|((simp [h];rfl);done)|fail) ?_)|(refine nv_ (.agg (r9 gs[i].pol)) (by first|(exact congrArg T.agg (ue gs[i]);done)|fail) ?_)|(refine nv_ (.agg (se gs[i].st)) (by first|(exact congrArg T.agg (vS gs[i]);done)|fail) ?_)|refine rp _ (h1) ?_|refine rp _ (h2) ?_|refine aN0 ?_|refine aD1 ?_|(refine And.intro (by first|exact ⟨sq _,nlZ rfl⟩|exact sq _|fail) ?_)|refine aS ?_|fail)
     refine ⟨i+1,⟨h,fun j hj hlt=>?_⟩,by omega,?_⟩
     ·rcases Nat.lt_or_ge j i with h4|h4
      ·exact hp j hj h4
      ·obtain rfl:j=i:=by omega
       exact ⟨c1,c2⟩
     ·repeat' (first|exact trivial|exact LeV.same _|exact rfl|exact fun _ _ _=>trivial|exact lI|refine And.intro ?_ ?_)
    ·have e:=zA (f:=fun g:RG=>tu l g.pol) (g:=fun g=>ta l g.st) h hp c1 c2
     have e2:fz2 (fun g:RG=>tu l g.pol) (fun g=>ta l g.st) gs≠0:=by rw [e];exact c2
     rw [if_pos e2,e]
     clear e e2
     dsimp only
     generalize ta l gs[i].st=x at *
     repeat' ((conv=>whnf);first|exact trivial|(refine nv_ (.agg (sc gs[i])) (by first|((simp [h];rfl);done)|fail) ?_)|(refine nv_ (.agg (r9 gs[i].pol)) (by first|(exact congrArg T.agg (ue gs[i]);done)|fail) ?_)|(refine nv_ (.agg (se gs[i].st)) (by first|(exact congrArg T.agg (vS gs[i]);done)|fail) ?_)|refine rp _ (h1) ?_|refine rp _ (h2) ?_|refine qm c2 ?_|refine aN0 ?_|refine aD1 ?_|refine rix ?_|(refine And.intro (by first|exact ⟨sq _,nlZ rfl⟩|exact sq _|fail) ?_)|refine aS ?_|fail)
   ·have e:=zz (f:=fun g:RG=>tu l g.pol) (g:=fun g=>ta l g.st) h hp c1
    have e2:fz2 (fun g:RG=>tu l g.pol) (fun g=>ta l g.st) gs≠0:=by rw [e];exact c1
    rw [if_pos e2,e]
    clear e e2
    dsimp only
    generalize tu l gs[i].pol=x at *
    repeat' ((conv=>whnf);first|exact trivial|(refine nv_ (.agg (sc gs[i])) (by first|((simp [h];rfl);done)|fail) ?_)|(refine nv_ (.agg (r9 gs[i].pol)) (by first|(exact congrArg T.agg (ue gs[i]);done)|fail) ?_)|refine rp _ (h1) ?_|refine qm c1 ?_|refine aD1 ?_|refine rix ?_|(refine And.intro (by first|exact ⟨sq _,nlZ rfl⟩|exact sq _|fail) ?_)|refine aS ?_|fail)
  ·have e:=yB (f:=fun g:RG=>tu l g.pol) (g:=fun g=>ta l g.st) (xs:=gs) fun j hj=>hp j hj (by omega)
   repeat' ((conv=>whnf);first|(exact ⟨(),e,by (repeat' (first|exact trivial|exact LeV.same _|exact rfl|exact fun _ _ _=>trivial|refine And.intro ?_ ?_));done⟩)|refine aD0 ?_|refine aS ?_|fail)
 ·rintro _ hz
  have hk:=Ag hz
  rw [if_neg (by simpa using hz)]
  have hv:=y8 l hl gs hgl fun g hgm=>⟨(hg g hgm).st.mono (by omega),DN (hk g hgm).2⟩
  cases hq:tG l gs with
  |none=>
   rw [hq] at hv
   have hv:DCalls Tryz.prog 96 [fds l,.slice 15 (gs.map sg)] (.tup [.nilmap,.bool false]):=hv
   repeat' ((conv=>whnf);first|exact trivial|refine rp _ (hv) ?_|refine rix ?_|fail)
  |some st=>
   rw [hq] at hv
   have hv:DCalls Tryz.prog 96 [fds l,.slice 15 (gs.map sg)] (.tup [.mapd false [.str] (st.all.map fun v=>.str v.name) (st.all.map sQ),.bool true]):=hv
   repeat' ((conv=>whnf);first|exact trivial|refine rp _ (hv) ?_|refine rix ?_|fail)
end Go.TY
end
noncomputable section
namespace Go.TY
open Go Go.DL Go.Proofs
def LS:aV:=(.seq (.region [oo 2 (.mov (.const .nil))] []) (.seq (.region [mv 3 0,oo 4 (.inl 156 [(.const .nil),(tm 3)]),mv 2 4] []) .ret))
theorem HP:(Tryz.f131.body.bind (bz Tryz.prog 5 [156]))=some LS:=by kernel_rfl
def c87:aV:=(.seq (.region [oo 2 (.mov (.const .nil))] []) (.seq (.region [mv 4 0,oo 5 (.inl 131 [tm 4]),mv 3 5] []) (.seq (.region [mv 6 3,oo 7 (.inl 132 [tm 6])] []) (.seq (.region [mv 8 3,mv 2 8] []) .ret))))
theorem l87:(Tryz.f87.body.bind (bz Tryz.prog 9 [131,132]))=some c87:=by kernel_rfl
def c88:aV:=(.seq (.region [oo 1 (.box 1 (tm 0)),oo 2 (.mov (.const .nilfn))] []) (.seq (.region [oo 3 (.mkfn 133 [tm 1]),mv 2 3] []) .ret))
theorem l88:(Tryz.f88.body.bind (bz Tryz.prog 4 []))=some c88:=by kernel_rfl
def c97:aV:=(.seq (.region [oo 1 (.box 1 (tm 0)),oo 2 (.mov (.const .nilfn))] []) (.seq (.region [oo 3 (.mkfn 138 [tm 1]),mv 2 3] []) .ret))
theorem l97:(Tryz.f97.body.bind (bz Tryz.prog 4 []))=some c97:=by kernel_rfl
def LU:aV:=(.seq (.region [oo 2 (.mov (.const .nil))] []) (.seq (.region [mv 3 0,oo 4 (.inl 159 [(.const .nil),(tm 3)]),mv 2 4] []) .ret))
theorem Nu:(Tryz.f134.body.bind (bz Tryz.prog 5 [159]))=some LU:=by kernel_rfl
def c91:aV:=(.seq (.region [oo 2 (.mov (.const .nil))] []) (.seq (.region [mv 4 0,oo 5 (.inl 134 [tm 4]),mv 3 5] []) (.seq (.region [mv 6 3,oo 7 (.inl 135 [tm 6])] []) (.seq (.region [mv 8 3,mv 2 8] []) .ret))))
theorem l91:(Tryz.f91.body.bind (bz Tryz.prog 9 [134,135]))=some c91:=by kernel_rfl
def c92:aV:=(.seq (.region [oo 1 (.box 1 (tm 0)),oo 2 (.mov (.const .nilfn))] []) (.seq (.region [oo 3 (.mkfn 136 [tm 1]),mv 2 3] []) .ret))
theorem l92:(Tryz.f92.body.bind (bz Tryz.prog 4 []))=some c92:=by kernel_rfl
def Hx:aV:=(.seq (.region [ld 4 1,oo 5 (.mrng (tm 4))] []) (.block 0 (.loop (.seq (.region [oo 6 (.mnext (tm 5)),oo 7 (.ext (tm 6) 0)] []) (.seq (.cond (tm 7) .skip (.exit 0)) (.block 1 (.seq (.region [oo 8 (.ment (tm 5)),oo 9 (.ext (tm 8) 0),mv 3 9] []) (.seq (.sem 14 (rg0 3 Tryz.f133.body)) (.cond (tm 13) .ret .skip)))))))))
theorem Nt:(Tryz.f133.body.bind (bz Tryz.prog 14 [1000003]))=some Hx:=by kernel_rfl
def Hz:aV:=(.seq (.region [ld 4 1,oo 5 (.mrng (tm 4))] []) (.block 0 (.loop (.seq (.region [oo 6 (.mnext (tm 5)),oo 7 (.ext (tm 6) 0)] []) (.seq (.cond (tm 7) .skip (.exit 0)) (.block 1 (.seq (.region [oo 8 (.ment (tm 5)),oo 9 (.ext (tm 8) 0),mv 3 9] []) (.seq (.sem 14 (rg0 3 Tryz.f138.body)) (.cond (tm 13) .ret .skip)))))))))
theorem Nx:(Tryz.f138.body.bind (bz Tryz.prog 14 [1000003]))=some Hz:=by kernel_rfl
def Hy:aV:=(.seq (.region [ld 4 1,oo 5 (.mrng (tm 4))] []) (.block 0 (.loop (.seq (.region [oo 6 (.mnext (tm 5)),oo 7 (.ext (tm 6) 0)] []) (.seq (.cond (tm 7) .skip (.exit 0)) (.block 1 (.seq (.region [oo 8 (.ment (tm 5)),oo 9 (.ext (tm 8) 0),mv 3 9] []) (.seq (.sem 14 (rg0 3 Tryz.f136.body)) (.cond (tm 13) .ret .skip)))))))))
theorem Nv:(Tryz.f136.body.bind (bz Tryz.prog 14 [1000003]))=some Hy:=by kernel_rfl
end Go.TY
end
section
namespace Go.Proofs
open Go.Shelf
def Tryz.Cc:Go.Shelf.Ren:=⟨fun|190=>132|125=>158|258=>157|128=>179|129=>180|302=>170|303=>171|304=>172|305=>173|306=>174|307=>175|308=>176|309=>177|310=>178|333=>200|329=>201|330=>202|334=>203|335=>204|336=>205|344=>215|n=>n,fun|31=>29|9=>9|3=>3|46=>156|0=>0|51=>172|53=>174|4=>4|183=>164|182=>163|131=>169|5=>5|218=>188|222=>192|228=>198|229=>199|n=>n,fun|n=>n⟩
theorem Tryz.Cr:Go.Proofs.Lays.n190 Tryz.prog Tryz.Cc:={
 mixed:=by kernel_rfl
 f125:=Tryz.func158.trans (congrArg some (by kernel_rfl))
 f128:=Tryz.func179.trans (congrArg some (by kernel_rfl))
 f129:=Tryz.func180.trans (congrArg some (by kernel_rfl))
 f190:=Tryz.func132.trans (congrArg some (by kernel_rfl))
 f258:=Tryz.func157.trans (congrArg some (by kernel_rfl))
 f302:=Tryz.func170.trans (congrArg some (by kernel_rfl))
 f303:=Tryz.func171.trans (congrArg some (by kernel_rfl))
 f304:=Tryz.func172.trans (congrArg some (by kernel_rfl))
 f305:=Tryz.func173.trans (congrArg some (by kernel_rfl))
 f306:=Tryz.func174.trans (congrArg some (by kernel_rfl))
 f307:=Tryz.func175.trans (congrArg some (by kernel_rfl))
 f308:=Tryz.func176.trans (congrArg some (by kernel_rfl))
 f309:=Tryz.func177.trans (congrArg some (by kernel_rfl))
 f310:=Tryz.func178.trans (congrArg some (by kernel_rfl))
 f329:=Tryz.func201.trans (congrArg some (by kernel_rfl))
 f330:=Tryz.func202.trans (congrArg some (by kernel_rfl))
 f333:=Tryz.func200.trans (congrArg some (by kernel_rfl))
 f334:=Tryz.func203.trans (congrArg some (by kernel_rfl))
 f335:=Tryz.func204.trans (congrArg some (by kernel_rfl))
 f336:=Tryz.func205.trans (congrArg some (by kernel_rfl))
 f344:=Tryz.func215.trans (congrArg some (by kernel_rfl))
 t0:=Tryz.underlying0
 a0:=Tryz.isAgg0
 z0:=Tryz.sizeOf0
 v0:=Tryz.zeroValue0
 t3:=Tryz.underlying3
 a3:=Tryz.isAgg3
 z3:=Tryz.sizeOf3
 v3:=Tryz.zeroValue3
 t4:=Tryz.underlying4
 a4:=Tryz.isAgg4
 z4:=Tryz.sizeOf4
 v4:=Tryz.zeroValue4
 t5:=Tryz.underlying5
 a5:=Tryz.isAgg5
 z5:=Tryz.sizeOf5
 v5:=Tryz.zeroValue5
 t9:=Tryz.underlying9
 a9:=Tryz.isAgg9
 z9:=Tryz.sizeOf9
 v9:=Tryz.zeroValue9
 t31:=Tryz.underlying29
 a31:=Tryz.isAgg29
 z31:=Tryz.sizeOf29
 v31:=Tryz.zeroValue29
 t46:=Tryz.underlying156
 a46:=Tryz.isAgg156
 z46:=Tryz.sizeOf156
 v46:=Tryz.zeroValue156
 t51:=Tryz.underlying172
 a51:=Tryz.isAgg172
 z51:=Tryz.sizeOf172
 v51:=Tryz.zeroValue172
 t53:=Tryz.underlying174
 a53:=Tryz.isAgg174
 z53:=Tryz.sizeOf174
 v53:=Tryz.zeroValue174
 t131:=Tryz.underlying169
 a131:=Tryz.isAgg169
 z131:=Tryz.sizeOf169
 v131:=Tryz.zeroValue169
 t182:=Tryz.underlying163
 a182:=Tryz.isAgg163
 z182:=Tryz.sizeOf163
 v182:=Tryz.zeroValue163
 t183:=Tryz.underlying164
 a183:=Tryz.isAgg164
 z183:=Tryz.sizeOf164
 v183:=Tryz.zeroValue164
 t218:=Tryz.underlying188
 a218:=Tryz.isAgg188
 z218:=Tryz.sizeOf188
 v218:=Tryz.zeroValue188
 t222:=Tryz.underlying192
 a222:=Tryz.isAgg192
 z222:=Tryz.sizeOf192
 v222:=Tryz.zeroValue192
 t228:=Tryz.underlying198
 a228:=Tryz.isAgg198
 z228:=Tryz.sizeOf198
 v228:=Tryz.zeroValue198
 t229:=Tryz.underlying199
 a229:=Tryz.isAgg199
 z229:=Tryz.sizeOf199
 v229:=Tryz.zeroValue199 }
def Tryz.Cb:Go.Shelf.Ren:=⟨fun|189=>135|125=>158|257=>160|128=>179|129=>180|294=>181|295=>182|296=>183|297=>184|298=>185|299=>186|216=>187|300=>188|301=>189|328=>206|329=>201|330=>202|331=>207|332=>208|215=>209|343=>216|n=>n,fun|28=>46|3=>3|46=>156|0=>0|51=>172|53=>174|4=>4|183=>164|182=>163|131=>169|5=>5|9=>9|218=>188|222=>192|228=>198|229=>199|n=>n,fun|n=>n⟩
theorem Tryz.G5:Go.Proofs.Lays.n189 Tryz.prog Tryz.Cb:={
 mixed:=by kernel_rfl
 f125:=Tryz.func158.trans (congrArg some (by kernel_rfl))
 f128:=Tryz.func179.trans (congrArg some (by kernel_rfl))
 f129:=Tryz.func180.trans (congrArg some (by kernel_rfl))
 f189:=Tryz.func135.trans (congrArg some (by kernel_rfl))
 f215:=Tryz.func209.trans (congrArg some (by kernel_rfl))
 f216:=Tryz.func187.trans (congrArg some (by kernel_rfl))
 f257:=Tryz.func160.trans (congrArg some (by kernel_rfl))
 f294:=Tryz.func181.trans (congrArg some (by kernel_rfl))
 f295:=Tryz.func182.trans (congrArg some (by kernel_rfl))
 f296:=Tryz.func183.trans (congrArg some (by kernel_rfl))
 f297:=Tryz.func184.trans (congrArg some (by kernel_rfl))
 f298:=Tryz.func185.trans (congrArg some (by kernel_rfl))
 f299:=Tryz.func186.trans (congrArg some (by kernel_rfl))
 f300:=Tryz.func188.trans (congrArg some (by kernel_rfl))
 f301:=Tryz.func189.trans (congrArg some (by kernel_rfl))
 f328:=Tryz.func206.trans (congrArg some (by kernel_rfl))
 f329:=Tryz.func201.trans (congrArg some (by kernel_rfl))
 f330:=Tryz.func202.trans (congrArg some (by kernel_rfl))
 f331:=Tryz.func207.trans (congrArg some (by kernel_rfl))
 f332:=Tryz.func208.trans (congrArg some (by kernel_rfl))
 f343:=Tryz.func216.trans (congrArg some (by kernel_rfl))
 t0:=Tryz.underlying0
 a0:=Tryz.isAgg0
 z0:=Tryz.sizeOf0
 v0:=Tryz.zeroValue0
 t3:=Tryz.underlying3
 a3:=Tryz.isAgg3
 z3:=Tryz.sizeOf3
 v3:=Tryz.zeroValue3
 t4:=Tryz.underlying4
 a4:=Tryz.isAgg4
 z4:=Tryz.sizeOf4
 v4:=Tryz.zeroValue4
 t5:=Tryz.underlying5
 a5:=Tryz.isAgg5
 z5:=Tryz.sizeOf5
 v5:=Tryz.zeroValue5
 t9:=Tryz.underlying9
 a9:=Tryz.isAgg9
 z9:=Tryz.sizeOf9
 v9:=Tryz.zeroValue9
 t28:=Tryz.underlying46
 a28:=Tryz.isAgg46
 z28:=Tryz.sizeOf46
 v28:=Tryz.zeroValue46
 t46:=Tryz.underlying156
 a46:=Tryz.isAgg156
 z46:=Tryz.sizeOf156
 v46:=Tryz.zeroValue156
 t51:=Tryz.underlying172
 a51:=Tryz.isAgg172
 z51:=Tryz.sizeOf172
 v51:=Tryz.zeroValue172
 t53:=Tryz.underlying174
 a53:=Tryz.isAgg174
 z53:=Tryz.sizeOf174
 v53:=Tryz.zeroValue174
 t131:=Tryz.underlying169
 a131:=Tryz.isAgg169
 z131:=Tryz.sizeOf169
 v131:=Tryz.zeroValue169
 t182:=Tryz.underlying163
 a182:=Tryz.isAgg163
 z182:=Tryz.sizeOf163
 v182:=Tryz.zeroValue163
 t183:=Tryz.underlying164
 a183:=Tryz.isAgg164
 z183:=Tryz.sizeOf164
 v183:=Tryz.zeroValue164
 t218:=Tryz.underlying188
 a218:=Tryz.isAgg188
 z218:=Tryz.sizeOf188
 v218:=Tryz.zeroValue188
 t222:=Tryz.underlying192
 a222:=Tryz.isAgg192
 z222:=Tryz.sizeOf192
 v222:=Tryz.zeroValue192
 t228:=Tryz.underlying198
 a228:=Tryz.isAgg198
 z228:=Tryz.sizeOf198
 v228:=Tryz.zeroValue198
 t229:=Tryz.underlying199
 a229:=Tryz.isAgg199
 z229:=Tryz.sizeOf199
 v229:=Tryz.zeroValue199 }
end Go.Proofs
end
noncomputable section
namespace Go.TY
open Go Go.DL Go.MM Go.Proofs
abbrev env:ByteArray→T:=T.str
abbrev mpv (ks:List ByteArray) (vs:List T):T:=.mapd false [.str] (ks.map env) vs
def tK (id:Nat) (c:Option Code):Array Oper:=match rg0 id c with
 |.region _ ops _=>ops
 |_=> #[]
abbrev fAv:Option Code:=Tryz.f156.body
abbrev fKv:Option Code:=Tryz.f138.body
theorem bAv:fAv=some (.seq (.region 0 (tK 0 fAv) false) (.seq (.seq (.region 1 (tK 1 fAv) false)
  (.block 0 (.rangeFunc (.tmp 6) #[7] (.region 2 (tK 2 fAv) false) (.block 1 (.region 3 (tK 3 fAv) false))))) (.seq (.region 4 (tK 4 fAv) false) .ret))):=by kernel_rfl
abbrev JU:List DI:=[⟨some 5,.mov (.tmp 7),none,[]⟩]
abbrev JX:List DI:=[⟨some 8,.load 1 false (.tmp 2),none,[]⟩,⟨some 9,.mov (.tmp 5),none,[]⟩,⟨some 10,.buildS 9 1 1 [.str ⟨#[]⟩] [(0,.tmp 9)],none,[1]⟩,
 ⟨some 11,.append 29 9 1 16 (.tmp 8) (.tmp 10),none,[0,2]⟩,⟨none,.store 1 (.tmp 2) (.tmp 11),none,[3,3,0,1,2,3]⟩]
theorem Jq:bT Tryz.prog 13 [] (tK 0 fAv) (tK 0 fAv).toList=some [⟨some 2,.box 1 (.tmp 0),none,[]⟩,⟨some 4,.mov (.const .nil),none,[]⟩]:=by kernel_rfl
theorem Jt:bT Tryz.prog 13 [] (tK 1 fAv) (tK 1 fAv).toList=some [⟨some 6,.mov (.tmp 1),none,[]⟩]:=by kernel_rfl
theorem Jw:bT Tryz.prog 13 [] (tK 2 fAv) (tK 2 fAv).toList=some JU:=by kernel_rfl
theorem Jz:bT Tryz.prog 13 [] (tK 3 fAv) (tK 3 fAv).toList=some JX:=by kernel_rfl
theorem JC:bT Tryz.prog 13 [] (tK 4 fAv) (tK 4 fAv).toList=some [⟨some 12,.load 1 false (.tmp 2),none,[]⟩,⟨some 4,.mov (.tmp 12),none,[0,0]⟩]:=by kernel_rfl
abbrev yKv:Array Oper:=tK 3 fKv
theorem bKv:rg0 3 fKv= .region 3 yKv false:=by kernel_rfl
theorem JF:dP Tryz.prog 14 yKv [0,1]=some [⟨some 10,.mov (.tmp 0),none,[]⟩,⟨some 11,.mov (.tmp 3),none,[]⟩]:=by kernel_rfl
theorem JI:dP Tryz.prog 14 yKv [3]=some [⟨some 13,.not (.tmp 12),none,[2]⟩]:=by kernel_rfl
theorem JL: ∃o ats,yKv[2]? =some o∧o.guard=none∧o.op= .call {callee:=.value (.tmp 10),args:= #[.tmp 11],argTypes:=ats }∧o.dst=some 12:=by
 refine ⟨((tK 3 fKv)[2]?).getD default,(match (((tK 3 fKv)[2]?).getD default).op with|.call c=>c.argTypes|_=> #[]),by kernel_rfl,by kernel_rfl,by kernel_rfl,by kernel_rfl⟩
abbrev HN (l d:Nat) (f:FuncId) (tmps:Array Value):aa→World→Prop:=nf l (cQ f tmps 7 (.region 2 (tK 2 fAv) false) (.block 1 (.region 3 (tK 3 fAv) false)) d)
abbrev WKv (l:Nat) (C:aa→World→Prop) (ks:List ByteArray) (vs:List T) (ix:List Nat):Wk:=
 {sl:=[(0,.raw (.func (.yield l) #[] #[])),(5,.ptr 2005 0)],bx:=[(2,.v [.own 3011 9 1 (Ai env e0 ks ix)]),(2005,.itd (esK env ks vs) ix)],gh:=[(0,[(2,.ptr 2 0)])],off:=2000,cx:=C }
theorem HC (l d:Nat) (f:FuncId) (tmps:Array Value) (ht:tmps.size=13) (ks:List ByteArray) (vs:List T) (hvs:vs.length=ks.length) (hl:ks.length<2^40) (st0:St)
  (h0:st0=({sl:=[(2,.ptr 2 0),(6,.fn 138 [.t (.cptr [mpv ks vs] 0)])],bx:=[(2,.v [.own 3011 9 1 []])]}:Wk).mk'):
  wpC Tryz.prog Hz (st0.iter l (cQ f tmps 7 (.region 2 (tK 2 fAv) false) (.block 1 (.region 3 (tK 3 fAv) false)) d) [.t (.cptr [mpv ks vs] 0)] 2000)
   (qB st0 fun st=>st.sl 2= .ptr 2 0∧(∃ xs,uk env e0 ks xs∧st.bx 2=some (.v [.own 3011 9 1 xs]))∧ ∀S w,st.cx S w):=by
 subst h0
 have hes:(esK env ks vs).length=ks.length:=by simp [hvs]
 repeat' ((conv=>whnf);first|refine nT_ ?_|refine aS ?_|fail)
 refine qQ 0 (α:=List Nat) (β:=List Nat) (fun ix=>WKv l (HN l d f tmps) ks vs ix) (fun ix=>ix.Nodup∧ ∀j∈ix,j<ks.length) (fun ix=>ks.length - ix.length)
  (fun ix=>WKv l (HN l d f tmps) ks vs ix) (fun ix=>ix.Perm (List.range ks.length)) [] ⟨List.nodup_nil,by simp⟩ ?_ ?_ ?_
 ·exact ⟨⟨.same _,.same _,trivial⟩,⟨.same _,.same _,trivial⟩,⟨⟨.same _,trivial⟩,trivial⟩,rfl,fun _ _ h=>h,rfl⟩
 ·rintro ix ⟨hnd,hix⟩
  refine And.intro (fun j hj=>by rw [hes];exact hix j hj) (And.intro ?_ ?_)
  ·intro j e he hj
   obtain ⟨he1,hjl⟩:=Af (d:=e0) he
   have hent:=za _ ix j e he
   have hje:(ix++[j]).getLast?.getD 0<(esK env ks vs).length:=by rw [List.getLast?_concat,hes];exact hjl
   obtain ⟨e1,e2⟩:=e
   dsimp only at he1 hent
   subst he1
   have hixl:ix.length≤ks.length:=by
    have:=hnd.length_le_of_subset (l₂:=List.range ks.length) (fun j hj=>List.mem_range.2 (hix j hj))
    simpa using this
   have hnd':(ix++[j]).Nodup:=by
    rw [List.nodup_append]
    exact ⟨hnd,by simp,fun a ha b hb=>by rw [List.mem_singleton.1 hb];exact fun e=>hj (e▸ha)⟩
   have hix': ∀i∈ix++[j],i<ks.length:=fun i hi=>by
    rcases List.mem_append.1 hi with h|h
    ·exact hix i h
    ·rw [List.mem_singleton.1 h];exact hjl
   have hixl':(ix++[j]).length≤ks.length:=by
    have:=hnd'.length_le_of_subset (l₂:=List.range ks.length) (fun j hj=>List.mem_range.2 (hix' j hj))
    simpa using this
   repeat' ((conv=>whnf);first|refine nv_ (.tup [env (ks.getD j e0),e2]) hent ?_|(refine And.intro (by first|exact ⟨by simp,hje⟩|fail) ?_)|fail)
   obtain ⟨o,ats,o1,o2,o3,o4⟩:=JL
   have hsem: ∀(st:St) (Q:ax→St→Prop),pR Tryz.prog 14 (.region 3 yKv false) st Q→pR Tryz.prog 14 (rg0 3 fKv) st Q:=fun st Q h=>by rw [bKv];exact h
   refine hsem _ _ ?_
   refine qR (P:=Tryz.prog) (k1:=[0,1]) (k:=2) (k2:=[3]) (by kernel_rfl) JF rfl JI rfl o1 o2 o3 o4 (by decide) (p:=7) ht (by decide) Jw rfl Jz rfl 3000 (l:=l) (fn:=f) (dd:=d) (id1:=2) (id2:=3) (bl:=1) ?_
   refine ⟨fun _ _ h=>h,rfl,?_⟩
   repeat' ((conv=>whnf);first|(refine And.intro (by first|exact fun _ _=>trivial|exact ⟨rfl,nlZ rfl⟩|((simp;omega);done)|exact .inl rfl|fail) ?_)|refine aS ?_|fail)
   refine ⟨ix++[j],⟨hnd',hix'⟩,by rw [List.length_append];simp at hixl' ⊢;omega,?_⟩
   refine ⟨⟨.same _,.same _,trivial⟩,⟨?_,.same _,trivial⟩,⟨⟨.same _,trivial⟩,trivial⟩,rfl,fun _ _ h=>h,rfl⟩
   refine .v _ _ ⟨rM ?_,trivial⟩
   simp [Ai]
  ·intro hall
   skip
   refine ⟨ix,xT hnd hix (fun j hj=>hall j (by rw [hes];exact hj)),?_⟩
   exact ⟨⟨.same _,.same _,trivial⟩,⟨.same _,.same _,trivial⟩,⟨⟨.same _,trivial⟩,trivial⟩,rfl,fun _ _ h=>h,rfl⟩
 rintro ix hp
 repeat' ((conv=>whnf);first|refine aS ?_|fail)
 exact ⟨⟨_,⟨ix,hp,rfl⟩,rfl⟩,fun _ _=>trivial⟩
abbrev uR (ks:List ByteArray) (vs:List T):T:=.clos 138 [.cptr [mpv ks vs] 0]
theorem A4 (ks:List ByteArray) (vs:List T) (hvs:vs.length=ks.length) (hl:ks.length<2^40):fE Tryz.prog 156 [.nil,uR ks vs] 9 1 (uk env e0 ks):=by
 refine p0 Tryz.func156 bAv rfl (nlZ rfl) ?_
 intro S w a0 hsr hdf
 let K0:St→Prop:=fun st=>aw Tryz.prog [⟨some 6,.mov (.tmp 1),none,[]⟩] st fun st=>
  bL {sl:=[(2,.ptr 2 0),(6,.t (uR ks vs))],bx:=[(2,.d 1 [.nil])]} st
 have hK0:aw Tryz.prog [⟨some 2,.box 1 (.tmp 0),none,[]⟩,⟨some 4,.mov (.const .nil),none,[]⟩] (eO [.nil,uR ks vs]) K0:=by
  repeat' ((conv=>whnf);first|refine aS ?_|fail)
  exact ⟨⟨.same _,.same _,trivial⟩,⟨.same _,trivial⟩,trivial,rfl,fun _ _ _=>trivial,rfl⟩
 refine wp_seq (nv (X:=[]) (N:=13) hsr Jq (fun a1 w1 h1=>?_) hK0)
 obtain ⟨E1,s1,rfl,k1,k2,k3⟩:=h1
 refine wp_seq (wp_seq (nv (X:=[]) k1 Jt (fun a2 w2 h2=>?_) k3))
 obtain ⟨E2,s2,rfl,k4,k5,k6⟩:=h2
 obtain ⟨E3,e3,k7⟩:=k4.bL k6
 rw [← e3]
 have k8:=k7.rq (k:=6) (k7.sl 6).re
 obtain ⟨E4,e4,k10⟩:=SR.bL (a:=a2) (s:={sl:=[(2,.ptr 2 0),(6,.fn 138 [.t (.cptr [mpv ks vs] 0)])],bx:=[(2,.v [.own 3011 9 1 []])]}) k8 ⟨⟨.same _,.same _,trivial⟩,⟨.dv _ _ _ ⟨.nil _ _ _,trivial⟩,trivial⟩,trivial,rfl,fun _ _ _=>trivial,rfl⟩
 rw [← e4]
 refine wp_block ?_
 refine qW mixed k10 (fun _ _=>trivial) (y:=.tmp 6) rfl (gf:=138) (caps:=[.t (.cptr [mpv ks vs] 0)]) rfl Tryz.func138 Nx rfl rfl rfl (nlZ rfl) 2000
  (K:=fun st=>st.sl 2= .ptr 2 0∧(∃ xs,uk env e0 ks xs∧st.bx 2=some (.v [.own 3011 9 1 xs]))∧ ∀S w,st.cx S w) (fun l d f tmps ht=>?_) (fun a5 w5 h5=>?_)
 ·exact HC l d f tmps ht ks vs hvs hl _ rfl
 ·obtain ⟨S0',E5,s5,D,rfl,q1,q2,q3,q4,q5,q6,r1,⟨xs,hxs,r2⟩,r3⟩:=h5
  have q6':a5.defers=[{target:=.collected D,args:= #[]}]:=by rw [q6,k5,k2,hdf]
  show Code.wp _ _ _ _ _
  refine wp_seq (nv (X:=[]) q1 JC (K:=fun st=>(∀ S w,st.cx S w)∧st.sl 4= .own 3011 9 1 xs) (fun a6 w6 h6=>?_) ?_)
  ·obtain ⟨E6,s6,rfl,p1,p2,p3,p4⟩:=h6
   obtain ⟨js,hjs,rfl⟩:=hxs
   refine wp_ret ⟨.inr rfl,S0',E6,s6,D,rfl,p1,q2,q3,q4,q5,by rw [p2,q6'],p3,_,_,⟨js,hjs,rfl⟩,va (fun _=>rfl) (fun _=>rfl) js ks,?_,.inl ⟨3011,rfl⟩⟩
   have:dJ s6 Tryz.f156.results.toList=some [s6.sl 4]:=by
    rw [show Tryz.f156.results.toList=[.tmp 4] from rfl];rfl
   rw [this,p4]
  ·obtain ⟨sl5,bx5,gh5,off5,cx5⟩:=s5
   dsimp only at r1 r2 r3
   obtain ⟨g,rfl⟩: ∃g,sl5=upd g 2 (.ptr 2 0):=⟨sl5,(uB r1).symm⟩
   obtain ⟨b,rfl⟩: ∃b,bx5=upd b 2 (some (.v [.own 3011 9 1 xs])):=⟨bx5,(uB r2).symm⟩
   exact ⟨r3,rfl⟩
theorem CT (ks:List ByteArray) (vs:List T) (hvs:vs.length=ks.length) (hl:ks.length<2^40):fE Tryz.prog 131 [uR ks vs] 9 1 (uk env e0 ks):=by
 refine qx (rs:=[.tmp 2]) mixed Tryz.func131 HP rfl rfl rfl (nlZ rfl) ?_
 repeat' ((conv=>whnf);first|refine q9 (ts:=[.nil,uR ks vs]) rfl (A4 ks vs hvs hl) (fun xs hx=>?_)|fail)
 obtain ⟨js,hjs,rfl⟩:=hx
 exact ⟨_,_,⟨js,hjs,rfl⟩,va (fun _=>rfl) (fun _=>rfl) js ks,rfl,.inl ⟨_,rfl⟩⟩
theorem Fi:iq Tryz.prog 132 encStr (fun x y:List UInt8=>decide (x≤y)):=iq.str Tryz.Cr rfl (bM Tryz.func132 rfl rfl)
theorem Eg (ks:List ByteArray) (vs:List T) (hvs:vs.length=ks.length) (hl:ks.length<2^40) (hn:ks.Nodup):kB Tryz.prog 87 [uR ks vs] (.slice 1 ((vR ks).map env)):=by
 refine qJ (rs:=[.tmp 2]) mixed Tryz.func87 l87 rfl rfl rfl (nlZ rfl) ?_
 repeat' ((conv=>whnf);first|refine qV (ts:=[uR ks vs]) rfl (CT ks vs hvs hl) rfl (fun h0=>?_) (fun xs hx hc=>?_)|fail)
 ·obtain ⟨zs,hp,h0⟩:=vb h0
  have:zs=[]:=by
   cases zs with
   |nil=>rfl
   |cons z zs=>cases h0
  subst this
  have:ks=[]:=List.nil_perm.1 hp
  subst this
  repeat' ((conv=>whnf);first|refine pT Fi ?_|fail)
  exact ⟨.t .nil,rfl,.nil 1⟩
 ·obtain ⟨zs,hp,rfl⟩:=vb hx
  have hzl:zs.length<2^40:=by rw [hp.length_eq];exact hl
  have hfl:=AS (enc:=env) (fun _=>rfl) zs
  have hle:(zs.map env).length=zs.length:=List.length_map _
  have hsl:(vR ks).length=zs.length:=by
   have e:=congrArg List.length (yF hn hp)
   simp only [List.length_map,List.length_mergeSort] at e
   omega
  repeat' ((conv=>whnf);first|(refine qU (n:=5) (off:=0) (len:=(zs.map env).length) (m:=(zs.map env).length * 1) (ts:=(zs.map env).flatMap T.cells) (encT:=xh) Fi rfl (zs.map ByteArray.toList) ?_ ?_ (by omega) (fun a S w v h=>by cases h;rfl) (fun a S w=>.str _) (fun _=>rfl) ?_)|fail)
  ·rw [hfl,List.drop_zero,List.take_of_length_le (by omega)]
   exact (by rw [List.map_map];exact List.map_congr_left fun z _=>(Cm z).symm)
  ·simp
  ·skip
   have e:=yF hn hp
   refine ⟨.view 5 0 (zs.map env).length 1,rfl,.view 5 0 (zs.map env).length 1 ((zs.map env).length * 1) (aK ((zs.map env).flatMap T.cells) 0 (zs.map env).length (((zs.map ByteArray.toList).mergeSort (fun x y:List UInt8=>decide (x≤y))).map xh)) _ [5] rfl ?_ ?_⟩
   ·rw [vd (by rw [hfl]),e]
    intro t ht
    obtain ⟨z,_,rfl⟩:=List.mem_map.1 ht
    rfl
   ·show (cond (Nat.blt 0 1&&Nat.ble (0+(zs.map env).length * 1) ((zs.map env).length * 1)) (some (T.slice 1 (chunk 1 (zs.map env).length ((aK ((zs.map env).flatMap T.cells) 0 (zs.map env).length (((zs.map ByteArray.toList).mergeSort (fun x y:List UInt8=>decide (x≤y))).map xh)).drop 0)),[5])) none)=_
    rw [vd (by rw [hfl]),e,Nat.zero_add,List.drop_zero,yx _ _ (by rw [List.length_map];omega)]
    have:Nat.ble ((zs.map env).length * 1) ((zs.map env).length * 1)=true:=Nat.ble_eq_true_of_le (Nat.le_refl _)
    rw [this]
    rfl
theorem Hp (ks:List ByteArray) (vs:List T):DCalls Tryz.prog 97 [mpv ks vs] (uR ks vs):=by
 refine qF (rs:=[.tmp 2]) mixed Tryz.func97 l97 rfl rfl rfl (r:=[uR ks vs]) (nlZ rfl) ?_
 repeat' ((conv=>whnf);first|exact trivial|refine aS ?_|fail)
end Go.TY
end
section
namespace Go.TY
open Go Go.DL Go.MM Go.Proofs
theorem Fw {l:List Fd} {gs:List RG} {st:VS} (h:tG l gs=some st):xd l (sJ (gs.map (·.st))) st:=by
 unfold tG at h
 have hs:=xX (ts:=sJ (gs.map (·.st))) (xd.start (l:=l))
 rw [List.nil_append] at hs
 by_cases hp:PW l (sJ (gs.map (·.st)))
 ·obtain ⟨st',h1,h2⟩:=hs.1 hp
  rw [h1] at h
  cases h;exact h2
 ·rw [hs.2 hp] at h;cases h
theorem w9 {l:List Fd} {gs:List RG}:(tG l gs).isNone=true↔ ¬PW l (sJ (gs.map (·.st))):=by
 unfold tG
 have hs:=xX (ts:=sJ (gs.map (·.st))) (xd.start (l:=l))
 rw [List.nil_append] at hs
 by_cases hp:PW l (sJ (gs.map (·.st)))
 ·obtain ⟨st',h1,h2⟩:=hs.1 hp
  rw [h1];simp [hp]
 ·rw [hs.2 hp];simp [hp]
def xy (gs:List RG):List ByteArray:=vR (once [] ((sJ (gs.map (·.st))).map (·.var)))
def v0:RV:=⟨e0,0,[],0,0⟩
def AV (l:List Fd) (gs:List RG):List RV:=(xy gs).map fun s=>(wF l (sJ (gs.map (·.st))) s).getD v0
theorem FH {ks:List ByteArray} (_:ks.Nodup) {x:ByteArray}:x∈vR ks↔x∈ks:=by
 unfold vR
 exact vo
theorem Cy {α:Type} [DecidableEq α] {lt:α→α→Bool} {x:α}: ∀{l:List α},(put lt l x).length≤l.length+1
 |[]=>by simp [put]
 |y::l=>by
  have ih:=Cy (lt:=lt) (x:=x) (l:=l)
  have hf:=List.length_filter_le (fun y'=> !decide (y'=x)) (y::l)
  unfold put
  split
  ·simp only [List.length_cons] at *;omega
  ·simp only [List.length_cons] at *;omega
theorem yY {α:Type} [DecidableEq α] {lt:α→α→Bool}: ∀{l acc:List α},(l.foldl (put lt) acc).length≤acc.length+l.length
 |[],_=>by simp
 |x::l,acc=>by
  have h1:=Cy (lt:=lt) (x:=x) (l:=acc)
  have h2:=yY (lt:=lt) (l:=l) (acc:=put lt acc x)
  rw [List.foldl_cons,List.length_cons]
  omega
theorem zJ {α:Type} [DecidableEq α] {lt:α→α→Bool} {l:List α}:(um lt l).length≤l.length:=by
 have:=yY (lt:=lt) (l:=l) (acc:=[])
 rw [List.length_nil,Nat.zero_add] at this;exact this
theorem G6 (s:ByteArray) (all:List RV) (v:RV) (h:tc all s=some v):mK zV false (eb (T.str s).cells (esV all))= .agg (wu v):=by
 rw [Ah,h];rfl
theorem D6 {all:List RV} {s:ByteArray} (h:s∈all.map (·.name)): ∃v,tc all s=some v:=by
 unfold tc
 obtain ⟨v,hv,rfl⟩:=List.mem_map.1 h
 cases e:all.find? fun x=>decide (x.name=v.name) with
 |some x=>exact ⟨x,rfl⟩
 |none=>
  have:=List.find?_eq_none.1 e v hv
  simp at this
theorem GV (all:List RV):(((all.map fun v=>T.str v.name)).zip (all.map sQ))=esV all:=by
 unfold esV
 induction all with
 |nil=>rfl
 |cons x xs ih=>simp only [List.map_cons,List.zip_cons_cons,ih]
theorem Ch (l:List Fd) (hl:LOk l) (gs:List RG) (hgl:gs.length<2^39) (hg: ∀g∈gs,SmS (2^40) g.st∧0≤g.st.kind∧g.st.kind≤6) (st:VS) (hst:tG l gs=some st):
  DCalls Tryz.prog 39 [fds l,.slice 15 (gs.map sg)] (.slice 5 ((AV l gs).map sQ)):=by
 refine qF (rs:=[.tmp 4]) mixed Tryz.func39 l39 rfl rfl rfl (r:=[.slice 5 ((AV l gs).map sQ)]) (nlZ rfl) ?_
 have hv:DCalls Tryz.prog 96 [fds l,.slice 15 (gs.map sg)] (.tup [.mapd false [.str] (st.all.map fun v=>.str v.name) (st.all.map sQ),.bool true]):=by
  have:=y8 l hl gs (by omega) hg
  rw [hst] at this;exact this
 have hi:=Fw hst
 have hnd:(st.all.map (·.name)).Nodup:=by rw [hi.names];exact uO (l:=(sJ (gs.map (·.st))).map (·.var)) (acc:=[]) List.nodup_nil
 have hln:(st.all.map (·.name)).length≤gs.length:=by
  rw [hi.names]
  have h1:=vM (l:=(sJ (gs.map (·.st))).map (·.var)) (acc:=[])
  have h2:(sJ (gs.map (·.st))).length≤gs.length:=by
   unfold sJ
   exact Nat.le_trans (List.length_filter_le _ _) (by rw [List.length_map];omega)
  rw [List.length_map,List.length_nil] at h1
  omega
 have hks:=Hp (st.all.map (·.name)) (st.all.map sQ)
 have hso:=(Eg (st.all.map (·.name)) (st.all.map sQ) (by simp) (by omega) hnd).rm
 have hnm:vR (st.all.map (·.name))=xy gs:=by rw [hi.names];rfl
 have hmem: ∀x∈xy gs, ∃v,tc st.all x=some v:=fun x hx=>by
  rw [← hnm] at hx
  exact D6 ((FH hnd).1 hx)
 have hsum:=hi.look
 have hnl:(xy gs).length<2^40:=by
  have:(xy gs).length≤(st.all.map (·.name)).length:=by rw [← hnm];exact zJ
  omega
 rw [hnm] at hso
 have e1:mpv (st.all.map (·.name)) (st.all.map sQ)= .mapd false [.str] (st.all.map fun v=>.str v.name) (st.all.map sQ):=by unfold mpv;rw [List.map_map];rfl
 rw [e1] at hks
 unfold AV
 clear hnm hi hnd hln
 generalize xy gs=ns at *
 generalize sJ (gs.map (·.st))=ss at *
 have hz:=GV st.all
 generalize uR (st.all.map (·.name)) (st.all.map sQ)=kc at *
 repeat' ((conv=>whnf);first|refine rp _ (hv) ?_|refine rp _ (hks) ?_|refine rp _ (hso) ?_|fail)
 refine qQ 0 (α:=Nat) (β:=Unit) (fun i=>{sl:=[(5,.t (.mapd false [.str] (st.all.map fun v=>.str v.name) (st.all.map sQ))),(7,.own 29 66 5 ((ns.take i).map fun s=>sQ ((wF l ss s).getD v0))),(18,.t (.slice 1 (ns.map env))),(19,.t (I ns.length)),(20,.t (I i))],bx:=[]})
  (fun i=>i≤ns.length) (fun i=>ns.length - i) (fun _=>{sl:=[(7,.t (.slice 5 ((ns.map fun s=>(wF l ss s).getD v0).map sQ)))],bx:=[]}) (fun _=>True) 0 (by simp) ?_ ?_ ?_
 ·repeat' (first|(exact leI (by simp))|exact trivial|exact LeV.same _|exact rfl|exact fun _ _ _=>trivial|exact LeV.nil _ _ _|refine And.intro ?_ ?_)
 ·rintro i hi
  rcases Nat.lt_or_ge i ns.length with h|h
  ·obtain ⟨v,hv⟩:=hmem ns[i] (List.getElem_mem h)
   have hk:=G6 ns[i] st.all v hv
   rw [← hz] at hk
   have hv2:(wF l ss ns[i]).getD v0=v:=by rw [← hsum,hv];rfl
   have ht:ns.take (i+1)=ns.take i++[ns[i]]:=by rw [List.take_succ_eq_append_getElem h]
   repeat' ((conv=>whnf);first|(refine nv_ (.str ns[i]) (by first|(simp [h];done)|fail) ?_)|(refine nv_ (.agg (wu v)) (by first|exact hk|fail) ?_)|refine nT_ ?_|refine aD1 ?_|(refine And.intro (by first|exact ⟨rfl,trivial⟩|((simp only [List.length_map,List.length_take];omega);done)|fail) ?_)|refine aS ?_|fail)
   refine ⟨i+1,h,by omega,?_⟩
   repeat' (first|(exact rM (by rw [ht,List.map_append];exact congrArg (_++ ·) (congrArg (fun c=>[sQ c]) hv2)))|exact trivial|exact LeV.same _|exact rfl|exact fun _ _ _=>trivial|exact lI|refine And.intro ?_ ?_)
  ·have:i=ns.length:=by omega
   subst this
   rw [List.take_length]
   repeat' ((conv=>whnf);first|(exact ⟨(),trivial,by (repeat' (first|(exact wy (by rw [List.map_map];rfl))|exact trivial|exact rfl|exact fun _ _ _=>trivial|refine And.intro ?_ ?_));done⟩)|refine aD0 ?_|refine aS ?_|fail)
 ·rintro _ _
  repeat' ((conv=>whnf);first|exact trivial|refine aS ?_|fail)
end Go.TY
end
noncomputable section
namespace Go.TY
open Go Go.DL Go.Proofs
def c22:aV:=(.seq (.region [oo 4 (.mov kF)] []) (.seq (.seq (.region [mv 6 0,ln 7 6,mv 8 1,ln 9 8,oo 10 (.bin .neq (tm 7) (tm 9))] []) (.cond (tm 10) (.seq (.region [oo 4 (.mov kF)] []) .ret) .skip)) (.seq (.seq (.region [oo 5 (.mov (Kc 0))] []) (.block 0 (.loop (.seq (.seq (.region [mv 11 5,mv 12 0,ln 13 12,oo 14 (.bin .lss (tm 11) (tm 13))] []) (.cond (tm 14) .skip (.exit 0))) (.seq (.block 1 (.seq (.region [mv 17 0,mv 18 5,ix 19 1 17 18,ld 20 19,mv 21 1,mv 22 5,ix 23 1 21 22,ld 24 23,oo 25 (.bin .neq (tm 20) (tm 24))] []) (.cond (tm 25) (.seq (.region [oo 4 (.mov kF)] []) .ret) .skip))) (.region [mv 15 5,oo 16 (.bin .add (tm 15) (Kc 1)),mv 5 16] [])))))) (.seq (.region [oo 4 (.mov kT)] []) .ret))))
theorem l22:(Tryz.f22.body.bind (bz Tryz.prog 26 []))=some c22:=by kernel_rfl
def c27:aV:=(.seq (.region [oo 4 (.mov kF)] []) (.seq (.seq (.region [mv 6 0,ln 7 6,mv 8 1,ln 9 8,oo 10 (.bin .neq (tm 7) (tm 9))] []) (.cond (tm 10) (.seq (.region [oo 4 (.mov kF)] []) .ret) .skip)) (.seq (.seq (.region [oo 5 (.mov (Kc 0))] []) (.block 0 (.loop (.seq (.seq (.region [mv 11 5,mv 12 0,ln 13 12,oo 14 (.bin .lss (tm 11) (tm 13))] []) (.cond (tm 14) .skip (.exit 0))) (.seq (.block 1 (.seq (.region [mv 17 0,mv 18 5,ix 19 1 17 18,ld 20 19,mv 21 1,mv 22 5,ix 23 1 21 22,ld 24 23,oo 25 (.bin .neq (tm 20) (tm 24))] []) (.cond (tm 25) (.seq (.region [oo 4 (.mov kF)] []) .ret) .skip))) (.region [mv 15 5,oo 16 (.bin .add (tm 15) (Kc 1)),mv 5 16] [])))))) (.seq (.region [oo 4 (.mov kT)] []) .ret))))
theorem l27:(Tryz.f27.body.bind (bz Tryz.prog 26 []))=some c27:=by kernel_rfl
def c42:aV:=(.seq (.region [oo 2 (.box 5 (tm 0)),oo 3 (.box 5 (tm 1)),oo 4 (.mov kF)] []) (.seq (.region [fa 6 2 2,ld 7 6,fa 8 2 3,ld 9 8,oo 10 (.call 27 [(tm 7),(tm 9)]),mv 5 10] []) (.seq (.region [mv 11 5,mv 12 11,oT 13 12 (.offA 0 (tm 2)),oT 14 12 (.load 1 false (tm 13)),oT 15 12 (.offA 0 (tm 3)),oT 16 12 (.load 1 false (tm 15)),oT 17 12 (.bin .eql (tm 14) (tm 16)),oo 18 (.pick (tm 12) (tm 17) kF),mv 19 18,oT 20 19 (.offA 1 (tm 2)),oT 21 19 (.load 1 false (tm 20)),oT 22 19 (.offA 1 (tm 3)),oT 23 19 (.load 1 false (tm 22)),oT 24 19 (.bin .eql (tm 21) (tm 23)),oo 25 (.pick (tm 19) (tm 24) kF),mv 26 25,oT 27 26 (.offA 3 (tm 2)),oT 28 26 (.load 1 false (tm 27)),oT 29 26 (.offA 3 (tm 3)),oT 30 26 (.load 1 false (tm 29)),oT 31 26 (.bin .eql (tm 28) (tm 30)),oo 32 (.pick (tm 26) (tm 31) kF),mv 33 32,oT 34 33 (.offA 4 (tm 2)),oT 35 33 (.load 1 false (tm 34)),oT 36 33 (.offA 4 (tm 3)),oT 37 33 (.load 1 false (tm 36)),oT 38 33 (.bin .eql (tm 35) (tm 37)),oo 39 (.pick (tm 33) (tm 38) kF),mv 4 39] []) .ret)))
theorem l42:(Tryz.f42.body.bind (bz Tryz.prog 40 []))=some c42:=by kernel_rfl
def c45:aV:=(.seq (.region [oo 4 (.mov kF)] []) (.seq (.seq (.region [mv 7 0,ln 8 7,mv 9 1,ln 10 9,oo 11 (.bin .neq (tm 8) (tm 10))] []) (.cond (tm 11) (.seq (.region [oo 4 (.mov kF)] []) .ret) .skip)) (.seq (.seq (.region [oo 5 (.mov (Kc 0))] []) (.block 0 (.loop (.seq (.seq (.region [mv 12 5,mv 13 0,ln 14 13,oo 15 (.bin .lss (tm 12) (tm 14))] []) (.cond (tm 15) .skip (.exit 0))) (.seq (.block 1 (.seq (.region [mv 18 0,mv 19 5,ix 20 5 18 19,lA 21 5 20,mv 22 1,mv 23 5,ix 24 5 22 23,lA 25 5 24,oo 26 (.call 42 [(tm 21),(tm 25)]),mv 6 26] []) (.seq (.region [mv 27 6,oo 28 (.not (tm 27))] []) (.cond (tm 28) (.seq (.region [oo 4 (.mov kF)] []) .ret) .skip)))) (.region [mv 16 5,oo 17 (.bin .add (tm 16) (Kc 1)),mv 5 17] [])))))) (.seq (.region [oo 4 (.mov kT)] []) .ret))))
theorem l45:(Tryz.f45.body.bind (bz Tryz.prog 29 []))=some c45:=by kernel_rfl
def c51:aV:=(.seq (.region [oo 2 (.box 5 (tm 0)),oo 3 (.box 5 (tm 1)),oo 4 (.mov kF)] []) (.seq (.seq (.region [fa 7 0 2,ld 8 7,fa 9 0 3,ld 10 9,oo 11 (.bin .neq (tm 8) (tm 10)),mv 12 11,oF 13 12 (.offA 1 (tm 2)),oF 14 12 (.load 1 false (tm 13)),oF 15 12 (.offA 1 (tm 3)),oF 16 12 (.load 1 false (tm 15)),oF 17 12 (.bin .neq (tm 14) (tm 16)),oo 18 (.pick (tm 12) kT (tm 17)),mv 19 18,oF 20 19 (.offA 2 (tm 2)),oF 21 19 (.load 1 false (tm 20)),oF 22 19 (.offA 2 (tm 3)),oF 23 19 (.load 1 false (tm 22)),oF 24 19 (.bin .neq (tm 21) (tm 23)),oo 25 (.pick (tm 19) kT (tm 24)),mv 26 25,oF 27 26 (.offA 3 (tm 2)),oF 28 26 (.load 1 false (tm 27)),oF 29 26 (.offA 3 (tm 3)),oF 30 26 (.load 1 false (tm 29)),oF 31 26 (.bin .neq (tm 28) (tm 30)),oo 32 (.pick (tm 26) kT (tm 31)),mv 33 32,oF 34 33 (.offA 4 (tm 2)),oF 35 33 (.load 1 false (tm 34)),oF 36 33 (.len (tm 35)),oF 37 33 (.offA 4 (tm 3)),oF 38 33 (.load 1 false (tm 37)),oF 39 33 (.len (tm 38)),oF 40 33 (.bin .neq (tm 36) (tm 39)),oo 41 (.pick (tm 33) kT (tm 40))] []) (.cond (tm 41) (.seq (.region [oo 4 (.mov kF)] []) .ret) .skip)) (.seq (.seq (.region [oo 5 (.mov (Kc 0))] []) (.block 0 (.loop (.seq (.seq (.region [mv 42 5,fa 43 4 2,ld 44 43,ln 45 44,oo 46 (.bin .lss (tm 42) (tm 45))] []) (.cond (tm 46) .skip (.exit 0))) (.seq (.block 1 (.seq (.region [fa 49 4 2,ld 50 49,mv 51 5,ix 52 5 50 51,lA 53 5 52,fa 54 4 3,ld 55 54,mv 56 5,ix 57 5 55 56,lA 58 5 57,oo 59 (.call 51 [(tm 53),(tm 58)]),mv 6 59] []) (.seq (.region [mv 60 6,oo 61 (.not (tm 60))] []) (.cond (tm 61) (.seq (.region [oo 4 (.mov kF)] []) .ret) .skip)))) (.region [mv 47 5,oo 48 (.bin .add (tm 47) (Kc 1)),mv 5 48] [])))))) (.seq (.region [oo 4 (.mov kT)] []) .ret))))
theorem l51:(Tryz.f51.body.bind (bz Tryz.prog 62 []))=some c51:=by kernel_rfl
def c48:aV:=(.seq (.region [oo 2 (.box 9 (tm 0)),oo 3 (.box 9 (tm 1)),oo 4 (.mov kF)] []) (.seq (.region [fa 8 1 2,lA 9 5 8,fa 10 1 3,lA 11 5 10,oo 12 (.call 51 [(tm 9),(tm 11)]),mv 5 12] []) (.seq (.seq (.region [mv 13 5,oo 14 (.not (tm 13)),mv 15 14,oF 16 15 (.offA 0 (tm 2)),oF 17 15 (.load 1 false (tm 16)),oF 18 15 (.offA 0 (tm 3)),oF 19 15 (.load 1 false (tm 18)),oF 20 15 (.bin .neq (tm 17) (tm 19)),oo 21 (.pick (tm 15) kT (tm 20)),mv 22 21,oF 23 22 (.offA 6 (tm 2)),oF 24 22 (.load 1 false (tm 23)),oF 25 22 (.offA 6 (tm 3)),oF 26 22 (.load 1 false (tm 25)),oF 27 22 (.bin .neq (tm 24) (tm 26)),oo 28 (.pick (tm 22) kT (tm 27)),mv 29 28,oF 30 29 (.offA 7 (tm 2)),oF 31 29 (.load 1 false (tm 30)),oF 32 29 (.offA 7 (tm 3)),oF 33 29 (.load 1 false (tm 32)),oF 34 29 (.bin .neq (tm 31) (tm 33)),oo 35 (.pick (tm 29) kT (tm 34)),mv 36 35,oF 37 36 (.offA 8 (tm 2)),oF 38 36 (.load 1 false (tm 37)),oF 39 36 (.len (tm 38)),oF 40 36 (.offA 8 (tm 3)),oF 41 36 (.load 1 false (tm 40)),oF 42 36 (.len (tm 41)),oF 43 36 (.bin .neq (tm 39) (tm 42)),oo 44 (.pick (tm 36) kT (tm 43))] []) (.cond (tm 44) (.seq (.region [oo 4 (.mov kF)] []) .ret) .skip)) (.seq (.seq (.region [oo 6 (.mov (Kc 0))] []) (.block 0 (.loop (.seq (.seq (.region [mv 45 6,fa 46 8 2,ld 47 46,ln 48 47,oo 49 (.bin .lss (tm 45) (tm 48))] []) (.cond (tm 49) .skip (.exit 0))) (.seq (.block 1 (.seq (.region [fa 52 8 2,ld 53 52,mv 54 6,ix 55 9 53 54,lA 56 9 55,fa 57 8 3,ld 58 57,mv 59 6,ix 60 9 58 59,lA 61 9 60,oo 62 (.call 48 [(tm 56),(tm 61)]),mv 7 62] []) (.seq (.region [mv 63 7,oo 64 (.not (tm 63))] []) (.cond (tm 64) (.seq (.region [oo 4 (.mov kF)] []) .ret) .skip)))) (.region [mv 50 6,oo 51 (.bin .add (tm 50) (Kc 1)),mv 6 51] [])))))) (.seq (.region [oo 4 (.mov kT)] []) .ret)))))
theorem l48:(Tryz.f48.body.bind (bz Tryz.prog 65 []))=some c48:=by kernel_rfl
def Lt:aV:=(.seq (.region [oo 2 (.box 6 (tm 0)),oo 3 (.box 6 (tm 1)),oo 4 (.mov kF)] []) (.seq (.seq (.region [fa 6 0 2,ld 7 6,fa 8 0 3,ld 9 8,oo 10 (.bin .neq (tm 7) (tm 9)),mv 11 10,oF 12 11 (.offA 1 (tm 2)),oF 13 11 (.load 1 false (tm 12)),oF 14 11 (.offA 1 (tm 3)),oF 15 11 (.load 1 false (tm 14)),oF 16 11 (.bin .neq (tm 13) (tm 15)),oo 17 (.pick (tm 11) kT (tm 16)),mv 18 17,oF 19 18 (.offA 3 (tm 2)),oF 20 18 (.load 1 false (tm 19)),oF 21 18 (.offA 3 (tm 3)),oF 22 18 (.load 1 false (tm 21)),oF 23 18 (.bin .neq (tm 20) (tm 22)),oo 24 (.pick (tm 18) kT (tm 23)),mv 25 24,oF 26 25 (.offA 4 (tm 2)),oF 27 25 (.load 1 false (tm 26)),oF 28 25 (.offA 4 (tm 3)),oF 29 25 (.load 1 false (tm 28)),oF 30 25 (.bin .neq (tm 27) (tm 29)),oo 31 (.pick (tm 25) kT (tm 30)),mv 32 31,oF 33 32 (.offA 5 (tm 2)),oF 34 32 (.load 1 false (tm 33)),oF 35 32 (.offA 5 (tm 3)),oF 36 32 (.load 1 false (tm 35)),oF 37 32 (.bin .neq (tm 34) (tm 36)),oo 38 (.pick (tm 32) kT (tm 37)),mv 39 38,oF 40 39 (.offA 2 (tm 2)),oF 41 39 (.load 1 false (tm 40)),oF 42 39 (.len (tm 41)),oF 43 39 (.offA 2 (tm 3)),oF 44 39 (.load 1 false (tm 43)),oF 45 39 (.len (tm 44)),oF 46 39 (.bin .neq (tm 42) (tm 45)),oo 47 (.pick (tm 39) kT (tm 46))] []) (.cond (tm 47) (.seq (.region [oo 4 (.mov kF)] []) .ret) .skip)) (.seq (.seq (.region [oo 5 (.mov (Kc 0))] []) (.block 0 (.loop (.seq (.seq (.region [mv 48 5,fa 49 2 2,ld 50 49,ln 51 50,oo 52 (.bin .lss (tm 48) (tm 51))] []) (.cond (tm 52) .skip (.exit 0))) (.seq (.block 1 (.seq (.region [fa 55 2 2,ld 56 55,mv 57 5,ix 58 1 56 57,ld 59 58,fa 60 2 3,ld 61 60,mv 62 5,ix 63 1 61 62,ld 64 63,oo 65 (.bin .neq (tm 59) (tm 64))] []) (.cond (tm 65) (.seq (.region [oo 4 (.mov kF)] []) .ret) .skip))) (.region [mv 53 5,oo 54 (.bin .add (tm 53) (Kc 1)),mv 5 54] [])))))) (.seq (.region [oo 4 (.mov kT)] []) .ret))))
theorem MY:(Tryz.f104.body.bind (bz Tryz.prog 66 []))=some Lt:=by kernel_rfl
def c54:aV:=(.seq (.region [oo 4 (.mov kF)] []) (.seq (.seq (.region [mv 8 0,ln 9 8,mv 10 1,ln 11 10,oo 12 (.bin .neq (tm 9) (tm 11))] []) (.cond (tm 12) (.seq (.region [oo 4 (.mov kF)] []) .ret) .skip)) (.seq (.seq (.region [oo 5 (.mov (Kc 0))] []) (.block 0 (.loop (.seq (.seq (.region [mv 13 5,mv 14 0,ln 15 14,oo 16 (.bin .lss (tm 13) (tm 15))] []) (.cond (tm 16) .skip (.exit 0))) (.seq (.block 1 (.seq (.region [mv 19 0,mv 20 5,ix 21 15 19 20,oo 22 (.nar 9 (tm 21)),lA 23 9 22,mv 24 1,mv 25 5,ix 26 15 24 25,oo 27 (.nar 9 (tm 26)),lA 28 9 27,oo 29 (.call 48 [(tm 23),(tm 28)]),mv 6 29] []) (.seq (.region [mv 30 0,mv 31 5,ix 32 15 30 31,fa 33 9 32,lA 34 6 33,mv 35 1,mv 36 5,ix 37 15 35 36,fa 38 9 37,lA 39 6 38,oo 40 (.call 104 [(tm 34),(tm 39)]),mv 7 40] []) (.seq (.region [mv 41 6,oo 42 (.not (tm 41)),mv 43 42,mF 44 7 43,oF 45 43 (.not (tm 44)),oo 46 (.pick (tm 43) kT (tm 45))] []) (.cond (tm 46) (.seq (.region [oo 4 (.mov kF)] []) .ret) .skip))))) (.region [mv 17 5,oo 18 (.bin .add (tm 17) (Kc 1)),mv 5 18] [])))))) (.seq (.region [oo 4 (.mov kT)] []) .ret))))
theorem l54:(Tryz.f54.body.bind (bz Tryz.prog 47 [2000022000009,2000027000009]))=some c54:=by kernel_rfl
def Lp:aV:=(.seq (.region [oo 2 (.mov (Kc 0))] []) (.seq (.seq (.region [mv 3 0] []) (.block 0 (.seq (.region [oo 5 (.bin .eql (tm 3) (Kc 1)),mv 4 5] []) (.cond (tm 4) (.seq (.region [oo 2 (.mov (Kc 1))] []) .ret) (.seq (.seq (.region [oo 7 (.bin .eql (tm 3) (Kc 2)),mv 6 7] []) (.cond (tm 6) .skip (.region [oo 8 (.bin .eql (tm 3) (Kc 3)),mv 6 8] []))) (.cond (tm 6) (.seq (.region [oo 2 (.mov (Kc 2))] []) .ret) (.seq (.seq (.region [oo 10 (.bin .eql (tm 3) (Kc 4)),mv 9 10] []) (.cond (tm 9) .skip (.region [oo 11 (.bin .eql (tm 3) (Kc 5)),mv 9 11] []))) (.cond (tm 9) (.seq (.region [oo 2 (.mov (Kc 3))] []) .ret) .skip)))))))) (.seq (.region [oo 2 (.mov (Kc 4))] []) .ret)))
theorem MU:(Tryz.f100.body.bind (bz Tryz.prog 12 []))=some Lp:=by kernel_rfl
def Lq:aV:=(.seq (.region [oo 4 (.mov (.const .nil))] []) (.seq (.region [oo 5 (.mov (.const .nil))] []) (.seq (.seq (.region [oo 6 (.mov (Kc 0))] []) (.block 0 (.loop (.seq (.seq (.region [mv 9 6,mv 10 1,ln 11 10,oo 12 (.bin .lss (tm 9) (tm 11))] []) (.cond (tm 12) .skip (.exit 0))) (.seq (.block 1 (.seq (.region [mv 16 0,mv 17 1,mv 18 6,ix 19 1 17 18,ld 20 19,oo 21 (.call 77 [(tm 16),(tm 20)]),mv 15 21,oo 22 (.ext (tm 15) 0),oo 23 (.ext (tm 15) 1),⟨some 7,.alloc [S0,Z0,Z0],none,[]⟩,o0 (.store 3 (tm 7) (tm 22)),mv 8 23] []) (.region [mv 24 5,fa 25 2 7,ld 26 25,oo 27 (.buildF 1 1 [Z0] [(0,(tm 26))]),oo 28 (.append 46 3 1 8 (tm 24) (tm 27)),mv 5 28] []))) (.region [mv 13 6,oo 14 (.bin .add (tm 13) (Kc 1)),mv 6 14] [])))))) (.seq (.region [mv 29 5,mv 4 29] []) .ret))))
theorem MV:(Tryz.f101.body.bind (bz Tryz.prog 30 [8000027]))=some Lq:=by kernel_rfl
def Lr:aV:=(.seq (.region [oo 1 (.box 6 (tm 0)),oo 2 (.mov kF)] []) (.seq (.region [fa 3 0 1,ld 4 3,oo 5 (.bin .eql (tm 4) (Kc 4)),mv 6 5,oF 7 6 (.offA 0 (tm 1)),oF 8 6 (.load 1 false (tm 7)),oF 9 6 (.bin .eql (tm 8) (Kc 6)),oo 10 (.pick (tm 6) kT (tm 9)),mv 2 10] []) .ret))
theorem MW:(Tryz.f102.body.bind (bz Tryz.prog 11 []))=some Lr:=by kernel_rfl
def c98:aV:=(.seq (.region [oo 4 (.box 6 (tm 1)),oo 5 (.box 6 (tm 2)),oo 6 (.mov kF)] []) (.seq (.seq (.region [lA 8 6 4,oo 9 (.call 102 [tm 8]),mv 10 9,oT 11 10 (.load 6 true (tm 5)),oT 12 10 (.call 102 [tm 11]),oo 13 (.pick (tm 10) (tm 12) kF),mv 14 13,oT 15 14 (.offA 4 (tm 4)),oT 16 14 (.load 1 false (tm 15)),oT 17 14 (.offA 4 (tm 5)),oT 18 14 (.load 1 false (tm 17)),oT 19 14 (.bin .neq (tm 16) (tm 18)),mT 20 19 14,oF 21 20 (.offA 5 (tm 4)),oF 22 20 (.load 1 false (tm 21)),oF 23 20 (.offA 5 (tm 5)),oF 24 20 (.load 1 false (tm 23)),oF 25 20 (.bin .neq (tm 22) (tm 24)),oT 26 14 (.pick (tm 20) kT (tm 25)),oo 27 (.pick (tm 14) (tm 26) kF)] []) (.cond (tm 27) (.seq (.region [oo 6 (.mov kF)] []) .ret) .skip)) (.seq (.region [mv 28 0,fa 29 2 4,ld 30 29,oo 31 (.call 101 [(tm 28),(tm 30)]),mv 32 0,fa 33 2 5,ld 34 33,oo 35 (.call 101 [(tm 32),(tm 34)]),oo 36 (.call 27 [(tm 31),(tm 35)]),mv 7 36] []) (.seq (.region [mv 37 7,mv 38 37,oT 39 38 (.offA 0 (tm 4)),oT 40 38 (.load 1 false (tm 39)),oT 41 38 (.call 100 [tm 40]),oT 42 38 (.offA 0 (tm 5)),oT 43 38 (.load 1 false (tm 42)),oT 44 38 (.call 100 [tm 43]),oT 45 38 (.bin .eql (tm 41) (tm 44)),oo 46 (.pick (tm 38) (tm 45) kF),mv 6 46] []) .ret))))
theorem l98:(Tryz.f98.body.bind (bz Tryz.prog 47 []))=some c98:=by kernel_rfl
def c89:aV:=(.seq (.region [oo 1 (.box 9 (tm 0)),oo 2 (.mov (.const .nil))] []) (.seq (.region [oo 3 (.mov (.const .nil))] []) (.seq (.region [lA 6 9 1,oo 7 (.call 76 [tm 6]),mv 4 7] []) (.seq (.seq (.region [oo 5 (.mov (Kc 0))] []) (.block 0 (.loop (.seq (.seq (.region [mv 8 5,mv 9 4,ln 10 9,oo 11 (.bin .lss (tm 8) (tm 10))] []) (.cond (tm 11) .skip (.exit 0))) (.seq (.block 1 (.seq (.region [mv 14 4,mv 15 5,ix 16 9 14 15,fa 17 0 16,ld 18 17,oo 19 (.bin .eql (tm 18) (Kc 1))] []) (.cond (tm 19) (.region [mv 20 3,mv 21 4,mv 22 5,ix 23 9 21 22,fa 24 1 23,lA 25 5 24,oo 26 (.call 111 [tm 25]),oo 27 (.append 23 25 5 64 (tm 20) (tm 26)),mv 3 27] []) .skip))) (.region [mv 12 5,oo 13 (.bin .add (tm 12) (Kc 1)),mv 5 13] [])))))) (.seq (.region [mv 28 3,mv 2 28] []) .ret)))))
theorem l89:(Tryz.f89.body.bind (bz Tryz.prog 29 []))=some c89:=by kernel_rfl
def c59:aV:=(.seq (.region [oo 1 (.box 9 (tm 0)),oo 2 (.mov kF)] []) (.seq (.region [lA 5 9 1,oo 6 (.call 89 [tm 5]),mv 3 6] []) (.seq (.seq (.region [oo 4 (.mov (Kc 0))] []) (.block 0 (.loop (.seq (.seq (.region [mv 7 4,mv 8 3,ln 9 8,oo 10 (.bin .lss (tm 7) (tm 9))] []) (.cond (tm 10) .skip (.exit 0))) (.seq (.block 1 (.seq (.region [mv 13 3,mv 14 4,ix 15 5 13 14,fa 16 0 15,ld 17 16,oo 18 (.bin .eql (tm 17) (Kc 9))] []) (.cond (tm 18) (.seq (.region [oo 2 (.mov kT)] []) .ret) .skip))) (.region [mv 11 4,oo 12 (.bin .add (tm 11) (Kc 1)),mv 4 12] [])))))) (.seq (.region [oo 2 (.mov kF)] []) .ret))))
theorem l59:(Tryz.f59.body.bind (bz Tryz.prog 19 []))=some c59:=by kernel_rfl
def c20:aV:=(.seq (.region [oo 3 (.box 6 (tm 1)),oo 4 (.mov (Kc 0))] []) (.seq (.region [lA 14 6 3,oo 15 (.call 83 [tm 14]),mv 5 15] []) (.seq (.seq (.region [mv 16 5,oo 17 (.bin .neq (tm 16) (Kc 0)),mv 18 17,oF 19 18 (.offA 0 (tm 3)),oF 20 18 (.load 1 false (tm 19)),oF 21 18 (.bin .eql (tm 20) (Kc 0)),oo 22 (.pick (tm 18) kT (tm 21))] []) (.cond (tm 22) (.seq (.region [mv 23 5,mv 4 23] []) .ret) .skip)) (.seq (.region [⟨some 24,.buildS 9 1 0 [S0] [],none,[]⟩,fa 25 2 3,ld 26 25,oo 27 (.append 29 9 1 16 (tm 24) (tm 26)),mv 6 27] []) (.seq (.cut (.seq (.region [fa 28 3 3,ld 29 28,⟨some 30,.bin .neq (tm 29) (.const S0),none,[]⟩] []) (.cond (tm 30) (.region [mv 31 6,fa 32 3 3,ld 33 32,⟨some 34,.buildF 1 1 [S0] [(0,(tm 33))],none,[]⟩,oo 35 (.append 29 9 1 16 (tm 31) (tm 34)),mv 6 35] []) .skip))) (.seq (.seq (.region [oo 7 (.mov (Kc 0))] []) (.block 0 (.loop (.seq (.seq (.region [mv 36 7,mv 37 6,ln 38 37,oo 39 (.bin .lss (tm 36) (tm 38))] []) (.cond (tm 39) .skip (.exit 0))) (.seq (.block 1 (.seq (.region [mv 43 0,mv 44 6,mv 45 7,ix 46 1 44 45,ld 47 46,oo 48 (.call 77 [(tm 43),(tm 47)]),mv 42 48,oo 49 (.ext (tm 42) 0),oo 50 (.ext (tm 42) 1),⟨some 8,.alloc [S0,Z0,Z0],none,[]⟩,o0 (.store 3 (tm 8) (tm 49)),mv 9 50] []) (.seq (.region [mv 51 9,oo 52 (.not (tm 51))] []) (.cond (tm 52) (.seq (.region [oo 4 (.mov (Kc 4))] []) .ret) .skip)))) (.region [mv 40 7,oo 41 (.bin .add (tm 40) (Kc 1)),mv 7 41] [])))))) (.seq (.seq (.region [oo 10 (.mov (Kc 0))] []) (.block 2 (.loop (.seq (.seq (.region [mv 53 10,fa 54 2 3,ld 55 54,ln 56 55,oo 57 (.bin .lss (tm 53) (tm 56))] []) (.cond (tm 57) .skip (.exit 2))) (.seq (.block 3 (.seq (.region [oo 11 (.mov (Kc 0))] []) (.block 4 (.loop (.seq (.seq (.region [mv 60 11,mv 61 10,oo 62 (.bin .lss (tm 60) (tm 61))] []) (.cond (tm 62) .skip (.exit 4))) (.seq (.block 5 (.seq (.region [fa 65 2 3,ld 66 65,mv 67 11,ix 68 1 66 67,ld 69 68,fa 70 2 3,ld 71 70,mv 72 10,ix 73 1 71 72,ld 74 73,oo 75 (.bin .eql (tm 69) (tm 74))] []) (.cond (tm 75) (.seq (.region [oo 4 (.mov (Kc 1))] []) .ret) .skip))) (.region [mv 63 11,oo 64 (.bin .add (tm 63) (Kc 1)),mv 11 64] []))))))) (.region [mv 58 10,oo 59 (.bin .add (tm 58) (Kc 1)),mv 10 59] [])))))) (.seq (.cut (.region [mv 77 0,fa 78 3 3,ld 79 78,oo 80 (.call 77 [(tm 77),(tm 79)]),mv 76 80,oo 81 (.ext (tm 76) 0),oo 82 (.ext (tm 76) 1),⟨some 12,.alloc [S0,Z0,Z0],none,[]⟩,o0 (.store 3 (tm 12) (tm 81)),mv 13 82] [])) (.seq (.seq (.region [fa 83 0 3,ld 84 83,oo 85 (.bin .eql (tm 84) (Kc 4)),mv 86 85,oT 87 86 (.offA 5 (tm 3)),oT 88 86 (.load 1 false (tm 87)),oT 89 86 (.load 3 true (tm 12)),oT 90 86 (.call 78 [tm 89]),oT 91 86 (.bin .gtr (tm 88) (tm 90)),oo 92 (.pick (tm 86) (tm 91) kF)] []) (.cond (tm 92) (.seq (.region [oo 4 (.mov (Kc 1))] []) .ret) .skip)) (.seq (.region [oo 4 (.mov (Kc 0))] []) .ret))))))))))
theorem l20:(Tryz.f20.body.bind (bz Tryz.prog 93 [5000005,6000021,8000034]))=some c20:=by kernel_rfl
def c43:aV:=(.seq (.region [oo 4 (.mov (Kc 0))] []) (.seq (.region [mv 13 1,oo 14 (.call 47 [tm 13]),mv 5 14] []) (.seq (.seq (.region [mv 15 5,oo 16 (.bin .neq (tm 15) (Kc 0))] []) (.cond (tm 16) (.seq (.region [mv 17 5,mv 4 17] []) .ret) .skip)) (.seq (.seq (.region [oo 6 (.mov (Kc 0))] []) (.block 0 (.loop (.seq (.seq (.region [mv 18 6,mv 19 1,ln 20 19,oo 21 (.bin .lss (tm 18) (tm 20))] []) (.cond (tm 21) .skip (.exit 0))) (.seq (.block 1 (.seq (.region [mv 24 0,mv 25 1,mv 26 6,ix 27 15 25 26,oo 28 (.nar 9 (tm 27)),lA 29 9 28,oo 30 (.call 18 [(tm 24),(tm 29)]),mv 7 30] []) (.seq (.seq (.region [mv 31 7,oo 32 (.bin .neq (tm 31) (Kc 0))] []) (.cond (tm 32) (.seq (.region [mv 33 7,mv 4 33] []) .ret) .skip)) (.seq (.region [mv 34 0,mv 35 1,mv 36 6,ix 37 15 35 36,fa 38 9 37,lA 39 6 38,oo 40 (.call 20 [(tm 34),(tm 39)]),mv 8 40] []) (.seq (.region [mv 41 8,oo 42 (.bin .neq (tm 41) (Kc 0))] []) (.cond (tm 42) (.seq (.region [mv 43 8,mv 4 43] []) .ret) .skip)))))) (.region [mv 22 6,oo 23 (.bin .add (tm 22) (Kc 1)),mv 6 23] [])))))) (.seq (.seq (.region [oo 9 (.mov (Kc 0))] []) (.block 2 (.loop (.seq (.seq (.region [mv 44 9,mv 45 1,ln 46 45,oo 47 (.bin .lss (tm 44) (tm 46))] []) (.cond (tm 47) .skip (.exit 2))) (.seq (.block 3 (.seq (.region [oo 10 (.mov (Kc 0))] []) (.block 4 (.loop (.seq (.seq (.region [mv 50 10,mv 51 9,oo 52 (.bin .lss (tm 50) (tm 51))] []) (.cond (tm 52) .skip (.exit 4))) (.seq (.block 5 (.seq (.cut (.region [mv 55 1,mv 56 10,ix 57 15 55 56,fa 58 9 57,lA 59 6 58,⟨some 11,.alloc [Z0,S0,.nil,S0,Z0,Z0],none,[]⟩,o0 (.store 6 (tm 11) (tm 59))] [])) (.seq (.cut (.region [mv 60 1,mv 61 9,ix 62 15 60 61,fa 63 9 62,lA 64 6 63,⟨some 12,.alloc [Z0,S0,.nil,S0,Z0,Z0],none,[]⟩,o0 (.store 6 (tm 12) (tm 64))] [])) (.seq (.region [fa 65 0 11,ld 66 65,oo 67 (.bin .neq (tm 66) (Kc 0)),mv 68 67,oT 69 68 (.offA 0 (tm 12)),oT 70 68 (.load 1 false (tm 69)),oT 71 68 (.bin .neq (tm 70) (Kc 0)),oo 72 (.pick (tm 68) (tm 71) kF),mv 73 72,oT 74 73 (.offA 1 (tm 11)),oT 75 73 (.load 1 false (tm 74)),oT 76 73 (.offA 1 (tm 12)),oT 77 73 (.load 1 false (tm 76)),oT 78 73 (.bin .eql (tm 75) (tm 77)),oo 79 (.pick (tm 73) (tm 78) kF),mv 80 79,mT 81 0 80,oT 82 80 (.load 6 true (tm 11)),oT 83 80 (.load 6 true (tm 12)),oT 84 80 (.call 98 [(tm 81),(tm 82),(tm 83)]),oT 85 80 (.not (tm 84)),oo 86 (.pick (tm 80) (tm 85) kF)] []) (.cond (tm 86) (.seq (.region [oo 4 (.mov (Kc 11))] []) .ret) .skip))))) (.region [mv 53 10,oo 54 (.bin .add (tm 53) (Kc 1)),mv 10 54] []))))))) (.region [mv 48 9,oo 49 (.bin .add (tm 48) (Kc 1)),mv 9 49] [])))))) (.seq (.region [oo 4 (.mov (Kc 0))] []) .ret))))))
theorem l43:(Tryz.f43.body.bind (bz Tryz.prog 87 [6000019,6000020,2000028000009]))=some c43:=by kernel_rfl
def LP:aV:=(.seq (.region [oo 1 (.box 6 (tm 0)),oo 2 (.mov kF)] []) (.seq (.region [lA 9 6 1,⟨some 10,.build [Z0,S0,.nil,S0,Z0,Z0] [],none,[]⟩,oo 11 (.call 104 [(tm 9),(tm 10)]),mv 3 11] []) (.seq (.seq (.region [mv 12 3] []) (.cond (tm 12) (.seq (.region [oo 2 (.mov kT)] []) .ret) .skip)) (.seq (.region [fa 13 1 1,ld 14 13,oo 15 (.call 155 [tm 14]),mv 4 15] []) (.seq (.seq (.cut (.region [mv 16 4,oo 17 (.not (tm 16)),mv 18 17,oF 19 18 (.offA 2 (tm 1)),oF 20 18 (.load 1 false (tm 19)),oF 21 18 (.len (tm 20)),oF 22 18 (.bin .lss (tm 21) (Kc 1)),oo 23 (.pick (tm 18) kT (tm 22)),mv 24 23,oF 25 24 (.offA 2 (tm 1)),oF 26 24 (.load 1 false (tm 25)),oF 27 24 (.len (tm 26)),oF 28 24 (.bin .gtr (tm 27) (Kc 4)),oo 29 (.pick (tm 24) kT (tm 28))] [])) (.cond (tm 29) (.seq (.region [oo 2 (.mov kF)] []) .ret) .skip)) (.seq (.seq (.region [oo 5 (.mov (Kc 0))] []) (.block 0 (.loop (.seq (.seq (.region [mv 30 5,fa 31 2 1,ld 32 31,ln 33 32,oo 34 (.bin .lss (tm 30) (tm 33))] []) (.cond (tm 34) .skip (.exit 0))) (.seq (.block 1 (.seq (.region [fa 37 2 1,ld 38 37,mv 39 5,ix 40 1 38 39,ld 41 40,oo 42 (.call 129 [tm 41]),mv 6 42] []) (.seq (.region [mv 43 6,oo 44 (.not (tm 43))] []) (.cond (tm 44) (.seq (.region [oo 2 (.mov kF)] []) .ret) .skip)))) (.region [mv 35 5,oo 36 (.bin .add (tm 35) (Kc 1)),mv 5 36] [])))))) (.seq (.region [fa 45 3 1,ld 46 45,oo 47 (.call 129 [tm 46]),mv 7 47] []) (.seq (.cut (.region [fa 48 4 1,ld 49 48,oo 50 (.bin .eql (tm 49) (Kc 0)),mv 51 50,oT 52 51 (.offA 5 (tm 1)),oT 53 51 (.load 1 false (tm 52)),oT 54 51 (.bin .eql (tm 53) (Kc 0)),oo 55 (.pick (tm 51) (tm 54) kF),mv 8 55] [])) (.seq (.seq (.region [fa 56 0 1,ld 57 56] []) (.block 2 (.seq (.region [oo 59 (.bin .eql (tm 57) (Kc 1)),mv 58 59] []) (.cond (tm 58) (.seq (.region [mv 60 7,mv 61 60,oF 62 61 (.offA 3 (tm 1)),oF 63 61 (.load 1 false (tm 62)),⟨some 64,.bin .eql (tm 63) (.const S0),some (61,false),[]⟩,oo 65 (.pick (tm 61) kT (tm 64)),mv 66 65,mT 67 8 66,oo 68 (.pick (tm 66) (tm 67) kF),mv 2 68] []) .ret) (.seq (.region [oo 70 (.bin .eql (tm 57) (Kc 2)),mv 69 70] []) (.cond (tm 69) (.seq (.region [fa 71 3 1,ld 72 71,⟨some 73,.bin .eql (tm 72) (.const S0),none,[]⟩,mv 74 73,mT 75 8 74,oo 76 (.pick (tm 74) (tm 75) kF),mv 2 76] []) .ret) (.seq (.region [oo 78 (.bin .eql (tm 57) (Kc 3)),mv 77 78] []) (.cond (tm 77) (.seq (.region [fa 79 3 1,ld 80 79,⟨some 81,.bin .eql (tm 80) (.const S0),none,[]⟩,mv 82 81,oT 83 82 (.offA 4 (tm 1)),oT 84 82 (.load 1 false (tm 83)),oT 85 82 (.bin .geq (tm 84) (Kc 0)),oo 86 (.pick (tm 82) (tm 85) kF),mv 87 86,oT 88 87 (.offA 4 (tm 1)),oT 89 87 (.load 1 false (tm 88)),oT 90 87 (.bin .leq (tm 89) (Kc 1073741824)),oo 91 (.pick (tm 87) (tm 90) kF),mv 92 91,oT 93 92 (.offA 5 (tm 1)),oT 94 92 (.load 1 false (tm 93)),oT 95 92 (.bin .eql (tm 94) (Kc 0)),oo 96 (.pick (tm 92) (tm 95) kF),mv 2 96] []) .ret) (.seq (.region [oo 98 (.bin .eql (tm 57) (Kc 4)),mv 97 98] []) (.cond (tm 97) (.seq (.region [mv 99 7,mv 100 99,oT 101 100 (.offA 4 (tm 1)),oT 102 100 (.load 1 false (tm 101)),oT 103 100 (.bin .geq (tm 102) (Kc 0)),oo 104 (.pick (tm 100) (tm 103) kF),mv 105 104,oT 106 105 (.offA 4 (tm 1)),oT 107 105 (.load 1 false (tm 106)),oT 108 105 (.offA 5 (tm 1)),oT 109 105 (.load 1 false (tm 108)),oT 110 105 (.bin .leq (tm 107) (tm 109)),oo 111 (.pick (tm 105) (tm 110) kF),mv 112 111,oT 113 112 (.offA 5 (tm 1)),oT 114 112 (.load 1 false (tm 113)),oT 115 112 (.bin .leq (tm 114) (Kc 65535)),oo 116 (.pick (tm 112) (tm 115) kF),mv 2 116] []) .ret) (.seq (.region [oo 118 (.bin .eql (tm 57) (Kc 5)),mv 117 118] []) (.cond (tm 117) (.seq (.region [mv 119 7,mv 120 119,mT 121 8 120,oo 122 (.pick (tm 120) (tm 121) kF),mv 2 122] []) .ret) (.seq (.region [oo 124 (.bin .eql (tm 57) (Kc 6)),mv 123 124] []) (.cond (tm 123) (.seq (.region [fa 125 3 1,ld 126 125,⟨some 127,.bin .eql (tm 126) (.const S0),none,[]⟩,mv 128 127,oT 129 128 (.offA 4 (tm 1)),oT 130 128 (.load 1 false (tm 129)),oT 131 128 (.bin .geq (tm 130) (Kc 1)),oo 132 (.pick (tm 128) (tm 131) kF),mv 133 132,oT 134 133 (.offA 4 (tm 1)),oT 135 133 (.load 1 false (tm 134)),oT 136 133 (.bin .leq (tm 135) (Kc 65535)),oo 137 (.pick (tm 133) (tm 136) kF),mv 138 137,oT 139 138 (.offA 5 (tm 1)),oT 140 138 (.load 1 false (tm 139)),oT 141 138 (.bin .geq (tm 140) (Kc 1)),oo 142 (.pick (tm 138) (tm 141) kF),mv 143 142,oT 144 143 (.offA 5 (tm 1)),oT 145 143 (.load 1 false (tm 144)),oT 146 143 (.bin .leq (tm 145) (Kc 1073741824)),oo 147 (.pick (tm 143) (tm 146) kF),mv 2 147] []) .ret) .skip)))))))))))))) (.seq (.region [oo 2 (.mov kF)] []) .ret))))))))))
theorem Nq:(Tryz.f127.body.bind (bz Tryz.prog 148 [6000005,6000014]))=some LP:=by kernel_rfl
def c83:aV:=(.seq (.region [oo 1 (.box 6 (tm 0)),oo 2 (.mov (Kc 0))] []) (.seq (.region [lA 4 6 1,oo 5 (.call 127 [tm 4]),mv 3 5] []) (.seq (.seq (.region [mv 6 3,oo 7 (.not (tm 6))] []) (.cond (tm 7) (.seq (.region [oo 2 (.mov (Kc 1))] []) .ret) .skip)) (.seq (.region [oo 2 (.mov (Kc 0))] []) .ret))))
theorem l83:(Tryz.f83.body.bind (bz Tryz.prog 8 []))=some c83:=by kernel_rfl
def c47:aV:=(.seq (.region [oo 2 (.mov (Kc 0))] []) (.seq (.seq (.region [mv 6 0,ln 7 6,oo 8 (.bin .gtr (tm 7) (Kc 8))] []) (.cond (tm 8) (.seq (.region [oo 2 (.mov (Kc 2))] []) .ret) .skip)) (.seq (.seq (.region [oo 3 (.mov (Kc 0))] []) (.block 0 (.loop (.seq (.seq (.region [mv 9 3,mv 10 0,ln 11 10,oo 12 (.bin .lss (tm 9) (tm 11))] []) (.cond (tm 12) .skip (.exit 0))) (.seq (.block 1 (.seq (.region [mv 15 0,mv 16 3,ix 17 15 15 16,oo 18 (.nar 9 (tm 17)),lA 19 9 18,oo 20 (.call 21 [tm 19]),mv 4 20] []) (.seq (.seq (.region [mv 21 4,oo 22 (.bin .neq (tm 21) (Kc 0))] []) (.cond (tm 22) (.seq (.region [mv 23 4,mv 2 23] []) .ret) .skip)) (.seq (.region [mv 24 0,mv 25 3,ix 26 15 24 25,fa 27 9 26,lA 28 6 27,oo 29 (.call 83 [tm 28]),mv 5 29] []) (.seq (.region [mv 30 5,oo 31 (.bin .neq (tm 30) (Kc 0))] []) (.cond (tm 31) (.seq (.region [mv 32 5,mv 2 32] []) .ret) .skip)))))) (.region [mv 13 3,oo 14 (.bin .add (tm 13) (Kc 1)),mv 3 14] [])))))) (.seq (.region [oo 2 (.mov (Kc 0))] []) .ret))))
theorem l47:(Tryz.f47.body.bind (bz Tryz.prog 33 [2000018000009]))=some c47:=by kernel_rfl
def c13:aV:=(.seq (.region [oo 1 (.box 9 (tm 0)),oo 2 (.mov kF)] []) (.seq (.region [lA 5 9 1,oo 6 (.call 34 [tm 5]),oo 3 (.alloc [Z0,Z0]),o0 (.store 2 (tm 3) (tm 6))] []) (.seq (.region [fa 7 1 1,lA 8 5 7,oo 9 (.call 67 [tm 8]),oo 4 (.alloc [Z0,Z0]),o0 (.store 2 (tm 4) (tm 9))] []) (.seq (.region [fa 10 0 3,ld 11 10,oo 12 (.bin .leq (tm 11) (Kc 400)),mv 13 12,oT 14 13 (.offA 1 (tm 3)),oT 15 13 (.load 1 false (tm 14)),oT 16 13 (.bin .leq (tm 15) (Kc 60)),oo 17 (.pick (tm 13) (tm 16) kF),mv 18 17,oT 19 18 (.offA 0 (tm 4)),oT 20 18 (.load 1 false (tm 19)),oT 21 18 (.bin .leq (tm 20) (Kc 400)),oo 22 (.pick (tm 18) (tm 21) kF),mv 2 22] []) .ret))))
theorem l13:(Tryz.f13.body.bind (bz Tryz.prog 23 []))=some c13:=by kernel_rfl
def c37:aV:=(.seq (.region [oo 2 (.mov kF)] []) (.seq (.seq (.region [oo 3 (.mov (Kc 0))] []) (.block 0 (.loop (.seq (.seq (.region [mv 5 3,mv 6 0,ln 7 6,oo 8 (.bin .lss (tm 5) (tm 7)),mv 9 8,mT 10 3 9,oT 11 9 (.bin .lss (tm 10) (Kc 12)),oo 12 (.pick (tm 9) (tm 11) kF)] []) (.cond (tm 12) .skip (.exit 0))) (.seq (.block 1 (.seq (.region [mv 15 0,mv 16 3,ix 17 15 15 16,oo 18 (.nar 9 (tm 17)),lA 19 9 18,oo 20 (.call 13 [tm 19]),mv 4 20] []) (.seq (.region [mv 21 4,oo 22 (.not (tm 21)),mv 23 22,mF 24 0 23,mF 25 3 23,oF 26 23 (.idxL 15 (tm 24) (tm 25)),oF 27 23 (.offA 9 (tm 26)),oF 28 23 (.offA 2 (tm 27)),oF 29 23 (.load 1 false (tm 28)),oF 30 23 (.len (tm 29)),oF 31 23 (.bin .gtr (tm 30) (Kc 20)),oo 32 (.pick (tm 23) kT (tm 31))] []) (.cond (tm 32) (.seq (.region [oo 2 (.mov kF)] []) .ret) .skip)))) (.region [mv 13 3,oo 14 (.bin .add (tm 13) (Kc 1)),mv 3 14] [])))))) (.seq (.region [mv 33 0,ln 34 33,oo 35 (.bin .leq (tm 34) (Kc 12)),mv 2 35] []) .ret)))
theorem l37:(Tryz.f37.body.bind (bz Tryz.prog 36 [2000018000009]))=some c37:=by kernel_rfl
end Go.TY
end
section
namespace Go.TY
open Go Go.DL Go.MM Go.Proofs
theorem xS (a b:List Int) (hl:a.length<2^60∨b.length<2^60):DCalls Tryz.prog 27 [.slice 1 (a.map I),.slice 1 (b.map I)] (.bool (a==b)):=by
 refine qF (rs:=[.tmp 4]) mixed Tryz.func27 l27 rfl rfl rfl (r:=[.bool _]) (nlZ rfl) ?_
 have ha:((a.map I).length:Int)=a.length:=by rw [List.length_map]
 have hb:((b.map I).length:Int)=b.length:=by rw [List.length_map]
 by_cases hab:a.length=b.length
 case neg=>
  have e:(a==b)=false:=beq_false_of_ne fun e=>hab (by rw [e])
  rw [e]
  have hn:((a.map I).length:Int)≠((b.map I).length:Int):=by omega
  repeat' ((conv=>whnf);first|exact trivial|refine qm hn ?_|refine rb0 ?_|refine aS ?_|fail)
 have hl:a.length<2^60:=by omega
 have hn:((a.map I).length:Int)=((b.map I).length:Int):=by omega
 repeat' ((conv=>whnf);first|refine qj hn ?_|refine aS ?_|fail)
 refine q7 (α:=Nat) (fun i=>{sl:=[(0,.t (.slice 1 (a.map I))),(1,.t (.slice 1 (b.map I))),(5,.t (I i))],bx:=[]})
  (fun i=>i≤a.length∧ ∀j (h:j<a.length) (h':j<b.length),j<i→a[j]=b[j]) (fun i=>a.length - i) 0 (by simp) ?_ ?_
 ·repeat' (first|exact trivial|exact LeV.same _|exact rfl|exact fun _ _ _=>trivial|refine And.intro ?_ ?_)
 rintro i ⟨hi,hp⟩
 rcases Nat.lt_or_ge i a.length with h|h
 ·have h':i<b.length:=by omega
  have hlt:(i:Int)<((a.map I).length:Int):=by omega
  by_cases he:a[i]=b[i]
  ·repeat' ((conv=>whnf);first|refine qg hlt ?_|(refine nv_ (I a[i]) (by first|(simp [h];done)|fail) ?_)|(refine nv_ (I b[i]) (by first|(simp [h'];done)|fail) ?_)|refine qj he ?_|refine nT_ ?_|refine aS ?_|fail)
   refine ⟨i+1,⟨h,fun j hj hj' hlt=>?_⟩,by omega,?_⟩
   ·rcases Nat.lt_or_ge j i with h4|h4
    ·exact hp j hj hj' h4
    ·obtain rfl:j=i:=by omega
     exact he
   ·repeat' (first|exact trivial|exact LeV.same _|exact rfl|exact fun _ _ _=>trivial|exact lI|refine And.intro ?_ ?_)
  ·have e:(a==b)=false:=beq_false_of_ne fun e=>he (by subst e;rfl)
   rw [e]
   repeat' ((conv=>whnf);first|exact trivial|refine qg hlt ?_|(refine nv_ (I a[i]) (by first|(simp [h];done)|fail) ?_)|(refine nv_ (I b[i]) (by first|(simp [h'];done)|fail) ?_)|refine qm he ?_|refine nT_ ?_|refine rb0 ?_|refine aS ?_|fail)
 ·have e:(a==b)=true:=by
   have:a=b:=List.ext_getElem hab fun j h1 h2=>hp j h1 h2 (by omega)
   simp [this]
  rw [e]
  have hlt: ¬(i:Int)<((a.map I).length:Int):=by omega
  repeat' ((conv=>whnf);first|exact trivial|refine qe hlt ?_|refine rb1 ?_|refine aS ?_|fail)
def vr:List ByteArray→List ByteArray→Bool
 |[],[]=>true
 |x::xs,y::ys=>sa x y&&vr xs ys
 |_,_=>false
theorem wB: ∀{a b:List ByteArray},vr a b=true↔a=b
 |[],[]=>by simp [vr]
 |[],_::_=>by simp [vr]
 |_::_,[]=>by simp [vr]
 |x::xs,y::ys=>by
  unfold vr
  rw [Bool.and_eq_true,wB (a:=xs),sE,List.cons.injEq]
theorem BQ {a b:List ByteArray} (h:a≠b):vr a b=false:=by
 cases e:vr a b with
 |false=>rfl
 |true=>exact (h (wB.1 e)).elim
theorem Cf (a b:List ByteArray) (hl:a.length<2^60∨b.length<2^60):DCalls Tryz.prog 22 [.slice 1 (a.map .str),.slice 1 (b.map .str)] (.bool (vr a b)):=by
 refine qF (rs:=[.tmp 4]) mixed Tryz.func22 l22 rfl rfl rfl (r:=[.bool _]) (nlZ rfl) ?_
 have ha:((a.map T.str).length:Int)=a.length:=by rw [List.length_map]
 have hb:((b.map T.str).length:Int)=b.length:=by rw [List.length_map]
 by_cases hab:a.length=b.length
 case neg=>
  rw [BQ fun e=>hab (by rw [e])]
  have hn:((a.map T.str).length:Int)≠((b.map T.str).length:Int):=by omega
  repeat' ((conv=>whnf);first|exact trivial|refine qm hn ?_|refine rb0 ?_|refine aS ?_|fail)
 have hl:a.length<2^60:=by omega
 have hn:((a.map T.str).length:Int)=((b.map T.str).length:Int):=by omega
 repeat' ((conv=>whnf);first|refine qj hn ?_|refine aS ?_|fail)
 refine q7 (α:=Nat) (fun i=>{sl:=[(0,.t (.slice 1 (a.map .str))),(1,.t (.slice 1 (b.map .str))),(5,.t (I i))],bx:=[]})
  (fun i=>i≤a.length∧ ∀j (h:j<a.length) (h':j<b.length),j<i→a[j]=b[j]) (fun i=>a.length - i) 0 (by simp) ?_ ?_
 ·repeat' (first|exact trivial|exact LeV.same _|exact rfl|exact fun _ _ _=>trivial|refine And.intro ?_ ?_)
 rintro i ⟨hi,hp⟩
 rcases Nat.lt_or_ge i a.length with h|h
 ·have h':i<b.length:=by omega
  have hlt:(i:Int)<((a.map T.str).length:Int):=by omega
  have hE:=su a[i] b[i]
  have hN:(!(a[i].toList==b[i].toList))= !sa a[i] b[i]:=by rw [hE]
  by_cases he:a[i]=b[i]
  ·rw [sE.2 he] at hN
   repeat' ((conv=>whnf);first|refine qg hlt ?_|(refine nv_ (.str a[i]) (by first|(simp [h];done)|fail) ?_)|(refine nv_ (.str b[i]) (by first|(simp [h'];done)|fail) ?_)|refine nb_ _ hN ?_|refine nT_ ?_|refine aS ?_|fail)
   refine ⟨i+1,⟨h,fun j hj hj' hlt=>?_⟩,by omega,?_⟩
   ·rcases Nat.lt_or_ge j i with h4|h4
    ·exact hp j hj hj' h4
    ·obtain rfl:j=i:=by omega
     exact he
   ·repeat' (first|exact trivial|exact LeV.same _|exact rfl|exact fun _ _ _=>trivial|exact lI|refine And.intro ?_ ?_)
  ·rw [BQ fun e=>he (by subst e;rfl)]
   have hs:sa a[i] b[i]=false:=by
    cases e:sa a[i] b[i] with
    |false=>rfl
    |true=>exact (he (sE.1 e)).elim
   rw [hs] at hN
   repeat' ((conv=>whnf);first|exact trivial|refine qg hlt ?_|(refine nv_ (.str a[i]) (by first|(simp [h];done)|fail) ?_)|(refine nv_ (.str b[i]) (by first|(simp [h'];done)|fail) ?_)|refine nb_ _ hN ?_|refine nT_ ?_|refine rb0 ?_|refine aS ?_|fail)
 ·rw [wB.2 (List.ext_getElem hab fun j h1 h2=>hp j h1 h2 (by omega))]
  have hlt: ¬(i:Int)<((a.map T.str).length:Int):=by omega
  repeat' ((conv=>whnf);first|exact trivial|refine qe hlt ?_|refine rb1 ?_|refine aS ?_|fail)
theorem Bk (k:Int):DCalls Tryz.prog 100 [I k] (I (tH k)):=by
 refine qF (rs:=[.tmp 2]) mixed Tryz.func100 MU rfl rfl rfl (r:=[.int _ _]) (nlZ rfl) ?_
 unfold tH
 by_cases k1:k=1
 ·rw [if_pos k1]
  repeat' ((conv=>whnf);first|exact trivial|refine qi k1 ?_|refine rix ?_|refine aS ?_|fail)
 rw [if_neg k1]
 by_cases k2:k=2
 ·rw [if_pos (Or.inl k2)]
  repeat' ((conv=>whnf);first|exact trivial|refine qh k1 ?_|refine qi k2 ?_|refine rix ?_|refine aS ?_|fail)
 by_cases k3:k=3
 ·rw [if_pos (Or.inr k3)]
  repeat' ((conv=>whnf);first|exact trivial|refine qh k1 ?_|refine qh k2 ?_|refine qi k3 ?_|refine rix ?_|refine aS ?_|fail)
 rw [if_neg (by omega)]
 by_cases k4:k=4
 ·rw [if_pos (Or.inl k4)]
  repeat' ((conv=>whnf);first|exact trivial|refine qh k1 ?_|refine qh k2 ?_|refine qh k3 ?_|refine qi k4 ?_|refine rix ?_|refine aS ?_|fail)
 by_cases k5:k=5
 ·rw [if_pos (Or.inr k5)]
  repeat' ((conv=>whnf);first|exact trivial|refine qh k1 ?_|refine qh k2 ?_|refine qh k3 ?_|refine qh k4 ?_|refine qi k5 ?_|refine rix ?_|refine aS ?_|fail)
 rw [if_neg (by omega)]
 repeat' ((conv=>whnf);first|exact trivial|refine qh k1 ?_|refine qh k2 ?_|refine qh k3 ?_|refine qh k4 ?_|refine qh k5 ?_|refine rix ?_|refine aS ?_|fail)
theorem zN (s:RS):DCalls Tryz.prog 102 [.agg (se s)] (.bool s.own):=by
 refine qF (rs:=[.tmp 2]) mixed Tryz.func102 MW rfl rfl rfl (r:=[.bool _]) (nlZ rfl) ?_
 obtain ⟨k,v,ks,f,n,m⟩:=s
 unfold RS.own
 dsimp only
 by_cases k4:k=4
 ·rw [k4]
  repeat' ((conv=>whnf);first|exact trivial|refine nT_ ?_|refine aE1 ?_|refine rb1 ?_|refine aS ?_|fail)
 by_cases k6:k=6
 ·rw [k6]
  repeat' ((conv=>whnf);first|exact trivial|refine nT_ ?_|refine aE1 ?_|refine aE0 ?_|refine rb1 ?_|refine aS ?_|fail)
 have e:((k==4)||(k==6))=false:=by simp [k4,k6]
 rw [e]
 repeat' ((conv=>whnf);first|exact trivial|refine qh k4 ?_|refine qh k6 ?_|refine nT_ ?_|refine rb0 ?_|refine aS ?_|fail)
end Go.TY
end
section
namespace Go.TY
open Go Go.DL Go.MM Go.Proofs
theorem Ak (a b:RV) (hl:a.ws.length<2^60∨b.ws.length<2^60):DCalls Tryz.prog 42 [sQ a,sQ b] (.bool (xU a b)):=by
 obtain ⟨a1,a2,a3,a4,a5⟩:=a
 obtain ⟨b1,b2,b3,b4,b5⟩:=b
 refine qF (rs:=[.tmp 4]) mixed Tryz.func42 l42 rfl rfl rfl (r:=[.bool _]) (nlZ rfl) ?_
 have h1:=xS a3 b3 hl
 have hE:=su a1 b1
 simp only [xU]
 generalize sa a1 b1=e at *
 generalize (a3==b3)=z at *
 by_cases c2:a2=b2
 case neg=>rw [beq_false_of_ne c2];cases e <;> cases z <;> repeat' ((conv=>whnf);first|exact trivial|refine rp _ (h1) ?_|refine nb_ _ hE ?_|refine qh c2 ?_|refine nT_ ?_|refine rb0 ?_|refine aS ?_|fail)
 by_cases c4:a4=b4
 case neg=>rw [beq_false_of_ne c4,c2];cases e <;> cases z <;> repeat' ((conv=>whnf);first|exact trivial|refine rp _ (h1) ?_|refine nb_ _ hE ?_|refine qh c4 ?_|refine nT_ ?_|refine aE1 ?_|refine rb0 ?_|refine aS ?_|fail)
 by_cases c5:a5=b5
 case neg=>rw [beq_false_of_ne c5,c2,c4];cases e <;> cases z <;> repeat' ((conv=>whnf);first|exact trivial|refine rp _ (h1) ?_|refine nb_ _ hE ?_|refine qh c5 ?_|refine nT_ ?_|refine aE1 ?_|refine rb0 ?_|refine aS ?_|fail)
 rw [c2,c4,c5]
 cases e <;> cases z <;> repeat' ((conv=>whnf);first|exact trivial|refine rp _ (h1) ?_|refine nb_ _ hE ?_|refine nT_ ?_|refine aE1 ?_|refine rb1 ?_|refine rb0 ?_|refine aS ?_|fail)
def vt:List RV→List RV→Bool
 |[],[]=>true
 |x::xs,y::ys=>xU x y&&vt xs ys
 |_,_=>false
theorem wN: ∀{a b:List RV},vt a b=true↔a=b
 |[],[]=>by simp [vt]
 |[],_::_=>by simp [vt]
 |_::_,[]=>by simp [vt]
 |x::xs,y::ys=>by
  unfold vt
  rw [Bool.and_eq_true,wN (a:=xs),yu,List.cons.injEq]
theorem AK {a b:List RV} (h:a≠b):vt a b=false:=by
 cases e:vt a b with
 |false=>rfl
 |true=>exact (h (wN.1 e)).elim
theorem zM (a b:List RV) (hl:a.length<2^60∨b.length<2^60) (hw:(∀ v∈a,v.ws.length<2^60)∨(∀ v∈b,v.ws.length<2^60)):
  DCalls Tryz.prog 45 [.slice 5 (a.map sQ),.slice 5 (b.map sQ)] (.bool (vt a b)):=by
 refine qF (rs:=[.tmp 4]) mixed Tryz.func45 l45 rfl rfl rfl (r:=[.bool _]) (nlZ rfl) ?_
 have ha:((a.map sQ).length:Int)=a.length:=by rw [List.length_map]
 have hb:((b.map sQ).length:Int)=b.length:=by rw [List.length_map]
 by_cases hab:a.length=b.length
 case neg=>
  rw [AK fun e=>hab (by rw [e])]
  have hn:((a.map sQ).length:Int)≠((b.map sQ).length:Int):=by omega
  repeat' ((conv=>whnf);first|exact trivial|refine qm hn ?_|refine rb0 ?_|refine aS ?_|fail)
 have hl:a.length<2^60:=by omega
 have hn:((a.map sQ).length:Int)=((b.map sQ).length:Int):=by omega
 repeat' ((conv=>whnf);first|refine qj hn ?_|refine aS ?_|fail)
 refine q7 (α:=Nat) (fun i=>{sl:=[(0,.t (.slice 5 (a.map sQ))),(1,.t (.slice 5 (b.map sQ))),(5,.t (I i))],bx:=[]})
  (fun i=>i≤a.length∧ ∀j (h:j<a.length) (h':j<b.length),j<i→a[j]=b[j]) (fun i=>a.length - i) 0 (by simp) ?_ ?_
 ·repeat' (first|exact trivial|exact LeV.same _|exact rfl|exact fun _ _ _=>trivial|refine And.intro ?_ ?_)
 rintro i ⟨hi,hp⟩
 rcases Nat.lt_or_ge i a.length with h|h
 ·have h':i<b.length:=by omega
  have hlt:(i:Int)<((a.map sQ).length:Int):=by omega
  have hc:=Ak a[i] b[i] (hw.imp (fun hw=>hw _ (List.getElem_mem h)) (fun hw=>hw _ (List.getElem_mem h')))
  by_cases he:a[i]=b[i]
  ·rw [yu.2 he] at hc
   repeat' ((conv=>whnf);first|refine qg hlt ?_|(refine nv_ (.agg (wu a[i])) (by first|((simp [h];rfl);done)|fail) ?_)|(refine nv_ (.agg (wu b[i])) (by first|((simp [h'];rfl);done)|fail) ?_)|refine rp _ (hc) ?_|refine aS ?_|fail)
   refine ⟨i+1,⟨h,fun j hj hj' hlt=>?_⟩,by omega,?_⟩
   ·rcases Nat.lt_or_ge j i with h4|h4
    ·exact hp j hj hj' h4
    ·obtain rfl:j=i:=by omega
     exact he
   ·repeat' (first|exact trivial|exact LeV.same _|exact rfl|exact fun _ _ _=>trivial|exact lI|refine And.intro ?_ ?_)
  ·rw [AK fun e=>he (by subst e;rfl)]
   have hs:xU a[i] b[i]=false:=by
    cases e:xU a[i] b[i] with
    |false=>rfl
    |true=>exact (he (yu.1 e)).elim
   rw [hs] at hc
   repeat' ((conv=>whnf);first|exact trivial|refine qg hlt ?_|(refine nv_ (.agg (wu a[i])) (by first|((simp [h];rfl);done)|fail) ?_)|(refine nv_ (.agg (wu b[i])) (by first|((simp [h'];rfl);done)|fail) ?_)|refine rp _ (hc) ?_|refine rb0 ?_|refine aS ?_|fail)
 ·rw [wN.2 (List.ext_getElem hab fun j h1 h2=>hp j h1 h2 (by omega))]
  have hlt: ¬(i:Int)<((a.map sQ).length:Int):=by omega
  repeat' ((conv=>whnf);first|exact trivial|refine qe hlt ?_|refine rb1 ?_|refine aS ?_|fail)
theorem Bo (l:List Fd) (hl:LOk l) (k:ByteArray):DCalls Tryz.prog 77 [fds l,.str k] (.tup [.agg [.str (fld l k).name,I (fld l k).a,I (fld l k).w],.bool (sX l k)]):=by
 have h:=t51 l k hl.len
 unfold uU at h
 unfold fld sX
 cases hF:findF l k with
 |none=>rw [hF] at h;exact h
 |some F=>rw [hF] at h;exact h
theorem Bn (l:List Fd) (hl:LOk l) (ks:List ByteArray) (hk:ks.length<2^40):DCalls Tryz.prog 101 [fds l,.slice 1 (ks.map .str)] (.slice 1 ((ks.map fun k=>((fld l k).w:Int)).map I)):=by
 refine qF (rs:=[.tmp 4]) mixed Tryz.func101 MV rfl rfl rfl (r:=[.slice 1 _]) (nlZ rfl) ?_
 have hkl:((ks.map T.str).length:Int)=ks.length:=by rw [List.length_map]
 skip
 refine qQ 0 (α:=Nat) (β:=Unit) (fun i=>{sl:=[(0,.t (fds l)),(1,.t (.slice 1 (ks.map .str))),(5,.own 28 3 1 ((ks.take i).map fun k=>I ((fld l k).w:Int))),(6,.t (I i))],bx:=[]})
  (fun i=>i≤ks.length) (fun i=>ks.length - i) (fun _=>{sl:=[(5,.t (.slice 1 ((ks.map fun k=>((fld l k).w:Int)).map I)))],bx:=[]}) (fun _=>True) 0 (by simp) ?_ ?_ ?_
 ·repeat' (first|exact trivial|exact LeV.same _|exact rfl|exact fun _ _ _=>trivial|exact LeV.nil _ _ _|refine And.intro ?_ ?_)
 ·rintro i hi
  rcases Nat.lt_or_ge i ks.length with h|h
  ·have hlt:(i:Int)<((ks.map T.str).length:Int):=by omega
   have hf:=Bo l hl ks[i]
   have ht:ks.take (i+1)=ks.take i++[ks[i]]:=by rw [List.take_succ_eq_append_getElem h]
   repeat' ((conv=>whnf);first|refine qg hlt ?_|(refine nv_ (.str ks[i]) (by first|(simp [h];done)|fail) ?_)|refine rp _ (hf) ?_|refine nT_ ?_|(refine And.intro (by first|((simp only [List.length_map,List.length_take,List.length_cons,List.length_nil];omega);done)|fail) ?_)|refine aS ?_|fail)
   refine ⟨i+1,h,by omega,?_⟩
   repeat' (first|(exact rM (by rw [ht,List.map_append];rfl))|exact trivial|exact LeV.same _|exact rfl|exact fun _ _ _=>trivial|exact lI|refine And.intro ?_ ?_)
  ·have:i=ks.length:=by omega
   subst this
   rw [List.take_length]
   have hlt: ¬(ks.length:Int)<((ks.map T.str).length:Int):=by omega
   repeat' ((conv=>whnf);first|refine qe hlt ?_|(exact ⟨(),trivial,by (repeat' (first|(exact wy (by rw [List.map_map];rfl))|exact trivial|exact rfl|exact fun _ _ _=>trivial|refine And.intro ?_ ?_));done⟩)|refine aS ?_|fail)
 ·rintro _ _
  repeat' ((conv=>whnf);first|exact trivial|refine aS ?_|fail)
theorem He (l:List Fd) (hl:LOk l) (s t:RS) (hs:s.key.length<2^40) (ht:t.key.length<2^40):DCalls Tryz.prog 98 [fds l,.agg (se s),.agg (se t)] (.bool (tV l s t)):=by
 have h1:=zN s
 have h2:=zN t
 have h3:=Bn l hl s.key hs
 have h4:=Bn l hl t.key ht
 have h5:=xS (s.key.map fun k=>((fld l k).w:Int)) (t.key.map fun k=>((fld l k).w:Int)) (by rw [List.length_map];omega)
 have h6:=Bk s.kind
 have h7:=Bk t.kind
 unfold tV sS
 generalize (s.key.map fun k=>((fld l k).w:Int))=w1 at *
 generalize (t.key.map fun k=>((fld l k).w:Int))=w2 at *
 generalize (w1==w2)=z at *
 generalize tH s.kind=f1 at *
 generalize tH t.kind=f2 at *
 generalize s.own=os at *
 generalize t.own=ot at *
 obtain ⟨k,v,ks,f,n,m⟩:=s
 obtain ⟨k',v',ks',f',n',m'⟩:=t
 dsimp only at *
 refine qF (rs:=[.tmp 6]) mixed Tryz.func98 l98 rfl rfl rfl (r:=[.bool _]) (nlZ rfl) ?_
 generalize hn:(n !=n')=bn
 generalize hm:(m !=m')=bm
 generalize hf:(f1==f2)=bf
 cases os with
 |false=>cases z <;> repeat' ((conv=>whnf);first|exact trivial|refine rp _ (h1) ?_|refine rp _ (h3) ?_|refine rp _ (h4) ?_|refine rp _ (h5) ?_|refine rp _ (h6) ?_|refine rp _ (h7) ?_|refine nb_ _ hf ?_|refine nT_ ?_|refine rb0 ?_|refine rbx ?_|refine aS ?_|fail)
 |true=>
 cases ot with
 |false=>cases z <;> repeat' ((conv=>whnf);first|exact trivial|refine rp _ (h1) ?_|refine rp _ (h2) ?_|refine rp _ (h3) ?_|refine rp _ (h4) ?_|refine rp _ (h5) ?_|refine rp _ (h6) ?_|refine rp _ (h7) ?_|refine nb_ _ hf ?_|refine nT_ ?_|refine rb0 ?_|refine rbx ?_|refine aS ?_|fail)
 |true=>
 cases bn with
 |true=>repeat' ((conv=>whnf);first|exact trivial|refine rp _ (h1) ?_|refine rp _ (h2) ?_|refine nb_ _ hn ?_|refine nT_ ?_|refine rb0 ?_|refine aS ?_|fail)
 |false=>
 cases bm with
 |true=>repeat' ((conv=>whnf);first|exact trivial|refine rp _ (h1) ?_|refine rp _ (h2) ?_|refine nb_ _ hn ?_|refine nb_ _ hm ?_|refine nT_ ?_|refine rb0 ?_|refine aS ?_|fail)
 |false=>cases z <;> repeat' ((conv=>whnf);first|exact trivial|refine rp _ (h1) ?_|refine rp _ (h2) ?_|refine nb_ _ hn ?_|refine nb_ _ hm ?_|refine rp _ (h3) ?_|refine rp _ (h4) ?_|refine rp _ (h5) ?_|refine rp _ (h6) ?_|refine rp _ (h7) ?_|refine nb_ _ hf ?_|refine nT_ ?_|refine rb0 ?_|refine rbx ?_|refine aS ?_|fail)
end Go.TY
end
section
namespace Go.TY
open Go Go.DL Go.MM Go.Proofs
mutual
def yt:RP→RP→Bool
 |.mk k f n m a,.mk k' f' n' m' a'=>(k==k')&&sa f f'&&(n==n')&&(m==m')&&vP a a'
def vP:List RP→List RP→Bool
 |[],[]=>true
 |x::xs,y::ys=>yt x y&&vP xs ys
 |[],_::_=>false
 |_::_,[]=>false
end
mutual
theorem tw: ∀{a b:RP},yt a b=true↔a=b
 |.mk k f n m a,.mk k' f' n' m' a'=>by
  simp only [yt,Bool.and_eq_true,beq_iff_eq,sE,y5 (a:=a) (b:=a'),RP.mk.injEq]
  exact ⟨fun h=>⟨h.1.1.1.1,h.1.1.1.2,h.1.1.2,h.1.2,h.2⟩,fun h=>⟨⟨⟨⟨h.1,h.2.1⟩,h.2.2.1⟩,h.2.2.2.1⟩,h.2.2.2.2⟩⟩
theorem y5: ∀{a b:List RP},vP a b=true↔a=b
 |[],[]=>by simp [vP]
 |[],_::_=>by simp [vP]
 |_::_,[]=>by simp [vP]
 |x::xs,y::ys=>by
  simp only [vP,Bool.and_eq_true,tw (a:=x) (b:=y),y5 (a:=xs) (b:=ys),List.cons.injEq]
end
theorem sK {b:Bool} {p:Prop} (hi:b=true↔p) (h: ¬p):b=false:=by
 cases b with
 |false=>rfl
 |true=>exact (h (hi.1 rfl)).elim
theorem C1 (N:Nat): ∀a b:RP,a.nodes≤N→N<2^60→DCalls Tryz.prog 51 [.agg (sb a),.agg (sb b)] (.bool (yt a b)):=by
 induction N with
 |zero=>intro r _ h;have:=r.uc;omega
 |succ N ih=>
  rintro ⟨k,f,n,m,l⟩ ⟨k',f',n',m',l'⟩ hr hN
  refine qF (rs:=[.tmp 4]) mixed Tryz.func51 l51 rfl rfl rfl (r:=[.bool _]) (nlZ rfl) ?_
  simp only [RP.nodes] at hr
  have hE:=su f f'
  have hS:(!(f.toList==f'.toList))= !sa f f':=by rw [hE]
  by_cases c1:k=k'
  case neg=>rw [sK tw fun e=>c1 (by cases e;rfl)];repeat' ((conv=>whnf);first|exact trivial|refine qm c1 ?_|refine nT_ ?_|refine rb0 ?_|refine aS ?_|fail)
  by_cases c2:f=f'
  case neg=>
   rw [sK tw fun e=>c2 (by cases e;rfl)]
   rw [sK sE c2] at hS
   repeat' ((conv=>whnf);first|exact trivial|refine qj c1 ?_|refine nb_ _ hS ?_|refine nT_ ?_|refine rb0 ?_|refine aS ?_|fail)
  rw [sE.2 c2] at hS
  by_cases c3:n=n'
  case neg=>rw [sK tw fun e=>c3 (by cases e;rfl)];repeat' ((conv=>whnf);first|exact trivial|refine qj c1 ?_|refine nb_ _ hS ?_|refine qm c3 ?_|refine nT_ ?_|refine rb0 ?_|refine aS ?_|fail)
  by_cases c4:m=m'
  case neg=>rw [sK tw fun e=>c4 (by cases e;rfl)];repeat' ((conv=>whnf);first|exact trivial|refine qj c1 ?_|refine nb_ _ hS ?_|refine qj c3 ?_|refine qm c4 ?_|refine nT_ ?_|refine rb0 ?_|refine aS ?_|fail)
  have ha:((l.map sA).length:Int)=l.length:=by rw [List.length_map]
  have hb:((l'.map sA).length:Int)=l'.length:=by rw [List.length_map]
  by_cases hab:l.length=l'.length
  case neg=>
   rw [sK tw fun e=>hab (by cases e;rfl)]
   have hn:((l.map sA).length:Int)≠((l'.map sA).length:Int):=by omega
   repeat' ((conv=>whnf);first|exact trivial|refine qj c1 ?_|refine nb_ _ hS ?_|refine qj c3 ?_|refine qj c4 ?_|refine qm hn ?_|refine nT_ ?_|refine rb0 ?_|refine aS ?_|fail)
  have hn:((l.map sA).length:Int)=((l'.map sA).length:Int):=by omega
  have hnp:=tS l
  repeat' ((conv=>whnf);first|refine qj c1 ?_|refine nb_ _ hS ?_|refine qj c3 ?_|refine qj c4 ?_|refine qj hn ?_|refine nT_ ?_|refine aS ?_|fail)
  refine q7 (α:=Nat) (fun i=>{sl:=[(2,.ptr 2 0),(3,.ptr 3 0),(5,.t (I i))],bx:=[(2,.d 5 (sb (.mk k f n m l))),(3,.d 5 (sb (.mk k' f' n' m' l')))]})
   (fun i=>i≤l.length∧ ∀j (h:j<l.length) (h':j<l'.length),j<i→l[j]=l'[j]) (fun i=>l.length - i) 0 (by simp) ?_ ?_
  ·repeat' (first|exact trivial|exact LeV.same _|exact LeB.same _|exact rfl|exact fun _ _ _=>trivial|refine And.intro ?_ ?_)
  rintro i ⟨hi,hp⟩
  rcases Nat.lt_or_ge i l.length with h|h
  ·have h':i<l'.length:=by omega
   have hlt:(i:Int)<((l.map sA).length:Int):=by omega
   have hn:=tF h
   have hm:=tE (l:=l) (j:=i+1)
   have hc:=ih l[i] l'[i] (by omega) (by omega)
   by_cases he:l[i]=l'[i]
   ·rw [tw.2 he] at hc
    repeat' ((conv=>whnf);first|refine qg hlt ?_|(refine nv_ (.agg (sb l[i])) (by first|(simp [h,si];done)|fail) ?_)|(refine nv_ (.agg (sb l'[i])) (by first|(simp [h',si];done)|fail) ?_)|refine rp _ (hc) ?_|refine nT_ ?_|(refine And.intro (by first|exact sr _|fail) ?_)|refine aS ?_|fail)
    refine ⟨i+1,⟨h,fun j hj hj' hlt=>?_⟩,by omega,?_⟩
    ·rcases Nat.lt_or_ge j i with h4|h4
     ·exact hp j hj hj' h4
     ·obtain rfl:j=i:=by omega
      exact he
    ·repeat' (first|exact trivial|exact LeV.same _|exact LeB.same _|exact rfl|exact fun _ _ _=>trivial|exact lI|refine And.intro ?_ ?_)
   ·rw [sK tw he] at hc
    rw [sK tw fun e=>he (by cases e;rfl)]
    repeat' ((conv=>whnf);first|exact trivial|refine qg hlt ?_|(refine nv_ (.agg (sb l[i])) (by first|(simp [h,si];done)|fail) ?_)|(refine nv_ (.agg (sb l'[i])) (by first|(simp [h',si];done)|fail) ?_)|refine rp _ (hc) ?_|refine nT_ ?_|refine rb0 ?_|(refine And.intro (by first|exact sr _|fail) ?_)|refine aS ?_|fail)
  ·have e:l=l':=List.ext_getElem hab fun j h1 h2=>hp j h1 h2 (by omega)
   rw [tw.2 (by rw [c1,c2,c3,c4,e])]
   have hlt: ¬(i:Int)<((l.map sA).length:Int):=by omega
   repeat' ((conv=>whnf);first|exact trivial|refine qe hlt ?_|refine nT_ ?_|refine rb1 ?_|refine aS ?_|fail)
def wA (a b:RS):Bool:=(a.kind==b.kind)&&sa a.var b.var&&sa a.field b.field&&(a.n==b.n)&&(a.m==b.m)&&vr a.key b.key
theorem tL {a b:RS}:wA a b=true↔a=b:=by
 obtain ⟨a1,a2,a3,a4,a5,a6⟩:=a
 obtain ⟨b1,b2,b3,b4,b5,b6⟩:=b
 unfold wA
 simp only [Bool.and_eq_true,sE,beq_iff_eq,wB,RS.mk.injEq]
 exact ⟨fun h=>⟨h.1.1.1.1.1,h.1.1.1.1.2,h.2,h.1.1.1.2,h.1.1.2,h.1.2⟩,fun h=>⟨⟨⟨⟨⟨h.1,h.2.1⟩,h.2.2.2.1⟩,h.2.2.2.2.1⟩,h.2.2.2.2.2⟩,h.2.2.1⟩⟩
theorem zL (a b:RS) (hl:a.key.length<2^60):DCalls Tryz.prog 104 [.agg (se a),.agg (se b)] (.bool (wA a b)):=by
 obtain ⟨k,v,l,f,n,m⟩:=a
 obtain ⟨k',v',l',f',n',m'⟩:=b
 dsimp only at hl
 refine qF (rs:=[.tmp 4]) mixed Tryz.func104 MY rfl rfl rfl (r:=[.bool _]) (nlZ rfl) ?_
 have hV:(!(v.toList==v'.toList))= !sa v v':=by rw [su]
 have hS:(!(f.toList==f'.toList))= !sa f f':=by rw [su]
 by_cases c1:k=k'
 case neg=>rw [sK tL fun e=>c1 (by cases e;rfl)];repeat' ((conv=>whnf);first|exact trivial|refine qm c1 ?_|refine nT_ ?_|refine rb0 ?_|refine aS ?_|fail)
 by_cases c5:v=v'
 case neg=>
  rw [sK tL fun e=>c5 (by cases e;rfl)]
  rw [sK sE c5] at hV
  repeat' ((conv=>whnf);first|exact trivial|refine qj c1 ?_|refine nb_ _ hV ?_|refine nT_ ?_|refine rb0 ?_|refine aS ?_|fail)
 rw [sE.2 c5] at hV
 by_cases c2:f=f'
 case neg=>
  rw [sK tL fun e=>c2 (by cases e;rfl)]
  rw [sK sE c2] at hS
  repeat' ((conv=>whnf);first|exact trivial|refine qj c1 ?_|refine nb_ _ hV ?_|refine nb_ _ hS ?_|refine nT_ ?_|refine rb0 ?_|refine aS ?_|fail)
 rw [sE.2 c2] at hS
 by_cases c3:n=n'
 case neg=>rw [sK tL fun e=>c3 (by cases e;rfl)];repeat' ((conv=>whnf);first|exact trivial|refine qj c1 ?_|refine nb_ _ hV ?_|refine nb_ _ hS ?_|refine qm c3 ?_|refine nT_ ?_|refine rb0 ?_|refine aS ?_|fail)
 by_cases c4:m=m'
 case neg=>rw [sK tL fun e=>c4 (by cases e;rfl)];repeat' ((conv=>whnf);first|exact trivial|refine qj c1 ?_|refine nb_ _ hV ?_|refine nb_ _ hS ?_|refine qj c3 ?_|refine qm c4 ?_|refine nT_ ?_|refine rb0 ?_|refine aS ?_|fail)
 have ha:((l.map T.str).length:Int)=l.length:=by rw [List.length_map]
 have hb:((l'.map T.str).length:Int)=l'.length:=by rw [List.length_map]
 by_cases hab:l.length=l'.length
 case neg=>
  rw [sK tL fun e=>hab (by cases e;rfl)]
  have hn:((l.map T.str).length:Int)≠((l'.map T.str).length:Int):=by omega
  repeat' ((conv=>whnf);first|exact trivial|refine qj c1 ?_|refine nb_ _ hV ?_|refine nb_ _ hS ?_|refine qj c3 ?_|refine qj c4 ?_|refine qm hn ?_|refine nT_ ?_|refine rb0 ?_|refine aS ?_|fail)
 have hn:((l.map T.str).length:Int)=((l'.map T.str).length:Int):=by omega
 repeat' ((conv=>whnf);first|refine qj c1 ?_|refine nb_ _ hV ?_|refine nb_ _ hS ?_|refine qj c3 ?_|refine qj c4 ?_|refine qj hn ?_|refine nT_ ?_|refine aS ?_|fail)
 refine q7 (α:=Nat) (fun i=>{sl:=[(2,.ptr 2 0),(3,.ptr 3 0),(5,.t (I i))],bx:=[(2,.d 6 (se ⟨k,v,l,f,n,m⟩)),(3,.d 6 (se ⟨k',v',l',f',n',m'⟩))]})
  (fun i=>i≤l.length∧ ∀j (h:j<l.length) (h':j<l'.length),j<i→l[j]=l'[j]) (fun i=>l.length - i) 0 (by simp) ?_ ?_
 ·repeat' (first|exact trivial|exact LeV.same _|exact LeB.same _|exact rfl|exact fun _ _ _=>trivial|refine And.intro ?_ ?_)
 rintro i ⟨hi,hp⟩
 rcases Nat.lt_or_ge i l.length with h|h
 ·have h':i<l'.length:=by omega
  have hlt:(i:Int)<((l.map T.str).length:Int):=by omega
  have hN:(!(l[i].toList==l'[i].toList))= !sa l[i] l'[i]:=by rw [su]
  by_cases he:l[i]=l'[i]
  ·rw [sE.2 he] at hN
   repeat' ((conv=>whnf);first|refine qg hlt ?_|(refine nv_ (.str l[i]) (by first|(simp [h];done)|fail) ?_)|(refine nv_ (.str l'[i]) (by first|(simp [h'];done)|fail) ?_)|refine nb_ _ hN ?_|refine nT_ ?_|refine aS ?_|fail)
   refine ⟨i+1,⟨h,fun j hj hj' hlt=>?_⟩,by omega,?_⟩
   ·rcases Nat.lt_or_ge j i with h4|h4
    ·exact hp j hj hj' h4
    ·obtain rfl:j=i:=by omega
     exact he
   ·repeat' (first|exact trivial|exact LeV.same _|exact LeB.same _|exact rfl|exact fun _ _ _=>trivial|exact lI|refine And.intro ?_ ?_)
  ·rw [sK sE he] at hN
   rw [sK tL fun e=>he (by cases e;rfl)]
   repeat' ((conv=>whnf);first|exact trivial|refine qg hlt ?_|(refine nv_ (.str l[i]) (by first|(simp [h];done)|fail) ?_)|(refine nv_ (.str l'[i]) (by first|(simp [h'];done)|fail) ?_)|refine nb_ _ hN ?_|refine nT_ ?_|refine rb0 ?_|refine aS ?_|fail)
 ·have e:l=l':=List.ext_getElem hab fun j h1 h2=>hp j h1 h2 (by omega)
  rw [tL.2 (by rw [c1,c2,c3,c4,c5,e])]
  have hlt: ¬(i:Int)<((l.map T.str).length:Int):=by omega
  repeat' ((conv=>whnf);first|exact trivial|refine qe hlt ?_|refine nT_ ?_|refine rb1 ?_|refine aS ?_|fail)
end Go.TY
end
section
namespace Go.TY
open Go Go.DL Go.MM Go.Proofs
mutual
def uK:RO→RO→Bool
 |.mk k p f n a,.mk k' p' f' n' a'=>yt p p'&&(k==k')&&sa f f'&&(n==n')&&vO a a'
def vO:List RO→List RO→Bool
 |[],[]=>true
 |x::xs,y::ys=>uK x y&&vO xs ys
 |[],_::_=>false
 |_::_,[]=>false
end
mutual
theorem ud: ∀{a b:RO},uK a b=true↔a=b
 |.mk k p f n a,.mk k' p' f' n' a'=>by
  simp only [uK,Bool.and_eq_true,beq_iff_eq,sE,tw,y4 (a:=a) (b:=a'),RO.mk.injEq]
  exact ⟨fun h=>⟨h.1.1.1.2,h.1.1.1.1,h.1.1.2,h.1.2,h.2⟩,fun h=>⟨⟨⟨⟨h.2.1,h.1⟩,h.2.2.1⟩,h.2.2.2.1⟩,h.2.2.2.2⟩⟩
theorem y4: ∀{a b:List RO},vO a b=true↔a=b
 |[],[]=>by simp [vO]
 |[],_::_=>by simp [vO]
 |_::_,[]=>by simp [vO]
 |x::xs,y::ys=>by
  simp only [vO,Bool.and_eq_true,ud (a:=x) (b:=y),y4 (a:=xs) (b:=ys),List.cons.injEq]
end
theorem B6: ∀{l:List RO} {i:Nat} (h:i<l.length),l[i].wt≤th l
 |r::rs,0,_=>by simp only [List.getElem_cons_zero,th];omega
 |r::rs,i+1,h=>by
  have:=B6 (l:=rs) (i:=i) (by simpa using h)
  simp only [List.getElem_cons_succ,th];omega
theorem yj (N:Nat): ∀a b:RO,a.wt≤N→N<2^60→DCalls Tryz.prog 48 [.agg (r9 a),.agg (r9 b)] (.bool (uK a b)):=by
 induction N with
 |zero=>intro r _ h;have:=r.wC;omega
 |succ N ih=>
  rintro ⟨k,p,f,n,l⟩ ⟨k',p',f',n',l'⟩ hr hN
  refine qF (rs:=[.tmp 4]) mixed Tryz.func48 l48 rfl rfl rfl (r:=[.bool _]) (nlZ rfl) ?_
  simp only [RO.wt] at hr
  have hS:(!(f.toList==f'.toList))= !sa f f':=by rw [su]
  have hP:=C1 _ p p' (Nat.le_refl _) (by omega)
  by_cases c5:p=p'
  case neg=>
   rw [sK tw c5] at hP
   rw [sK ud fun e=>c5 (by cases e;rfl)]
   obtain ⟨pk,pf,pn,pm,pa⟩:=p
   obtain ⟨pk',pf',pn',pm',pa'⟩:=p'
   repeat' ((conv=>whnf);first|exact trivial|refine rp _ (hP) ?_|refine nT_ ?_|refine rb0 ?_|refine aS ?_|fail)
  rw [tw.2 c5] at hP
  have hno: ∀{q:Prop},((RO.mk k p f n l=RO.mk k' p' f' n' l')→q)→ ¬q→uK (.mk k p f n l) (.mk k' p' f' n' l')=false:=fun h1 h2=>sK ud fun e=>h2 (h1 e)
  have hyes:k=k'→f=f'→n=n'→l=l'→uK (.mk k p f n l) (.mk k' p' f' n' l')=true:=fun h1 h2 h3 h4=>ud.2 (by rw [h1,h2,h3,h4,c5])
  generalize uK (.mk k p f n l) (.mk k' p' f' n' l')=res at *
  clear c5
  obtain ⟨pk,pf,pn,pm,pa⟩:=p
  obtain ⟨pk',pf',pn',pm',pa'⟩:=p'
  by_cases c1:k=k'
  case neg=>rw [hno (fun e=>by cases e;rfl) c1];repeat' ((conv=>whnf);first|exact trivial|refine rp _ (hP) ?_|refine qm c1 ?_|refine nT_ ?_|refine rb0 ?_|refine aS ?_|fail)
  by_cases c2:f=f'
  case neg=>
   rw [hno (fun e=>by cases e;rfl) c2]
   rw [sK sE c2] at hS
   repeat' ((conv=>whnf);first|exact trivial|refine rp _ (hP) ?_|refine qj c1 ?_|refine nb_ _ hS ?_|refine nT_ ?_|refine rb0 ?_|refine aS ?_|fail)
  rw [sE.2 c2] at hS
  by_cases c3:n=n'
  case neg=>rw [hno (fun e=>by cases e;rfl) c3];repeat' ((conv=>whnf);first|exact trivial|refine rp _ (hP) ?_|refine qj c1 ?_|refine nb_ _ hS ?_|refine qm c3 ?_|refine nT_ ?_|refine rb0 ?_|refine aS ?_|fail)
  have ha:((l.map sL).length:Int)=l.length:=by rw [List.length_map]
  have hb:((l'.map sL).length:Int)=l'.length:=by rw [List.length_map]
  by_cases hab:l.length=l'.length
  case neg=>
   rw [hno (fun e=>by cases e;rfl) hab]
   have hn:((l.map sL).length:Int)≠((l'.map sL).length:Int):=by omega
   repeat' ((conv=>whnf);first|exact trivial|refine rp _ (hP) ?_|refine qj c1 ?_|refine nb_ _ hS ?_|refine qj c3 ?_|refine qm hn ?_|refine nT_ ?_|refine rb0 ?_|refine aS ?_|fail)
  have hn:((l.map sL).length:Int)=((l'.map sL).length:Int):=by omega
  have hlen:=uL l
  repeat' ((conv=>whnf);first|refine rp _ (hP) ?_|refine qj c1 ?_|refine nb_ _ hS ?_|refine qj c3 ?_|refine qj hn ?_|refine nT_ ?_|refine aS ?_|fail)
  refine q7 (α:=Nat) (fun i=>{sl:=[(2,.ptr 2 0),(3,.ptr 3 0),(6,.t (I i))],bx:=[(2,.d 9 (r9 (.mk k (.mk pk pf pn pm pa) f n l))),(3,.d 9 (r9 (.mk k' (.mk pk' pf' pn' pm' pa') f' n' l')))]})
   (fun i=>i≤l.length∧ ∀j (h:j<l.length) (h':j<l'.length),j<i→l[j]=l'[j]) (fun i=>l.length - i) 0 (by simp) ?_ ?_
  ·repeat' (first|exact trivial|exact LeV.same _|exact LeB.same _|exact rfl|exact fun _ _ _=>trivial|refine And.intro ?_ ?_)
  rintro i ⟨hi,hp⟩
  rcases Nat.lt_or_ge i l.length with h|h
  ·have h':i<l'.length:=by omega
   have hlt:(i:Int)<((l.map sL).length:Int):=by omega
   have hg:=B6 h
   have hc:=ih l[i] l'[i] (by omega) (by omega)
   by_cases he:l[i]=l'[i]
   ·rw [ud.2 he] at hc
    repeat' ((conv=>whnf);first|refine qg hlt ?_|(refine nv_ (.agg (r9 l[i])) (by first|(simp [h,sy];done)|fail) ?_)|(refine nv_ (.agg (r9 l'[i])) (by first|(simp [h',sy];done)|fail) ?_)|refine rp _ (hc) ?_|refine nT_ ?_|(refine And.intro (by first|exact sd _|fail) ?_)|refine aS ?_|fail)
    refine ⟨i+1,⟨h,fun j hj hj' hlt=>?_⟩,by omega,?_⟩
    ·rcases Nat.lt_or_ge j i with h4|h4
     ·exact hp j hj hj' h4
     ·obtain rfl:j=i:=by omega
      exact he
    ·repeat' (first|exact trivial|exact LeV.same _|exact LeB.same _|exact rfl|exact fun _ _ _=>trivial|exact lI|refine And.intro ?_ ?_)
   ·rw [sK ud he] at hc
    rw [hno (q:=l[i]=l'[i]) (fun e=>by cases e;rfl) he]
    repeat' ((conv=>whnf);first|exact trivial|refine qg hlt ?_|(refine nv_ (.agg (r9 l[i])) (by first|(simp [h,sy];done)|fail) ?_)|(refine nv_ (.agg (r9 l'[i])) (by first|(simp [h',sy];done)|fail) ?_)|refine rp _ (hc) ?_|refine nT_ ?_|refine rb0 ?_|(refine And.intro (by first|exact sd _|fail) ?_)|refine aS ?_|fail)
  ·have e:l=l':=List.ext_getElem hab fun j h1 h2=>hp j h1 h2 (by omega)
   rw [hyes c1 c2 c3 e]
   have hlt: ¬(i:Int)<((l.map sL).length:Int):=by omega
   repeat' ((conv=>whnf);first|exact trivial|refine qe hlt ?_|refine nT_ ?_|refine rb1 ?_|refine aS ?_|fail)
end Go.TY
end
section
namespace Go.TY
open Go Go.DL Go.MM Go.Proofs
theorem DX (g:RG):((sc g).drop 0).take 9=r9 g.pol:=by
 have:=ue g
 rwa [mL (n:=15) rfl] at this
theorem vF (g:RG):((sc g).drop 9).take 6=se g.st:=by
 have:=vS g
 rwa [mL (n:=15) rfl] at this
def zW (a b:RG):Bool:=uK a.pol b.pol&&wA a.st b.st
theorem zX {a b:RG}:zW a b=true↔a=b:=by
 obtain ⟨p,s⟩:=a
 obtain ⟨p',s'⟩:=b
 unfold zW
 rw [Bool.and_eq_true,ud,tL,RG.mk.injEq]
def uP:List RG→List RG→Bool
 |[],[]=>true
 |x::xs,y::ys=>zW x y&&uP xs ys
 |_,_=>false
theorem uA: ∀{a b:List RG},uP a b=true↔a=b
 |[],[]=>by simp [uP]
 |[],_::_=>by simp [uP]
 |_::_,[]=>by simp [uP]
 |x::xs,y::ys=>by
  unfold uP
  rw [Bool.and_eq_true,uA (a:=xs),zX,List.cons.injEq]
def CU (r:RO):Bool:=decide (r.size≤400)&&decide (r.deep≤60)&&decide (r.pred.nodes≤400)
theorem Ae {a b:Nat}:decide ((a:Int)≤(b:Int))=decide (a≤b):=by
 by_cases h:a≤b
 ·rw [decide_eq_true h,decide_eq_true (by omega)]
 ·rw [decide_eq_false h,decide_eq_false (by omega)]
theorem Ce (r:RO) (hr:r.wt<2^60):DCalls Tryz.prog 13 [.agg (r9 r)] (.bool (CU r)):=by
 refine qF (rs:=[.tmp 2]) mixed Tryz.func13 l13 rfl rfl rfl (r:=[.bool _]) (nlZ rfl) ?_
 have h1:=t89 _ r (Nat.le_refl _) hr
 have hpn:r.pred.nodes<2^60:=by
  obtain ⟨k,p,f,n,l⟩:=r
  simp only [RO.wt] at hr
  show p.nodes<_;omega
 have h2:=t103 _ r.pred (Nat.le_refl _) hpn
 have d1:decide ((r.size:Int)≤400)=decide (r.size≤400):=Ae
 have d2:decide ((r.deep:Int)≤60)=decide (r.deep≤60):=Ae
 have d3:decide ((r.pred.nodes:Int)≤400)=decide (r.pred.nodes≤400):=Ae
 unfold CU
 obtain ⟨k,⟨pk,pf,pn,pm,pa⟩,f,n,l⟩:=r
 have e:(RO.mk k (.mk pk pf pn pm pa) f n l).pred= .mk pk pf pn pm pa:=rfl
 rw [e] at h2 d3 ⊢
 clear hr hpn e
 generalize (RO.mk k (.mk pk pf pn pm pa) f n l).size=a at *
 generalize (RO.mk k (.mk pk pf pn pm pa) f n l).deep=d at *
 generalize (RP.mk pk pf pn pm pa).nodes=c at *
 generalize (RP.mk pk pf pn pm pa).depth=c' at *
 generalize decide (a≤400)=b1 at *
 generalize decide (d≤60)=b2 at *
 generalize decide (c≤400)=b3 at *
 cases b1 <;> cases b2 <;> repeat' ((conv=>whnf);first|exact trivial|refine rp _ (h1) ?_|refine rp _ (h2) ?_|refine nb_ _ d1 ?_|refine nb_ _ d2 ?_|refine nb_ _ d3 ?_|refine nT_ ?_|refine rb0 ?_|refine rbx ?_|refine aS ?_|fail)
end Go.TY
end
section
namespace Go.TY
open Go Go.DL Go.MM Go.Proofs
end Go.TY
end
section
namespace Go.TY
open Go Go.DL Go.MM Go.Proofs
theorem vL (g:RG):(sc g).take 9=r9 g.pol:=by
 have:=DX g
 rwa [List.drop_zero] at this
theorem wE (g:RG):9≤(sc g).length:=by rw [sq];exact nlZ rfl
theorem vk (g:RG):15≤(sc g).length:=by rw [sq];exact Nat.le_refl _
theorem F3 (g:RG):11<(sc g).length:=by rw [sq];exact nlZ rfl
theorem uV (g:RG):((sc g).take 9).length=9:=by rw [vL,sd]
theorem xZ (a b:List RG) (hl:a.length<2^60) (hg: ∀g∈a,g.pol.wt<2^59∧g.st.key.length<2^60):
  DCalls Tryz.prog 54 [.slice 15 (a.map sg),.slice 15 (b.map sg)] (.bool (uP a b)):=by
 refine qF (rs:=[.tmp 4]) mixed Tryz.func54 l54 rfl rfl rfl (r:=[.bool _]) (nlZ rfl) ?_
 have ha:((a.map sg).length:Int)=a.length:=by rw [List.length_map]
 have hb:((b.map sg).length:Int)=b.length:=by rw [List.length_map]
 by_cases hab:a.length=b.length
 case neg=>
  rw [sK uA fun e=>hab (by rw [e])]
  have hn:((a.map sg).length:Int)≠((b.map sg).length:Int):=by omega
  repeat' ((conv=>whnf);first|exact trivial|refine qm hn ?_|refine rb0 ?_|refine aS ?_|fail)
 have hn:((a.map sg).length:Int)=((b.map sg).length:Int):=by omega
 repeat' ((conv=>whnf);first|refine qj hn ?_|refine aS ?_|fail)
 refine q7 (α:=Nat) (fun i=>{sl:=[(0,.t (.slice 15 (a.map sg))),(1,.t (.slice 15 (b.map sg))),(5,.t (I i))],bx:=[]})
  (fun i=>i≤a.length∧ ∀j (h:j<a.length) (h':j<b.length),j<i→a[j]=b[j]) (fun i=>a.length - i) 0 (by simp) ?_ ?_
 ·repeat' (first|exact trivial|exact LeV.same _|exact rfl|exact fun _ _ _=>trivial|refine And.intro ?_ ?_)
 rintro i ⟨hi,hp⟩
 rcases Nat.lt_or_ge i a.length with h|h
 ·have h':i<b.length:=by omega
  have hlt:(i:Int)<((a.map sg).length:Int):=by omega
  have hgi:=hg _ (List.getElem_mem h)
  have hc:=yj _ a[i].pol b[i].pol (Nat.le_refl _) (by omega)
  have hs:=zL a[i].st b[i].st hgi.2
  have hc1:=vL a[i]
  have hc2:=vL b[i]
  have hc3:=vF a[i]
  have hc4:=vF b[i]
  have hl1:=sq a[i]
  have hl2:=sq b[i]
  by_cases he:a[i]=b[i]
  ·rw [ud.2 (congrArg RG.pol he)] at hc
   rw [tL.2 (congrArg RG.st he)] at hs
   repeat' ((conv=>whnf);first|refine qg hlt ?_|(refine nv_ (.agg (sc a[i])) (by first|((simp [h];rfl);done)|fail) ?_)|(refine nv_ (.agg (sc b[i])) (by first|((simp [h'];rfl);done)|fail) ?_)|(refine nv_ (.agg (r9 a[i].pol)) (by first|exact congrArg T.agg hc1|fail) ?_)|(refine nv_ (.agg (r9 b[i].pol)) (by first|exact congrArg T.agg hc2|fail) ?_)|(refine nv_ (.agg (se a[i].st)) (by first|exact congrArg T.agg hc3|fail) ?_)|(refine nv_ (.agg (se b[i].st)) (by first|exact congrArg T.agg hc4|fail) ?_)|refine rp _ (hc) ?_|refine rp _ (hs) ?_|(refine And.intro (by first|exact sq _|exact uV _|exact wE _|exact vk _|fail) ?_)|refine aS ?_|fail)
   refine ⟨i+1,⟨h,fun j hj hj' hlt=>?_⟩,by omega,?_⟩
   ·rcases Nat.lt_or_ge j i with h4|h4
    ·exact hp j hj hj' h4
    ·obtain rfl:j=i:=by omega
     exact he
   ·repeat' (first|exact trivial|exact LeV.same _|exact rfl|exact fun _ _ _=>trivial|exact lI|refine And.intro ?_ ?_)
  ·rw [sK uA fun e=>he (by subst e;rfl)]
   have hor:uK a[i].pol b[i].pol=false∨wA a[i].st b[i].st=false:=by
    have:=sK zX he
    unfold zW at this
    exact Bool.and_eq_false_iff.1 this
   generalize uK a[i].pol b[i].pol=x1 at *
   generalize wA a[i].st b[i].st=x2 at *
   cases x1 <;> cases x2 <;> first
    |(exfalso;rcases hor with h|h <;> cases h;done)
    |(repeat' ((conv=>whnf);first|exact trivial|refine qg hlt ?_|(refine nv_ (.agg (sc a[i])) (by first|((simp [h];rfl);done)|fail) ?_)|(refine nv_ (.agg (sc b[i])) (by first|((simp [h'];rfl);done)|fail) ?_)|(refine nv_ (.agg (r9 a[i].pol)) (by first|exact congrArg T.agg hc1|fail) ?_)|(refine nv_ (.agg (r9 b[i].pol)) (by first|exact congrArg T.agg hc2|fail) ?_)|(refine nv_ (.agg (se a[i].st)) (by first|exact congrArg T.agg hc3|fail) ?_)|(refine nv_ (.agg (se b[i].st)) (by first|exact congrArg T.agg hc4|fail) ?_)|refine rp _ (hc) ?_|refine rp _ (hs) ?_|refine rb0 ?_|(refine And.intro (by first|exact sq _|exact uV _|exact wE _|exact vk _|fail) ?_)|refine aS ?_|fail))
 ·have e:a=b:=List.ext_getElem hab fun j h1 h2=>hp j h1 h2 (by omega)
  rw [uA.2 e]
  have hlt: ¬(i:Int)<((a.map sg).length:Int):=by omega
  repeat' ((conv=>whnf);first|exact trivial|refine qe hlt ?_|refine rb1 ?_|refine aS ?_|fail)
end Go.TY
end
