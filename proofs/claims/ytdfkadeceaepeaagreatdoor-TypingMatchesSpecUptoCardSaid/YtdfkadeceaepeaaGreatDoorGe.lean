/- Joined by program: parts of a data level over the model, of the program's functions over it, and of the statement's proof. -/
import Derived.Test.YtdfkadeceaepeaaGreatDoorProg
import Derived.Test.YtdfkadeceaepeaaGreatDoorGc
import Derived.KernelRfl
import Derived.Test.YtdfkadeceaepeaaGreatDoorGd
import Derived.Shelf.Sort.Plain
import Derived.Shelf.Slices.In.SortNone
set_option maxRecDepth 100000
set_option maxHeartbeats 8000000
noncomputable section
namespace Go.TY
open Go Go.DL Go.Proofs
def c68:aY:=(.seq (.region [oo 1 (.box 5 (tm 0)),oo 2 (.mov (Kc 0))] []) (.seq (.region [lA 3 5 1,oo 4 (.call 105 [tm 3]),oo 5 (.mkfn 107 [tm 1]),oo 6 (.call 106 [(tm 4),(tm 5)]),mv 2 6] []) .ret))
theorem l68:(Tryz.f68.body.bind (bD Tryz.prog 7 []))=some c68:=by kernel_rfl
def c72:aY:=(.seq (.region [oo 1 (.box 9 (tm 0)),oo 2 (.mov (Kc 0))] []) (.seq (.region [lA 3 9 1,oo 4 (.call 113 [tm 3]),oo 5 (.mkfn 114 [tm 1]),oo 6 (.call 106 [(tm 4),(tm 5)]),mv 2 6] []) .ret))
theorem l72:(Tryz.f72.body.bind (bD Tryz.prog 7 []))=some c72:=by kernel_rfl
def c79:aY:=(.seq (.region [oo 1 (.box 6 (tm 0)),oo 2 (.mov (Kc 0))] []) (.seq (.seq (.region [lA 3 6 1,oo 4 (.call 123 [tm 3]),oo 5 (.not (tm 4))] []) (.cond (tm 5) (.seq (.region [oo 2 (.mov (Kc 1))] []) .ret) .skip)) (.seq (.region [oo 2 (.mov (Kc 0))] []) .ret)))
theorem l79:(Tryz.f79.body.bind (bD Tryz.prog 6 []))=some c79:=by kernel_rfl
def c95:aY:=(.seq (.region [oo 2 (.mov (Kc 0))] []) (.seq (.seq (.region [mv 7 0,ln 8 7,oo 9 (.bin .gtr (tm 8) (Kc 8))] []) (.cond (tm 9) (.seq (.region [oo 2 (.mov (Kc 2))] []) .ret) .skip)) (.seq (.seq (.region [mv 10 0,ln 11 10,oo 12 (.mov (Kc 0))] []) (.block 0 (.loop (.seq (.region [oo 13 (.bin .lss (tm 12) (tm 11))] []) (.seq (.cond (tm 13) .skip (.exit 0)) (.seq (.block 1 (.seq (.region [ix 14 15 10 12,lA 15 15 14,⟨some 4,.alloc [Z0,Z0,S0,Z0,Z0,.nil,S0,Z0,.nil,Z0,S0,.nil,S0,Z0,Z0],none,[]⟩,o0 (.store 15 (tm 4) (tm 15))] []) (.seq (.seq (.region [fa 16 0 4,lA 17 9 16,oo 18 (.call 72 [tm 17]),mv 5 18] []) (.seq (.region [mv 19 5,oo 20 (.bin .neq (tm 19) (Kc 0))] []) (.cond (tm 20) (.seq (.region [mv 21 5,mv 2 21] []) .ret) .skip))) (.seq (.region [fa 22 9 4,lA 23 6 22,oo 24 (.call 79 [tm 23]),mv 6 24] []) (.seq (.region [mv 25 6,oo 26 (.bin .neq (tm 25) (Kc 0))] []) (.cond (tm 26) (.seq (.region [mv 27 6,mv 2 27] []) .ret) .skip)))))) (.region [oo 28 (.bin .add (tm 12) (Kc 1)),mv 12 28] []))))))) (.seq (.region [oo 2 (.mov (Kc 0))] []) .ret))))
theorem l95:(Tryz.f95.body.bind (bD Tryz.prog 29 []))=some c95:=by kernel_rfl
def Ke:aY:=(.seq (.region [oo 1 (.box 5 (tm 0)),oo 2 (.alloc [Z0,Z0])] []) (.seq (.region [fa 3 4 1,ld 4 3,oo 5 (.call 139 [(tm 4),(.const (.clos 105 []))]),o0 (.store 2 (tm 2) (tm 5))] []) .ret))
theorem Lz:(Tryz.f105.body.bind (bD Tryz.prog 6 []))=some Ke:=by kernel_rfl
def Kf:aY:=(.seq (.region [oo 2 (.box 2 (tm 0)),oo 4 (.mov (Kc 0))] []) (.seq (.seq (.region [lA 6 2 2,oo 7 (.call 140 [tm 6]),mv 5 7] []) (.seq (.region [mv 8 5,oo 9 (.bin .neq (tm 8) (Kc 0))] []) (.cond (tm 9) (.seq (.region [mv 10 5,mv 4 10] []) .ret) .skip))) (.seq (.seq (.region [mv 11 1,oo 12 (.b8 (tm 11) []),oo 13 (.not (tm 12))] []) (.cond (tm 13) (.seq (.region [oo 4 (.mov (Kc 1))] []) .ret) .skip)) (.seq (.region [oo 4 (.mov (Kc 0))] []) .ret))))
theorem LA:(Tryz.f106.body.bind (bD Tryz.prog 14 []))=some Kf:=by kernel_rfl
def Kg:aY:=(.seq (.region [oo 1 (.mov kF)] []) (.seq (.region [lA 2 5 0,oo 3 (.call 108 [tm 2]),mv 1 3] []) .ret))
theorem LB:(Tryz.f107.body.bind (bD Tryz.prog 4 []))=some Kg:=by kernel_rfl
def Kh:aY:=(.seq (.region [oo 1 (.box 5 (tm 0)),oo 2 (.mov kF)] []) (.seq (.cut (.region [fa 4 1 1,ld 5 4,⟨some 6,.bin .eql (tm 5) (.const S0),none,[]⟩,mv 7 6,oT 8 7 (.offA 2 (tm 1)),oT 9 7 (.load 1 false (tm 8)),oT 10 7 (.bin .eql (tm 9) (Kc 0)),oo 11 (.pick (tm 7) (tm 10) kF),mv 12 11,oT 13 12 (.offA 3 (tm 1)),oT 14 12 (.load 1 false (tm 13)),oT 15 12 (.bin .eql (tm 14) (Kc 0)),oo 16 (.pick (tm 12) (tm 15) kF),mv 3 16] [])) (.seq (.seq (.region [fa 17 0 1,ld 18 17] []) (.block 0 (.seq (.seq (.region [oo 20 (.bin .eql (tm 18) (Kc 1)),mv 19 20] []) (.cond (tm 19) .skip (.region [oo 21 (.bin .eql (tm 18) (Kc 2)),mv 19 21] []))) (.cond (tm 19) (.seq (.region [mv 22 3,mv 23 22,oT 24 23 (.offA 4 (tm 1)),oT 25 23 (.load 1 false (tm 24)),oT 26 23 (.len (tm 25)),oT 27 23 (.bin .eql (tm 26) (Kc 0)),oo 28 (.pick (tm 23) (tm 27) kF),mv 2 28] []) .ret) (.seq (.region [oo 30 (.bin .eql (tm 18) (Kc 3)),mv 29 30] []) (.cond (tm 29) (.seq (.region [fa 31 1 1,ld 32 31,oo 33 (.call 141 [tm 32]),mv 34 33,oT 35 34 (.offA 2 (tm 1)),oT 36 34 (.load 1 false (tm 35)),oT 37 34 (.call 142 [tm 36]),oo 38 (.pick (tm 34) (tm 37) kF),mv 39 38,oT 40 39 (.offA 3 (tm 1)),oT 41 39 (.load 1 false (tm 40)),oT 42 39 (.bin .eql (tm 41) (Kc 0)),oo 43 (.pick (tm 39) (tm 42) kF),mv 44 43,oT 45 44 (.offA 4 (tm 1)),oT 46 44 (.load 1 false (tm 45)),oT 47 44 (.len (tm 46)),oT 48 44 (.bin .eql (tm 47) (Kc 0)),oo 49 (.pick (tm 44) (tm 48) kF),mv 2 49] []) .ret) (.seq (.region [oo 51 (.bin .eql (tm 18) (Kc 4)),mv 50 51] []) (.cond (tm 50) (.seq (.region [fa 52 1 1,ld 53 52,oo 54 (.call 141 [tm 53]),mv 55 54,oT 56 55 (.offA 2 (tm 1)),oT 57 55 (.load 1 false (tm 56)),oT 58 55 (.call 142 [tm 57]),oo 59 (.pick (tm 55) (tm 58) kF),mv 60 59,oT 61 60 (.offA 3 (tm 1)),oT 62 60 (.load 1 false (tm 61)),oT 63 60 (.bin .geq (tm 62) (Kc 0)),oo 64 (.pick (tm 60) (tm 63) kF),mv 65 64,oT 66 65 (.offA 3 (tm 1)),oT 67 65 (.load 1 false (tm 66)),oT 68 65 (.bin .leq (tm 67) (Kc 16)),oo 69 (.pick (tm 65) (tm 68) kF),mv 70 69,oT 71 70 (.offA 4 (tm 1)),oT 72 70 (.load 1 false (tm 71)),oT 73 70 (.len (tm 72)),oT 74 70 (.bin .eql (tm 73) (Kc 0)),oo 75 (.pick (tm 70) (tm 74) kF),mv 2 75] []) .ret) (.seq (.region [oo 77 (.bin .eql (tm 18) (Kc 5)),mv 76 77] []) (.cond (tm 76) (.seq (.region [fa 78 1 1,ld 79 78,oo 80 (.call 141 [tm 79]),mv 81 80,oT 82 81 (.offA 2 (tm 1)),oT 83 81 (.load 1 false (tm 82)),oT 84 81 (.call 142 [tm 83]),oo 85 (.pick (tm 81) (tm 84) kF),mv 86 85,oT 87 86 (.offA 3 (tm 1)),oT 88 86 (.load 1 false (tm 87)),oT 89 86 (.call 142 [tm 88]),oo 90 (.pick (tm 86) (tm 89) kF),mv 91 90,oT 92 91 (.offA 2 (tm 1)),oT 93 91 (.load 1 false (tm 92)),oT 94 91 (.offA 3 (tm 1)),oT 95 91 (.load 1 false (tm 94)),oT 96 91 (.bin .leq (tm 93) (tm 95)),oo 97 (.pick (tm 91) (tm 96) kF),mv 98 97,oT 99 98 (.offA 4 (tm 1)),oT 100 98 (.load 1 false (tm 99)),oT 101 98 (.len (tm 100)),oT 102 98 (.bin .eql (tm 101) (Kc 0)),oo 103 (.pick (tm 98) (tm 102) kF),mv 2 103] []) .ret) (.seq (.region [oo 105 (.bin .eql (tm 18) (Kc 9)),mv 104 105] []) (.cond (tm 104) (.seq (.region [fa 106 1 1,ld 107 106,⟨some 108,.bin .eql (tm 107) (.const S0),none,[]⟩,mv 109 108,oT 110 109 (.offA 2 (tm 1)),oT 111 109 (.load 1 false (tm 110)),oT 112 109 (.call 143 [tm 111]),oo 113 (.pick (tm 109) (tm 112) kF),mv 114 113,oT 115 114 (.offA 3 (tm 1)),oT 116 114 (.load 1 false (tm 115)),oT 117 114 (.call 143 [tm 116]),oo 118 (.pick (tm 114) (tm 117) kF),mv 119 118,oT 120 119 (.offA 2 (tm 1)),oT 121 119 (.load 1 false (tm 120)),oT 122 119 (.offA 3 (tm 1)),oT 123 119 (.load 1 false (tm 122)),oT 124 119 (.bin .lss (tm 121) (tm 123)),oo 125 (.pick (tm 119) (tm 124) kF),mv 126 125,oT 127 126 (.offA 4 (tm 1)),oT 128 126 (.load 1 false (tm 127)),oT 129 126 (.len (tm 128)),oT 130 126 (.bin .eql (tm 129) (Kc 0)),oo 131 (.pick (tm 126) (tm 130) kF),mv 2 131] []) .ret) (.seq (.region [oo 133 (.bin .eql (tm 18) (Kc 6)),mv 132 133] []) (.cond (tm 132) (.seq (.region [mv 134 3,mv 135 134,oT 136 135 (.offA 4 (tm 1)),oT 137 135 (.load 1 false (tm 136)),oT 138 135 (.call 144 [(tm 137),(Kc 1),(.const (.clos 108 []))]),oo 139 (.pick (tm 135) (tm 138) kF),mv 2 139] []) .ret) (.seq (.seq (.region [oo 141 (.bin .eql (tm 18) (Kc 7)),mv 140 141] []) (.cond (tm 140) .skip (.region [oo 142 (.bin .eql (tm 18) (Kc 8)),mv 140 142] []))) (.cond (tm 140) (.seq (.region [mv 143 3,mv 144 143,oT 145 144 (.offA 4 (tm 1)),oT 146 144 (.load 1 false (tm 145)),oT 147 144 (.call 144 [(tm 146),(Kc 2),(.const (.clos 108 []))]),oo 148 (.pick (tm 144) (tm 147) kF),mv 2 148] []) .ret) .skip)))))))))))))))) (.seq (.region [oo 2 (.mov kF)] []) .ret))))
theorem LC:(Tryz.f108.body.bind (bD Tryz.prog 149 [6000001]))=some Kh:=by kernel_rfl
def Km:aY:=(.seq (.region [oo 1 (.box 9 (tm 0)),oo 2 (.alloc [Z0,Z0])] []) (.seq (.region [fa 4 8 1,ld 5 4,oo 6 (.call 147 [(tm 5),(.const (.clos 113 []))]),oo 3 (.alloc [Z0,Z0]),o0 (.store 2 (tm 3) (tm 6))] []) (.seq (.seq (.region [fa 7 0 1,ld 8 7,oo 9 (.bin .eql (tm 8) (Kc 1))] []) (.cond (tm 9) (.region [lA 10 2 3,fa 11 1 1,lA 12 5 11,oo 13 (.call 105 [tm 12]),oo 14 (.call 148 [(tm 10),(tm 13)]),o0 (.store 2 (tm 3) (tm 14))] []) .skip)) (.seq (.region [lA 15 2 3,o0 (.store 2 (tm 2) (tm 15))] []) .ret))))
theorem LI:(Tryz.f113.body.bind (bD Tryz.prog 16 []))=some Km:=by kernel_rfl
def Kn:aY:=(.seq (.region [oo 1 (.mov kF)] []) (.seq (.region [lA 2 9 0,oo 3 (.call 115 [tm 2]),mv 1 3] []) .ret))
theorem LJ:(Tryz.f114.body.bind (bD Tryz.prog 4 []))=some Kn:=by kernel_rfl
def Ko:aY:=(.seq (.region [oo 1 (.box 9 (tm 0)),oo 2 (.mov kF)] []) (.seq (.cut (.region [fa 5 1 1,lA 6 5 5,⟨some 7,.build [Z0,S0,Z0,Z0,.nil] [],none,[]⟩,oo 8 (.call 149 [(tm 6),(tm 7)]),fa 9 6 1,ld 10 9,⟨some 11,.bin .eql (tm 10) (.const S0),none,[]⟩,mv 12 11,oT 13 12 (.offA 7 (tm 1)),oT 14 12 (.load 1 false (tm 13)),oT 15 12 (.bin .eql (tm 14) (Kc 0)),oo 16 (.pick (tm 12) (tm 15) kF),mv 3 8,mv 4 16] [])) (.seq (.seq (.region [fa 17 0 1,ld 18 17] []) (.block 0 (.seq (.region [oo 20 (.bin .eql (tm 18) (Kc 1)),mv 19 20] []) (.cond (tm 19) (.seq (.region [mv 21 4,mv 22 21,oT 23 22 (.offA 8 (tm 1)),oT 24 22 (.load 1 false (tm 23)),oT 25 22 (.len (tm 24)),oT 26 22 (.bin .eql (tm 25) (Kc 0)),oo 27 (.pick (tm 22) (tm 26) kF),mv 28 27,oT 29 28 (.offA 1 (tm 1)),oT 30 28 (.load 5 true (tm 29)),oT 31 28 (.call 108 [tm 30]),oo 32 (.pick (tm 28) (tm 31) kF),mv 2 32] []) .ret) (.seq (.region [oo 34 (.bin .eql (tm 18) (Kc 2)),mv 33 34] []) (.cond (tm 33) (.seq (.region [mv 35 3,mv 36 35,oT 37 36 (.offA 8 (tm 1)),oT 38 36 (.load 1 false (tm 37)),oT 39 36 (.len (tm 38)),oT 40 36 (.bin .eql (tm 39) (Kc 0)),oo 41 (.pick (tm 36) (tm 40) kF),mv 42 41,oT 43 42 (.offA 6 (tm 1)),oT 44 42 (.load 1 false (tm 43)),oT 45 42 (.call 141 [tm 44]),oo 46 (.pick (tm 42) (tm 45) kF),mv 47 46,oT 48 47 (.offA 7 (tm 1)),oT 49 47 (.load 1 false (tm 48)),oT 50 47 (.call 142 [tm 49]),oo 51 (.pick (tm 47) (tm 50) kF),mv 2 51] []) .ret) (.seq (.region [oo 53 (.bin .eql (tm 18) (Kc 5)),mv 52 53] []) (.cond (tm 52) (.seq (.region [mv 54 3,mv 55 54,mT 56 4 55,oo 57 (.pick (tm 55) (tm 56) kF),mv 58 57,oT 59 58 (.offA 8 (tm 1)),oT 60 58 (.load 1 false (tm 59)),oT 61 58 (.call 150 [(tm 60),(Kc 1),(.const (.clos 115 []))]),oo 62 (.pick (tm 58) (tm 61) kF),mv 2 62] []) .ret) (.seq (.seq (.region [oo 64 (.bin .eql (tm 18) (Kc 3)),mv 63 64] []) (.cond (tm 63) .skip (.region [oo 65 (.bin .eql (tm 18) (Kc 4)),mv 63 65] []))) (.cond (tm 63) (.seq (.region [mv 66 3,mv 67 66,mT 68 4 67,oo 69 (.pick (tm 67) (tm 68) kF),mv 70 69,oT 71 70 (.offA 8 (tm 1)),oT 72 70 (.load 1 false (tm 71)),oT 73 70 (.call 150 [(tm 72),(Kc 2),(.const (.clos 115 []))]),oo 74 (.pick (tm 70) (tm 73) kF),mv 2 74] []) .ret) .skip)))))))))) (.seq (.region [oo 2 (.mov kF)] []) .ret))))
theorem LK:(Tryz.f115.body.bind (bD Tryz.prog 75 [6000001]))=some Ko:=by kernel_rfl
def Ku:aY:=(.seq (.region [oo 1 (.box 6 (tm 0)),oo 2 (.mov kF)] []) (.seq (.seq (.region [lA 4 6 1,⟨some 5,.build [Z0,S0,.nil,S0,Z0,Z0] [],none,[]⟩,oo 6 (.call 151 [(tm 4),(tm 5)])] []) (.cond (tm 6) (.seq (.region [oo 2 (.mov kT)] []) .ret) .skip)) (.seq (.seq (.cut (.region [fa 7 1 1,ld 8 7,oo 9 (.call 152 [tm 8]),oo 10 (.not (tm 9)),mv 11 10,oF 12 11 (.offA 2 (tm 1)),oF 13 11 (.load 1 false (tm 12)),oF 14 11 (.len (tm 13)),oF 15 11 (.bin .eql (tm 14) (Kc 0)),oo 16 (.pick (tm 11) kT (tm 15)),mv 17 16,oF 18 17 (.offA 2 (tm 1)),oF 19 17 (.load 1 false (tm 18)),oF 20 17 (.len (tm 19)),oF 21 17 (.bin .gtr (tm 20) (Kc 4)),oo 22 (.pick (tm 17) kT (tm 21)),mv 23 22,oF 24 23 (.offA 2 (tm 1)),oF 25 23 (.load 1 false (tm 24)),oF 26 23 (.offA 2 (tm 1)),oF 27 23 (.load 1 false (tm 26)),oF 28 23 (.len (tm 27)),oF 29 23 (.call 153 [(tm 25),(tm 28),(.const (.clos 141 []))]),oF 30 23 (.not (tm 29)),oo 31 (.pick (tm 23) kT (tm 30))] [])) (.cond (tm 31) (.seq (.region [oo 2 (.mov kF)] []) .ret) .skip)) (.seq (.cut (.region [fa 32 4 1,ld 33 32,oo 34 (.bin .eql (tm 33) (Kc 0)),mv 35 34,oT 36 35 (.offA 5 (tm 1)),oT 37 35 (.load 1 false (tm 36)),oT 38 35 (.bin .eql (tm 37) (Kc 0)),oo 39 (.pick (tm 35) (tm 38) kF),mv 3 39] [])) (.seq (.seq (.region [fa 40 0 1,ld 41 40] []) (.block 0 (.seq (.region [oo 43 (.bin .eql (tm 41) (Kc 1)),mv 42 43] []) (.cond (tm 42) (.seq (.region [mv 44 3,mv 45 44,oT 46 45 (.offA 3 (tm 1)),oT 47 45 (.load 1 false (tm 46)),⟨some 48,.bin .eql (tm 47) (.const S0),some (45,true),[]⟩,mT 49 48 45,oF 50 49 (.offA 3 (tm 1)),oF 51 49 (.load 1 false (tm 50)),oF 52 49 (.call 141 [tm 51]),oT 53 45 (.pick (tm 49) kT (tm 52)),oo 54 (.pick (tm 45) (tm 53) kF),mv 2 54] []) .ret) (.seq (.region [oo 56 (.bin .eql (tm 41) (Kc 2)),mv 55 56] []) (.cond (tm 55) (.seq (.region [mv 57 3,mv 58 57,oT 59 58 (.offA 3 (tm 1)),oT 60 58 (.load 1 false (tm 59)),⟨some 61,.bin .eql (tm 60) (.const S0),some (58,true),[]⟩,oo 62 (.pick (tm 58) (tm 61) kF),mv 2 62] []) .ret) (.seq (.region [oo 64 (.bin .eql (tm 41) (Kc 3)),mv 63 64] []) (.cond (tm 63) (.seq (.region [fa 65 4 1,ld 66 65,oo 67 (.call 143 [tm 66]),mv 68 67,oT 69 68 (.offA 5 (tm 1)),oT 70 68 (.load 1 false (tm 69)),oT 71 68 (.bin .eql (tm 70) (Kc 0)),oo 72 (.pick (tm 68) (tm 71) kF),mv 73 72,oT 74 73 (.offA 3 (tm 1)),oT 75 73 (.load 1 false (tm 74)),⟨some 76,.bin .eql (tm 75) (.const S0),some (73,true),[]⟩,oo 77 (.pick (tm 73) (tm 76) kF),mv 2 77] []) .ret) (.seq (.region [oo 79 (.bin .eql (tm 41) (Kc 4)),mv 78 79] []) (.cond (tm 78) (.seq (.region [fa 80 3 1,ld 81 80,oo 82 (.call 141 [tm 81]),mv 83 82,oT 84 83 (.offA 4 (tm 1)),oT 85 83 (.load 1 false (tm 84)),oT 86 83 (.call 142 [tm 85]),oo 87 (.pick (tm 83) (tm 86) kF),mv 88 87,oT 89 88 (.offA 5 (tm 1)),oT 90 88 (.load 1 false (tm 89)),oT 91 88 (.call 142 [tm 90]),oo 92 (.pick (tm 88) (tm 91) kF),mv 93 92,oT 94 93 (.offA 4 (tm 1)),oT 95 93 (.load 1 false (tm 94)),oT 96 93 (.offA 5 (tm 1)),oT 97 93 (.load 1 false (tm 96)),oT 98 93 (.bin .leq (tm 95) (tm 97)),oo 99 (.pick (tm 93) (tm 98) kF),mv 2 99] []) .ret) (.seq (.region [oo 101 (.bin .eql (tm 41) (Kc 5)),mv 100 101] []) (.cond (tm 100) (.seq (.region [mv 102 3,mv 103 102,oT 104 103 (.offA 3 (tm 1)),oT 105 103 (.load 1 false (tm 104)),oT 106 103 (.call 141 [tm 105]),oo 107 (.pick (tm 103) (tm 106) kF),mv 2 107] []) .ret) (.seq (.region [oo 109 (.bin .eql (tm 41) (Kc 6)),mv 108 109] []) (.cond (tm 108) (.seq (.region [fa 110 3 1,ld 111 110,⟨some 112,.bin .eql (tm 111) (.const S0),none,[]⟩,mv 113 112,oT 114 113 (.offA 4 (tm 1)),oT 115 113 (.load 1 false (tm 114)),oT 116 113 (.bin .geq (tm 115) (Kc 1)),oo 117 (.pick (tm 113) (tm 116) kF),mv 118 117,oT 119 118 (.offA 4 (tm 1)),oT 120 118 (.load 1 false (tm 119)),oT 121 118 (.call 142 [tm 120]),oo 122 (.pick (tm 118) (tm 121) kF),mv 123 122,oT 124 123 (.offA 5 (tm 1)),oT 125 123 (.load 1 false (tm 124)),oT 126 123 (.bin .geq (tm 125) (Kc 1)),oo 127 (.pick (tm 123) (tm 126) kF),mv 128 127,oT 129 128 (.offA 5 (tm 1)),oT 130 128 (.load 1 false (tm 129)),oT 131 128 (.call 143 [tm 130]),oo 132 (.pick (tm 128) (tm 131) kF),mv 2 132] []) .ret) .skip)))))))))))))) (.seq (.region [oo 2 (.mov kF)] []) .ret))))))
theorem LQ:(Tryz.f123.body.bind (bD Tryz.prog 133 [6000005,6000003]))=some Ku:=by kernel_rfl
def KE:aY:=(.seq (.region [oo 4 (.alloc [Z0,Z0])] []) (.seq (.region [oo 8 (.build [Z0,Z0] [(0,1,(Kc 1)),(1,1,(Kc 1))]),oo 5 (.alloc [Z0,Z0]),o0 (.store 2 (tm 5) (tm 8))] []) (.seq (.seq (.region [mv 9 0,ln 10 9,oo 11 (.mov (Kc 0))] []) (.block 0 (.loop (.seq (.region [oo 12 (.bin .lss (tm 11) (tm 10))] []) (.seq (.cond (tm 12) .skip (.exit 0)) (.seq (.block 1 (.seq (.region [ix 13 5 9 11,lA 14 5 13,⟨some 7,.alloc [Z0,S0,Z0,Z0,.nil],none,[]⟩,o0 (.store 5 (tm 7) (tm 14))] []) (.region [lA 15 2 5,mv 16 1,lA 17 5 7,oo 18 (.b8 (tm 16) [tm 17]),oo 19 (.call 148 [(tm 15),(tm 18)]),o0 (.store 2 (tm 5) (tm 19))] []))) (.region [oo 20 (.bin .add (tm 11) (Kc 1)),mv 11 20] []))))))) (.seq (.region [lA 21 2 5,o0 (.store 2 (tm 4) (tm 21))] []) .ret))))
theorem L7:(Tryz.f139.body.bind (bD Tryz.prog 22 []))=some KE:=by kernel_rfl
def KF:aY:=(.seq (.region [oo 1 (.box 2 (tm 0)),oo 2 (.mov (Kc 0))] []) (.seq (.seq (.region [fa 3 0 1,ld 4 3,oo 5 (.bin .gtr (tm 4) (Kc 200)),mv 6 5,oF 7 6 (.offA 1 (tm 1)),oF 8 6 (.load 1 false (tm 7)),oF 9 6 (.bin .gtr (tm 8) (Kc 20)),oo 10 (.pick (tm 6) kT (tm 9))] []) (.cond (tm 10) (.seq (.region [oo 2 (.mov (Kc 2))] []) .ret) .skip)) (.seq (.region [oo 2 (.mov (Kc 0))] []) .ret)))
theorem L8:(Tryz.f140.body.bind (bD Tryz.prog 11 []))=some KF:=by kernel_rfl
def KG:aY:=(.seq (.region [oo 2 (.mov kF)] []) (.seq (.region [mv 3 0,⟨some 4,.bin .eql (tm 3) (.const (.str ⟨#[112,111,114,116]⟩)),none,[]⟩,mv 5 4,mF 6 0 5,oF 7 5 (.call 152 [tm 6]),oo 8 (.pick (tm 5) kT (tm 7)),mv 2 8] []) .ret))
theorem L9:(Tryz.f141.body.bind (bD Tryz.prog 9 []))=some KG:=by kernel_rfl
def KH:aY:=(.seq (.region [oo 2 (.mov kF)] []) (.seq (.region [mv 3 0,oo 4 (.bin .geq (tm 3) (Kc 0)),mv 5 4,mT 6 0 5,oT 7 5 (.bin .leq (tm 6) (Kc 65535)),oo 8 (.pick (tm 5) (tm 7) kF),mv 2 8] []) .ret))
theorem Ma:(Tryz.f142.body.bind (bD Tryz.prog 9 []))=some KH:=by kernel_rfl
def KI:aY:=(.seq (.region [oo 2 (.mov kF)] []) (.seq (.region [mv 3 0,oo 4 (.bin .geq (tm 3) (Kc 0)),mv 5 4,mT 6 0 5,oT 7 5 (.bin .leq (tm 6) (Kc 1073741824)),oo 8 (.pick (tm 5) (tm 7) kF),mv 2 8] []) .ret))
theorem Mb:(Tryz.f143.body.bind (bD Tryz.prog 9 []))=some KI:=by kernel_rfl
def KJ:aY:=(.seq (.region [oo 5 (.box 1 (tm 2)),oo 6 (.mov kF)] []) (.seq (.region [mv 7 0,ln 8 7,mv 9 1,oo 10 (.bin .eql (tm 8) (tm 9)),mv 11 10,mT 12 0 11,oT 13 11 (.mkfn 162 [tm 5]),oT 14 11 (.call 161 [(tm 12),(tm 13)]),oT 15 11 (.not (tm 14)),oo 16 (.pick (tm 11) (tm 15) kF),mv 6 16] []) .ret))
theorem Mc:(Tryz.f144.body.bind (bD Tryz.prog 17 []))=some KJ:=by kernel_rfl
def KK:aY:=(.seq (.region [oo 4 (.alloc [Z0,Z0])] []) (.seq (.region [oo 8 (.build [Z0,Z0] [(0,1,(Kc 1)),(1,1,(Kc 1))]),oo 5 (.alloc [Z0,Z0]),o0 (.store 2 (tm 5) (tm 8))] []) (.seq (.seq (.region [mv 9 0,ln 10 9,oo 11 (.mov (Kc 0))] []) (.block 0 (.loop (.seq (.region [oo 12 (.bin .lss (tm 11) (tm 10))] []) (.seq (.cond (tm 12) .skip (.exit 0)) (.seq (.block 1 (.seq (.region [ix 13 9 9 11,lA 14 9 13,⟨some 7,.alloc [Z0,Z0,S0,Z0,Z0,.nil,S0,Z0,.nil],none,[]⟩,o0 (.store 9 (tm 7) (tm 14))] []) (.region [lA 15 2 5,mv 16 1,lA 17 9 7,oo 18 (.b8 (tm 16) [tm 17]),oo 19 (.call 148 [(tm 15),(tm 18)]),o0 (.store 2 (tm 5) (tm 19))] []))) (.region [oo 20 (.bin .add (tm 11) (Kc 1)),mv 11 20] []))))))) (.seq (.region [lA 21 2 5,o0 (.store 2 (tm 4) (tm 21))] []) .ret))))
theorem Md:(Tryz.f147.body.bind (bD Tryz.prog 22 []))=some KK:=by kernel_rfl
def KL:aY:=(.seq (.region [oo 2 (.box 2 (tm 0)),oo 3 (.box 2 (tm 1)),oo 4 (.alloc [Z0,Z0])] []) (.seq (.region [fa 5 0 2,ld 6 5,fa 7 0 3,ld 8 7,oo 9 (.bin .add (tm 6) (tm 8)),fa 10 1 2,ld 11 10,fa 12 1 3,ld 13 12,oo 14 (.bin .add (tm 13) (Kc 1)),oo 15 (.maxI (tm 11) (tm 14)),oo 16 (.build [Z0,Z0] [(0,1,(tm 9)),(1,1,(tm 15))]),o0 (.store 2 (tm 4) (tm 16))] []) .ret))
theorem Me:(Tryz.f148.body.bind (bD Tryz.prog 17 []))=some KL:=by kernel_rfl
def KM:aY:=(.seq (.region [oo 2 (.box 5 (tm 0)),oo 3 (.box 5 (tm 1)),oo 4 (.mov kF)] []) (.seq (.region [fa 5 0 2,ld 6 5,fa 7 0 3,ld 8 7,oo 9 (.bin .eql (tm 6) (tm 8)),mv 10 9,oT 11 10 (.offA 1 (tm 2)),oT 12 10 (.load 1 false (tm 11)),oT 13 10 (.offA 1 (tm 3)),oT 14 10 (.load 1 false (tm 13)),oT 15 10 (.bin .eql (tm 12) (tm 14)),oo 16 (.pick (tm 10) (tm 15) kF),mv 17 16,oT 18 17 (.offA 2 (tm 2)),oT 19 17 (.load 1 false (tm 18)),oT 20 17 (.offA 2 (tm 3)),oT 21 17 (.load 1 false (tm 20)),oT 22 17 (.bin .eql (tm 19) (tm 21)),oo 23 (.pick (tm 17) (tm 22) kF),mv 24 23,oT 25 24 (.offA 3 (tm 2)),oT 26 24 (.load 1 false (tm 25)),oT 27 24 (.offA 3 (tm 3)),oT 28 24 (.load 1 false (tm 27)),oT 29 24 (.bin .eql (tm 26) (tm 28)),oo 30 (.pick (tm 24) (tm 29) kF),mv 31 30,oT 32 31 (.offA 4 (tm 2)),oT 33 31 (.load 1 false (tm 32)),oT 34 31 (.offA 4 (tm 3)),oT 35 31 (.load 1 false (tm 34)),oT 36 31 (.call 163 [(tm 33),(tm 35),(.const (.clos 149 []))]),oo 37 (.pick (tm 31) (tm 36) kF),mv 4 37] []) .ret))
theorem Mf:(Tryz.f149.body.bind (bD Tryz.prog 38 []))=some KM:=by kernel_rfl
def KN:aY:=(.seq (.region [oo 5 (.box 1 (tm 2)),oo 6 (.mov kF)] []) (.seq (.region [mv 7 0,ln 8 7,mv 9 1,oo 10 (.bin .eql (tm 8) (tm 9)),mv 11 10,mT 12 0 11,oT 13 11 (.mkfn 165 [tm 5]),oT 14 11 (.call 164 [(tm 12),(tm 13)]),oT 15 11 (.not (tm 14)),oo 16 (.pick (tm 11) (tm 15) kF),mv 6 16] []) .ret))
theorem Mg:(Tryz.f150.body.bind (bD Tryz.prog 17 []))=some KN:=by kernel_rfl
def KO:aY:=(.seq (.region [oo 2 (.box 6 (tm 0)),oo 3 (.box 6 (tm 1)),oo 4 (.mov kF)] []) (.seq (.region [fa 5 0 2,ld 6 5,fa 7 0 3,ld 8 7,oo 9 (.bin .eql (tm 6) (tm 8)),mv 10 9,oT 11 10 (.offA 1 (tm 2)),oT 12 10 (.load 1 false (tm 11)),oT 13 10 (.offA 1 (tm 3)),oT 14 10 (.load 1 false (tm 13)),oT 15 10 (.bin .eql (tm 12) (tm 14)),oo 16 (.pick (tm 10) (tm 15) kF),mv 17 16,oT 18 17 (.offA 3 (tm 2)),oT 19 17 (.load 1 false (tm 18)),oT 20 17 (.offA 3 (tm 3)),oT 21 17 (.load 1 false (tm 20)),oT 22 17 (.bin .eql (tm 19) (tm 21)),oo 23 (.pick (tm 17) (tm 22) kF),mv 24 23,oT 25 24 (.offA 4 (tm 2)),oT 26 24 (.load 1 false (tm 25)),oT 27 24 (.offA 4 (tm 3)),oT 28 24 (.load 1 false (tm 27)),oT 29 24 (.bin .eql (tm 26) (tm 28)),oo 30 (.pick (tm 24) (tm 29) kF),mv 31 30,oT 32 31 (.offA 5 (tm 2)),oT 33 31 (.load 1 false (tm 32)),oT 34 31 (.offA 5 (tm 3)),oT 35 31 (.load 1 false (tm 34)),oT 36 31 (.bin .eql (tm 33) (tm 35)),oo 37 (.pick (tm 31) (tm 36) kF),mv 38 37,oT 39 38 (.offA 2 (tm 2)),oT 40 38 (.load 1 false (tm 39)),oT 41 38 (.offA 2 (tm 3)),oT 42 38 (.load 1 false (tm 41)),oT 43 38 (.call 166 [(tm 40),(tm 42)]),oo 44 (.pick (tm 38) (tm 43) kF),mv 4 44] []) .ret))
theorem Mh:(Tryz.f151.body.bind (bD Tryz.prog 45 []))=some KO:=by kernel_rfl
def KP:aY:=(.seq (.region [oo 2 (.mov kF)] []) (.seq (.region [mv 3 0,oo 4 (.call 167 [tm 3]),mv 2 4] []) .ret))
theorem Mi:(Tryz.f152.body.bind (bD Tryz.prog 5 []))=some KP:=by kernel_rfl
def KQ:aY:=(.seq (.region [oo 5 (.box 1 (tm 2)),oo 6 (.mov kF)] []) (.seq (.region [mv 7 0,ln 8 7,mv 9 1,oo 10 (.bin .eql (tm 8) (tm 9)),mv 11 10,mT 12 0 11,oT 13 11 (.mkfn 168 [tm 5]),oT 14 11 (.call 124 [(tm 12),(tm 13)]),oT 15 11 (.not (tm 14)),oo 16 (.pick (tm 11) (tm 15) kF),mv 6 16] []) .ret))
theorem Mj:(Tryz.f153.body.bind (bD Tryz.prog 17 []))=some KQ:=by kernel_rfl
def KR:aY:=(.seq (.region [oo 4 (.mov (Kc 0))] []) (.seq (.seq (.region [mv 6 0,ln 7 6,oo 8 (.mov (Kc 0))] []) (.block 0 (.loop (.seq (.region [oo 9 (.bin .lss (tm 8) (tm 7))] []) (.seq (.cond (tm 9) .skip (.exit 0)) (.seq (.block 1 (.seq (.region [mv 10 8,mv 5 10] []) (.seq (.region [mv 11 1,mv 12 0,mv 13 5,ix 14 1 12 13,ld 15 14,oo 16 (.b8 (tm 11) [tm 15])] []) (.cond (tm 16) (.seq (.region [mv 17 5,mv 4 17] []) .ret) .skip)))) (.region [oo 18 (.bin .add (tm 8) (Kc 1)),mv 8 18] []))))))) (.seq (.region [oo 4 (.mov (.const (.int .i64 (-1))))] []) .ret)))
theorem Mk:(Tryz.f154.body.bind (bD Tryz.prog 19 []))=some KR:=by kernel_rfl
def KT:aY:=(.seq (.region [oo 4 (.mov kF)] []) (.seq (.region [mv 5 0,mv 6 1,oo 7 (.call 190 [(tm 5),(tm 6)]),oo 8 (.bin .geq (tm 7) (Kc 0)),mv 4 8] []) .ret))
theorem Mm:(Tryz.f161.body.bind (bD Tryz.prog 9 []))=some KT:=by kernel_rfl
def KU:aY:=(.seq (.region [oo 2 (.box 5 (tm 0)),oo 3 (.mov kF)] []) (.seq (.region [ld 4 1,lA 5 5 2,oo 6 (.b8 (tm 4) [tm 5]),oo 7 (.not (tm 6)),mv 3 7] []) .ret))
theorem Mn:(Tryz.f162.body.bind (bD Tryz.prog 8 []))=some KU:=by kernel_rfl
def KV:aY:=(.seq (.region [oo 6 (.mov kF)] []) (.seq (.seq (.region [mv 10 0,ln 11 10,mv 12 1,ln 13 12,oo 14 (.bin .neq (tm 11) (tm 13))] []) (.cond (tm 14) (.seq (.region [oo 6 (.mov kF)] []) .ret) .skip)) (.seq (.seq (.region [mv 15 0,ln 16 15,oo 17 (.mov (Kc 0))] []) (.block 0 (.loop (.seq (.region [oo 18 (.bin .lss (tm 17) (tm 16))] []) (.seq (.cond (tm 18) .skip (.exit 0)) (.seq (.block 1 (.seq (.region [mv 19 17,ix 20 5 15 17,lA 21 5 20,⟨some 8,.alloc [Z0,S0,Z0,Z0,.nil],none,[]⟩,mv 7 19,o0 (.store 5 (tm 8) (tm 21))] []) (.seq (.region [mv 22 1,mv 23 7,ix 24 5 22 23,lA 25 5 24,⟨some 9,.alloc [Z0,S0,Z0,Z0,.nil],none,[]⟩,o0 (.store 5 (tm 9) (tm 25))] []) (.seq (.region [mv 26 2,lA 27 5 8,lA 28 5 9,oo 29 (.b8 (tm 26) [(tm 27),(tm 28)]),oo 30 (.not (tm 29))] []) (.cond (tm 30) (.seq (.region [oo 6 (.mov kF)] []) .ret) .skip))))) (.region [oo 31 (.bin .add (tm 17) (Kc 1)),mv 17 31] []))))))) (.seq (.region [oo 6 (.mov kT)] []) .ret))))
theorem Mo:(Tryz.f163.body.bind (bD Tryz.prog 32 []))=some KV:=by kernel_rfl
def KW:aY:=(.seq (.region [oo 4 (.mov kF)] []) (.seq (.region [mv 5 0,mv 6 1,oo 7 (.call 191 [(tm 5),(tm 6)]),oo 8 (.bin .geq (tm 7) (Kc 0)),mv 4 8] []) .ret))
theorem Mp:(Tryz.f164.body.bind (bD Tryz.prog 9 []))=some KW:=by kernel_rfl
def KX:aY:=(.seq (.region [oo 2 (.box 9 (tm 0)),oo 3 (.mov kF)] []) (.seq (.region [ld 4 1,lA 5 9 2,oo 6 (.b8 (tm 4) [tm 5]),oo 7 (.not (tm 6)),mv 3 7] []) .ret))
theorem Mq:(Tryz.f165.body.bind (bD Tryz.prog 8 []))=some KX:=by kernel_rfl
def KY:aY:=(.seq (.region [oo 4 (.mov kF)] []) (.seq (.seq (.region [mv 6 0,ln 7 6,mv 8 1,ln 9 8,oo 10 (.bin .neq (tm 7) (tm 9))] []) (.cond (tm 10) (.seq (.region [oo 4 (.mov kF)] []) .ret) .skip)) (.seq (.seq (.region [mv 11 0,ln 12 11,oo 13 (.mov (Kc 0))] []) (.block 0 (.loop (.seq (.region [oo 14 (.bin .lss (tm 13) (tm 12))] []) (.seq (.cond (tm 14) .skip (.exit 0)) (.seq (.block 1 (.seq (.region [mv 15 13,mv 5 15] []) (.seq (.region [mv 16 0,mv 17 5,ix 18 1 16 17,ld 19 18,mv 20 1,mv 21 5,ix 22 1 20 21,ld 23 22,oo 24 (.bin .neq (tm 19) (tm 23))] []) (.cond (tm 24) (.seq (.region [oo 4 (.mov kF)] []) .ret) .skip)))) (.region [oo 25 (.bin .add (tm 13) (Kc 1)),mv 13 25] []))))))) (.seq (.region [oo 4 (.mov kT)] []) .ret))))
theorem Mr:(Tryz.f166.body.bind (bD Tryz.prog 26 []))=some KY:=by kernel_rfl
def KZ:aY:=(.seq (.region [oo 2 (.mov kF)] []) (.seq (.seq (.region [mv 5 0,⟨some 6,.bin .eql (tm 5) (.const S0),none,[]⟩,mv 7 6,mF 8 0 7,oF 9 7 (.lenS (tm 8)),oF 10 7 (.bin .gtr (tm 9) (Kc 24)),oo 11 (.pick (tm 7) kT (tm 10)),mv 12 11,mF 13 0 12,oF 14 12 (.idxS (tm 13) (Kc 0)),oF 15 12 (.call 192 [tm 14]),oF 16 12 (.not (tm 15)),oo 17 (.pick (tm 12) kT (tm 16))] []) (.cond (tm 17) (.seq (.region [oo 2 (.mov kF)] []) .ret) .skip)) (.seq (.region [oo 19 (.sliceA 49 1 (.const (.glob 0 0)) none none),mv 20 0,oo 21 (.call 193 [(tm 19),(tm 20)]),mv 18 21,oo 22 (.ext (tm 18) 0),oo 23 (.ext (tm 18) 1),mv 3 22,mv 4 23] []) (.seq (.region [mv 24 4,oo 25 (.not (tm 24)),mv 26 25,mT 27 0 26,oT 28 26 (.call 194 [(tm 27),(.const (.clos 195 []))]),mT 29 0 26,oT 30 26 (.bin .eql (tm 28) (tm 29)),oo 31 (.pick (tm 26) (tm 30) kF),mv 2 31] []) .ret))))
theorem Ms:(Tryz.f167.body.bind (bD Tryz.prog 32 []))=some KZ:=by kernel_rfl
def K1:aY:=(.seq (.region [oo 3 (.mov kF)] []) (.seq (.region [ld 4 1,mv 5 0,oo 6 (.b8 (tm 4) [tm 5]),oo 7 (.not (tm 6)),mv 3 7] []) .ret))
theorem Mt:(Tryz.f168.body.bind (bD Tryz.prog 8 []))=some K1:=by kernel_rfl
def K4:aY:=(.seq (.region [oo 4 (.mov (Kc 0))] []) (.seq (.seq (.region [mv 6 0,ln 7 6,oo 8 (.mov (Kc 0))] []) (.block 0 (.loop (.seq (.region [oo 9 (.bin .lss (tm 8) (tm 7))] []) (.seq (.cond (tm 9) .skip (.exit 0)) (.seq (.block 1 (.seq (.region [mv 10 8,mv 5 10] []) (.seq (.region [mv 11 1,mv 12 0,mv 13 5,ix 14 5 12 13,lA 15 5 14,oo 16 (.b8 (tm 11) [tm 15])] []) (.cond (tm 16) (.seq (.region [mv 17 5,mv 4 17] []) .ret) .skip)))) (.region [oo 18 (.bin .add (tm 8) (Kc 1)),mv 8 18] []))))))) (.seq (.region [oo 4 (.mov (.const (.int .i64 (-1))))] []) .ret)))
theorem Mw:(Tryz.f190.body.bind (bD Tryz.prog 19 []))=some K4:=by kernel_rfl
def K5:aY:=(.seq (.region [oo 4 (.mov (Kc 0))] []) (.seq (.seq (.region [mv 6 0,ln 7 6,oo 8 (.mov (Kc 0))] []) (.block 0 (.loop (.seq (.region [oo 9 (.bin .lss (tm 8) (tm 7))] []) (.seq (.cond (tm 9) .skip (.exit 0)) (.seq (.block 1 (.seq (.region [mv 10 8,mv 5 10] []) (.seq (.region [mv 11 1,mv 12 0,mv 13 5,ix 14 9 12 13,lA 15 9 14,oo 16 (.b8 (tm 11) [tm 15])] []) (.cond (tm 16) (.seq (.region [mv 17 5,mv 4 17] []) .ret) .skip)))) (.region [oo 18 (.bin .add (tm 8) (Kc 1)),mv 8 18] []))))))) (.seq (.region [oo 4 (.mov (.const (.int .i64 (-1))))] []) .ret)))
theorem Mx:(Tryz.f191.body.bind (bD Tryz.prog 19 []))=some K5:=by kernel_rfl
def K6:aY:=(.seq (.region [oo 2 (.mov kF)] []) (.seq (.region [mv 3 0,oo 4 (.call 210 [(tm 3),(.const (Ui 97)),(.const (Ui 122))]),mv 2 4] []) .ret))
theorem My:(Tryz.f192.body.bind (bD Tryz.prog 5 []))=some K6:=by kernel_rfl
def K7:aY:=(.seq (.region [oo 4 (.mov (Kc 0)),oo 5 (.mov kF)] []) (.seq (.region [mv 10 0,ln 11 10,mv 6 11] []) (.seq (.region [mv 12 6,oo 7 (.mov (Kc 0)),mv 8 12] []) (.seq (.block 0 (.loop (.seq (.seq (.region [mv 13 7,mv 14 8,oo 15 (.bin .lss (tm 13) (tm 14))] []) (.cond (tm 15) .skip (.exit 0))) (.block 1 (.seq (.region [mv 16 7,mv 17 8,oo 18 (.bin .add (tm 16) (tm 17)),oo 19 (.conv .u64 (tm 18)),oo 20 (.bin .shr (tm 19) (.const (.int .u64 1))),oo 21 (.conv .i64 (tm 20)),mv 9 21] []) (.seq (.region [mv 22 0,mv 23 9,ix 24 1 22 23,ld 25 24,mv 26 1,oo 27 (.call 176 [(tm 25),(tm 26)])] []) (.cond (tm 27) (.region [mv 28 9,oo 29 (.bin .add (tm 28) (Kc 1)),mv 7 29] []) (.region [mv 30 9,mv 8 30] [])))))))) (.seq (.region [mv 31 7,mv 32 7,mv 33 6,oo 34 (.bin .lss (tm 32) (tm 33)),mv 35 34,mT 36 0 35,mT 37 7 35,oT 38 35 (.idxL 1 (tm 36) (tm 37)),oT 39 35 (.load 1 false (tm 38)),mT 40 1 35,oT 41 35 (.bin .eql (tm 39) (tm 40)),mT 42 41 35,mF 43 0 42,mF 44 7 42,oF 45 42 (.idxL 1 (tm 43) (tm 44)),oF 46 42 (.load 1 false (tm 45)),oF 47 42 (.call 211 [tm 46]),mF 48 47 42,mT 49 1 48,oT 50 48 (.call 211 [tm 49]),oF 51 42 (.pick (tm 48) (tm 50) kF),oT 52 35 (.pick (tm 42) kT (tm 51)),oo 53 (.pick (tm 35) (tm 52) kF),mv 4 31,mv 5 53] []) .ret)))))
theorem Mz:(Tryz.f193.body.bind (bD Tryz.prog 54 []))=some K7:=by kernel_rfl
def K8:aY:=(.seq (.region [⟨some 4,.mov (.const S0),none,[]⟩] []) (.seq (.region [oo 5 (.mov (Kc 0))] []) (.seq (.block 0 (.loop (.seq (.seq (.region [mv 6 5,mv 7 0,oo 8 (.lenS (tm 7)),oo 9 (.bin .lss (tm 6) (tm 8)),mv 10 9,mT 11 1 10,mT 12 0 10,mT 13 5 10,oT 14 10 (.sliceS (tm 12) (some (tm 13)) none),oT 15 10 (.b8 (tm 11) [tm 14]),oo 16 (.pick (tm 10) (tm 15) kF)] []) (.cond (tm 16) .skip (.exit 0))) (.block 1 (.region [mv 17 5,oo 18 (.bin .add (tm 17) (Kc 1)),mv 5 18] []))))) (.seq (.region [mv 19 0,mv 20 5,oo 21 (.sliceS (tm 19) none (some (tm 20))),mv 4 21] []) .ret))))
theorem MA:(Tryz.f194.body.bind (bD Tryz.prog 22 []))=some K8:=by kernel_rfl
def K9:aY:=(.seq (.region [oo 2 (.mov kF)] []) (.seq (.region [mv 3 0,oo 4 (.idxS (tm 3) (Kc 0)),oo 5 (.call 196 [tm 4]),mv 2 5] []) .ret))
theorem MB:(Tryz.f195.body.bind (bD Tryz.prog 6 []))=some K9:=by kernel_rfl
def La:aY:=(.seq (.region [oo 2 (.mov kF)] []) (.seq (.region [mv 3 0,oo 4 (.call 192 [tm 3]),mv 5 4,mF 6 0 5,oF 7 5 (.call 212 [tm 6]),oo 8 (.pick (tm 5) kT (tm 7)),mv 9 8,mF 10 0 9,oF 11 9 (.bin .eql (tm 10) (.const (Ui 95))),oo 12 (.pick (tm 9) kT (tm 11)),mv 2 12] []) .ret))
theorem MD:(Tryz.f196.body.bind (bD Tryz.prog 13 []))=some La:=by kernel_rfl
def K3:aY:=(.seq (.region [oo 4 (.mov kF)] []) (.seq (.region [mv 5 0,oo 6 (.call 205 [tm 5]),mv 7 6,mT 8 1 7,oT 9 7 (.call 205 [tm 8]),oT 10 7 (.not (tm 9)),oo 11 (.pick (tm 7) (tm 10) kF),mv 12 11,mF 13 0 12,mF 14 1 12,oF 15 12 (.bin .lss (tm 13) (tm 14)),oo 16 (.pick (tm 12) kT (tm 15)),mv 4 16] []) .ret))
theorem Mv:(Tryz.f176.body.bind (bD Tryz.prog 17 []))=some K3:=by kernel_rfl
def Le:aY:=(.seq (.region [oo 2 (.mov kF)] []) (.seq (.region [mv 3 0,mv 4 0,oo 5 (.bin .neq (tm 3) (tm 4)),mv 2 5] []) .ret))
theorem MH:(Tryz.f205.body.bind (bD Tryz.prog 6 []))=some Le:=by kernel_rfl
def Lf:aY:=(.seq (.region [oo 6 (.mov kF)] []) (.seq (.region [mv 7 0,mv 8 1,oo 9 (.bin .geq (tm 7) (tm 8)),mv 10 9,mT 11 0 10,mT 12 2 10,oT 13 10 (.bin .leq (tm 11) (tm 12)),oo 14 (.pick (tm 10) (tm 13) kF),mv 6 14] []) .ret))
theorem MI:(Tryz.f210.body.bind (bD Tryz.prog 15 []))=some Lf:=by kernel_rfl
def Lg:aY:=(.seq (.region [oo 2 (.mov kF)] []) (.seq (.region [mv 3 0,mv 4 0,oo 5 (.bin .neq (tm 3) (tm 4)),mv 2 5] []) .ret))
theorem MJ:(Tryz.f211.body.bind (bD Tryz.prog 6 []))=some Lg:=by kernel_rfl
def Lh:aY:=(.seq (.region [oo 2 (.mov kF)] []) (.seq (.region [mv 3 0,oo 4 (.call 210 [(tm 3),(.const (Ui 48)),(.const (Ui 57))]),mv 2 4] []) .ret))
theorem MK:(Tryz.f212.body.bind (bD Tryz.prog 5 []))=some Lh:=by kernel_rfl
def Kv:aY:=(.seq (.region [oo 4 (.mov kF)] []) (.seq (.region [mv 5 0,mv 6 1,oo 7 (.call 154 [(tm 5),(tm 6)]),oo 8 (.bin .geq (tm 7) (Kc 0)),mv 4 8] []) .ret))
theorem LR:(Tryz.f124.body.bind (bD Tryz.prog 9 []))=some Kv:=by kernel_rfl
end Go.TY
end
section
namespace Go.TY
open Go Go.DL Go.MM Go.Proofs
theorem A2 (c lo hi:Int):DCalls Tryz.prog 210 [U c,U lo,U hi] (.bool (decide (lo≤c)&&decide (c≤hi))):=by
 refine qO (rs:=[.tmp 6]) mixed Tryz.func210 MI rfl rfl rfl (r:=[.bool _]) (nlZ rfl) ?_
 repeat' ((conv=>whnf);first|exact trivial|refine nD_ (fun hq=>?_) (fun hq=>?_)|refine rb1 ?_|refine rb0 ?_|refine aS ?_|fail)
theorem za (c:Int):DCalls Tryz.prog 192 [U c] (.bool (tO c)):=by
 refine qO (rs:=[.tmp 2]) mixed Tryz.func192 My rfl rfl rfl (r:=[.bool _]) (nlZ rfl) ?_
 have h:=A2 c 97 122
 unfold tO
 repeat' ((conv=>whnf);first|exact trivial|refine rE _ (h) ?_|refine rbx ?_|fail)
theorem Ej (c:Int):DCalls Tryz.prog 212 [U c] (.bool (uF c)):=by
 refine qO (rs:=[.tmp 2]) mixed Tryz.func212 MK rfl rfl rfl (r:=[.bool _]) (nlZ rfl) ?_
 have h:=A2 c 48 57
 unfold uF
 repeat' ((conv=>whnf);first|exact trivial|refine rE _ (h) ?_|refine rbx ?_|fail)
theorem A0 (c:Int):DCalls Tryz.prog 196 [U c] (.bool (uW c)):=by
 refine qO (rs:=[.tmp 2]) mixed Tryz.func196 MD rfl rfl rfl (r:=[.bool _]) (nlZ rfl) ?_
 unfold uW
 have h1:=za c
 have h2:=Ej c
 generalize tO c=a at *
 generalize uF c=b at *
 cases a <;> cases b
 all_goals repeat' ((conv=>whnf);first|exact trivial|refine rE _ (h1) ?_|refine rE _ (h2) ?_|refine nE_ (fun hq=>?_) (fun hq=>?_)|refine rb1 ?_|refine rb0 ?_|refine aS ?_|fail)
theorem Gc (s:ByteArray) (hs:0<s.size):DCalls Tryz.prog 195 [.str s] (.bool (uW (tE s 0))):=by
 refine qO (rs:=[.tmp 2]) mixed Tryz.func195 MB rfl rfl rfl (r:=[.bool _]) (nlZ rfl) ?_
 have h1:=A0 (tE s 0)
 repeat' ((conv=>whnf);first|exact trivial|refine rE _ (h1) ?_|refine nT_ ?_|refine rbx ?_|refine aS ?_|fail)
theorem zD (s:ByteArray) (i:Nat) (hi:i<s.size):tE (s.extract i s.size) 0=tE s i:=by
 unfold tE
 rw [ByteArray.toList_eq,ByteArray.toList_eq]
 have:0<s.size - i:=by omega
 have h2:i<s.data.size:=hi
 simp [ByteArray.data_extract,this]
 rw [Array.getElem?_eq_getElem h2];rfl
theorem extract_size (s:ByteArray) (i:Nat) (hi:i<s.size):0<(s.extract i s.size).size:=by
 rw [ByteArray.size_extract];omega
theorem zm: ∀l:List UInt8,tY l≤l.length
 |[]=>Nat.le_refl _
 |b::bs=>by
  have:=zm bs
  unfold tY
  split
  ·rw [List.length_cons];omega
  ·exact Nat.zero_le _
theorem EH (s:ByteArray) (hs:s.size<2^62):DCalls Tryz.prog 194 [.str s,.clos 195 []] (.str (s.extract 0 (tY s.toList))):=by
 refine qO (rs:=[.tmp 4]) mixed Tryz.func194 MA rfl rfl rfl (r:=[.str _]) (nlZ rfl) ?_
 have hl:=uT s
 skip
 refine qZ 0 (α:=Nat) (β:=Unit) (fun i=>{sl:=[(0,.t (.str s)),(1,.t (.clos 195 [])),(5,.t (I i))],bx:=[]})
  (fun i=>i≤s.size∧ ∀j,j<i→uW (tE s j)=true) (fun i=>s.size - i) (fun _=>{sl:=[(0,.t (.str s)),(5,.t (I (tY s.toList)))],bx:=[]}) (fun _=>True) 0 (by simp) ?_ ?_ ?_
 ·repeat' (first|exact trivial|exact LeV.same _|exact rfl|exact fun _ _ _=>trivial|refine And.intro ?_ ?_)
 ·rintro i ⟨hi,hp⟩
  rcases Nat.lt_or_ge i s.size with h|h
  ·have h0:=Gc (s.extract i s.size) (extract_size s i h)
   rw [zD s i h] at h0
   cases hb:uW (tE s i) with
   |true=>
    rw [hb] at h0
    repeat' ((conv=>whnf);first|(refine nv_ (.str (s.extract i s.size)) (by first|(simp;done)|fail) ?_)|refine rE _ (h0) ?_|refine aD1 ?_|refine aS ?_|fail)
    refine ⟨i+1,⟨h,fun j hj=>?_⟩,by omega,?_⟩
    ·rcases Nat.lt_or_ge j i with h4|h4
     ·exact hp j h4
     ·obtain rfl:j=i:=by omega
      exact hb
    ·repeat' (first|exact trivial|exact LeV.same _|exact rfl|exact fun _ _ _=>trivial|exact lI|refine And.intro ?_ ?_)
   |false=>
    rw [hb] at h0
    have e:tY s.toList=i:=v8 (by omega) hp (.inr hb)
    repeat' ((conv=>whnf);first|(refine nv_ (.str (s.extract i s.size)) (by first|(simp;done)|fail) ?_)|refine rE _ (h0) ?_|refine aD1 ?_|refine aS ?_|fail)
    refine ⟨(),trivial,?_⟩
    repeat' (first|(exact leI (by rw [e]))|exact trivial|exact LeV.same _|exact rfl|exact fun _ _ _=>trivial|refine And.intro ?_ ?_)
  ·have e:tY s.toList=i:=v8 (by omega) hp (.inl (by omega))
   repeat' ((conv=>whnf);first|refine aD0 ?_|refine aS ?_|fail)
   refine ⟨(),trivial,?_⟩
   repeat' (first|(exact leI (by rw [e]))|exact trivial|exact LeV.same _|exact rfl|exact fun _ _ _=>trivial|refine And.intro ?_ ?_)
 ·rintro _ _
  have hr:tY s.toList≤s.toList.length:=zm _
  repeat' ((conv=>whnf);first|exact trivial|(refine nv_ (.str (s.extract 0 (tY s.toList))) (by first|(simp;done)|fail) ?_)|refine aS ?_|fail)
theorem AZ (s:ByteArray):DCalls Tryz.prog 205 [.str s] (.bool false):=by
 refine qO (rs:=[.tmp 2]) mixed Tryz.func205 MH rfl rfl rfl (r:=[.bool false]) (nlZ rfl) ?_
 repeat' ((conv=>whnf);first|exact trivial|refine nb_ false (by simp) ?_|refine rb0 ?_|refine aS ?_|fail)
theorem AY (s:ByteArray):DCalls Tryz.prog 211 [.str s] (.bool false):=by
 refine qO (rs:=[.tmp 2]) mixed Tryz.func211 MJ rfl rfl rfl (r:=[.bool false]) (nlZ rfl) ?_
 repeat' ((conv=>whnf);first|exact trivial|refine nb_ false (by simp) ?_|refine rb0 ?_|refine aS ?_|fail)
theorem Gb (a b:ByteArray):DCalls Tryz.prog 176 [.str a,.str b] (.bool (ltS a b)):=by
 refine qO (rs:=[.tmp 4]) mixed Tryz.func176 Mv rfl rfl rfl (r:=[.bool _]) (nlZ rfl) ?_
 have h1:=AZ a
 have h2:=AZ b
 repeat' ((conv=>whnf);first|exact trivial|refine rE _ (h1) ?_|refine nb_ (ltS a b) rfl ?_|refine rbx ?_|refine aS ?_|fail)
def uX (xs:List ByteArray) (s:ByteArray):Nat:=(xs.takeWhile fun x=>ltS x s).length
theorem FN (xs:List ByteArray) (s:ByteArray):uX xs s≤xs.length:=by
 unfold uX
 exact (List.takeWhile_prefix _).length_le
theorem xH {s:ByteArray}: ∀{xs:List ByteArray} (_:Inc ltS xs) {m:Nat} (h:m<xs.length),ltS xs[m] s=true↔m<uX xs s
 |[],_,m,h=>by simp at h
 |x::xs,hi,m,h=>by
  have h2:=List.pairwise_cons.1 hi
  unfold uX
  rw [List.takeWhile_cons]
  cases hx:ltS x s with
  |true=>
   simp only [if_true,List.length_cons]
   cases m with
   |zero=>simp [hx]
   |succ m=>
    have:=xH (s:=s) h2.2 (m:=m) (by simpa using h)
    unfold uX at this
    simp only [List.getElem_cons_succ]
    rw [this];omega
  |false=>
   simp only [Bool.false_eq_true,if_false,List.length_nil,Nat.not_lt_zero,iff_false,Bool.not_eq_true]
   cases m with
   |zero=>simpa using hx
   |succ m=>
    have hm:m<xs.length:=by simpa using h
    simp only [List.getElem_cons_succ]
    cases e:ltS xs[m] s with
    |false=>rfl
    |true=>
     have:=Ab.tr _ _ _ (h2.1 xs[m] (List.getElem_mem _)) e
     rw [hx] at this;cases this
theorem En {s:ByteArray} {xs:List ByteArray} (hi:Inc ltS xs):s∈xs↔ ∃h:uX xs s<xs.length,xs[uX xs s]=s:=by
 constructor
 ·intro hm
  obtain ⟨m,hm,e⟩:=List.getElem_of_mem hm
  have h1: ¬m<uX xs s:=fun h=>by
   have:=(xH hi hm).2 h
   rw [e,Ab.irr] at this;cases this
  have h2:uX xs s<xs.length:=by omega
  refine ⟨h2,?_⟩
  by_cases h3:uX xs s=m
  ·simp only [h3,e]
  ·exfalso
   have h4:uX xs s<m:=by omega
   have h5:=List.pairwise_iff_getElem.1 hi _ _ h2 hm h4
   rw [e] at h5
   have:=(xH hi h2).1 h5
   omega
 ·rintro ⟨h,e⟩
  rw [← e];exact List.getElem_mem h
theorem EE (xs:List ByteArray) (s:ByteArray) (hi:Inc ltS xs) (hl:xs.length<2^40):
  DCalls Tryz.prog 193 [.slice 1 (xs.map .str),.str s] (.tup [I (uX xs s),.bool (decide (s∈xs))]):=by
 refine qO (rs:=[.tmp 4,.tmp 5]) mixed Tryz.func193 Mz rfl rfl rfl (r:=[I (uX xs s),.bool (decide (s∈xs))]) (nlZ rfl) ?_
 have hble:=FN xs s
 have hm:=En (s:=s) hi
 have hkk:=fun m h=>@xH s xs hi m h
 generalize uX xs s=cn at *
 skip
 refine qZ 0 (α:=Nat×Nat) (β:=Unit) (fun p=>{sl:=[(0,.t (.slice 1 (xs.map .str))),(1,.t (.str s)),(6,.t (I xs.length)),(7,.t (I p.1)),(8,.t (I p.2))],bx:=[]})
  (fun p=>p.1≤cn∧cn≤p.2∧p.2≤xs.length) (fun p=>p.2 - p.1) (fun _=>{sl:=[(0,.t (.slice 1 (xs.map .str))),(1,.t (.str s)),(6,.t (I xs.length)),(7,.t (I (cn)))],bx:=[]}) (fun _=>True) (0,xs.length) (by simp;omega) ?_ ?_ ?_
 ·repeat' (first|(exact leI (by simp))|exact trivial|exact LeV.same _|exact rfl|exact fun _ _ _=>trivial|refine And.intro ?_ ?_)
 ·rintro ⟨i,j⟩ ⟨h1,h2,h3⟩
  dsimp only at h1 h2 h3
  by_cases hij:i<j
  case neg=>
   repeat' ((conv=>whnf);first|refine aD0 ?_|refine aS ?_|fail)
   refine ⟨(),trivial,?_⟩
   repeat' (first|(exact leI (by show (cn:Int)=(i:Int);omega))|exact trivial|exact LeV.same _|exact rfl|exact fun _ _ _=>trivial|refine And.intro ?_ ?_)
  have e1:IntKind.wrap .i64 ((IntKind.wrap .u64 (IntKind.wrap .i64 ((i:Int)+(j:Int)))).fdiv (2^(min (1:Int).toNat (IntKind.bits .u64))))=(((i+j) / 2:Nat):Int):=by
   rw [mG (n:=(i:Int)+j) (by omega) (by omega)]
   have u1: ∀n:Int,0≤n→n<18446744073709551616→IntKind.wrap .u64 n=n:=fun n h0 h1=>by
    unfold IntKind.wrap
    simp [IntKind.bits,IntKind.signed]
    omega
   rw [u1 ((i:Int)+j) (by omega) (by omega)]
   have e2:((i:Int)+(j:Int)).fdiv (2^(min (1:Int).toNat (IntKind.bits .u64)))=(((i+j) / 2:Nat):Int):=by
    show ((i:Int)+(j:Int)).fdiv 2=_
    rw [Int.fdiv_eq_ediv_of_nonneg _ (by omega)];omega
   rw [e2,mG (by omega) (by omega)]
  have h4:(i+j) / 2<xs.length:=by omega
  have hk:=hkk _ h4
  have hL:=Gb xs[(i+j) / 2] s
  generalize ltS xs[(i+j) / 2] s=b at *
  cases b
  case true=>
   have:(i+j) / 2<cn:=hk.1 rfl
   repeat' ((conv=>whnf);first|(refine nv_ (.str xs[(i+j) / 2]) (by first|((dsimp only;rw [e1,Int.toNat_natCast];simp [h4]);done)|fail) ?_)|refine rE _ (hL) ?_|refine nT_ ?_|refine aD1 ?_|(refine And.intro (by first|((dsimp only;rw [e1];simp;omega);done)|fail) ?_)|refine aS ?_|fail)
   refine ⟨((i+j) / 2+1,j),⟨this,h2,h3⟩,by simp;omega,?_⟩
   repeat' (first|(exact leI (by dsimp only;rw [e1,mG] <;> omega))|exact trivial|exact LeV.same _|exact rfl|exact fun _ _ _=>trivial|refine And.intro ?_ ?_)
  case false=>
   have: ¬(i+j) / 2<cn:=fun h=>by have:=hk.2 h;cases this
   repeat' ((conv=>whnf);first|(refine nv_ (.str xs[(i+j) / 2]) (by first|((dsimp only;rw [e1,Int.toNat_natCast];simp [h4]);done)|fail) ?_)|refine rE _ (hL) ?_|refine nT_ ?_|refine aD1 ?_|(refine And.intro (by first|((dsimp only;rw [e1];simp;omega);done)|fail) ?_)|refine aS ?_|fail)
   refine ⟨(i,(i+j) / 2),⟨h1,by simp;omega,by simp;omega⟩,by simp;omega,?_⟩
   repeat' (first|(exact leI (by dsimp only;rw [e1]))|exact trivial|exact LeV.same _|exact rfl|exact fun _ _ _=>trivial|refine And.intro ?_ ?_)
 ·rintro _ _
  by_cases hc:cn<xs.length
  ·have hN:=AY xs[cn]
   have hN2:=AY s
   by_cases e:xs[cn]=s
   ·have e2:decide (s∈xs)=true:=decide_eq_true (hm.2 ⟨hc,e⟩)
    rw [e2]
    repeat' ((conv=>whnf);first|exact trivial|(refine nv_ (.str xs[cn]) (by first|(simp [hc];done)|fail) ?_)|refine nb_ true ((congrArg (fun z:ByteArray=>z.toList==s.toList) e).trans (by simp)) ?_|refine nT_ ?_|refine aD1 ?_|refine rb1 ?_|refine rix ?_|refine aS ?_|fail)
   ·have e2:decide (s∈xs)=false:=decide_eq_false fun h=>by
     obtain ⟨_,k⟩:=hm.1 h;exact absurd k e
    rw [e2]
    repeat' ((conv=>whnf);first|exact trivial|(refine nv_ (.str xs[cn]) (by first|(simp [hc];done)|fail) ?_)|refine nb_ false (by simpa using fun h=>e (zt h)) ?_|refine rE _ (hN) ?_|refine nT_ ?_|refine aD1 ?_|refine rb0 ?_|refine rix ?_|refine aS ?_|fail)
  ·have e2:decide (s∈xs)=false:=decide_eq_false fun h=>by
    obtain ⟨k,_⟩:=hm.1 h;exact absurd k hc
   rw [e2]
   repeat' ((conv=>whnf);first|exact trivial|refine aD0 ?_|refine rb0 ?_|refine rix ?_|refine aS ?_|fail)
theorem El:Inc ltS wordsG:=by
 unfold Inc
 decide+kernel
theorem sO {a b:ByteArray}:sC a b=true↔a=b:=by
 constructor
 ·intro h
  unfold sC at h
  exact ByteArray.ext (Array.ext' (by simpa using h))
 ·intro h
  subst h
  unfold sC;simp
theorem EM (s:ByteArray):decide (s∈wordsG)=vC s:=by
 have e:wordsG=wL:=by decide+kernel
 rw [e]
 unfold vC
 cases h:wL.any fun w=>sC w s with
 |true=>
  obtain ⟨w,hw,hs⟩:=List.any_eq_true.1 h
  rw [← sO.1 hs]
  exact decide_eq_true hw
 |false=>
  rw [List.any_eq_false] at h
  exact decide_eq_false fun hm=>h s hm (sO.2 rfl)
theorem D6 {s:ByteArray} (h:s.size=0):s=e0:=by
 have:s.data.toList=[]:=List.eq_nil_of_length_eq_zero h
 exact ByteArray.ext (Array.ext' this)
theorem HN (s:ByteArray) (hs:s.size<2^62):DCalls Tryz.prog 167 [.str s] (.bool (uz s)):=by
 refine qO (rs:=[.tmp 2]) mixed Tryz.func167 Ms rfl rfl rfl (r:=[.bool _]) (nlZ rfl) ?_
 unfold uz
 have h1:=za (tE s 0)
 have h2:=EE wordsG s El (by decide)
 rw [EM] at h2
 have h3:=EH s hs
 have hr:=zm s.toList
 have hsz:=uT s
 have hpre:((s.extract 0 (tY s.toList)).toList==s.toList)=(tY s.toList==s.size):=by
  by_cases e:tY s.toList=s.size
  ·rw [e]
   have:s.extract 0 s.size=s:=ByteArray.ext (by rw [ByteArray.data_extract];exact Array.extract_eq_self_of_le (Nat.le_refl _))
   rw [this];simp
  ·have h1:(s.extract 0 (tY s.toList)).toList≠s.toList:=fun h=>by
    have:=congrArg List.length h
    rw [uT,uT,ByteArray.size_extract] at this
    omega
   rw [beq_false_of_ne h1,beq_false_of_ne e]
 generalize tO (tE s 0)=a at *
 generalize vC s=w at *
 generalize uX wordsG s=cn at *
 by_cases hz:s.size=0
 ·have:s=e0:=D6 hz
  subst this
  repeat' ((conv=>whnf);first|exact trivial|refine nb_ true (show (e0.toList==e0.toList)=true by simp) ?_|refine rb0 ?_|refine aS ?_|fail)
 ·have hne:(s.toList==(⟨#[]⟩:ByteArray).toList)=false:=by
   have:s.toList≠[]:=fun h=>by rw [h] at hsz;simp at hsz;omega
   simpa using this
  by_cases h24:s.size≤24
  ·simp only [h24,show 0<s.size by omega,decide_true,Bool.true_and]
   cases a <;> cases w <;> repeat' ((conv=>whnf);first|exact trivial|refine nb_ _ hne ?_|refine rE _ (h1) ?_|(refine nv_ (.slice 1 (wordsG.map .str)) (by first|(rfl;done)|fail) ?_)|refine rE _ (h2) ?_|refine rE _ (h3) ?_|refine nb_ _ hpre ?_|refine nT_ ?_|refine aD0 ?_|refine rb0 ?_|refine rbx ?_|refine aS ?_|fail)
  ·simp only [h24,decide_false,Bool.and_false,Bool.false_and]
   repeat' ((conv=>whnf);first|exact trivial|refine nb_ _ hne ?_|refine aD1 ?_|refine rb0 ?_|refine aS ?_|fail)
theorem AR (s:ByteArray) (hs:s.size<2^62):DCalls Tryz.prog 152 [.str s] (.bool (uz s)):=by
 refine qO (rs:=[.tmp 2]) mixed Tryz.func152 Mi rfl rfl rfl (r:=[.bool _]) (nlZ rfl) ?_
 have h1:=HN s hs
 repeat' ((conv=>whnf);first|exact trivial|refine rE _ (h1) ?_|refine rbx ?_|fail)
theorem xP (s:ByteArray) (hs:s.size<2^62):DCalls Tryz.prog 141 [.str s] (.bool (sV s)):=by
 refine qO (rs:=[.tmp 2]) mixed Tryz.func141 L9 rfl rfl rfl (r:=[.bool _]) (nlZ rfl) ?_
 have h1:=AR s hs
 unfold sV
 have h2:=sI s s9
 generalize uz s=a at *
 generalize sC s s9=b at *
 cases a <;> cases b <;> repeat' ((conv=>whnf);first|exact trivial|refine rE _ (h1) ?_|refine nb_ _ h2 ?_|refine rb1 ?_|refine rb0 ?_|refine aS ?_|fail)
end Go.TY
end
section
namespace Go.TY
open Go Go.DL Go.MM Go.Proofs
theorem A1 (a b c d:Nat) (h1:a+c<2^62) (_:b<2^62) (h3:d<2^62):DCalls Tryz.prog 148 [sz a b,sz c d] (sz (a+c) (max b (d+1))):=by
 refine qO (rs:=[.cell 4 131]) mixed Tryz.func148 Me rfl rfl rfl (r:=[sz (a+c) (max b (d+1))]) (nlZ rfl) ?_
 repeat' ((conv=>whnf);first|refine nT_ ?_|refine aS ?_|fail)
 refine And.intro (congrArg some ?_) trivial
 simp (disch:=omega) only [mG,aN,List.take,List.drop,List.nil_append,List.cons_append]
 unfold sz I
 have e:(if (d:Int)+1>(b:Int) then (d:Int)+1 else (b:Int))=((max b (d+1):Nat):Int):=by split <;> omega
 rw [e,Int.natCast_add]
theorem Gf (n d:Nat):DCalls Tryz.prog 140 [sz n d] (I (wI n d)):=by
 refine qO (rs:=[.tmp 2]) mixed Tryz.func140 L8 rfl rfl rfl (r:=[.int _ _]) (nlZ rfl) ?_
 unfold wI
 by_cases h:n≤200
 ·by_cases h2:d≤20
  ·rw [if_pos ⟨h,h2⟩];repeat' ((conv=>whnf);first|exact trivial|refine nT_ ?_|refine aD0 ?_|refine rix ?_|refine aS ?_|fail)
  ·rw [if_neg (by omega)];repeat' ((conv=>whnf);first|exact trivial|refine nT_ ?_|refine aD1 ?_|refine aD0 ?_|refine rix ?_|refine aS ?_|fail)
 ·rw [if_neg (by omega)];repeat' ((conv=>whnf);first|exact trivial|refine nT_ ?_|refine aD1 ?_|refine rix ?_|refine aS ?_|fail)
theorem HP (l:List RP) (hl:sK l<2^60) (ih: ∀(i:Nat) (h:i<l.length),DCalls Tryz.prog 105 [.agg (sB l[i])] (sz l[i].nodes l[i].depth)):
  DCalls Tryz.prog 139 [.slice 5 (l.map sL),.clos 105 []] (sz (1+sK l) (1+tH l)):=by
 refine qO (rs:=[.cell 4 131]) mixed Tryz.func139 L7 rfl rfl rfl (r:=[sz _ _]) (nlZ rfl) ?_
 repeat' ((conv=>whnf);first|refine aS ?_|fail)
 refine rq (α:=Nat) (fun i=>{sl:=[(1,.t (.clos 105 [])),(4,.ptr 4 0),(5,.ptr 5 0),(9,.t (.slice 5 (l.map sL))),(10,.t (I l.length)),(11,.t (I i))],bx:=[(4,.d 2 [I 0,I 0]),(5,.d 2 [I (1+sK (l.take i):Nat),I (1+tH (l.take i):Nat)])]})
  (fun i=>i≤l.length) (fun i=>l.length - i) 0 (by omega) ?_ ?_
 ·repeat' (first|(exact leI (by simp))|exact trivial|exact LeV.same _|exact LeB.same _|exact rfl|exact fun _ _ _=>trivial|refine And.intro ?_ ?_)
 rintro i hi
 rcases Nat.lt_or_ge i l.length with h|h
 ·have hn:=tG h
  have hd:=wC h
  have hm:=tF (l:=l) (j:=i+1)
  have hdn:=l[i].vA
  have hd1:=wk (l.take i)
  have hln:=tU l
  have hw:=A1 (1+sK (l.take i)) (1+tH (l.take i)) l[i].nodes l[i].depth (by omega) (by omega) (by omega)
  have hi0:DCalls Tryz.prog 105 [.agg (aN [I 0,.str ⟨#[]⟩,I 0,I 0,.nil] 0 5 (sB l[i]))] (sz l[i].nodes l[i].depth):=by rw [mU (n:=5) rfl];exact ih i h
  repeat' ((conv=>whnf);first|(refine nv_ (.agg (sB l[i])) (by first|(simp [h,sF];done)|fail) ?_)|refine rE _ (hi0) ?_|refine rE _ (hw) ?_|refine nT_ ?_|refine aD1 ?_|(refine And.intro (by first|exact sD _|exact ⟨sD _,nlZ rfl⟩|fail) ?_)|refine aS ?_|fail)
  refine ⟨i+1,by omega,by omega,?_⟩
  repeat' (first|exact trivial|exact LeV.same _|exact LeB.same _|exact rfl|exact fun _ _ _=>trivial|exact lI|refine su ?_|refine And.intro ?_ ?_)
  rw [hn,hd,show 1+(sK (l.take i)+l[i].nodes)=1+sK (l.take i)+l[i].nodes by omega,show 1+max (tH (l.take i)) l[i].depth=max (1+tH (l.take i)) (l[i].depth+1) by omega]
  rfl
 ·have:i=l.length:=by omega
  subst this
  rw [List.take_length]
  repeat' ((conv=>whnf);first|exact trivial|refine aD0 ?_|refine aS ?_|fail)
theorem BH (N:Nat): ∀r:RP,r.nodes≤N→N<2^60→DCalls Tryz.prog 105 [.agg (sB r)] (sz r.nodes r.depth):=by
 induction N with
 |zero=>intro r h;have:=r.uc;omega
 |succ N ih=>
  rintro ⟨k,f,n,m,l⟩ hr hN
  refine qO (rs:=[.cell 2 131]) mixed Tryz.func105 Lz rfl rfl rfl (r:=[sz _ _]) (nlZ rfl) ?_
  simp only [RP.nodes,RP.depth] at hr ⊢
  have h1:=HP l (by omega) fun i h=>ih l[i] (by
   have hn:=tG h
   have hm:=tF (l:=l) (j:=i+1)
   omega) (by omega)
  repeat' ((conv=>whnf);first|exact trivial|refine rE _ (h1) ?_|refine nT_ ?_|(refine And.intro (by first|exact sD _|fail) ?_)|refine aS ?_|fail)
theorem HO (l:List RO) (hl:tl l<2^60) (ih: ∀(i:Nat) (h:i<l.length),DCalls Tryz.prog 113 [.agg (sA l[i])] (sz l[i].size l[i].deep)):
  DCalls Tryz.prog 147 [.slice 9 (l.map sZ),.clos 113 []] (sz (1+tC l) (1+tB l)):=by
 refine qO (rs:=[.cell 4 131]) mixed Tryz.func147 Md rfl rfl rfl (r:=[sz _ _]) (nlZ rfl) ?_
 repeat' ((conv=>whnf);first|refine aS ?_|fail)
 refine rq (α:=Nat) (fun i=>{sl:=[(1,.t (.clos 113 [])),(4,.ptr 4 0),(5,.ptr 5 0),(9,.t (.slice 9 (l.map sZ))),(10,.t (I l.length)),(11,.t (I i))],bx:=[(4,.d 2 [I 0,I 0]),(5,.d 2 [I (1+tC (l.take i):Nat),I (1+tB (l.take i):Nat)])]})
  (fun i=>i≤l.length) (fun i=>l.length - i) 0 (by omega) ?_ ?_
 ·repeat' (first|(exact leI (by simp))|exact trivial|exact LeV.same _|exact LeB.same _|exact rfl|exact fun _ _ _=>trivial|refine And.intro ?_ ?_)
 rintro i hi
 rcases Nat.lt_or_ge i l.length with h|h
 ·have hn:=vT h
  have hd:=vJ h
  have hsz:=uq l
  have hsm:=uq (l.take (i+1))
  have hwm:=tV (l:=l) (j:=i+1)
  have hdn:=l[i].yi
  have hsn:=l[i].size_le
  have hd1:=va (l.take i)
  have hs1:=uq (l.take i)
  have hwm1:=tV (l:=l) (j:=i)
  have hwt:=uh h
  have hln:=uK l
  have hw:=A1 (1+tC (l.take i)) (1+tB (l.take i)) l[i].size l[i].deep (by omega) (by omega) (by omega)
  have hi0:DCalls Tryz.prog 113 [.agg (aN [I 0,I 0,.str ⟨#[]⟩,I 0,I 0,.nil,.str ⟨#[]⟩,I 0,.nil] 0 9 (sA l[i]))] (sz l[i].size l[i].deep):=by rw [mU (n:=9) rfl];exact ih i h
  repeat' ((conv=>whnf);first|(refine nv_ (.agg (sA l[i])) (by first|(simp [h,sJ];done)|fail) ?_)|refine rE _ (hi0) ?_|refine rE _ (hw) ?_|refine nT_ ?_|refine aD1 ?_|(refine And.intro (by first|exact sE _|exact ⟨sE _,nlZ rfl⟩|fail) ?_)|refine aS ?_|fail)
  refine ⟨i+1,by omega,by omega,?_⟩
  repeat' (first|exact trivial|exact LeV.same _|exact LeB.same _|exact rfl|exact fun _ _ _=>trivial|exact lI|refine su ?_|refine And.intro ?_ ?_)
  rw [hn,hd,show 1+(tC (l.take i)+l[i].size)=1+tC (l.take i)+l[i].size by omega,show 1+max (tB (l.take i)) l[i].deep=max (1+tB (l.take i)) (l[i].deep+1) by omega]
  rfl
 ·have:i=l.length:=by omega
  subst this
  rw [List.take_length]
  repeat' ((conv=>whnf);first|exact trivial|refine aD0 ?_|refine aS ?_|fail)
theorem Gg (N:Nat): ∀r:RO,r.wt≤N→N<2^60→DCalls Tryz.prog 113 [.agg (sA r)] (sz r.size r.deep):=by
 induction N with
 |zero=>intro r h;obtain ⟨k,p,f,n,a⟩:=r;simp only [RO.wt] at h;omega
 |succ N ih=>
  rintro ⟨k,⟨pk,pf,pn,pm,pa⟩,f,n,l⟩ hr hN
  refine qO (rs:=[.cell 2 131]) mixed Tryz.func113 LI rfl rfl rfl (r:=[sz _ _]) (nlZ rfl) ?_
  simp only [RO.wt] at hr
  have h1:=HO l (by omega) fun i h=>ih l[i] (by
   have hn:=uh h
   have hm:=tV (l:=l) (j:=i+1)
   omega) (by omega)
  have h2:=BH _ (.mk pk pf pn pm pa) (Nat.le_refl _) (by omega)
  have hs:=uq l
  have hd:=va l
  have hdp:=(RP.mk pk pf pn pm pa).vA
  by_cases hk:k=1
  ·subst hk
   have h3:=A1 (1+tC l) (1+tB l) (RP.mk pk pf pn pm pa).nodes (RP.mk pk pf pn pm pa).depth (by omega) (by omega) (by omega)
   have e1:(RO.mk 1 (.mk pk pf pn pm pa) f n l).size=1+tC l+(RP.mk pk pf pn pm pa).nodes:=by rw [RO.size,if_pos rfl];omega
   have e2:(RO.mk 1 (.mk pk pf pn pm pa) f n l).deep=max (1+tB l) ((RP.mk pk pf pn pm pa).depth+1):=by rw [RO.deep,if_pos rfl];omega
   rw [e1,e2]
   repeat' ((conv=>whnf);first|exact trivial|refine rE _ (h1) ?_|refine rE _ (h2) ?_|refine rE _ (h3) ?_|refine nT_ ?_|refine aE1 ?_|(refine And.intro (by first|exact sE _|fail) ?_)|refine aS ?_|fail)
  ·have e1:(RO.mk k (.mk pk pf pn pm pa) f n l).size=1+tC l:=by rw [RO.size,if_neg hk]
   have e2:(RO.mk k (.mk pk pf pn pm pa) f n l).deep=1+tB l:=by rw [RO.deep,if_neg hk];omega
   rw [e1,e2]
   repeat' ((conv=>whnf);first|exact trivial|refine rE _ (h1) ?_|refine nT_ ?_|refine aE0 ?_|(refine And.intro (by first|exact sE _|fail) ?_)|refine aS ?_|fail)
def vi {α:Type} (p:α→Bool) (xs:List α):Int:=match xs.findIdx? p with
 |some i=>(i:Int)
 |none=> -1
theorem yo {α:Type} {p:α→Bool} {xs:List α} {i:Nat} (h:i<xs.length) (hb:p xs[i]=true) (hp: ∀j (h:j<xs.length),j<i→p xs[j]=false):vi p xs=i:=by
 unfold vi
 have:xs.findIdx? p=some i:=List.findIdx?_eq_some_iff_getElem.2 ⟨h,hb,fun j hj=>by simp [hp j (by omega) hj]⟩
 rw [this]
theorem yp {α:Type} {p:α→Bool} {xs:List α} (hp: ∀j (h:j<xs.length),p xs[j]=false):vi p xs= -1:=by
 unfold vi
 have:xs.findIdx? p=none:=List.findIdx?_eq_none_iff.2 fun x hx=>by
  obtain ⟨j,hj,rfl⟩:=List.getElem_of_mem hx
  exact hp j hj
 rw [this]
theorem xJ {α:Type} (p:α→Bool) (xs:List α):xs.any p=decide (vi p xs≥0):=by
 unfold vi
 cases h:xs.findIdx? p with
 |none=>
  have:=List.findIdx?_eq_none_iff.1 h
  simpa using this
 |some i=>
  obtain ⟨h1,h2,_⟩:=List.findIdx?_eq_some_iff_getElem.1 h
  have:xs.any p=true:=List.any_eq_true.2 ⟨xs[i],List.getElem_mem h1,h2⟩
  rw [this];simp
theorem CT (xs:List RP) (f:FuncId) (c:T) (p:RP→Bool) (hl:xs.length<2^60) (hc: ∀(i:Nat) (h:i<xs.length),DCalls Tryz.prog f [.agg (sB xs[i]),c] (.bool (p xs[i]))):
  DCalls Tryz.prog 190 [.slice 5 (xs.map sL),.clos f [c]] (I (vi p xs)):=by
 refine qO (rs:=[.tmp 4]) mixed Tryz.func190 Mw rfl rfl rfl (r:=[.int _ _]) (nlZ rfl) ?_
 skip
 refine rq (α:=Nat) (fun i=>{sl:=[(0,.t (.slice 5 (xs.map sL))),(1,.t (.clos f [c])),(6,.t (.slice 5 (xs.map sL))),(7,.t (I xs.length)),(8,.t (I i))],bx:=[]})
  (fun i=>i≤xs.length∧ ∀j (h:j<xs.length),j<i→p xs[j]=false) (fun i=>xs.length - i) 0 (by simp) ?_ ?_
 ·repeat' (first|(exact leI (by simp))|exact trivial|exact LeV.same _|exact rfl|exact fun _ _ _=>trivial|refine And.intro ?_ ?_)
 rintro i ⟨hi,hp⟩
 rcases Nat.lt_or_ge i xs.length with h|h
 ·have h0:=hc i h
  cases hb:p xs[i] with
  |true=>
   rw [hb] at h0
   rw [yo h hb hp]
   repeat' ((conv=>whnf);first|exact trivial|(refine nv_ (.agg (sB xs[i])) (by first|(simp [h,sF];done)|fail) ?_)|refine rE _ (h0) ?_|refine nT_ ?_|refine aD1 ?_|refine rix ?_|(refine And.intro (by first|exact sD _|fail) ?_)|refine aS ?_|fail)
  |false=>
   rw [hb] at h0
   repeat' ((conv=>whnf);first|(refine nv_ (.agg (sB xs[i])) (by first|(simp [h,sF];done)|fail) ?_)|refine rE _ (h0) ?_|refine nT_ ?_|refine aD1 ?_|(refine And.intro (by first|exact sD _|fail) ?_)|refine aS ?_|fail)
   refine ⟨i+1,⟨h,fun j hj hlt=>?_⟩,by omega,?_⟩
   ·rcases Nat.lt_or_ge j i with h4|h4
    ·exact hp j hj h4
    ·obtain rfl:j=i:=by omega
     exact hb
   ·repeat' (first|exact trivial|exact LeV.same _|exact rfl|exact fun _ _ _=>trivial|exact lI|refine And.intro ?_ ?_)
 ·rw [yp fun j hj=>hp j hj (by omega)]
  repeat' ((conv=>whnf);first|exact trivial|refine aD0 ?_|refine rix ?_|refine aS ?_|fail)
theorem CS (xs:List RP) (f:FuncId) (c:T) (p:RP→Bool) (hl:xs.length<2^60) (hc: ∀(i:Nat) (h:i<xs.length),DCalls Tryz.prog f [.agg (sB xs[i]),c] (.bool (p xs[i]))):
  DCalls Tryz.prog 161 [.slice 5 (xs.map sL),.clos f [c]] (.bool (xs.any p)):=by
 refine qO (rs:=[.tmp 4]) mixed Tryz.func161 Mm rfl rfl rfl (r:=[.bool _]) (nlZ rfl) ?_
 have h1:=CT xs f c p hl hc
 rw [xJ p xs]
 generalize vi p xs=k at *
 repeat' ((conv=>whnf);first|exact trivial|refine rE _ (h1) ?_|refine nD_ (fun hq=>?_) (fun hq=>?_)|refine rb1 ?_|refine rb0 ?_|refine aS ?_|fail)
theorem Bk (x:RP) (f:FuncId) (b:Bool) (hc:DCalls Tryz.prog f [.agg (sB x)] (.bool b)):
  DCalls Tryz.prog 162 [.agg (sB x),.cptr [.clos f []] 0] (.bool !b):=by
 refine qO (rs:=[.tmp 3]) mixed Tryz.func162 Mn rfl rfl rfl (r:=[.bool _]) (nlZ rfl) ?_
 repeat' ((conv=>whnf);first|exact trivial|refine rE _ (hc) ?_|refine nT_ ?_|refine rbx ?_|(refine And.intro (by first|exact sD _|fail) ?_)|refine aS ?_|fail)
theorem AU (xs:List RP) (f:FuncId) (n:Int) (p:RP→Bool) (hl:xs.length<2^60) (hc: ∀(i:Nat) (h:i<xs.length),DCalls Tryz.prog f [.agg (sB xs[i])] (.bool (p xs[i]))):
  DCalls Tryz.prog 144 [.slice 5 (xs.map sL),I n,.clos f []] (.bool (((xs.length:Int)==n)&&xs.all p)):=by
 refine qO (rs:=[.tmp 6]) mixed Tryz.func144 Mc rfl rfl rfl (r:=[.bool _]) (nlZ rfl) ?_
 have h1:=CS xs 162 (.cptr [.clos f []] 0) (fun x=> !p x) hl fun i h=>Bk xs[i] f (p xs[i]) (hc i h)
 have e:xs.all p= !(xs.any fun x=> !p x):=by rw [List.all_eq_not_any_not]
 rw [e]
 generalize (xs.any fun x=> !p x)=b at *
 by_cases hn:(xs.length:Int)=n
 ·repeat' ((conv=>whnf);first|exact trivial|refine rE _ (h1) ?_|refine aE1 ?_|refine rbx ?_|refine aS ?_|fail)
 ·repeat' ((conv=>whnf);first|exact trivial|refine aE0 ?_|refine rb0 ?_|refine aS ?_|fail)
theorem AW (xs:List RO) (f:FuncId) (c:T) (p:RO→Bool) (hl:xs.length<2^60) (hc: ∀(i:Nat) (h:i<xs.length),DCalls Tryz.prog f [.agg (sA xs[i]),c] (.bool (p xs[i]))):
  DCalls Tryz.prog 191 [.slice 9 (xs.map sZ),.clos f [c]] (I (vi p xs)):=by
 refine qO (rs:=[.tmp 4]) mixed Tryz.func191 Mx rfl rfl rfl (r:=[.int _ _]) (nlZ rfl) ?_
 skip
 refine rq (α:=Nat) (fun i=>{sl:=[(0,.t (.slice 9 (xs.map sZ))),(1,.t (.clos f [c])),(6,.t (.slice 9 (xs.map sZ))),(7,.t (I xs.length)),(8,.t (I i))],bx:=[]})
  (fun i=>i≤xs.length∧ ∀j (h:j<xs.length),j<i→p xs[j]=false) (fun i=>xs.length - i) 0 (by simp) ?_ ?_
 ·repeat' (first|(exact leI (by simp))|exact trivial|exact LeV.same _|exact rfl|exact fun _ _ _=>trivial|refine And.intro ?_ ?_)
 rintro i ⟨hi,hp⟩
 rcases Nat.lt_or_ge i xs.length with h|h
 ·have h0:=hc i h
  cases hb:p xs[i] with
  |true=>
   rw [hb] at h0
   rw [yo h hb hp]
   repeat' ((conv=>whnf);first|exact trivial|(refine nv_ (.agg (sA xs[i])) (by first|(simp [h,sJ];done)|fail) ?_)|refine rE _ (h0) ?_|refine nT_ ?_|refine aD1 ?_|refine rix ?_|(refine And.intro (by first|exact sE _|fail) ?_)|refine aS ?_|fail)
  |false=>
   rw [hb] at h0
   repeat' ((conv=>whnf);first|(refine nv_ (.agg (sA xs[i])) (by first|(simp [h,sJ];done)|fail) ?_)|refine rE _ (h0) ?_|refine nT_ ?_|refine aD1 ?_|(refine And.intro (by first|exact sE _|fail) ?_)|refine aS ?_|fail)
   refine ⟨i+1,⟨h,fun j hj hlt=>?_⟩,by omega,?_⟩
   ·rcases Nat.lt_or_ge j i with h4|h4
    ·exact hp j hj h4
    ·obtain rfl:j=i:=by omega
     exact hb
   ·repeat' (first|exact trivial|exact LeV.same _|exact rfl|exact fun _ _ _=>trivial|exact lI|refine And.intro ?_ ?_)
 ·rw [yp fun j hj=>hp j hj (by omega)]
  repeat' ((conv=>whnf);first|exact trivial|refine aD0 ?_|refine rix ?_|refine aS ?_|fail)
theorem AV (xs:List RO) (f:FuncId) (c:T) (p:RO→Bool) (hl:xs.length<2^60) (hc: ∀(i:Nat) (h:i<xs.length),DCalls Tryz.prog f [.agg (sA xs[i]),c] (.bool (p xs[i]))):
  DCalls Tryz.prog 164 [.slice 9 (xs.map sZ),.clos f [c]] (.bool (xs.any p)):=by
 refine qO (rs:=[.tmp 4]) mixed Tryz.func164 Mp rfl rfl rfl (r:=[.bool _]) (nlZ rfl) ?_
 have h1:=AW xs f c p hl hc
 rw [xJ p xs]
 generalize vi p xs=k at *
 repeat' ((conv=>whnf);first|exact trivial|refine rE _ (h1) ?_|refine nD_ (fun hq=>?_) (fun hq=>?_)|refine rb1 ?_|refine rb0 ?_|refine aS ?_|fail)
theorem zF (x:RO) (f:FuncId) (b:Bool) (hc:DCalls Tryz.prog f [.agg (sA x)] (.bool b)):
  DCalls Tryz.prog 165 [.agg (sA x),.cptr [.clos f []] 0] (.bool !b):=by
 refine qO (rs:=[.tmp 3]) mixed Tryz.func165 Mq rfl rfl rfl (r:=[.bool _]) (nlZ rfl) ?_
 repeat' ((conv=>whnf);first|exact trivial|refine rE _ (hc) ?_|refine nT_ ?_|refine rbx ?_|(refine And.intro (by first|exact sE _|fail) ?_)|refine aS ?_|fail)
theorem zq (xs:List RO) (f:FuncId) (n:Int) (p:RO→Bool) (hl:xs.length<2^60) (hc: ∀(i:Nat) (h:i<xs.length),DCalls Tryz.prog f [.agg (sA xs[i])] (.bool (p xs[i]))):
  DCalls Tryz.prog 150 [.slice 9 (xs.map sZ),I n,.clos f []] (.bool (((xs.length:Int)==n)&&xs.all p)):=by
 refine qO (rs:=[.tmp 6]) mixed Tryz.func150 Mg rfl rfl rfl (r:=[.bool _]) (nlZ rfl) ?_
 have h1:=AV xs 165 (.cptr [.clos f []] 0) (fun x=> !p x) hl fun i h=>zF xs[i] f (p xs[i]) (hc i h)
 have e:xs.all p= !(xs.any fun x=> !p x):=by rw [List.all_eq_not_any_not]
 rw [e]
 generalize (xs.any fun x=> !p x)=b at *
 by_cases hn:(xs.length:Int)=n
 ·repeat' ((conv=>whnf);first|exact trivial|refine rE _ (h1) ?_|refine aE1 ?_|refine rbx ?_|refine aS ?_|fail)
 ·repeat' ((conv=>whnf);first|exact trivial|refine aE0 ?_|refine rb0 ?_|refine aS ?_|fail)
theorem AX (xs:List ByteArray) (f:FuncId) (c:T) (p:ByteArray→Bool) (hl:xs.length<2^60) (hc: ∀(i:Nat) (h:i<xs.length),DCalls Tryz.prog f [.str xs[i],c] (.bool (p xs[i]))):
  DCalls Tryz.prog 154 [.slice 1 (xs.map T.str),.clos f [c]] (I (vi p xs)):=by
 refine qO (rs:=[.tmp 4]) mixed Tryz.func154 Mk rfl rfl rfl (r:=[.int _ _]) (nlZ rfl) ?_
 skip
 refine rq (α:=Nat) (fun i=>{sl:=[(0,.t (.slice 1 (xs.map T.str))),(1,.t (.clos f [c])),(6,.t (.slice 1 (xs.map T.str))),(7,.t (I xs.length)),(8,.t (I i))],bx:=[]})
  (fun i=>i≤xs.length∧ ∀j (h:j<xs.length),j<i→p xs[j]=false) (fun i=>xs.length - i) 0 (by simp) ?_ ?_
 ·repeat' (first|(exact leI (by simp))|exact trivial|exact LeV.same _|exact rfl|exact fun _ _ _=>trivial|refine And.intro ?_ ?_)
 rintro i ⟨hi,hp⟩
 rcases Nat.lt_or_ge i xs.length with h|h
 ·have h0:=hc i h
  cases hb:p xs[i] with
  |true=>
   rw [hb] at h0
   rw [yo h hb hp]
   repeat' ((conv=>whnf);first|exact trivial|(refine nv_ (.str xs[i]) (by first|(simp [h];done)|fail) ?_)|refine rE _ (h0) ?_|refine nT_ ?_|refine aD1 ?_|refine rix ?_|refine aS ?_|fail)
  |false=>
   rw [hb] at h0
   repeat' ((conv=>whnf);first|(refine nv_ (.str xs[i]) (by first|(simp [h];done)|fail) ?_)|refine rE _ (h0) ?_|refine nT_ ?_|refine aD1 ?_|refine aS ?_|fail)
   refine ⟨i+1,⟨h,fun j hj hlt=>?_⟩,by omega,?_⟩
   ·rcases Nat.lt_or_ge j i with h4|h4
    ·exact hp j hj h4
    ·obtain rfl:j=i:=by omega
     exact hb
   ·repeat' (first|exact trivial|exact LeV.same _|exact rfl|exact fun _ _ _=>trivial|exact lI|refine And.intro ?_ ?_)
 ·rw [yp fun j hj=>hp j hj (by omega)]
  repeat' ((conv=>whnf);first|exact trivial|refine aD0 ?_|refine rix ?_|refine aS ?_|fail)
theorem ye (xs:List ByteArray) (f:FuncId) (c:T) (p:ByteArray→Bool) (hl:xs.length<2^60) (hc: ∀(i:Nat) (h:i<xs.length),DCalls Tryz.prog f [.str xs[i],c] (.bool (p xs[i]))):
  DCalls Tryz.prog 124 [.slice 1 (xs.map T.str),.clos f [c]] (.bool (xs.any p)):=by
 refine qO (rs:=[.tmp 4]) mixed Tryz.func124 LR rfl rfl rfl (r:=[.bool _]) (nlZ rfl) ?_
 have h1:=AX xs f c p hl hc
 rw [xJ p xs]
 generalize vi p xs=k at *
 repeat' ((conv=>whnf);first|exact trivial|refine rE _ (h1) ?_|refine nD_ (fun hq=>?_) (fun hq=>?_)|refine rb1 ?_|refine rb0 ?_|refine aS ?_|fail)
theorem zG (x:ByteArray) (f:FuncId) (b:Bool) (hc:DCalls Tryz.prog f [.str x] (.bool b)):
  DCalls Tryz.prog 168 [.str x,.cptr [.clos f []] 0] (.bool !b):=by
 refine qO (rs:=[.tmp 3]) mixed Tryz.func168 Mt rfl rfl rfl (r:=[.bool _]) (nlZ rfl) ?_
 repeat' ((conv=>whnf);first|exact trivial|refine rE _ (hc) ?_|refine nT_ ?_|refine rbx ?_|refine aS ?_|fail)
theorem zr (xs:List ByteArray) (f:FuncId) (n:Int) (p:ByteArray→Bool) (hl:xs.length<2^60) (hc: ∀(i:Nat) (h:i<xs.length),DCalls Tryz.prog f [.str xs[i]] (.bool (p xs[i]))):
  DCalls Tryz.prog 153 [.slice 1 (xs.map T.str),I n,.clos f []] (.bool (((xs.length:Int)==n)&&xs.all p)):=by
 refine qO (rs:=[.tmp 6]) mixed Tryz.func153 Mj rfl rfl rfl (r:=[.bool _]) (nlZ rfl) ?_
 have h1:=ye xs 168 (.cptr [.clos f []] 0) (fun x=> !p x) hl fun i h=>zG xs[i] f (p xs[i]) (hc i h)
 have e:xs.all p= !(xs.any fun x=> !p x):=by rw [List.all_eq_not_any_not]
 rw [e]
 generalize (xs.any fun x=> !p x)=b at *
 by_cases hn:(xs.length:Int)=n
 ·repeat' ((conv=>whnf);first|exact trivial|refine rE _ (h1) ?_|refine aE1 ?_|refine rbx ?_|refine aS ?_|fail)
 ·repeat' ((conv=>whnf);first|exact trivial|refine aE0 ?_|refine rb0 ?_|refine aS ?_|fail)
end Go.TY
end
section
namespace Go.TY
open Go Go.DL Go.MM Go.Proofs
theorem xA (n:Int):DCalls Tryz.prog 142 [I n] (.bool (tQ n)):=by
 refine qO (rs:=[.tmp 2]) mixed Tryz.func142 Ma rfl rfl rfl (r:=[.bool _]) (nlZ rfl) ?_
 unfold tQ
 repeat' ((conv=>whnf);first|exact trivial|refine nD_ (fun hq=>?_) (fun hq=>?_)|refine rb1 ?_|refine rb0 ?_|refine aS ?_|fail)
def uP (n:Int):Bool:=decide (0≤n)&&decide (n≤1073741824)
theorem zb (n:Int):DCalls Tryz.prog 143 [I n] (.bool (uP n)):=by
 refine qO (rs:=[.tmp 2]) mixed Tryz.func143 Mb rfl rfl rfl (r:=[.bool _]) (nlZ rfl) ?_
 unfold uP
 repeat' ((conv=>whnf);first|exact trivial|refine nD_ (fun hq=>?_) (fun hq=>?_)|refine rb1 ?_|refine rb0 ?_|refine aS ?_|fail)
theorem xV: ∀l:List RP,tx l=l.all sM
 |[]=>rfl
 |r::rs=>by rw [tx,xV rs];rfl
theorem xU: ∀l:List RO,th l=l.all sR
 |[]=>rfl
 |r::rs=>by rw [th,xU rs];rfl
def BN (k:Int) (br b nd:Bool) (n m:Int) (len:Nat) (al:Bool):Bool:=
 if k=1∨k=2 then br&&(len==0)
 else if k=3 then nd&&tQ n&&(m==0)&&(len==0)
 else if k=4 then nd&&tQ n&&decide (m≥0)&&decide (m≤16)&&(len==0)
 else if k=5 then nd&&tQ n&&tQ m&&decide (n≤m)&&(len==0)
 else if k=9 then b&&uP n&&uP m&&decide (n<m)&&(len==0)
 else if k=6 then br&&(((len:Int)==1)&&al)
 else if k=7∨k=8 then br&&(((len:Int)==2)&&al)
 else false
theorem xG (a:Nat) (b:Nat):((a:Int)==(b:Int))=(a==b):=by
 rw [Bool.eq_iff_iff];simp;omega
theorem zY (k:Int) (f:ByteArray) (n m:Int) (l:List RP):sM (.mk k f n m l)=BN k (vl f n m) (sC f e0) (sV f) n m l.length (l.all sM):=by
 rw [sM,xV]
 have hall:l.length=0→l.all sM=true:=fun h=>by rw [List.eq_nil_of_length_eq_zero h];rfl
 have leaf: ∀(x:Bool),(x&&(l.length==0)&&l.all sM)=(x&&(l.length==0)):=fun x=>by
  by_cases h0:l.length=0
  ·rw [hall h0,Bool.and_true]
  ·rw [show (l.length==0)=false from beq_false_of_ne h0,Bool.and_false,Bool.false_and]
 generalize l.all sM=al at *
 unfold BN okP xE
 by_cases h1:k=1∨k=2
 ·rw [if_pos h1,if_pos h1,if_neg (by omega),if_neg (by omega),leaf]
 rw [if_neg h1,if_neg h1]
 by_cases h3:k=3
 ·rw [if_pos h3,if_pos h3,if_neg (by omega),if_neg (by omega),leaf]
 rw [if_neg h3,if_neg h3]
 by_cases h4:k=4
 ·rw [if_pos h4,if_pos h4,if_neg (by omega),if_neg (by omega),leaf]
 rw [if_neg h4,if_neg h4]
 by_cases h5:k=5
 ·rw [if_pos h5,if_pos h5,if_neg (by omega),if_neg (by omega),leaf]
  refine congrArg (fun x=>x&&(l.length==0)) ?_
  rw [Bool.eq_iff_iff]
  simp only [tQ,Bool.and_eq_true,decide_eq_true_eq]
  exact ⟨fun h=>⟨⟨⟨h.1.1.1,by omega,by omega⟩,by omega,by omega⟩,by omega⟩,fun h=>⟨⟨⟨h.1.1.1,by omega⟩,by omega⟩,by omega⟩⟩
 rw [if_neg h5,if_neg h5]
 by_cases h9:k=9
 ·rw [if_pos h9,if_neg (show ¬(k=6∨k=7∨k=8) by omega),if_pos h9,if_neg (by omega),if_neg (by omega),leaf]
  refine congrArg (fun x=>x&&(l.length==0)) ?_
  rw [Bool.eq_iff_iff]
  simp only [uP,Bool.and_eq_true,decide_eq_true_eq]
  exact ⟨fun h=>⟨⟨⟨h.1.1.1,by omega,by omega⟩,by omega,by omega⟩,by omega⟩,fun h=>⟨⟨⟨h.1.1.1,by omega⟩,by omega⟩,by omega⟩⟩
 simp only [h9,if_false]
 by_cases h6:k=6
 ·rw [if_pos (Or.inl h6),if_pos h6,if_pos h6,Bool.and_assoc,show ((l.length:Int)==1)=(l.length==1) from xG _ 1]
 rw [if_neg h6,if_neg h6]
 by_cases h7:k=7∨k=8
 ·rw [if_pos (Or.inr h7),if_pos h7,if_pos h7,Bool.and_assoc,show ((l.length:Int)==2)=(l.length==2) from xG _ 2]
 rw [if_neg (show ¬(k=6∨k=7∨k=8) by omega),if_neg h7,if_neg h7]
 simp
theorem zB (N:Nat): ∀r:RP,r.nodes≤N→N<2^60→uk r→DCalls Tryz.prog 108 [.agg (sB r)] (.bool (sM r)):=by
 induction N with
 |zero=>intro r h;have:=r.uc;omega
 |succ N ih=>
  rintro ⟨k,f,n,m,l⟩ hr hN hnm
  refine qO (rs:=[.tmp 2]) mixed Tryz.func108 LC rfl rfl rfl (r:=[.bool _]) (nlZ rfl) ?_
  simp only [RP.nodes] at hr
  have hll:=tU l
  have h104:=xP f hnm.1
  have hvn:=xA n
  have hvm:=xA m
  have htn:=zb n
  have htm:=zb m
  have hev:=fun n=>AU l 108 n sM (by omega) fun i h=>ih l[i] (by
   have hn:=tG h
   have hm:=tF (l:=l) (j:=i+1)
   omega) (by omega) (w7 hnm.2 i h)
  have h1:=hev 1
  have h2:=hev 2
  have hE:=sI f e0
  rw [zY]
  clear ih hev hr
  repeat' ((conv=>whnf);first|refine aS ?_|fail)
  refine rA (β:=Unit) (fun _=>{sl:=[(1,.ptr 1 0),(3,.t (.bool (vl f n m)))],bx:=[(1,.d 5 (sB (.mk k f n m l)))]}) (fun _=>True) ?_ ?_
  ·unfold vl
   generalize sC f e0=b at *
   repeat' ((conv=>whnf);first|refine nb_ b hE ?_|(exact ⟨(),trivial,by (repeat' (first|exact trivial|exact LeV.same _|exact LeB.same _|exact rfl|exact fun _ _ _=>trivial|exact lB|refine And.intro ?_ ?_));done⟩)|refine nT_ ?_|refine nE_ (fun hq=>?_) (fun hq=>?_)|refine aS ?_|(cases b)|fail)
  rintro _ _
  generalize vl f n m=br at *
  generalize sC f e0=b at *
  generalize sV f=nd at *
  generalize l.all sM=al at *
  have hlen:(l.map sL).length=l.length:=List.length_map _
  have key: ∀(z:Bool),(l.length==0)=z→(z=true∧((l.map sL).length:Int)=0)∨(z=false∧((l.map sL).length:Int)≠0):=fun z hz=>by
   cases z with
   |true=>
    have h0:l.length=0:=by simpa using hz
    exact Or.inl ⟨rfl,by omega⟩
   |false=>
    have h0:l.length≠0:=by simpa using hz
    exact Or.inr ⟨rfl,by omega⟩
  unfold BN
  generalize hz:(l.length==0)=z at *
  generalize tQ n=vn at *
  generalize tQ m=vm at *
  generalize uP n=tn at *
  generalize uP m=tm at *
  by_cases k1:k=1∨k=2
  ·rw [if_pos k1]
   rcases key z rfl with ⟨rfl,e1⟩|⟨rfl,e1⟩ <;> rcases k1 with rfl|rfl <;> cases br <;> repeat' ((conv=>whnf);first|exact trivial|refine qx e1 ?_|refine qw e1 ?_|refine nT_ ?_|refine aE1 ?_|refine aE0 ?_|refine rb1 ?_|refine rb0 ?_|refine aS ?_|fail)
  rw [if_neg k1]
  by_cases k3:k=3
  ·subst k3
   rw [if_pos rfl]
   rcases key z rfl with ⟨rfl,e1⟩|⟨rfl,e1⟩ <;> cases nd <;> cases vn <;> repeat' ((conv=>whnf);first|exact trivial|refine rE _ (h104) ?_|refine rE _ (hvn) ?_|refine qx e1 ?_|refine qw e1 ?_|refine nT_ ?_|refine aE1 ?_|refine aE0 ?_|refine nE_ (fun hq=>?_) (fun hq=>?_)|refine rb1 ?_|refine rb0 ?_|refine aS ?_|fail)
  rw [if_neg k3]
  by_cases k4:k=4
  ·subst k4
   rw [if_pos rfl]
   rcases key z rfl with ⟨rfl,e1⟩|⟨rfl,e1⟩ <;> cases nd <;> cases vn <;> repeat' ((conv=>whnf);first|exact trivial|refine rE _ (h104) ?_|refine rE _ (hvn) ?_|refine qx e1 ?_|refine qw e1 ?_|refine nT_ ?_|refine aE1 ?_|refine aE0 ?_|refine nD_ (fun hq=>?_) (fun hq=>?_)|refine rb1 ?_|refine rb0 ?_|refine aS ?_|fail)
  rw [if_neg k4]
  by_cases k5:k=5
  ·subst k5
   rw [if_pos rfl]
   rcases key z rfl with ⟨rfl,e1⟩|⟨rfl,e1⟩ <;> cases nd <;> cases vn <;> cases vm <;> repeat' ((conv=>whnf);first|exact trivial|refine rE _ (h104) ?_|refine rE _ (hvn) ?_|refine rE _ (hvm) ?_|refine qx e1 ?_|refine qw e1 ?_|refine nT_ ?_|refine aE1 ?_|refine aE0 ?_|refine nD_ (fun hq=>?_) (fun hq=>?_)|refine rb1 ?_|refine rb0 ?_|refine aS ?_|fail)
  rw [if_neg k5]
  by_cases k9:k=9
  ·subst k9
   rw [if_pos rfl]
   rcases key z rfl with ⟨rfl,e1⟩|⟨rfl,e1⟩ <;> cases b <;> cases tn <;> cases tm <;> repeat' ((conv=>whnf);first|exact trivial|refine nb_ _ hE ?_|refine rE _ (htn) ?_|refine rE _ (htm) ?_|refine qx e1 ?_|refine qw e1 ?_|refine nT_ ?_|refine aE1 ?_|refine aE0 ?_|refine nD_ (fun hq=>?_) (fun hq=>?_)|refine rb1 ?_|refine rb0 ?_|refine aS ?_|fail)
  rw [if_neg k9]
  by_cases k6:k=6
  ·subst k6
   rw [if_pos rfl]
   cases br <;> repeat' ((conv=>whnf);first|exact trivial|refine rE _ (h1) ?_|refine nT_ ?_|refine aE1 ?_|refine aE0 ?_|refine rb0 ?_|refine rbx ?_|refine aS ?_|fail)
  rw [if_neg k6]
  by_cases k7:k=7∨k=8
  ·rw [if_pos k7]
   rcases k7 with rfl|rfl <;> cases br <;> repeat' ((conv=>whnf);first|exact trivial|refine rE _ (h2) ?_|refine nT_ ?_|refine aE1 ?_|refine aE0 ?_|refine rb0 ?_|refine rbx ?_|refine aS ?_|fail)
  rw [if_neg k7]
  repeat' ((conv=>whnf);first|exact trivial|refine nT_ ?_|refine aE0 ?_|refine rb0 ?_|refine aS ?_|fail)
end Go.TY
end
section
namespace Go.TY
open Go Go.DL Go.MM Go.Proofs
theorem Ee (l:List RP):DCalls Tryz.prog 163 [.slice 5 (l.map sL),.nil,.clos 149 []] (.bool (l.length==0)):=by
 refine qO (rs:=[.tmp 6]) mixed Tryz.func163 Mo rfl rfl rfl (r:=[.bool _]) (nlZ rfl) ?_
 cases l with
 |cons a l=>
  repeat' ((conv=>whnf);first|exact trivial|refine aN1 ?_|refine rb0 ?_|refine aS ?_|fail)
 |nil=>
  repeat' ((conv=>whnf);first|refine aN0 ?_|refine aS ?_|fail)
  refine rq (α:=Unit) (fun _=>{sl:=[(15,.t (.slice 5 [])),(16,.t (I 0)),(17,.t (I 0))],bx:=[]}) (fun _=>True) (fun _=>0) () trivial ?_ ?_
  ·repeat' (first|exact trivial|exact LeV.same _|exact rfl|exact fun _ _ _=>trivial|refine And.intro ?_ ?_)
  rintro _ _
  repeat' ((conv=>whnf);first|exact trivial|refine aD0 ?_|refine rb1 ?_|refine aS ?_|fail)
theorem EI (r:RP):DCalls Tryz.prog 149 [.agg (sB r),.agg [I 0,.str e0,I 0,I 0,.nil]] (.bool (ui r)):=by
 obtain ⟨k,f,n,m,l⟩:=r
 refine qO (rs:=[.tmp 4]) mixed Tryz.func149 Mf rfl rfl rfl (r:=[.bool _]) (nlZ rfl) ?_
 simp only [ui]
 have h2:=sI f e0
 have h3:=Ee l
 generalize sC f e0=b at *
 generalize (l.length==0)=z at *
 cases b <;> repeat' ((conv=>whnf);first|exact trivial|refine nb_ _ h2 ?_|refine rE _ (h3) ?_|refine nT_ ?_|refine nE_ (fun hq=>?_) (fun hq=>?_)|refine rb0 ?_|refine rbx ?_|refine aS ?_|fail)
def BM (k:Int) (emp br nd vn fp:Bool) (len:Nat) (al:Bool):Bool:=
 if k=1 then br&&(len==0)&&fp
 else if k=2 then emp&&(len==0)&&nd&&vn
 else if k=5 then emp&&br&&(((len:Int)==1)&&al)
 else if k=3∨k=4 then emp&&br&&(((len:Int)==2)&&al)
 else false
theorem zX (k:Int) (p:RP) (f:ByteArray) (n:Int) (l:List RO):sR (.mk k p f n l)=BM k (ui p) (vN f n) (sV f) (tQ n) (sM p) l.length (l.all sR):=by
 rw [sR,xU]
 have hall:l.length=0→l.all sR=true:=fun h=>by rw [List.eq_nil_of_length_eq_zero h];rfl
 have leaf: ∀(x:Bool),(x&&(l.length==0)&&l.all sR)=(x&&(l.length==0)):=fun x=>by
  by_cases h0:l.length=0
  ·rw [hall h0,Bool.and_true]
  ·rw [show (l.length==0)=false from beq_false_of_ne h0,Bool.and_false,Bool.false_and]
 generalize l.all sR=al at *
 unfold BM okO wh
 by_cases h1:k=1
 ·subst h1
  simp only [if_true,show ¬((1:Int)=3∨(1:Int)=4) by omega,show ¬((1:Int)=5) by omega,if_false]
  rw [leaf]
  generalize sM p=a
  generalize vN f n=b
  cases a <;> cases b <;> simp
 rw [if_neg h1,if_neg h1]
 by_cases h2:k=2
 ·subst h2
  simp only [if_true,show ¬((2:Int)=3∨(2:Int)=4) by omega,show ¬((2:Int)=5) by omega,if_false]
  rw [leaf]
  unfold tQ
  generalize sV f=a
  generalize ui p=b
  generalize (l.length==0)=z
  cases a <;> cases b <;> cases z <;> simp
 rw [if_neg h2,if_neg h2]
 by_cases h5:k=5
 ·subst h5
  simp only [if_true,show ¬((5:Int)=3∨(5:Int)=4) by omega,or_true,if_false]
  rw [show ((l.length:Int)==1)=(l.length==1) from xG _ 1,Bool.and_assoc]
 simp only [h5,if_false,or_false]
 by_cases h3:k=3∨k=4
 ·rw [if_pos h3,if_pos h3,if_pos h3,show ((l.length:Int)==2)=(l.length==2) from xG _ 2,Bool.and_assoc]
 ·rw [if_neg h3,if_neg h3,if_neg h3]
  simp
theorem Eh (N:Nat): ∀r:RO,r.wt≤N→N<2^60→uj r→DCalls Tryz.prog 115 [.agg (sA r)] (.bool (sR r)):=by
 induction N with
 |zero=>intro r h;obtain ⟨k,p,f,n,a⟩:=r;simp only [RO.wt] at h;omega
 |succ N ih=>
  rintro ⟨k,⟨pk,pf,pn,pm,pa⟩,f,n,l⟩ hr hN hnm
  refine qO (rs:=[.tmp 2]) mixed Tryz.func115 LK rfl rfl rfl (r:=[.bool _]) (nlZ rfl) ?_
  simp only [RO.wt] at hr
  have hll:=uK l
  have h104:=xP f hnm.2.1
  have hvn:=xA n
  have hsp:=EI (.mk pk pf pn pm pa)
  have hfp:=zB _ (.mk pk pf pn pm pa) (Nat.le_refl _) (by omega) hnm.1
  have hev:=fun n=>zq l 115 n sR (by omega) fun i h=>ih l[i] (by
   have hn:=uh h
   have hm:=tV (l:=l) (j:=i+1)
   omega) (by omega) (wZ hnm.2.2 i h)
  have h1:=hev 1
  have h2:=hev 2
  have hE:=sI f e0
  rw [zX]
  clear ih hev hr
  repeat' ((conv=>whnf);first|refine aS ?_|fail)
  refine rA (β:=Unit) (fun _=>{sl:=[(1,.ptr 1 0),(3,.t (.bool (ui (.mk pk pf pn pm pa)))),(4,.t (.bool (vN f n)))],bx:=[(1,.d 9 (sA (.mk k (.mk pk pf pn pm pa) f n l)))]}) (fun _=>True) ?_ ?_
  ·unfold vN
   generalize sC f e0=b at *
   generalize ui (.mk pk pf pn pm pa)=em at *
   cases b <;> repeat' ((conv=>whnf);first|refine nb_ _ hE ?_|refine rE _ (hsp) ?_|(exact ⟨(),trivial,by (repeat' (first|exact trivial|exact LeV.same _|exact LeB.same _|exact rfl|exact fun _ _ _=>trivial|exact lB|refine And.intro ?_ ?_));done⟩)|refine nT_ ?_|refine nE_ (fun hq=>?_) (fun hq=>?_)|refine aS ?_|fail)
  rintro _ _
  generalize vN f n=br at *
  generalize sV f=nd at *
  generalize ui (.mk pk pf pn pm pa)=em at *
  generalize sM (.mk pk pf pn pm pa)=fp at *
  generalize l.all sR=al at *
  have hlen:(l.map sZ).length=l.length:=List.length_map _
  have key: ∀(z:Bool),(l.length==0)=z→(z=true∧((l.map sZ).length:Int)=0)∨(z=false∧((l.map sZ).length:Int)≠0):=fun z hz=>by
   cases z with
   |true=>
    have h0:l.length=0:=by simpa using hz
    exact Or.inl ⟨rfl,by omega⟩
   |false=>
    have h0:l.length≠0:=by simpa using hz
    exact Or.inr ⟨rfl,by omega⟩
  unfold BM
  generalize hz:(l.length==0)=z at *
  generalize tQ n=vn at *
  by_cases k1:k=1
  ·subst k1
   rw [if_pos rfl]
   rcases key z rfl with ⟨rfl,e1⟩|⟨rfl,e1⟩ <;> cases br <;> repeat' ((conv=>whnf);first|exact trivial|refine rE _ (hfp) ?_|refine qx e1 ?_|refine qw e1 ?_|refine nT_ ?_|refine aE1 ?_|refine rb0 ?_|refine rbx ?_|refine aS ?_|fail)
  rw [if_neg k1]
  by_cases k2:k=2
  ·subst k2
   rw [if_pos rfl]
   rcases key z rfl with ⟨rfl,e1⟩|⟨rfl,e1⟩ <;> cases em <;> cases nd <;> repeat' ((conv=>whnf);first|exact trivial|refine rE _ (h104) ?_|refine rE _ (hvn) ?_|refine qx e1 ?_|refine qw e1 ?_|refine nT_ ?_|refine aE1 ?_|refine aE0 ?_|refine rb0 ?_|refine rbx ?_|refine aS ?_|fail)
  rw [if_neg k2]
  by_cases k5:k=5
  ·subst k5
   rw [if_pos rfl]
   cases em <;> cases br <;> repeat' ((conv=>whnf);first|exact trivial|refine rE _ (h1) ?_|refine nT_ ?_|refine aE1 ?_|refine aE0 ?_|refine rb0 ?_|refine rbx ?_|refine aS ?_|fail)
  rw [if_neg k5]
  by_cases k3:k=3∨k=4
  ·rw [if_pos k3]
   rcases k3 with rfl|rfl <;> cases em <;> cases br <;> repeat' ((conv=>whnf);first|exact trivial|refine rE _ (h2) ?_|refine nT_ ?_|refine aE1 ?_|refine aE0 ?_|refine rb0 ?_|refine rbx ?_|refine aS ?_|fail)
  rw [if_neg k3]
  repeat' ((conv=>whnf);first|exact trivial|refine nT_ ?_|refine aE0 ?_|refine rb0 ?_|refine aS ?_|fail)
theorem BF (n d:Nat) (f:FuncId) (c:T) (b:Bool) (h:DCalls Tryz.prog f [c] (.bool b)):DCalls Tryz.prog 106 [sz n d,.clos f [c]] (I (wO (wI n d) b)):=by
 refine qO (rs:=[.tmp 4]) mixed Tryz.func106 LA rfl rfl rfl (r:=[.int _ _]) (nlZ rfl) ?_
 have h1:=Gf n d
 unfold wO
 by_cases hl:wI n d=0
 ·rw [hl] at h1 ⊢
  rw [if_pos rfl]
  cases b <;> repeat' ((conv=>whnf);first|exact trivial|refine rE _ (h1) ?_|refine rE _ (h) ?_|refine aN0 ?_|refine rix ?_|refine aS ?_|fail)
 ·rw [if_neg hl]
  generalize wI n d=e at *
  repeat' ((conv=>whnf);first|exact trivial|refine rE _ (h1) ?_|refine aN1 ?_|refine rix ?_|refine aS ?_|fail)
theorem Bi (r:RP) (hr:r.nodes<2^60) (hn:uk r):DCalls Tryz.prog 68 [.agg (sB r)] (I (tW r)):=by
 refine qO (rs:=[.tmp 2]) mixed Tryz.func68 l68 rfl rfl rfl (r:=[.int _ _]) (nlZ rfl) ?_
 unfold tW
 have h1:=BH _ r (Nat.le_refl _) hr
 have h2:DCalls Tryz.prog 107 [.cptr (sB r) 0] (.bool (sM r)):=by
  refine qO (rs:=[.tmp 1]) mixed Tryz.func107 LB rfl rfl rfl (r:=[.bool _]) (nlZ rfl) ?_
  have h:=zB _ r (Nat.le_refl _) hr hn
  repeat' ((conv=>whnf);first|exact trivial|refine rE _ (h) ?_|refine nT_ ?_|refine rbx ?_|(refine And.intro (by first|exact sD _|fail) ?_)|fail)
 have h3:=BF r.nodes r.depth 107 _ _ h2
 repeat' ((conv=>whnf);first|exact trivial|refine rE _ (h1) ?_|refine rE _ (h3) ?_|refine rix ?_|(refine And.intro (by first|exact sD _|fail) ?_)|refine aS ?_|fail)
theorem xT (r:RO) (hr:r.wt<2^60) (hn:uj r):DCalls Tryz.prog 72 [.agg (sA r)] (I (tA r)):=by
 refine qO (rs:=[.tmp 2]) mixed Tryz.func72 l72 rfl rfl rfl (r:=[.int _ _]) (nlZ rfl) ?_
 unfold tA
 have h1:=Gg _ r (Nat.le_refl _) hr
 have h2:DCalls Tryz.prog 114 [.cptr (sA r) 0] (.bool (sR r)):=by
  refine qO (rs:=[.tmp 1]) mixed Tryz.func114 LJ rfl rfl rfl (r:=[.bool _]) (nlZ rfl) ?_
  have h:=Eh _ r (Nat.le_refl _) hr hn
  repeat' ((conv=>whnf);first|exact trivial|refine rE _ (h) ?_|refine nT_ ?_|refine rbx ?_|(refine And.intro (by first|exact sE _|fail) ?_)|fail)
 have h3:=BF r.size r.deep 114 _ _ h2
 repeat' ((conv=>whnf);first|exact trivial|refine rE _ (h1) ?_|refine rE _ (h3) ?_|refine rix ?_|(refine And.intro (by first|exact sE _|fail) ?_)|refine aS ?_|fail)
end Go.TY
end
noncomputable section
namespace Go.TY
open Go Go.DL Go.Proofs
def c15:aY:=(.seq (.region [oo 3 (.box 5 (tm 1)),oo 4 (.mov (Kc 0))] []) (.seq (.seq (.region [lA 6 5 3,oo 7 (.call 68 [tm 6]),mv 5 7] []) (.seq (.region [mv 8 5,oo 9 (.bin .neq (tm 8) (Kc 0))] []) (.cond (tm 9) (.seq (.region [mv 10 5,mv 4 10] []) .ret) .skip))) (.seq (.region [mv 11 0,lA 12 5 3,oo 13 (.call 69 [(tm 11),(tm 12)]),mv 4 13] []) .ret)))
theorem l15:(Tryz.f15.body.bind (bD Tryz.prog 14 []))=some c15:=by kernel_rfl
def c19:aY:=(.seq (.region [oo 2 (.box 1 (tm 0)),oo 3 (.box 6 (tm 1)),oo 4 (.mov (Kc 0))] []) (.seq (.seq (.region [lA 11 6 3,oo 12 (.call 79 [tm 11]),mv 5 12] []) (.seq (.region [mv 13 5,oo 14 (.bin .neq (tm 13) (Kc 0)),mv 15 14,oF 16 15 (.offA 0 (tm 3)),oF 17 15 (.load 1 false (tm 16)),oF 18 15 (.bin .eql (tm 17) (Kc 0)),oo 19 (.pick (tm 15) kT (tm 18))] []) (.cond (tm 19) (.seq (.region [mv 20 5,mv 4 20] []) .ret) .skip))) (.seq (.region [oo 21 (.mkfn 80 [tm 2]),mv 6 21] []) (.seq (.seq (.cut (.region [fa 22 3 3,ld 23 22,⟨some 24,.bin .neq (tm 23) (.const S0),none,[]⟩,mv 25 24,mT 26 6 25,oT 27 25 (.offA 3 (tm 3)),oT 28 25 (.load 1 false (tm 27)),oT 29 25 (.b8 (tm 26) [tm 28]),oT 30 25 (.not (tm 29)),oo 31 (.pick (tm 25) (tm 30) kF),mv 32 31,oF 33 32 (.offA 2 (tm 3)),oF 34 32 (.load 1 false (tm 33)),mF 35 6 32,oF 36 32 (.call 81 [(tm 34),(tm 35)]),oF 37 32 (.not (tm 36)),oo 38 (.pick (tm 32) kT (tm 37))] [])) (.cond (tm 38) (.seq (.region [oo 4 (.mov (Kc 4))] []) .ret) .skip)) (.seq (.seq (.region [fa 39 2 3,ld 40 39,ln 41 40,oo 42 (.mov (Kc 0))] []) (.block 0 (.loop (.seq (.region [oo 43 (.bin .lss (tm 42) (tm 41))] []) (.seq (.cond (tm 43) .skip (.exit 0)) (.seq (.block 1 (.seq (.region [mv 44 42,ix 45 1 40 42,ld 46 45,mv 7 44,mv 8 46] []) (.seq (.region [fa 47 2 3,ld 48 47,mv 49 7,oo 50 (.slice 1 (tm 48) none (some (tm 49))),mv 51 8,oo 52 (.call 82 [(tm 50),(tm 51)])] []) (.cond (tm 52) (.seq (.region [oo 4 (.mov (Kc 1))] []) .ret) .skip)))) (.region [oo 53 (.bin .add (tm 42) (Kc 1)),mv 42 53] []))))))) (.seq (.seq (.region [ld 55 2,fa 56 3 3,ld 57 56,oo 58 (.call 74 [(tm 55),(tm 57)]),mv 54 58,oo 59 (.ext (tm 54) 0),oo 60 (.ext (tm 54) 1),⟨some 9,.alloc [S0,Z0,Z0],none,[]⟩,o0 (.store 3 (tm 9) (tm 59)),mv 10 60] []) (.seq (.region [fa 61 0 3,ld 62 61,oo 63 (.bin .eql (tm 62) (Kc 4)),mv 64 63,oT 65 64 (.offA 5 (tm 3)),oT 66 64 (.load 1 false (tm 65)),oT 67 64 (.load 3 true (tm 9)),oT 68 64 (.call 75 [tm 67]),oT 69 64 (.bin .gtr (tm 66) (tm 68)),oo 70 (.pick (tm 64) (tm 69) kF)] []) (.cond (tm 70) (.seq (.region [oo 4 (.mov (Kc 1))] []) .ret) .skip))) (.seq (.region [oo 4 (.mov (Kc 0))] []) .ret)))))))
theorem l19:(Tryz.f19.body.bind (bD Tryz.prog 71 [6000005]))=some c19:=by kernel_rfl
def c80:aY:=(.seq (.region [oo 3 (.mov kF)] []) (.seq (.region [ld 7 1,mv 8 0,oo 9 (.call 74 [(tm 7),(tm 8)]),mv 6 9,oo 10 (.ext (tm 6) 0),oo 11 (.ext (tm 6) 1),⟨some 4,.alloc [S0,Z0,Z0],none,[]⟩,o0 (.store 3 (tm 4) (tm 10)),mv 5 11] []) (.seq (.region [mv 12 5,mv 3 12] []) .ret)))
theorem l80:(Tryz.f80.body.bind (bD Tryz.prog 13 []))=some c80:=by kernel_rfl
def c81:aY:=(.seq (.region [oo 3 (.box 1 (tm 1)),oo 4 (.mov kF)] []) (.seq (.region [mv 5 0,oo 6 (.mkfn 125 [tm 3]),oo 7 (.call 124 [(tm 5),(tm 6)]),oo 8 (.not (tm 7)),mv 4 8] []) .ret))
theorem l81:(Tryz.f81.body.bind (bD Tryz.prog 9 []))=some c81:=by kernel_rfl
def Kw:aY:=(.seq (.region [oo 3 (.mov kF)] []) (.seq (.region [ld 4 1,mv 5 0,oo 6 (.b8 (tm 4) [tm 5]),oo 7 (.not (tm 6)),mv 3 7] []) .ret))
theorem LS:(Tryz.f125.body.bind (bD Tryz.prog 8 []))=some Kw:=by kernel_rfl
def c82:aY:=(.seq (.region [oo 4 (.mov kF)] []) (.seq (.region [mv 5 0,mv 6 1,oo 7 (.call 126 [(tm 5),(tm 6)]),oo 8 (.bin .geq (tm 7) (Kc 0)),mv 4 8] []) .ret))
theorem l82:(Tryz.f82.body.bind (bD Tryz.prog 9 []))=some c82:=by kernel_rfl
def Kx:aY:=(.seq (.region [oo 4 (.mov (Kc 0))] []) (.seq (.seq (.region [mv 6 0,ln 7 6,oo 8 (.mov (Kc 0))] []) (.block 0 (.loop (.seq (.region [oo 9 (.bin .lss (tm 8) (tm 7))] []) (.seq (.cond (tm 9) .skip (.exit 0)) (.seq (.block 1 (.seq (.region [mv 10 8,mv 5 10] []) (.seq (.region [mv 11 1,mv 12 0,mv 13 5,ix 14 1 12 13,ld 15 14,oo 16 (.bin .eql (tm 11) (tm 15))] []) (.cond (tm 16) (.seq (.region [mv 17 5,mv 4 17] []) .ret) .skip)))) (.region [oo 18 (.bin .add (tm 8) (Kc 1)),mv 8 18] []))))))) (.seq (.region [oo 4 (.mov (.const (.int .i64 (-1))))] []) .ret)))
theorem LU:(Tryz.f126.body.bind (bD Tryz.prog 19 []))=some Kx:=by kernel_rfl
def KD:aY:=(.seq (.region [oo 2 (.mov (Kc 0))] []) (.seq (.region [oo 3 (.buildS 3 1 7 [Z0] [(0,(Kc 0)),(1,(Kc 1)),(2,(Kc 2)),(3,(Kc 2)),(4,(Kc 3)),(5,(Kc 3)),(6,(Kc 4))]),mv 4 0,ix 5 1 3 4,ld 6 5,mv 2 6] []) .ret))
theorem L5:(Tryz.f137.body.bind (bD Tryz.prog 7 []))=some KD:=by kernel_rfl
def c38:aY:=(.seq (.region [oo 4 (.mov (Kc 0))] []) (.seq (.seq (.region [mv 12 1,oo 13 (.call 95 [tm 12]),mv 5 13] []) (.seq (.region [mv 14 5,oo 15 (.bin .neq (tm 14) (Kc 0))] []) (.cond (tm 15) (.seq (.region [mv 16 5,mv 4 16] []) .ret) .skip))) (.seq (.seq (.region [mv 17 1,ln 18 17,oo 19 (.mov (Kc 0))] []) (.block 0 (.loop (.seq (.region [oo 20 (.bin .lss (tm 19) (tm 18))] []) (.seq (.cond (tm 20) .skip (.exit 0)) (.seq (.block 1 (.seq (.region [ix 21 15 17 19,lA 22 15 21,⟨some 7,.alloc [Z0,Z0,S0,Z0,Z0,.nil,S0,Z0,.nil,Z0,S0,.nil,S0,Z0,Z0],none,[]⟩,o0 (.store 15 (tm 7) (tm 22))] []) (.seq (.seq (.region [mv 23 0,fa 24 0 7,lA 25 9 24,oo 26 (.call 17 [(tm 23),(tm 25)]),mv 8 26] []) (.seq (.region [mv 27 8,oo 28 (.bin .neq (tm 27) (Kc 0))] []) (.cond (tm 28) (.seq (.region [mv 29 8,mv 4 29] []) .ret) .skip))) (.seq (.region [mv 30 0,fa 31 9 7,lA 32 6 31,oo 33 (.call 19 [(tm 30),(tm 32)]),mv 9 33] []) (.seq (.region [mv 34 9,oo 35 (.bin .neq (tm 34) (Kc 0))] []) (.cond (tm 35) (.seq (.region [mv 36 9,mv 4 36] []) .ret) .skip)))))) (.region [oo 37 (.bin .add (tm 19) (Kc 1)),mv 19 37] []))))))) (.seq (.seq (.region [mv 39 0,mv 40 1,oo 41 (.call 96 [(tm 39),(tm 40)]),mv 38 41,oo 42 (.ext (tm 38) 0),oo 43 (.ext (tm 38) 1),mv 10 42,mv 11 43] []) (.seq (.region [mv 44 11,oo 45 (.not (tm 44))] []) (.cond (tm 45) (.seq (.region [oo 4 (.mov (Kc 11))] []) .ret) .skip))) (.seq (.region [oo 4 (.mov (Kc 0))] []) .ret)))))
theorem l38:(Tryz.f38.body.bind (bD Tryz.prog 46 []))=some c38:=by kernel_rfl
def c39:aY:=(.seq (.region [oo 4 (.mov (.const .nil))] []) (.seq (.region [mv 11 0,mv 12 1,oo 13 (.call 96 [(tm 11),(tm 12)]),mv 10 13,oo 14 (.ext (tm 10) 0),oo 15 (.ext (tm 10) 1),mv 5 14,mv 6 15] []) (.seq (.region [oo 7 (.mov (.const .nil))] []) (.seq (.seq (.region [mv 16 5,oo 17 (.call 97 [tm 16]),oo 18 (.call 87 [tm 17]),ln 19 18,oo 20 (.mov (Kc 0))] []) (.block 0 (.loop (.seq (.region [oo 21 (.bin .lss (tm 20) (tm 19))] []) (.seq (.cond (tm 21) .skip (.exit 0)) (.seq (.block 1 (.seq (.region [ix 22 1 18 20,ld 23 22,mv 9 23] []) (.region [mv 24 7,mv 25 5,mv 26 9,⟨some 27,.mlook false [.str] (.agg [S0,Z0,.nil,Z0,Z0]) false (tm 25) (tm 26),none,[]⟩,⟨some 28,.buildF 5 1 [S0,Z0,.nil,Z0,Z0] [(0,(tm 27))],none,[]⟩,oo 29 (.append 62 66 5 64 (tm 24) (tm 28)),mv 7 29] []))) (.region [oo 30 (.bin .add (tm 20) (Kc 1)),mv 20 30] []))))))) (.seq (.region [mv 31 7,mv 4 31] []) .ret)))))
theorem l39:(Tryz.f39.body.bind (bD Tryz.prog 32 [8000028]))=some c39:=by kernel_rfl
def c30:aY:=(.seq (.region [oo 1 (.box 9 (tm 0)),oo 2 (.mov (Kc 0))] []) (.seq (.seq (.region [fa 3 0 1,ld 4 3] []) (.block 0 (.seq (.region [oo 6 (.bin .eql (tm 4) (Kc 3)),mv 5 6] []) (.cond (tm 5) (.seq (.region [fa 7 8 1,ld 8 7,oo 9 (.idxL 9 (tm 8) (Kc 0)),lA 10 9 9,oo 11 (.call 30 [tm 10]),fa 12 8 1,ld 13 12,oo 14 (.idxL 9 (tm 13) (Kc 1)),lA 15 9 14,oo 16 (.call 30 [tm 15]),oo 17 (.bin .add (tm 11) (tm 16)),oo 18 (.minI (tm 17) (Kc 65536)),mv 2 18] []) .ret) (.seq (.region [oo 20 (.bin .eql (tm 4) (Kc 4)),mv 19 20] []) (.cond (tm 19) (.seq (.region [fa 21 8 1,ld 22 21,oo 23 (.idxL 9 (tm 22) (Kc 0)),lA 24 9 23,oo 25 (.call 30 [tm 24]),fa 26 8 1,ld 27 26,oo 28 (.idxL 9 (tm 27) (Kc 1)),lA 29 9 28,oo 30 (.call 30 [tm 29]),oo 31 (.bin .mul (tm 25) (tm 30)),oo 32 (.minI (tm 31) (Kc 65536)),mv 2 32] []) .ret) (.seq (.region [oo 34 (.bin .eql (tm 4) (Kc 5)),mv 33 34] []) (.cond (tm 33) (.seq (.seq (.region [fa 35 8 1,ld 36 35,oo 37 (.idxL 9 (tm 36) (Kc 0)),lA 38 9 37,oo 39 (.call 30 [tm 38]),oo 40 (.bin .eql (tm 39) (Kc 0))] []) (.cond (tm 40) (.seq (.region [oo 2 (.mov (Kc 1))] []) .ret) .skip)) (.seq (.region [oo 2 (.mov (Kc 65536))] []) .ret)) .skip)))))))) (.seq (.seq (.region [fa 41 0 1,ld 42 41,oo 43 (.bin .eql (tm 42) (Kc 1)),mv 44 43,oT 45 44 (.offA 1 (tm 1)),oT 46 44 (.offA 0 (tm 45)),oT 47 44 (.load 1 false (tm 46)),oT 48 44 (.bin .eql (tm 47) (Kc 2)),oo 49 (.pick (tm 44) (tm 48) kF)] []) (.cond (tm 49) (.seq (.region [oo 2 (.mov (Kc 0))] []) .ret) .skip)) (.seq (.region [oo 2 (.mov (Kc 1))] []) .ret))))
theorem l30:(Tryz.f30.body.bind (bD Tryz.prog 50 []))=some c30:=by kernel_rfl
def c99:aY:=(.seq (.region [oo 4 (.mov kF)] []) (.seq (.seq (.region [mv 6 0,ln 7 6,mv 8 1,ln 9 8,oo 10 (.bin .neq (tm 7) (tm 9))] []) (.cond (tm 10) (.seq (.region [oo 4 (.mov kF)] []) .ret) .skip)) (.seq (.seq (.region [mv 11 0,ln 12 11,oo 13 (.mov (Kc 0))] []) (.block 0 (.loop (.seq (.region [oo 14 (.bin .lss (tm 13) (tm 12))] []) (.seq (.cond (tm 14) .skip (.exit 0)) (.seq (.block 1 (.seq (.region [mv 15 13,mv 5 15] []) (.seq (.region [mv 16 0,mv 17 5,ix 18 1 16 17,ld 19 18,mv 20 1,mv 21 5,ix 22 1 20 21,ld 23 22,oo 24 (.bin .neq (tm 19) (tm 23))] []) (.cond (tm 24) (.seq (.region [oo 4 (.mov kF)] []) .ret) .skip)))) (.region [oo 25 (.bin .add (tm 13) (Kc 1)),mv 13 25] []))))))) (.seq (.region [oo 4 (.mov kT)] []) .ret))))
theorem l99:(Tryz.f99.body.bind (bD Tryz.prog 26 []))=some c99:=by kernel_rfl
end Go.TY
end
section
namespace Go.TY
open Go Go.DL Go.MM Go.Proofs
theorem Ec (l:List Fd) (hl:LOk l) (r:RP) (hr:r.nodes<2^40) (hn:uk r):DCalls Tryz.prog 15 [fds l,.agg (sB r)] (I (wQ l r)):=by
 refine qO (rs:=[.tmp 4]) mixed Tryz.func15 l15 rfl rfl rfl (r:=[.int _ _]) (nlZ rfl) ?_
 have h1:=Bi r (by omega) hn
 have h2:=Eg l hl r hr
 unfold wQ
 by_cases hc:tW r=0
 ·rw [hc] at h1
  rw [if_neg (by simpa using hc)]
  repeat' ((conv=>whnf);first|exact trivial|refine rE _ (h1) ?_|refine rE _ (h2) ?_|refine aN0 ?_|refine rix ?_|(refine And.intro (by first|exact sD _|fail) ?_)|refine aS ?_|fail)
 ·rw [if_pos hc]
  generalize tW r=e at *
  repeat' ((conv=>whnf);first|exact trivial|refine rE _ (h1) ?_|refine aN1 ?_|refine rix ?_|(refine And.intro (by first|exact sD _|fail) ?_)|refine aS ?_|fail)
attribute [local irreducible] aI gR WCM YC
theorem yM (l:List Fd) (hl:LOk l) (r:RO) (hr:r.wt<2^40) (hn:uj r):DCalls Tryz.prog 17 [fds l,.agg (sA r)] (I (uC l r)):=by
 rw [← uE]
 refine qP Tryz.func17 Ll rfl (r:=[I (uC l r)]) (nlZ rfl) ?_
 have hlen:(sG r).length≤r.wt:=by rw [tc,ue];exact r.vY
 have hwt: ∀o∈sG r,o.wt≤r.wt:=by rw [tc];exact uH r
 have hcp:=xT r (by omega) hn
 rw [← uE] at hcp
 unfold uC
 rw [← tc]
 rw [show Tryz.f17.ntmps=47 from rfl,show Tryz.f17.results.toList=[.cell 4 33] from rfl,k17]
 have ht:=yt r
 rw [sP] at ht
 generalize hv:(sG r).map (vh l)=v at *
 refine aI.seq (IQ ?_)
 repeat' ((conv=>whnf);first|(refine And.intro (by first|exact tw _|fail) ?_)|refine aS ?_|fail)
 refine aI.seq (IX ?_)
 by_cases hc:tA r=0
 case neg=>
  rw [if_pos hc]
  generalize tA r=e at *
  repeat' ((conv=>whnf);first|refine rE _ (hcp) ?_|refine aN1 ?_|refine aS ?_|fail)
  exact ⟨⟨⟨Nat.lt_succ_self 0,rfl⟩,trivial⟩,fun _ _=>trivial⟩
 rw [hc] at hcp
 rw [if_neg (by simpa using hc)]
 repeat' ((conv=>whnf);first|refine rE _ (hcp) ?_|refine aN0 ?_|refine aS ?_|fail)
 refine aI.seq (aI.seq (I3 ?_))
 repeat' ((conv=>whnf);first|refine rE _ (ht) ?_|fail)
 refine aI.bP (s:={sl:=[(2,.ptr 2 0),(4,.ptr 4 0),(16,.t (.clos 116 [.cptr (sX r) 0]))],bx:=[(2,.d 1 [fds l]),(4,.d 1 [I 0])]}) (by repeat' (first|exact trivial|exact LeV.same _|exact LeB.same _|exact rfl|exact fun _ _ _=>trivial|refine And.intro ?_ ?_)) ?_
 refine aI.block (vS (N:=47) rfl r rfl 100 (fun n=>10≤n∧n<100) 100 (Nat.le_refl _) (by omega) (fun n h=>rz fun p hp=>?_) (fun n h=>rz fun p hp=>?_) (by exact rU) (outs:=tD l v) (stop:=fun c cx o=>cx=(fun _ _=>True)∧wV l v c o) ?_ (fun l0 D fn tmps hN=>?_) ?_ ?_)
 ·simp only [List.mem_cons,List.not_mem_nil,or_false] at hp
  rcases hp with rfl|rfl <;> (dsimp only;omega)
 ·simp only [List.mem_cons,List.not_mem_nil,or_false] at hp
  rcases hp with rfl|rfl <;> (dsimp only;omega)
 ·intro q hq
  simp only [tD,List.mem_cons,List.not_mem_nil,or_false] at hq
  rcases hq with rfl|rfl <;> rfl
 ·refine dR.top (d:=6) (n:=9) (lo:=10) (hi:=100) (D7 l v) (fun n h1 h2=>⟨h1,h2⟩) hN (by decide) (fun hw=>I9 hw) rfl (by decide) (by decide) (fun x hx=>?_) (fun k cs b G C hk hcs=>?_)
  ·obtain ⟨t,_,rfl⟩:=List.mem_map.1 hx
   exact ⟨_,sP t,tw t⟩
  rw [List.getElem?_map,Option.map_eq_some_iff] at hk
  obtain ⟨t,htk,hte⟩:=hk
  rw [sP] at hte
  obtain rfl:sX t=cs:=T.agg.inj hte
  have hvk:v[k]? =some (vh l t):=by rw [← hv,List.getElem?_map,htk];rfl
  have hs:=Ae hvk
  have hfst:=zy hvk
  have htw:=hwt t (List.mem_of_getElem? htk)
  cases hok:okB v k with
  |false=>exact aI.absurd (n:=4) (m:=1) (ts:=[]) (by show some (BX.d 1 (if okB v k=true then [I 0] else []))=_;rw [hok];rfl) (by decide)
  |true=>
  have ho:tD l v k=[(2,.d 1 [fds l]),(4,.d 1 [I 0])]:=by unfold tD;rw [hok];rfl
  rw [ho]
  rw [hok,Bool.true_and] at hs
  have hfst:=hfst hok
  clear hok ho
  refine Jf ?_
  clear hte
  obtain ⟨kd,⟨pk,pf,pn,pm,pa⟩,f,n,args⟩:=t
  have endN: ∀s:St,s.gh=G→s.cx=C→(∀ q, ¬(10≤q∧q<100)→s.bx q=aK b [(2,.d 1 [fds l]),(4,.d 1 [I 0])] q)→vh l (.mk kd (.mk pk pf pn pm pa) f n args)=0→RB b G C 10 100 (tD l v (k+1)) (wV l v) .normal s:=fun s h1 h2 h3 h4=>by
   refine ⟨h1,h2,_,h3,?_⟩
   unfold tD
   rw [hs,h4];rfl
  have endR: ∀s:St,s.gh=G→s.cx=C→(∀ q, ¬(10≤q∧q<100)→s.bx q=aK b [(2,.d 1 [fds l]),(4,.d 1 [I (vh l (.mk kd (.mk pk pf pn pm pa) f n args))])] q)→vh l (.mk kd (.mk pk pf pn pm pa) f n args)≠0→RB b G C 10 100 (tD l v (k+1)) (wV l v) .ret s:=fun s h1 h2 h3 h4=>by
   have e:=hfst h4
   exact ⟨h1,h2,_,h3,rfl,by rw [e];exact h4,by rw [e]⟩
  have hq:vh l (.mk kd (.mk pk pf pn pm pa) f n args)=(if kd=1 then wM l (.mk pk pf pn pm pa) else if kd=2 then zU l f n else 0):=by simp only [vh]
  generalize vh l (.mk kd (.mk pk pf pn pm pa) f n args)=x at *
  by_cases k1:kd=1
  ·rw [if_pos k1] at hq
   have hf:=Eg l hl (.mk pk pf pn pm pa) (by simp only [RO.wt] at htw;omega)
   rw [← hq] at hf
   by_cases hx:x=0
   ·repeat' ((conv=>whnf);first|refine qx k1 ?_|(refine nv_ (.agg (sB (.mk pk pf pn pm pa))) (by first|(rfl;done)|fail) ?_)|refine rE _ (hf) ?_|refine qy hx ?_|refine nT_ ?_|refine aS ?_|fail)
    (conv=>whnf)
    refine endN _ rfl rfl (fun q hq=>?_) hx
    have hm:=qX (b:=b) hq
    show cond (Nat.beq q 16) _ (cond (Nat.beq q 2) _ (cond (Nat.beq q 4) _ (gE 10 100 b q)))=cond (Nat.beq q 2) _ (cond (Nat.beq q 4) _ (b q))
    rw [eS (show q≠16 by omega),hm];rfl
   ·repeat' ((conv=>whnf);first|refine qx k1 ?_|(refine nv_ (.agg (sB (.mk pk pf pn pm pa))) (by first|(rfl;done)|fail) ?_)|refine rE _ (hf) ?_|refine qz hx ?_|refine nT_ ?_|refine aS ?_|fail)
    (conv=>whnf)
    refine endR _ rfl rfl (fun q hq=>?_) hx
    have hm:=qX (b:=b) hq
    by_cases h4:q=4
    ·subst h4;rfl
    show cond (Nat.beq q 4) _ (cond (Nat.beq q 16) _ (cond (Nat.beq q 2) _ (cond (Nat.beq q 4) _ (gE 10 100 b q))))=cond (Nat.beq q 2) _ (cond (Nat.beq q 4) _ (b q))
    rw [eS (show q≠16 by omega),eS h4,hm];rfl
  rw [if_neg k1] at hq
  by_cases k2:kd=2
  ·rw [if_pos k2] at hq
   have h74:=t74 l f hl.len
   unfold uU at h74
   unfold zU at hq
   cases hF:findF l f with
   |none=>
    rw [hF] at h74 hq
    dsimp only at h74 hq
    subst hq
    repeat' ((conv=>whnf);first|refine qw k1 ?_|refine qx k2 ?_|refine rE _ (h74) ?_|refine nT_ ?_|refine aS ?_|fail)
    (conv=>whnf)
    refine endR _ rfl rfl (fun q hq=>?_) (by decide)
    have hm:=qX (b:=b) hq
    by_cases h4:q=4
    ·subst h4;rfl
    show cond (Nat.beq q 4) _ (cond (Nat.beq q 18) _ (cond (Nat.beq q 18) _ (cond (Nat.beq q 16) _ (cond (Nat.beq q 2) _ (cond (Nat.beq q 4) _ (gE 10 100 b q))))))=cond (Nat.beq q 2) _ (cond (Nat.beq q 4) _ (b q))
    rw [eS (show q≠18 by omega),eS (show q≠16 by omega),eS h4,hm];rfl
   |some F=>
    rw [hF] at h74 hq
    dsimp only at h74 hq
    have h97:=t97 F (hl.find hF)
    generalize (2^F.w - 1:Nat)=M at *
    by_cases hb:n>(M:Int)
    ·rw [if_pos hb] at hq
     subst hq
     repeat' ((conv=>whnf);first|refine qw k1 ?_|refine qx k2 ?_|refine rE _ (h74) ?_|refine rE _ (h97) ?_|refine qv hb ?_|refine nT_ ?_|refine aS ?_|fail)
     (conv=>whnf)
     refine endR _ rfl rfl (fun q hq=>?_) (by decide)
     have hm:=qX (b:=b) hq
     by_cases h4:q=4
     ·subst h4;rfl
     show cond (Nat.beq q 4) _ (cond (Nat.beq q 18) _ (cond (Nat.beq q 18) _ (cond (Nat.beq q 16) _ (cond (Nat.beq q 2) _ (cond (Nat.beq q 4) _ (gE 10 100 b q))))))=cond (Nat.beq q 2) _ (cond (Nat.beq q 4) _ (b q))
     rw [eS (show q≠18 by omega),eS (show q≠16 by omega),eS h4,hm];rfl
    ·rw [if_neg hb] at hq
     repeat' ((conv=>whnf);first|refine qw k1 ?_|refine qx k2 ?_|refine rE _ (h74) ?_|refine rE _ (h97) ?_|refine qu hb ?_|refine nT_ ?_|refine aS ?_|fail)
     (conv=>whnf)
     refine endN _ rfl rfl (fun q hq=>?_) hq
     have hm:=qX (b:=b) hq
     show cond (Nat.beq q 18) _ (cond (Nat.beq q 18) _ (cond (Nat.beq q 16) _ (cond (Nat.beq q 2) _ (cond (Nat.beq q 4) _ (gE 10 100 b q)))))=cond (Nat.beq q 2) _ (cond (Nat.beq q 4) _ (b q))
     rw [eS (show q≠18 by omega),eS (show q≠16 by omega),hm];rfl
  ·rw [if_neg k2] at hq
   repeat' ((conv=>whnf);first|refine qw k1 ?_|refine qw k2 ?_|refine nT_ ?_|refine aS ?_|fail)
   (conv=>whnf)
   refine endN _ rfl rfl (fun q hq=>?_) hq
   have hm:=qX (b:=b) hq
   show cond (Nat.beq q 16) _ (cond (Nat.beq q 2) _ (cond (Nat.beq q 4) _ (gE 10 100 b q)))=cond (Nat.beq q 2) _ (cond (Nat.beq q 4) _ (b q))
   rw [eS (show q≠16 by omega),hm];rfl
 ·have hlv:(sG r).length=v.length:=by rw [← hv,List.length_map]
  rw [hlv]
  cases hok:okB v v.length with
  |false=>exact aI.absurd (n:=4) (m:=1) (ts:=[]) (by show some (BX.d 1 (if okB v v.length=true then [I 0] else []))=_;rw [hok];rfl) (by decide)
  |true=>
   rw [Bv hok]
   have ho:tD l v v.length=[(2,.d 1 [fds l]),(4,.d 1 [I 0])]:=by unfold tD;rw [hok];rfl
   rw [ho]
   refine Jk ?_
   repeat' ((conv=>whnf);first|refine aS ?_|fail)
   exact ⟨⟨⟨Nat.lt_succ_self 0,rfl⟩,trivial⟩,fun _ _=>trivial⟩
 ·rintro c cx o ⟨rfl,rfl,hne,rfl⟩
  refine Or.inl ⟨rfl,?_,fun _ _=>trivial⟩
  (conv=>whnf)
  exact ⟨⟨Nat.lt_succ_self 0,rfl⟩,trivial⟩
end Go.TY
end
section
namespace Go.TY
open Go Go.DL Go.MM Go.Proofs
theorem Ef (l:List ByteArray):DCalls Tryz.prog 166 [.slice 1 (l.map .str),.nil] (.bool (l.length==0)):=by
 refine qO (rs:=[.tmp 4]) mixed Tryz.func166 Mr rfl rfl rfl (r:=[.bool _]) (nlZ rfl) ?_
 cases l with
 |cons a l=>
  repeat' ((conv=>whnf);first|exact trivial|refine aN1 ?_|refine rb0 ?_|refine aS ?_|fail)
 |nil=>
  repeat' ((conv=>whnf);first|refine aN0 ?_|refine aS ?_|fail)
  refine rq (α:=Unit) (fun _=>{sl:=[(11,.t (.slice 1 [])),(12,.t (I 0)),(13,.t (I 0))],bx:=[]}) (fun _=>True) (fun _=>0) () trivial ?_ ?_
  ·repeat' (first|exact trivial|exact LeV.same _|exact rfl|exact fun _ _ _=>trivial|refine And.intro ?_ ?_)
  rintro _ _
  repeat' ((conv=>whnf);first|exact trivial|refine aD0 ?_|refine rb1 ?_|refine aS ?_|fail)
def vr (s:RS):Bool:=(s.kind==0)&&sC s.var e0&&sC s.field e0&&(s.n==0)&&(s.m==0)&&(s.key.length==0)
theorem EJ (s:RS):DCalls Tryz.prog 151 [.agg (sH s),.agg [I 0,.str e0,.nil,.str e0,I 0,I 0]] (.bool (vr s)):=by
 obtain ⟨k,v,l,f,n,m⟩:=s
 refine qO (rs:=[.tmp 4]) mixed Tryz.func151 Mh rfl rfl rfl (r:=[.bool _]) (nlZ rfl) ?_
 simp only [vr]
 have h1:=sI v e0
 have h2:=sI f e0
 have h3:=Ef l
 generalize sC v e0=a at *
 generalize sC f e0=b at *
 generalize (l.length==0)=z at *
 by_cases hk:k=0
 ·by_cases hn:n=0
  ·by_cases hm:m=0
   ·subst hk;subst hn;subst hm
    cases a <;> cases b <;> repeat' ((conv=>whnf);first|exact trivial|refine nb_ _ h1 ?_|refine nb_ _ h2 ?_|refine rE _ (h3) ?_|refine nT_ ?_|refine aE1 ?_|refine rb0 ?_|refine rbx ?_|refine aS ?_|fail)
   ·have e:(m==0)=false:=beq_false_of_ne hm
    rw [e,hk,hn]
    cases a <;> cases b <;> repeat' ((conv=>whnf);first|exact trivial|refine nb_ _ h1 ?_|refine nb_ _ h2 ?_|refine nT_ ?_|refine aE1 ?_|refine aE0 ?_|refine rb0 ?_|refine aS ?_|fail)
  ·have e:(n==0)=false:=beq_false_of_ne hn
   rw [e,hk]
   cases a <;> cases b <;> repeat' ((conv=>whnf);first|exact trivial|refine nb_ _ h1 ?_|refine nb_ _ h2 ?_|refine nT_ ?_|refine aE1 ?_|refine aE0 ?_|refine rb0 ?_|refine aS ?_|fail)
 ·have e:(k==0)=false:=beq_false_of_ne hk
  rw [e]
  repeat' ((conv=>whnf);first|exact trivial|refine nT_ ?_|refine aE0 ?_|refine rb0 ?_|refine aS ?_|fail)
def uD (k:Int) (br e nd:Bool) (n m:Int):Bool:=
 if k=1 then br&&(e||nd)
 else if k=2 then br&&e
 else if k=3 then uP n&&(m==0)&&e
 else if k=4 then nd&&tQ n&&tQ m&&decide (n≤m)
 else if k=5 then br&&nd
 else if k=6 then e&&decide (n≥1)&&tQ n&&decide (m≥1)&&uP m
 else false
def okS (s:RS):Bool:=vr s||(uz s.var&&decide (1≤s.key.length)&&decide (s.key.length≤4)&&s.key.all sV&&uD s.kind ((s.n==0)&&(s.m==0)) (sC s.field e0) (sV s.field) s.n s.m)
def tu (s:RS):Int:=if okS s then 0 else 1
theorem Ei (s:RS) (hv:s.var.size<2^62) (hf:s.field.size<2^62) (hk: ∀k∈s.key,k.size<2^62) (hl:s.key.length<2^60):DCalls Tryz.prog 123 [.agg (sH s)] (.bool (okS s)):=by
 refine qO (rs:=[.tmp 2]) mixed Tryz.func123 LQ rfl rfl rfl (r:=[.bool _]) (nlZ rfl) ?_
 have h0:=EJ s
 unfold okS
 generalize vr s=z0 at *
 obtain ⟨k,v,l,f,n,m⟩:=s
 dsimp only at hv hf hk hl ⊢
 cases z0 with
 |true=>repeat' ((conv=>whnf);first|exact trivial|refine rE _ (h0) ?_|refine rb1 ?_|refine aS ?_|fail)
 |false=>
 rw [Bool.false_or]
 have h1:=AR v hv
 have h2:=zr l 141 l.length sV hl fun i h=>xP l[i] (hk _ (List.getElem_mem h))
 rw [show ((l.length:Int)==(l.length:Int))=true by simp,Bool.true_and] at h2
 have h3:=xP f hf
 have hE:=sI f e0
 have hvn:=xA n
 have hvm:=xA m
 have htn:=zb n
 have htm:=zb m
 have hlen:((l.map T.str).length:Int)=(l.length:Int):=by rw [List.length_map]
 generalize uz v=pv at *
 generalize l.all sV=al at *
 generalize sV f=nd at *
 generalize sC f e0=e at *
 repeat' ((conv=>whnf);first|refine rE _ (h0) ?_|refine aS ?_|fail)
 refine rA (β:=Unit) (fun _=>{sl:=[(1,.ptr 1 0),(31,.t (.bool (!(pv&&decide (1≤l.length)&&decide (l.length≤4)&&al))))],bx:=[(1,.d 6 (sH ⟨k,v,l,f,n,m⟩))]}) (fun _=>True) ?_ ?_
 ·have h2':DCalls Tryz.prog 153 [.slice 1 (l.map .str),I ((l.map T.str).length:Int),.clos 141 []] (.bool al):=by rw [hlen];exact h2
  by_cases c0:l.length=0
  ·have e0':((l.map T.str).length:Int)=0:=by omega
   rw [decide_eq_false (show ¬1≤l.length by omega),Bool.and_false,Bool.false_and,Bool.false_and]
   cases pv <;> repeat' ((conv=>whnf);first|refine rE _ (h1) ?_|refine qx e0' ?_|(exact ⟨(),trivial,by (repeat' (first|exact trivial|exact LeV.same _|exact LeB.same _|exact rfl|exact fun _ _ _=>trivial|refine And.intro ?_ ?_));done⟩)|refine nT_ ?_|refine aS ?_|fail)
  ·have e0':((l.map T.str).length:Int)≠0:=by omega
   rw [decide_eq_true (show 1≤l.length by omega),Bool.and_true]
   by_cases c4:l.length≤4
   ·have e4: ¬((l.map T.str).length:Int)>4:=by omega
    rw [decide_eq_true c4,Bool.and_true]
    cases pv <;> cases al <;> repeat' ((conv=>whnf);first|refine rE _ (h1) ?_|refine qw e0' ?_|refine qu e4 ?_|refine rE _ (h2') ?_|(exact ⟨(),trivial,by (repeat' (first|exact trivial|exact LeV.same _|exact LeB.same _|exact rfl|exact fun _ _ _=>trivial|refine And.intro ?_ ?_));done⟩)|refine nT_ ?_|refine aS ?_|fail)
   ·have e4:((l.map T.str).length:Int)>4:=by omega
    rw [decide_eq_false c4,Bool.and_false,Bool.false_and]
    cases pv <;> repeat' ((conv=>whnf);first|refine rE _ (h1) ?_|refine qw e0' ?_|refine qv e4 ?_|(exact ⟨(),trivial,by (repeat' (first|exact trivial|exact LeV.same _|exact LeB.same _|exact rfl|exact fun _ _ _=>trivial|refine And.intro ?_ ?_));done⟩)|refine nT_ ?_|refine aS ?_|fail)
 rintro _ _
 generalize (pv&&decide (1≤l.length)&&decide (l.length≤4)&&al)=g at *
 cases g with
 |false=>repeat' ((conv=>whnf);first|exact trivial|refine rb0 ?_|fail)
 |true=>
 rw [Bool.true_and]
 skip
 refine rA (β:=Unit) (fun _=>{sl:=[(1,.ptr 1 0),(3,.t (.bool ((n==0)&&(m==0))))],bx:=[(1,.d 6 (sH ⟨k,v,l,f,n,m⟩))]}) (fun _=>True) ?_ ?_
 ·by_cases hn:n=0
  ·by_cases hm:m=0
   ·rw [show ((n==0)&&(m==0))=true by simp [hn,hm]]
    repeat' ((conv=>whnf);first|refine qx hn ?_|refine qx hm ?_|(exact ⟨(),trivial,by (repeat' (first|exact trivial|exact LeV.same _|exact LeB.same _|exact rfl|exact fun _ _ _=>trivial|refine And.intro ?_ ?_));done⟩)|refine nT_ ?_|refine aS ?_|fail)
   ·rw [show ((n==0)&&(m==0))=false by simp [hm]]
    repeat' ((conv=>whnf);first|refine qx hn ?_|refine qw hm ?_|(exact ⟨(),trivial,by (repeat' (first|exact trivial|exact LeV.same _|exact LeB.same _|exact rfl|exact fun _ _ _=>trivial|refine And.intro ?_ ?_));done⟩)|refine nT_ ?_|refine aS ?_|fail)
  ·rw [show ((n==0)&&(m==0))=false by simp [hn]]
   repeat' ((conv=>whnf);first|refine qw hn ?_|(exact ⟨(),trivial,by (repeat' (first|exact trivial|exact LeV.same _|exact LeB.same _|exact rfl|exact fun _ _ _=>trivial|refine And.intro ?_ ?_));done⟩)|refine nT_ ?_|refine aS ?_|fail)
 rintro _ _
 unfold uD
 generalize ((n==0)&&(m==0))=br at *
 generalize tQ n=vn at *
 generalize tQ m=vm at *
 generalize uP n=tn at *
 generalize uP m=tm at *
 by_cases k1:k=1
 ·subst k1
  rw [if_pos rfl]
  cases br <;> cases e <;> repeat' ((conv=>whnf);first|exact trivial|refine nb_ _ hE ?_|refine rE _ (h3) ?_|refine nT_ ?_|refine aE1 ?_|refine rb1 ?_|refine rb0 ?_|refine rbx ?_|refine aS ?_|fail)
 rw [if_neg k1]
 by_cases k2:k=2
 ·subst k2
  rw [if_pos rfl]
  cases br <;> repeat' ((conv=>whnf);first|exact trivial|refine nb_ _ hE ?_|refine nT_ ?_|refine aE1 ?_|refine aE0 ?_|refine rb0 ?_|refine rbx ?_|refine aS ?_|fail)
 rw [if_neg k2]
 by_cases k3:k=3
 ·subst k3
  rw [if_pos rfl]
  by_cases hm:m=0
  ·rw [show (m==0)=true by simp [hm]]
   cases tn <;> repeat' ((conv=>whnf);first|exact trivial|refine nb_ _ hE ?_|refine rE _ (htn) ?_|refine qx hm ?_|refine nT_ ?_|refine aE1 ?_|refine aE0 ?_|refine rb0 ?_|refine rbx ?_|refine aS ?_|fail)
  ·rw [show (m==0)=false by simp [hm]]
   cases tn <;> repeat' ((conv=>whnf);first|exact trivial|refine rE _ (htn) ?_|refine qw hm ?_|refine nT_ ?_|refine aE1 ?_|refine aE0 ?_|refine rb0 ?_|refine aS ?_|fail)
 rw [if_neg k3]
 by_cases k4:k=4
 ·subst k4
  rw [if_pos rfl]
  cases nd <;> cases vn <;> cases vm <;> repeat' ((conv=>whnf);first|exact trivial|refine rE _ (h3) ?_|refine rE _ (hvn) ?_|refine rE _ (hvm) ?_|refine nT_ ?_|refine aE1 ?_|refine aE0 ?_|refine nD_ (fun hq=>?_) (fun hq=>?_)|refine rb1 ?_|refine rb0 ?_|refine aS ?_|fail)
 rw [if_neg k4]
 by_cases k5:k=5
 ·subst k5
  rw [if_pos rfl]
  cases br <;> repeat' ((conv=>whnf);first|exact trivial|refine rE _ (h3) ?_|refine nT_ ?_|refine aE1 ?_|refine aE0 ?_|refine rb0 ?_|refine rbx ?_|refine aS ?_|fail)
 rw [if_neg k5]
 by_cases k6:k=6
 ·subst k6
  rw [if_pos rfl]
  cases e <;> cases vn <;> repeat' ((conv=>whnf);first|exact trivial|refine nb_ _ hE ?_|refine rE _ (hvn) ?_|refine rE _ (htm) ?_|refine nT_ ?_|refine aE1 ?_|refine aE0 ?_|refine nD_ (fun hq=>?_) (fun hq=>?_)|refine rb0 ?_|refine rbx ?_|refine aS ?_|fail)
 rw [if_neg k6]
 repeat' ((conv=>whnf);first|exact trivial|refine nT_ ?_|refine aE0 ?_|refine rb0 ?_|refine aS ?_|fail)
theorem yF (s:RS) (h:SmS (2^60) s):DCalls Tryz.prog 79 [.agg (sH s)] (I (tu s)):=by
 refine qO (rs:=[.tmp 2]) mixed Tryz.func79 l79 rfl rfl rfl (r:=[.int _ _]) (nlZ rfl) ?_
 have h1:=Ei s (by have:=h.var;omega) (by have:=h.field;omega) (fun k hk=>by have:=h.keys k hk;omega) h.len
 unfold tu
 generalize okS s=b at *
 cases b <;> repeat' ((conv=>whnf);first|exact trivial|refine rE _ (h1) ?_|refine rix ?_|(refine And.intro (by first|(rfl;done)|fail) ?_)|fail)
def fz2 {α:Type} (f g:α→Int) (xs:List α):Int:=sQ (xs.flatMap fun x=>[f x,g x])
theorem BV {α:Type} {f g:α→Int}: ∀{xs:List α} {i:Nat} (h:i<xs.length),(∀ j (h:j<xs.length),j<i→f xs[j]=0∧g xs[j]=0)→f xs[i]≠0→fz2 f g xs=f xs[i]
 |x::xs,0,h,_,h0=>by simp at h0;simp [fz2,sQ,h0]
 |x::xs,i+1,h,hz,h0=>by
  have h1:=hz 0 (by simp) (by omega)
  simp only [List.getElem_cons_zero] at h1
  have:=BV (f:=f) (g:=g) (xs:=xs) (i:=i) (by simpa using h) (fun j hj hlt=>hz (j+1) (by simpa using hj) (by omega)) h0
  unfold fz2 at this ⊢
  simp only [List.flatMap_cons,List.cons_append,List.nil_append,sQ,h1.1,h1.2,ne_eq,not_true_eq_false,if_false,List.getElem_cons_succ]
  exact this
theorem BW {α:Type} {f g:α→Int}: ∀{xs:List α} {i:Nat} (h:i<xs.length),(∀ j (h:j<xs.length),j<i→f xs[j]=0∧g xs[j]=0)→f xs[i]=0→g xs[i]≠0→fz2 f g xs=g xs[i]
 |x::xs,0,h,_,hf,h0=>by simp at h0 hf;simp [fz2,sQ,h0,hf]
 |x::xs,i+1,h,hz,hf,h0=>by
  have h1:=hz 0 (by simp) (by omega)
  simp only [List.getElem_cons_zero] at h1
  have:=BW (f:=f) (g:=g) (xs:=xs) (i:=i) (by simpa using h) (fun j hj hlt=>hz (j+1) (by simpa using hj) (by omega)) hf h0
  unfold fz2 at this ⊢
  simp only [List.flatMap_cons,List.cons_append,List.nil_append,sQ,h1.1,h1.2,ne_eq,not_true_eq_false,if_false,List.getElem_cons_succ]
  exact this
theorem BU {α:Type} {f g:α→Int}: ∀{xs:List α},(∀ j (h:j<xs.length),f xs[j]=0∧g xs[j]=0)→fz2 f g xs=0
 |[],_=>rfl
 |x::xs,hz=>by
  have h1:=hz 0 (by simp)
  simp only [List.getElem_cons_zero] at h1
  have:=BU (f:=f) (g:=g) (xs:=xs) fun j hj=>hz (j+1) (by simpa using hj)
  unfold fz2 at this ⊢
  simp only [List.flatMap_cons,List.cons_append,List.nil_append,sQ,h1.1,h1.2,ne_eq,not_true_eq_false,if_false]
  exact this
def xi (gs:List RG):Int:=if gs.length>8 then 2 else fz2 (fun g=>tA g.pol) (fun g=>tu g.st) gs
abbrev z15:List T:=[I 0,I 0,.str ⟨#[]⟩,I 0,I 0,.nil,.str ⟨#[]⟩,I 0,.nil,I 0,.str ⟨#[]⟩,.nil,.str ⟨#[]⟩,I 0,I 0]
theorem uJ (g:RG):((aN z15 0 15 (sN g)).drop 0).take 9=sA g.pol:=by
 rw [mU (n:=15) rfl,List.drop_zero]
 unfold sN
 rw [← sE g.pol,List.take_left]
theorem wK (g:RG):((aN z15 0 15 (sN g)).drop 9).take 6=sH g.st:=by
 rw [mU (n:=15) rfl]
 unfold sN
 have e:(sA g.pol++sH g.st).drop 9=sH g.st:=by
  rw [← sE g.pol,List.drop_left]
 rw [e];rfl
theorem zp (gs:List RG) (hl:gs.length<2^60) (hg: ∀g∈gs,SmG (2^59) g):DCalls Tryz.prog 95 [.slice 15 (gs.map tP)] (I (xi gs)):=by
 refine qO (rs:=[.tmp 2]) mixed Tryz.func95 l95 rfl rfl rfl (r:=[.int _ _]) (nlZ rfl) ?_
 have hlen:((gs.map tP).length:Int)=(gs.length:Int):=by rw [List.length_map]
 unfold xi
 by_cases h8:gs.length>8
 ·rw [if_pos h8]
  have e8:((gs.map tP).length:Int)>8:=by omega
  repeat' ((conv=>whnf);first|exact trivial|refine qv e8 ?_|refine rix ?_|refine aS ?_|fail)
 rw [if_neg h8]
 have e8: ¬((gs.map tP).length:Int)>8:=by omega
 repeat' ((conv=>whnf);first|refine qu e8 ?_|refine aS ?_|fail)
 refine rq (α:=Nat) (fun i=>{sl:=[(10,.t (.slice 15 (gs.map tP))),(11,.t (I gs.length)),(12,.t (I i))],bx:=[]})
  (fun i=>i≤gs.length∧ ∀j (h:j<gs.length),j<i→tA gs[j].pol=0∧tu gs[j].st=0) (fun i=>gs.length - i) 0 (by simp) ?_ ?_
 ·repeat' (first|(exact leI (by simp))|exact trivial|exact LeV.same _|exact rfl|exact fun _ _ _=>trivial|refine And.intro ?_ ?_)
 rintro i ⟨hi,hp⟩
 rcases Nat.lt_or_ge i gs.length with h|h
 ·have hm:=hg gs[i] (List.getElem_mem h)
  have h1:=xT gs[i].pol (by have:=hm.wt;omega) (hm.names (by omega))
  have h2:=yF gs[i].st (hm.st.mono (by omega))
  have e0:gs[i]? =some gs[i]:=ggZ h
  by_cases c1:tA gs[i].pol=0
  ·rw [c1] at h1
   by_cases c2:tu gs[i].st=0
   ·rw [c2] at h2
    repeat' ((conv=>whnf);first|(refine nv_ (.agg (sN gs[i])) (by first|((simp [h];rfl);done)|fail) ?_)|(refine nv_ (.agg (sA gs[i].pol)) (by first|(exact congrArg T.agg (uJ gs[i]);done)|fail) ?_)|(refine nv_ (.agg (sH gs[i].st)) (by first|(exact congrArg T.agg (wK gs[i]);done)|fail) ?_)|refine rE _ (h1) ?_|refine rE _ (h2) ?_|refine aN0 ?_|refine aD1 ?_|(refine And.intro (by first|exact ⟨sS _,nlZ rfl⟩|exact sS _|fail) ?_)|refine aS ?_|fail)
    refine ⟨i+1,⟨h,fun j hj hlt=>?_⟩,by omega,?_⟩
    ·rcases Nat.lt_or_ge j i with h4|h4
     ·exact hp j hj h4
     ·obtain rfl:j=i:=by omega
      exact ⟨c1,c2⟩
    ·repeat' (first|exact trivial|exact LeV.same _|exact rfl|exact fun _ _ _=>trivial|exact lI|refine And.intro ?_ ?_)
   ·have e:=BW (f:=fun g:RG=>tA g.pol) (g:=fun g=>tu g.st) h hp c1 c2
    rw [e]
    generalize tu gs[i].st=x at *
    repeat' ((conv=>whnf);first|exact trivial|(refine nv_ (.agg (sN gs[i])) (by first|((simp [h];rfl);done)|fail) ?_)|(refine nv_ (.agg (sA gs[i].pol)) (by first|(exact congrArg T.agg (uJ gs[i]);done)|fail) ?_)|(refine nv_ (.agg (sH gs[i].st)) (by first|(exact congrArg T.agg (wK gs[i]);done)|fail) ?_)|refine rE _ (h1) ?_|refine rE _ (h2) ?_|refine aN1 ?_|refine aN0 ?_|refine aD1 ?_|refine rix ?_|(refine And.intro (by first|exact ⟨sS _,nlZ rfl⟩|exact sS _|fail) ?_)|refine aS ?_|fail)
  ·have e:=BV (f:=fun g:RG=>tA g.pol) (g:=fun g=>tu g.st) h hp c1
   rw [e]
   generalize tA gs[i].pol=x at *
   repeat' ((conv=>whnf);first|exact trivial|(refine nv_ (.agg (sN gs[i])) (by first|((simp [h];rfl);done)|fail) ?_)|(refine nv_ (.agg (sA gs[i].pol)) (by first|(exact congrArg T.agg (uJ gs[i]);done)|fail) ?_)|refine rE _ (h1) ?_|refine aN1 ?_|refine aD1 ?_|refine rix ?_|(refine And.intro (by first|exact ⟨sS _,nlZ rfl⟩|exact sS _|fail) ?_)|refine aS ?_|fail)
 ·rw [BU fun j hj=>hp j hj (by omega)]
  repeat' ((conv=>whnf);first|exact trivial|refine aD0 ?_|refine rix ?_|refine aS ?_|fail)
end Go.TY
end
section
namespace Go.TY
open Go Go.DL Go.MM Go.Proofs
def s8 (l:List Fd) (s:ByteArray):Bool:=(findF l s).isSome
theorem BE (l:List Fd) (hl:LOk l) (s:ByteArray):DCalls Tryz.prog 80 [.str s,.cptr [fds l] 0] (.bool (s8 l s)):=by
 refine qO (rs:=[.tmp 3]) mixed Tryz.func80 l80 rfl rfl rfl (r:=[.bool _]) (nlZ rfl) ?_
 have h74:=t74 l s hl.len
 unfold uU at h74
 unfold s8
 cases hF:findF l s with
 |none=>
  rw [hF] at h74
  dsimp only at h74
  repeat' ((conv=>whnf);first|exact trivial|refine rE _ (h74) ?_|refine nT_ ?_|refine rb0 ?_|refine aS ?_|fail)
 |some F=>
  rw [hF] at h74
  dsimp only at h74
  repeat' ((conv=>whnf);first|exact trivial|refine rE _ (h74) ?_|refine nT_ ?_|refine rb1 ?_|refine aS ?_|fail)
theorem HR (xs:List ByteArray) (f:FuncId) (c:T) (p:ByteArray→Bool) (hl:xs.length<2^60) (hc: ∀x∈xs,DCalls Tryz.prog f [.str x,c] (.bool (p x))):
  DCalls Tryz.prog 81 [.slice 1 (xs.map .str),.clos f [c]] (.bool (xs.all p)):=by
 refine qO (rs:=[.tmp 4]) mixed Tryz.func81 l81 rfl rfl rfl (r:=[.bool _]) (nlZ rfl) ?_
 have h1: ∀(i:Nat) (h:i<xs.length),DCalls Tryz.prog 125 [.str xs[i],.cptr [.clos f [c]] 0] (.bool (!p xs[i])):=fun i h=>by
  refine qO (rs:=[.tmp 3]) mixed Tryz.func125 LS rfl rfl rfl (r:=[.bool _]) (nlZ rfl) ?_
  have h2:=hc xs[i] (List.getElem_mem h)
  repeat' ((conv=>whnf);first|exact trivial|refine rE _ (h2) ?_|refine nT_ ?_|refine rbx ?_|refine aS ?_|fail)
 have h2:=ye xs 125 (.cptr [.clos f [c]] 0) (fun x=> !p x) hl h1
 have e:xs.all p= !(xs.any fun x=> !p x):=by rw [List.all_eq_not_any_not]
 rw [e]
 generalize (xs.any fun x=> !p x)=b at *
 repeat' ((conv=>whnf);first|exact trivial|refine rE _ (h2) ?_|refine rbx ?_|refine aS ?_|fail)
theorem F9 (xs:List ByteArray) (s:ByteArray) (hl:xs.length<2^60):DCalls Tryz.prog 126 [.slice 1 (xs.map .str),.str s] (I (vi (fun x=>sC s x) xs)):=by
 refine qO (rs:=[.tmp 4]) mixed Tryz.func126 LU rfl rfl rfl (r:=[.int _ _]) (nlZ rfl) ?_
 skip
 refine rq (α:=Nat) (fun i=>{sl:=[(0,.t (.slice 1 (xs.map .str))),(1,.t (.str s)),(6,.t (.slice 1 (xs.map .str))),(7,.t (I xs.length)),(8,.t (I i))],bx:=[]})
  (fun i=>i≤xs.length∧ ∀j (h:j<xs.length),j<i→(fun x=>sC s x) xs[j]=false) (fun i=>xs.length - i) 0 (by simp) ?_ ?_
 ·repeat' (first|(exact leI (by simp))|exact trivial|exact LeV.same _|exact rfl|exact fun _ _ _=>trivial|refine And.intro ?_ ?_)
 rintro i ⟨hi,hp⟩
 rcases Nat.lt_or_ge i xs.length with h|h
 ·have hE:=sI s xs[i]
  cases hb:sC s xs[i] with
  |true=>
   rw [hb] at hE
   rw [yo (p:=fun x=>sC s x) h hb hp]
   repeat' ((conv=>whnf);first|exact trivial|(refine nv_ (.str xs[i]) (by first|(simp [h];done)|fail) ?_)|refine nb_ _ hE ?_|refine nT_ ?_|refine aD1 ?_|refine rix ?_|refine aS ?_|fail)
  |false=>
   rw [hb] at hE
   repeat' ((conv=>whnf);first|(refine nv_ (.str xs[i]) (by first|(simp [h];done)|fail) ?_)|refine nb_ _ hE ?_|refine nT_ ?_|refine aD1 ?_|refine aS ?_|fail)
   refine ⟨i+1,⟨h,fun j hj hlt=>?_⟩,by omega,?_⟩
   ·rcases Nat.lt_or_ge j i with h4|h4
    ·exact hp j hj h4
    ·obtain rfl:j=i:=by omega
     exact hb
   ·repeat' (first|exact trivial|exact LeV.same _|exact rfl|exact fun _ _ _=>trivial|exact lI|refine And.intro ?_ ?_)
 ·rw [yp (p:=fun x=>sC s x) fun j hj=>hp j hj (by omega)]
  repeat' ((conv=>whnf);first|exact trivial|refine aD0 ?_|refine rix ?_|refine aS ?_|fail)
theorem CR (xs:List ByteArray) (s:ByteArray) (hl:xs.length<2^60):DCalls Tryz.prog 82 [.slice 1 (xs.map .str),.str s] (.bool (xs.any fun x=>sC s x)):=by
 refine qO (rs:=[.tmp 4]) mixed Tryz.func82 l82 rfl rfl rfl (r:=[.bool _]) (nlZ rfl) ?_
 have h1:=F9 xs s hl
 rw [xJ (fun x=>sC s x) xs]
 generalize vi (fun x=>sC s x) xs=k at *
 repeat' ((conv=>whnf);first|exact trivial|refine rE _ (h1) ?_|refine nD_ (fun hq=>?_) (fun hq=>?_)|refine rb1 ?_|refine rb0 ?_|refine aS ?_|fail)
def vK (ks:List ByteArray) (i:Nat):Bool:=(ks.take i).any fun x=>sC (ks.getD i e0) x
def xI (ks:List ByteArray):Bool:=(List.range ks.length).any (vK ks)
def Ac (l:List Fd) (k:Int) (f:ByteArray) (m:Int):Int:=match findF l f with
 |none=>0
 |some F=>if k=4∧m>((2^F.w - 1:Nat):Int) then 1 else 0
def tT (l:List Fd) (s:RS):Int:=
 if tu s≠0 then tu s
 else if s.kind=0 then 0
 else if (!sC s.field e0&& !s8 l s.field)|| !s.key.all (s8 l) then 4
 else if xI s.key then 1
 else Ac l s.kind s.field s.m
theorem zM {s:RS} (h:tu s=0) (hk:s.kind=4):sC s.field e0=false:=by
 unfold tu at h
 have h1:okS s=true:=by
  cases e:okS s with
  |true=>rfl
  |false=>rw [e] at h;simp at h
 unfold okS at h1
 have h2:vr s=false:=by unfold vr;rw [hk];rfl
 rw [h2,Bool.false_or] at h1
 simp only [Bool.and_eq_true] at h1
 have h3:=h1.2
 unfold uD at h3
 rw [hk] at h3
 simp only [show ¬((4:Int)=1) by omega,show ¬((4:Int)=2) by omega,show ¬((4:Int)=3) by omega,if_false,if_true,Bool.and_eq_true] at h3
 exact xL h3.1.1.1
theorem AS (l:List Fd) (hl:LOk l) (s:RS) (h:SmS (2^59) s):DCalls Tryz.prog 19 [fds l,.agg (sH s)] (I (tT l s)):=by
 refine qO (rs:=[.tmp 4]) mixed Tryz.func19 l19 rfl rfl rfl (r:=[.int _ _]) (nlZ rfl) ?_
 have h1:=yF s (h.mono (by omega))
 have h4f:=fun h hk=>@zM s h hk
 have hkl:=h.len
 unfold tT
 by_cases c0:tu s=0
 case neg=>
  rw [if_pos c0]
  generalize tu s=e at *
  obtain ⟨k,v,ks,f,n,m⟩:=s
  repeat' ((conv=>whnf);first|exact trivial|refine rE _ (h1) ?_|refine aN1 ?_|refine rix ?_|refine aS ?_|fail)
 rw [c0] at h1
 have h4f:=h4f c0
 rw [if_neg (by simpa using c0)]
 clear c0
 obtain ⟨k,v,ks,f,n,m⟩:=s
 dsimp only at hkl h4f ⊢
 by_cases k0:k=0
 ·rw [if_pos k0]
  repeat' ((conv=>whnf);first|exact trivial|refine rE _ (h1) ?_|refine qx k0 ?_|refine nT_ ?_|refine aN0 ?_|refine rix ?_|refine aS ?_|fail)
 rw [if_neg k0]
 have hf:=BE l hl f
 have hks:=HR ks 80 (.cptr [fds l] 0) (s8 l) (by omega) fun x _=>BE l hl x
 have hE:=sI f e0
 generalize ks.all (s8 l)=al at *
 repeat' ((conv=>whnf);first|refine rE _ (h1) ?_|refine qw k0 ?_|refine nT_ ?_|refine aN0 ?_|refine aS ?_|fail)
 refine rA (β:=Unit) (fun _=>{sl:=[(2,.ptr 2 0),(3,.ptr 3 0),(38,.t (.bool ((!sC f e0&& !s8 l f)|| !al)))],bx:=[(2,.d 1 [fds l]),(3,.d 6 (sH ⟨k,v,ks,f,n,m⟩))]}) (fun _=>True) ?_ ?_
 ·generalize s8 l f=fb at *
  generalize sC f e0=b at *
  have hN:(!(f.toList==e0.toList))= !b:=by rw [hE]
  cases b <;> cases fb <;> cases al <;> repeat' ((conv=>whnf);first|refine nb_ _ hN ?_|refine rE _ (hf) ?_|refine rE _ (hks) ?_|(exact ⟨(),trivial,by (repeat' (first|exact trivial|exact LeV.same _|exact LeB.same _|exact rfl|exact fun _ _ _=>trivial|refine And.intro ?_ ?_));done⟩)|refine nT_ ?_|refine aS ?_|fail)
 rintro _ _
 have hgood:((!sC f e0&& !s8 l f)|| !al)=false→k=4→s8 l f=true:=fun hb k4=>by
  rw [h4f k4] at hb
  cases hfb:s8 l f with
  |true=>rfl
  |false=>rw [hfb] at hb;simp at hb
 generalize ((!sC f e0&& !s8 l f)|| !al)=bad at *
 cases bad with
 |true=>repeat' ((conv=>whnf);first|exact trivial|refine rix ?_|fail)
 |false=>
 repeat' ((conv=>whnf);first|refine nT_ ?_|refine aS ?_|fail)
 refine qZ 0 (α:=Nat) (β:=Unit) (fun i=>{sl:=[(2,.ptr 2 0),(3,.ptr 3 0),(40,.t (.slice 1 (ks.map .str))),(41,.t (I ks.length)),(42,.t (I i))],bx:=[(2,.d 1 [fds l]),(3,.d 6 (sH ⟨k,v,ks,f,n,m⟩))]})
  (fun i=>i≤ks.length∧ ∀j,j<i→vK ks j=false) (fun i=>ks.length - i)
  (fun _=>{sl:=[(2,.ptr 2 0),(3,.ptr 3 0)],bx:=[(2,.d 1 [fds l]),(3,.d 6 (sH ⟨k,v,ks,f,n,m⟩))]}) (fun _=>xI ks=false) 0 (by simp) ?_ ?_ ?_
 ·repeat' (first|(exact leI (by simp))|exact trivial|exact LeV.same _|exact LeB.same _|exact rfl|exact fun _ _ _=>trivial|refine And.intro ?_ ?_)
 ·rintro i ⟨hi,hp⟩
  rcases Nat.lt_or_ge i ks.length with h|h
  ·have hc:=CR (ks.take i) ks[i] (by rw [List.length_take];omega)
   have hd:vK ks i=(ks.take i).any fun x=>sC ks[i] x:=by unfold vK;rw [List.getD_eq_getElem?_getD,ggZ h];rfl
   rw [← hd] at hc
   cases hb:vK ks i with
   |true=>
    rw [hb] at hc
    have e:xI ks=true:=List.any_eq_true.2 ⟨i,List.mem_range.2 h,hb⟩
    rw [e]
    repeat' ((conv=>whnf);first|exact trivial|(refine nv_ (.str ks[i]) (by first|(simp [h];done)|fail) ?_)|(refine nv_ (.slice 1 ((ks.take i).map .str)) (by first|(simp;done)|fail) ?_)|refine rE _ (hc) ?_|refine nT_ ?_|refine aD1 ?_|refine rix ?_|(refine And.intro (by first|((simp;omega);done)|fail) ?_)|refine aS ?_|fail)
   |false=>
    rw [hb] at hc
    repeat' ((conv=>whnf);first|(refine nv_ (.str ks[i]) (by first|(simp [h];done)|fail) ?_)|(refine nv_ (.slice 1 ((ks.take i).map .str)) (by first|(simp;done)|fail) ?_)|refine rE _ (hc) ?_|refine nT_ ?_|refine aD1 ?_|(refine And.intro (by first|((simp;omega);done)|fail) ?_)|refine aS ?_|fail)
    refine ⟨i+1,⟨h,fun j hj=>?_⟩,by omega,?_⟩
    ·rcases Nat.lt_or_ge j i with h4|h4
     ·exact hp j h4
     ·obtain rfl:j=i:=by omega
      exact hb
    ·repeat' (first|exact trivial|exact LeV.same _|exact LeB.same _|exact rfl|exact fun _ _ _=>trivial|exact lI|refine And.intro ?_ ?_)
  ·repeat' ((conv=>whnf);first|refine aD0 ?_|refine aS ?_|fail)
   refine ⟨(),?_,?_⟩
   ·unfold xI
    rw [List.any_eq_false]
    intro j hj
    rw [hp j (by have:=List.mem_range.1 hj;omega)];simp
   ·repeat' (first|exact trivial|exact LeV.same _|exact LeB.same _|exact rfl|exact fun _ _ _=>trivial|refine And.intro ?_ ?_)
 ·rintro _ hd
  rw [hd]
  simp only [Bool.false_eq_true,if_false]
  have h74:=t74 l f hl.len
  unfold uU at h74
  have hy:Ac l k f m=match findF l f with
   |none=>0
   |some F=>if k=4∧m>((2^F.w - 1:Nat):Int) then 1 else 0:=rfl
  generalize Ac l k f m=y at *
  cases hF:findF l f with
  |none=>
   rw [hF] at h74 hy
   dsimp only at h74 hy
   subst hy
   by_cases k4:k=4
   ·have:=hgood rfl k4
    unfold s8 at this
    rw [hF] at this;cases this
   ·repeat' ((conv=>whnf);first|exact trivial|refine rE _ (h74) ?_|refine qw k4 ?_|refine nT_ ?_|refine rix ?_|refine aS ?_|fail)
  |some F=>
   rw [hF] at h74 hy
   dsimp only at h74 hy
   have h97:=t97 F (hl.find hF)
   generalize (2^F.w - 1:Nat)=M at *
   by_cases k4:k=4
   ·by_cases hm:m>(M:Int)
    ·rw [if_pos ⟨k4,hm⟩] at hy
     subst hy
     repeat' ((conv=>whnf);first|exact trivial|refine rE _ (h74) ?_|refine qx k4 ?_|refine rE _ (h97) ?_|refine qv hm ?_|refine nT_ ?_|refine rix ?_|refine aS ?_|fail)
    ·rw [if_neg (fun h=>hm h.2)] at hy
     subst hy
     repeat' ((conv=>whnf);first|exact trivial|refine rE _ (h74) ?_|refine qx k4 ?_|refine rE _ (h97) ?_|refine qu hm ?_|refine nT_ ?_|refine rix ?_|refine aS ?_|fail)
   ·rw [if_neg (fun h=>k4 h.1)] at hy
    subst hy
    repeat' ((conv=>whnf);first|exact trivial|refine rE _ (h74) ?_|refine qw k4 ?_|refine nT_ ?_|refine rix ?_|refine aS ?_|fail)
end Go.TY
end
section
namespace Go.TY
open Go Go.DL Go.MM
abbrev wA:RP:=.mk 0 e0 0 0 []
def xQ (k:Int) (x y:RO):RO:=.mk k wA e0 0 [x,y]
end Go.TY
end
section
namespace Go.TY
open Go Go.DL Go.MM Go.Proofs
theorem Ey {k:Int} {p:RP} {f:ByteArray} {n:Int} (h:okO k p f n=true):k=1∨k=2∨k=3∨k=4∨k=5:=by
 unfold okO at h
 by_cases h1:k=1
 ·exact Or.inl h1
 rw [if_neg h1] at h
 by_cases h2:k=2
 ·exact Or.inr (Or.inl h2)
 rw [if_neg h2] at h
 by_cases h3:k=3∨k=4∨k=5
 ·exact Or.inr (Or.inr h3)
 ·rw [if_neg h3] at h;cases h
theorem HQ (N:Nat): ∀r:RO,r.wt≤N→sR r=true→DCalls Tryz.prog 30 [.agg (sA r)] (I (ua r)):=by
 induction N with
 |zero=>intro r h;obtain ⟨k,p,f,n,a⟩:=r;simp only [RO.wt] at h;omega
 |succ N ih=>
  rintro ⟨k,⟨pk,pf,pn,pm,pa⟩,f,n,l⟩ hr hf
  refine qO (rs:=[.tmp 2]) mixed Tryz.func30 l30 rfl rfl rfl (r:=[.int _ _]) (nlZ rfl) ?_
  simp only [RO.wt] at hr
  simp only [sR,Bool.and_eq_true] at hf
  obtain ⟨⟨f1,f2⟩,f3⟩:=hf
  have f2:l.length=wh k:=by simpa using f2
  have hc:=Ey f1
  by_cases h3:k=3∨k=4
  ·have h2:l.length=2:=by rw [f2];unfold wh;rw [if_pos h3]
   obtain ⟨x,y,rfl⟩: ∃x y,l=[x,y]:=by
    match l,h2 with
    |[x,y],_=>exact ⟨x,y,rfl⟩
   simp only [th,Bool.and_eq_true] at f3
   simp only [tl] at hr
   have hx:=ih x (by omega) f3.1
   have hy:=ih y (by omega) f3.2.1
   have hlx:=zN x
   have hly:=zN y
   have hm:=Nat.mul_le_mul hlx hly
   rw [ua]
   simp only [vZ,List.getD_cons_zero,List.getD_cons_succ]
   have hp:((ua x * ua y:Nat):Int)=(ua x:Int) * (ua y:Int):=Int.natCast_mul _ _
   generalize ua x * ua y=pr at *
   generalize ua x=cx at *
   generalize ua y=cy at *
   rcases h3 with rfl|rfl
   ·rw [if_pos rfl]
    repeat' ((conv=>whnf);first|exact trivial|(refine nv_ (.agg (sA x)) (by first|exact sJ x|fail) ?_)|(refine nv_ (.agg (sA y)) (by first|exact sJ y|fail) ?_)|refine rE _ (hx) ?_|refine rE _ (hy) ?_|refine nT_ ?_|refine aE1 ?_|refine rix ?_|(refine And.intro (by first|exact sE _|fail) ?_)|refine aS ?_|fail)
   ·rw [if_neg (by omega),if_pos rfl]
    repeat' ((conv=>whnf);first|exact trivial|(refine nv_ (.agg (sA x)) (by first|exact sJ x|fail) ?_)|(refine nv_ (.agg (sA y)) (by first|exact sJ y|fail) ?_)|refine rE _ (hx) ?_|refine rE _ (hy) ?_|refine nT_ ?_|refine aE1 ?_|refine aE0 ?_|refine rix ?_|(refine And.intro (by first|exact sE _|fail) ?_)|refine aS ?_|fail)
  by_cases h5:k=5
  ·subst h5
   have h2:l.length=1:=by rw [f2];rfl
   obtain ⟨x,rfl⟩: ∃x,l=[x]:=by
    match l,h2 with
    |[x],_=>exact ⟨x,rfl⟩
   simp only [th,Bool.and_eq_true] at f3
   simp only [tl] at hr
   have hx:=ih x (by omega) f3.1
   rw [ua]
   simp only [vZ,List.getD_cons_zero,show ¬((5:Int)=3) by omega,show ¬((5:Int)=4) by omega,if_false,if_true]
   generalize ua x=cx at *
   by_cases h0:cx=0
   ·subst h0
    rw [if_pos rfl]
    repeat' ((conv=>whnf);first|exact trivial|(refine nv_ (.agg (sA x)) (by first|exact sJ x|fail) ?_)|refine rE _ (hx) ?_|refine nT_ ?_|refine aE1 ?_|refine aE0 ?_|refine rix ?_|(refine And.intro (by first|exact sE _|fail) ?_)|refine aS ?_|fail)
   ·rw [if_neg h0]
    repeat' ((conv=>whnf);first|exact trivial|(refine nv_ (.agg (sA x)) (by first|exact sJ x|fail) ?_)|refine rE _ (hx) ?_|refine nT_ ?_|refine aE1 ?_|refine aE0 ?_|refine rix ?_|(refine And.intro (by first|exact sE _|fail) ?_)|refine aS ?_|fail)
  rw [ua,if_neg (by omega),if_neg (by omega),if_neg h5]
  show wpC _ _ _ (nW _ _ [I ((if k=1∧pk=2 then 0 else 1:Nat):Int)])
  by_cases h1:k=1
  ·by_cases hp:pk=2
   ·rw [if_pos ⟨h1,hp⟩]
    repeat' ((conv=>whnf);first|exact trivial|refine qx h1 ?_|refine qx hp ?_|refine nT_ ?_|refine aE0 ?_|refine rix ?_|refine aS ?_|fail)
   ·rw [if_neg (fun h=>hp h.2)]
    repeat' ((conv=>whnf);first|exact trivial|refine qx h1 ?_|refine qw hp ?_|refine nT_ ?_|refine aE0 ?_|refine rix ?_|refine aS ?_|fail)
  ·rw [if_neg (fun h=>h1 h.1)]
   repeat' ((conv=>whnf);first|exact trivial|refine qw h1 ?_|refine nT_ ?_|refine aE0 ?_|refine rix ?_|refine aS ?_|fail)
theorem ED (a b:List Int) (hl:a.length<2^60):DCalls Tryz.prog 99 [.slice 1 (a.map I),.slice 1 (b.map I)] (.bool (a==b)):=by
 refine qO (rs:=[.tmp 4]) mixed Tryz.func99 l99 rfl rfl rfl (r:=[.bool _]) (nlZ rfl) ?_
 have ha:((a.map I).length:Int)=a.length:=by rw [List.length_map]
 have hb:((b.map I).length:Int)=b.length:=by rw [List.length_map]
 by_cases hab:a.length=b.length
 case neg=>
  have e:(a==b)=false:=beq_false_of_ne fun e=>hab (by rw [e])
  rw [e]
  have hn:((a.map I).length:Int)≠((b.map I).length:Int):=by omega
  repeat' ((conv=>whnf);first|exact trivial|refine qz hn ?_|refine rb0 ?_|refine aS ?_|fail)
 have hn:((a.map I).length:Int)=((b.map I).length:Int):=by omega
 repeat' ((conv=>whnf);first|refine qy hn ?_|refine aS ?_|fail)
 refine rq (α:=Nat) (fun i=>{sl:=[(0,.t (.slice 1 (a.map I))),(1,.t (.slice 1 (b.map I))),(11,.t (.slice 1 (a.map I))),(12,.t (I a.length)),(13,.t (I i))],bx:=[]})
  (fun i=>i≤a.length∧ ∀j (h:j<a.length) (h':j<b.length),j<i→a[j]=b[j]) (fun i=>a.length - i) 0 (by simp) ?_ ?_
 ·repeat' (first|(exact leI (by simp))|exact trivial|exact LeV.same _|exact rfl|exact fun _ _ _=>trivial|refine And.intro ?_ ?_)
 rintro i ⟨hi,hp⟩
 rcases Nat.lt_or_ge i a.length with h|h
 ·have h':i<b.length:=by omega
  by_cases he:a[i]=b[i]
  ·repeat' ((conv=>whnf);first|(refine nv_ (I a[i]) (by first|(simp [h];done)|fail) ?_)|(refine nv_ (I b[i]) (by first|(simp [h'];done)|fail) ?_)|refine qy he ?_|refine nT_ ?_|refine aD1 ?_|refine aS ?_|fail)
   refine ⟨i+1,⟨h,fun j hj hj' hlt=>?_⟩,by omega,?_⟩
   ·rcases Nat.lt_or_ge j i with h4|h4
    ·exact hp j hj hj' h4
    ·obtain rfl:j=i:=by omega
     exact he
   ·repeat' (first|exact trivial|exact LeV.same _|exact rfl|exact fun _ _ _=>trivial|exact lI|refine And.intro ?_ ?_)
  ·have e:(a==b)=false:=beq_false_of_ne fun e=>he (by subst e;rfl)
   rw [e]
   repeat' ((conv=>whnf);first|exact trivial|(refine nv_ (I a[i]) (by first|(simp [h];done)|fail) ?_)|(refine nv_ (I b[i]) (by first|(simp [h'];done)|fail) ?_)|refine qz he ?_|refine nT_ ?_|refine aD1 ?_|refine rb0 ?_|refine aS ?_|fail)
 ·have e:(a==b)=true:=by
   have:a=b:=List.ext_getElem hab fun j h1 h2=>hp j h1 h2 (by omega)
   simp [this]
  rw [e]
  repeat' ((conv=>whnf);first|exact trivial|refine aD0 ?_|refine rb1 ?_|refine aS ?_|fail)
def xO (a b:RV):Bool:=sC a.name b.name&&(a.fam==b.fam)&&(a.n==b.n)&&(a.m==b.m)&&(a.ws==b.ws)
theorem yd {a b:RV}:xO a b=true↔a=b:=by
 obtain ⟨a1,a2,a3,a4,a5⟩:=a
 obtain ⟨b1,b2,b3,b4,b5⟩:=b
 unfold xO
 simp only [Bool.and_eq_true,sO,beq_iff_eq,RV.mk.injEq]
 exact ⟨fun h=>⟨h.1.1.1.1,h.1.1.1.2,h.2,h.1.1.2,h.1.2⟩,fun h=>⟨⟨⟨⟨h.1,h.2.1⟩,h.2.2.2.1⟩,h.2.2.2.2⟩,h.2.2.1⟩⟩
theorem EG (k:Int) (h:1≤k∧k≤6):DCalls Tryz.prog 137 [I k] (I (tS k)):=by
 refine qO (rs:=[.tmp 2]) mixed Tryz.func137 L5 rfl rfl rfl (r:=[.int _ _]) (nlZ rfl) ?_
 obtain rfl|rfl|rfl|rfl|rfl|rfl:k=1∨k=2∨k=3∨k=4∨k=5∨k=6:=by omega
 all_goals repeat' ((conv=>whnf);first|exact trivial|refine nT_ ?_|refine rix ?_|refine aS ?_|fail)
end Go.TY
end
section
namespace Go.TY
open Go Go.DL Go.Proofs
section
variable {α:Type} {enc:α→T} {d:α}
def um (enc:α→T) (d:α) (ks:List α) (xs:List T):Prop:= ∃js:List Nat,js.Perm (List.range ks.length)∧xs=js.map fun j=>enc (ks.getD j d)
abbrev zk (enc:α→T) (d:α) (ks:List α) (ix:List Nat):List T:=ix.map fun j=>enc (ks.getD j d)
abbrev esK (enc:α→T) (ks:List α) (vs:List T):List (T×T):=(ks.map enc).zip vs
theorem zi {ks:List α} {vs:List T} {j:Nat} {e:T×T} (h:(esK enc ks vs)[j]? =some e):e.1=enc (ks.getD j d)∧j<ks.length:=by
 rw [List.getElem?_zip_eq_some] at h
 obtain ⟨h1,_⟩:=h
 rw [List.getElem?_map,Option.map_eq_some_iff] at h1
 obtain ⟨k,hk,hk2⟩:=h1
 refine ⟨?_,(gsZ hk).1⟩
 rw [List.getD_eq_getElem?_getD,hk, ←hk2];rfl
theorem xN {ix:List Nat} {n:Nat} (hn:ix.Nodup) (hl: ∀j∈ix,j<n) (ha: ∀j,j<n→j∈ix):ix.Perm (List.range n):=
 (List.perm_ext_iff_of_nodup hn List.nodup_range).2 fun j=>⟨fun h=>List.mem_range.2 (hl j h),fun h=>ha j (List.mem_range.1 h)⟩
theorem yI (es:List (T×T)) (ix:List Nat) (j:Nat) (e:T×T) (h:es[j]? =some e):jY es (ix++[j])= .tup [e.1,e.2]:=by
 unfold jY
 rw [List.getLast?_concat]
 simp [h]
theorem uA {β:Type} {f:Nat→β} {n:Nat} {v:β} (h:f n=v):upd f n v=f:=by
 funext m
 by_cases e:m=n
 ·rw [e,ah,h]
 ·rw [ae _ _ _ _ e]
theorem ve {ks:List α} {xs:List T} (h:um enc d ks xs): ∃zs:List α,zs.Perm ks∧xs=zs.map enc:=by
 obtain ⟨js,hp,rfl⟩:=h
 refine ⟨js.map fun j=>ks.getD j d,?_,by simp⟩
 have h1:((List.range ks.length).map fun j=>ks.getD j d)=ks:=by
  apply List.ext_getElem?
  intro i
  rw [List.getElem?_map]
  by_cases h:i<ks.length
  ·simp [h]
  ·simp [h]
 have:=hp.map (fun j=>ks.getD j d)
 rwa [h1] at this
theorem zH (hc: ∀a,(enc a).cells=[enc a]): ∀zs:List α,(zs.map enc).flatMap T.cells=zs.map enc
 |[]=>rfl
 |z::zs=>by rw [List.map_cons,List.flatMap_cons,hc,zH hc zs];rfl
theorem vd (hc: ∀a,(enc a).cells=[enc a]) (hf: ∀a,(enc a).flat=true) (js:List Nat) (ks:List α): ∀t∈(js.map fun j=>enc (ks.getD j d)).flatMap T.cells,t.flat=true:=fun t ht=>by
 simp only [List.mem_flatMap,List.mem_map] at ht
 obtain ⟨x,⟨j,_,rfl⟩,hx⟩:=ht
 rw [hc,List.mem_singleton] at hx
 rw [hx];exact hf _
end
theorem yg: ∀(l:List T) (n:Nat),l.length=n→chunk 1 n l=l
 |[],0,_=>rfl
 |x::l,n+1,h=>by
  show x::chunk 1 n l=x::l
  rw [yg l n (by simpa using h)]
 |x::l,0,h=>by simp at h
 |[],n+1,h=>by simp at h
theorem vf {cs vs:List T} {n:Nat} (h:cs.length=n):aN cs 0 n vs=vs:=by simp [aN, ←h]
abbrev wY (x:List UInt8):T:=.str ⟨x.toArray⟩
theorem Bo (s:ByteArray):wY s.toList= .str s:=by
 unfold wY
 congr 1
 rw [ByteArray.toList_eq]
def vI (ks:List ByteArray):List ByteArray:=uo ltS ks
theorem yr {ks zs:List ByteArray} (hn:ks.Nodup) (hp:zs.Perm ks):((zs.map ByteArray.toList).mergeSort (fun x y=>decide (x≤y))).map wY=(vI ks).map T.str:=by
 have hpm:=List.mergeSort_perm (zs.map ByteArray.toList) (fun x y=>decide (x≤y))
 have hs:=List.pairwise_mergeSort (le:=fun x y:List UInt8=>decide (x≤y)) (fun a b c h1 h2=>by simp only [decide_eq_true_eq] at *;exact List.le_trans h1 h2) (fun a b=>by simp only [Bool.or_eq_true,decide_eq_true_eq];exact List.le_total a b) (zs.map ByteArray.toList)
 generalize (zs.map ByteArray.toList).mergeSort (fun x y=>decide (x≤y))=ys at *
 have e1: ∀y:List UInt8,(⟨y.toArray⟩:ByteArray).toList=y:=fun y=>by rw [ByteArray.toList_eq]
 have e2:ys.map wY=(ys.map fun y=>(⟨y.toArray⟩:ByteArray)).map T.str:=by rw [List.map_map];rfl
 rw [e2]
 congr 1
 have hpz:(ys.map fun y=>(⟨y.toArray⟩:ByteArray)).Perm zs:=by
  have:=hpm.map (fun y=>(⟨y.toArray⟩:ByteArray))
  rw [List.map_map] at this
  have e3:zs.map ((fun y=>(⟨y.toArray⟩:ByteArray)) ∘ ByteArray.toList)=zs:=by
   refine (List.map_congr_left fun z _=>?_).trans (List.map_id zs)
   show (⟨z.toList.toArray⟩:ByteArray)=z
   rw [ByteArray.toList_eq]
  rwa [e3] at this
 refine yE Ab ((hpz.trans hp).nodup_iff.2 hn) ?_ fun x=>(hpz.trans hp).mem_iff
 rw [List.pairwise_map]
 refine hs.imp fun {x y} h=>?_
 unfold ltS
 rw [e1,e1,Go.Proofs.bytesLess_eq]
 simp only [decide_eq_true_eq] at h
 exact decide_eq_false (List.not_lt.2 h)
def yL (ks:List Int):List Int:=uo ltI ks
theorem BB {ks zs:List Int} (hn:ks.Nodup) (hp:zs.Perm ks):(zs.mergeSort (fun x y=>decide (x≤y)))=yL ks:=by
 have hpm:=List.mergeSort_perm zs (fun x y=>decide (x≤y))
 have hs:=List.pairwise_mergeSort (le:=fun x y:Int=>decide (x≤y)) (fun a b c h1 h2=>by simp only [decide_eq_true_eq] at *;omega) (fun a b=>by simp only [Bool.or_eq_true,decide_eq_true_eq];omega) zs
 generalize zs.mergeSort (fun x y=>decide (x≤y))=ys at *
 refine yE Ew ((hpm.trans hp).nodup_iff.2 hn) (hs.imp fun {x y} h=>?_) fun x=>(hpm.trans hp).mem_iff
 simp only [decide_eq_true_eq] at h
 exact decide_eq_false (by omega)
end Go.TY
end
section
namespace Go.TY
open Go Go.DL Go.MM
theorem CW (a b:ByteArray):(a==b)=decide (a=b):=by
 obtain ⟨a⟩:=a
 obtain ⟨b⟩:=b
 by_cases h:a=b
 ·subst h
  rw [decide_eq_true rfl]
  show (a==a)=true
  simp
 ·rw [decide_eq_false (fun e=>h (ByteArray.mk.inj e))]
  show (a==b)=false
  exact beq_false_of_ne h
def esS (ks:List ByteArray):List (T×T):=ks.map fun s=>(T.str s,T.bool true)
def esI (ks:List Int):List (T×T):=ks.map fun s=>(T.int .i64 s,T.bool true)
theorem Ad (s:ByteArray): ∀ks:List ByteArray,bK (.str s) (.bool true) (esS ks)=esS (if s∈ks then ks else ks++[s])
 |[]=>by simp [esS,bK]
 |k::ks=>by
  have ih:=Ad s ks
  show cond (eqL (T.str s).cells (T.str k).cells) _ _=_
  have e:eqL (T.str s).cells (T.str k).cells=decide (s=k):=by
   show ((s==k)&&true)=_
   rw [Bool.and_true,CW]
  rw [e]
  by_cases h:s=k
  ·subst h
   rw [decide_eq_true rfl,if_pos (by simp)];rfl
  ·rw [decide_eq_false h,cond_false]
   show (T.str k,T.bool true)::bK (.str s) (.bool true) (esS ks)=_
   rw [ih]
   by_cases hm:s∈ks
   ·rw [if_pos hm,if_pos (by simp [hm])];rfl
   ·rw [if_neg hm,if_neg (by simp [h,hm])];rfl
theorem yS (s:Int): ∀ks:List Int,bK (.int .i64 s) (.bool true) (esI ks)=esI (if s∈ks then ks else ks++[s])
 |[]=>by simp [esI,bK]
 |k::ks=>by
  have ih:=yS s ks
  show cond (eqL (T.int .i64 s).cells (T.int .i64 k).cells) _ _=_
  have e:eqL (T.int .i64 s).cells (T.int .i64 k).cells=decide (s=k):=by
   show ((s==k)&&true)=_
   rw [Bool.and_true]
   by_cases h:s=k <;> simp [h]
  rw [e]
  by_cases h:s=k
  ·subst h
   rw [decide_eq_true rfl,if_pos (by simp)];rfl
  ·rw [decide_eq_false h,cond_false]
   show (T.int .i64 k,T.bool true)::bK (.int .i64 s) (.bool true) (esI ks)=_
   rw [ih]
   by_cases hm:s∈ks
   ·rw [if_pos hm,if_pos (by simp [hm])];rfl
   ·rw [if_neg hm,if_neg (by simp [h,hm])];rfl
section
variable {α:Type} [DecidableEq α]
theorem vE: ∀{l acc:List α},(once acc l).length≤acc.length+l.length
 |[],acc=>Nat.le_refl _
 |x::l,acc=>by
  unfold once
  have:=vE (l:=l) (acc:=if x∈acc then acc else acc++[x])
  rw [List.length_cons]
  split at this
  ·rw [if_pos (by assumption)];omega
  ·rw [List.length_append,List.length_singleton] at this
   rw [if_neg (by assumption)];omega
end
mutual
theorem xM: ∀r:RO,((sG r).flatMap uw).length≤r.wt
 |.mk k p f n a=>by
  have:=zz a
  rw [sG,List.flatMap_cons,List.length_append]
  have h:(uw (.mk k p f n a)).length≤p.nodes:=by
   unfold uw
   split
   ·show (tg p).length≤_
    rw [ux,uv];exact Nat.le_refl _
   ·simp
  simp only [RO.wt];omega
theorem zz: ∀l:List RO,((sU l).flatMap uw).length≤tl l
 |[]=>by simp [sU]
 |r::rs=>by
  have h1:=xM r
  have h2:=zz rs
  rw [sU,List.flatMap_append,List.length_append,tl];omega
end
theorem Ag (r:RO):tf r=B5 r:=by
 unfold tf B5
 rw [tc]
 congr 1
 funext o
 unfold uw G6
 split
 ·rw [ux]
 ·rfl
theorem wN {β γ:Type} {g:β→List γ}: ∀{xs:List β},(∀ x∈xs,(g x).length≤1)→(xs.flatMap g).length≤xs.length
 |[],_=>Nat.le_refl _
 |x::xs,h=>by
  have h1:=h x (by simp)
  have h2:=wN (xs:=xs) fun y hy=>h y (by simp [hy])
  rw [List.flatMap_cons,List.length_append,List.length_cons];omega
def ta {β γ:Type} (g:β→List γ) (xs:List β) (k:Nat):List γ:=(xs.take k).flatMap g
theorem vL {β γ:Type} {g:β→List γ} {xs:List β} {k:Nat} {x:β} (h:xs[k]? =some x):ta g xs (k+1)=ta g xs k++g x:=by
 obtain ⟨hl,rfl⟩:=gsZ h
 unfold ta
 rw [List.take_succ_eq_append_getElem hl,List.flatMap_append]
 simp
theorem wo {β γ:Type} {g:β→List γ} {xs:List β}:ta g xs xs.length=xs.flatMap g:=by
 unfold ta;rw [List.take_length]
end Go.TY
end
section
namespace Go.TYV
open Go Go.DL Go.Proofs
noncomputable def c96:aY:=(.seq (.region [oo 4 (.mov (.const .nilmap)),oo 5 (.mov kF)] []) (.seq (.region [oo 19 (.mkmap false [.str]),mv 6 19] []) (.seq (.region [oo 20 (.mkmap false [.str]),mv 7 20] []) (.seq (.seq (.region [mv 21 1,ln 22 21,oo 23 (.mov (Kc 0))] []) (.block 0 (.loop (.seq (.region [oo 24 (.bin .lss (tm 23) (tm 22))] []) (.seq (.cond (tm 24) .skip (.exit 0)) (.seq (.block 1 (.seq (.region [ix 25 15 21 23,lA 26 15 25,⟨some 9,.alloc [Z0,Z0,S0,Z0,Z0,.nil,S0,Z0,.nil,Z0,S0,.nil,S0,Z0,Z0],none,[]⟩,o0 (.store 15 (tm 9) (tm 26))] []) (.seq (.region [fa 27 9 9,lA 28 6 27,⟨some 10,.alloc [Z0,S0,.nil,S0,Z0,Z0],none,[]⟩,o0 (.store 6 (tm 10) (tm 28))] []) (.seq (.seq (.region [fa 29 0 10,ld 30 29,oo 31 (.bin .eql (tm 30) (Kc 0))] []) (.cond (tm 31) (.exit 1) .skip)) (.seq (.region [fa 32 1 10,ld 33 32,fa 34 0 10,ld 35 34,oo 36 (.call 137 [tm 35]),⟨some 37,.build [S0,Z0,.nil,Z0,Z0] [(0,1,(tm 33)),(1,1,(tm 36))],none,[]⟩,⟨some 11,.alloc [S0,Z0,.nil,Z0,Z0],none,[]⟩,o0 (.store 5 (tm 11) (tm 37))] []) (.seq (.seq (.region [fa 38 2 10,ld 39 38,ln 40 39,oo 41 (.mov (Kc 0))] []) (.block 2 (.loop (.seq (.region [oo 42 (.bin .lss (tm 41) (tm 40))] []) (.seq (.cond (tm 42) .skip (.exit 2)) (.seq (.block 3 (.seq (.region [ix 43 1 39 41,ld 44 43,mv 13 44] []) (.seq (.region [mv 46 0,mv 47 13,oo 48 (.call 74 [(tm 46),(tm 47)]),mv 45 48,oo 49 (.ext (tm 45) 0),oo 50 (.ext (tm 45) 1),⟨some 14,.alloc [S0,Z0,Z0],none,[]⟩,o0 (.store 3 (tm 14) (tm 49)),mv 15 50] []) (.region [fa 51 2 11,ld 52 51,fa 53 2 14,ld 54 53,oo 55 (.buildF 1 1 [Z0] [(0,(tm 54))]),oo 56 (.append 46 3 1 8 (tm 52) (tm 55)),fa 57 2 11,o0 (.store 1 (tm 57) (tm 56))] [])))) (.region [oo 58 (.bin .add (tm 41) (Kc 1)),mv 41 58] []))))))) (.seq (.cut (.region [fa 59 0 10,ld 60 59,oo 61 (.bin .eql (tm 60) (Kc 4)),mv 62 61,oF 63 62 (.offA 0 (tm 10)),oF 64 62 (.load 1 false (tm 63)),oF 65 62 (.bin .eql (tm 64) (Kc 6)),oo 66 (.pick (tm 62) kT (tm 65)),mv 16 66] [])) (.seq (.region [mv 68 6,fa 69 1 10,ld 70 69,⟨some 71,.mlook false [.str] (.agg [S0,Z0,.nil,Z0,Z0]) true (tm 68) (tm 70),none,[]⟩,mv 67 71,oo 72 (.ext (tm 67) 0),oo 73 (.ext (tm 67) 1),⟨some 17,.alloc [S0,Z0,.nil,Z0,Z0],none,[]⟩,o0 (.store 5 (tm 17) (tm 72)),mv 18 73] []) (.seq (.cut (.seq (.region [mv 74 16] []) (.cond (tm 74) (.region [fa 75 4 10,ld 76 75,fa 77 5 10,ld 78 77,fa 79 3 11,o0 (.store 1 (tm 79) (tm 76)),fa 80 4 11,o0 (.store 1 (tm 80) (tm 78))] [[],[],[],[],[],[3],[],[]]) .skip))) (.seq (.seq (.cut (.region [mv 81 18,mv 82 81,oT 83 82 (.offA 1 (tm 17)),oT 84 82 (.load 1 false (tm 83)),oT 85 82 (.offA 1 (tm 11)),oT 86 82 (.load 1 false (tm 85)),oT 87 82 (.bin .neq (tm 84) (tm 86)),mT 88 87 82,oF 89 88 (.offA 2 (tm 17)),oF 90 88 (.load 1 false (tm 89)),oF 91 88 (.offA 2 (tm 11)),oF 92 88 (.load 1 false (tm 91)),oF 93 88 (.call 99 [(tm 90),(tm 92)]),oF 94 88 (.not (tm 93)),oT 95 82 (.pick (tm 88) kT (tm 94)),mT 96 95 82,mF 97 16 96,mF 98 97 96,mT 99 7 98,oT 100 98 (.offA 1 (tm 10)),oT 101 98 (.load 1 false (tm 100)),oT 102 98 (.mlook false [.str] (.bool false) false (tm 99) (tm 101)),oF 103 96 (.pick (tm 98) (tm 102) kF),mF 104 103 96,oT 105 104 (.offA 3 (tm 17)),oT 106 104 (.load 1 false (tm 105)),oT 107 104 (.offA 3 (tm 11)),oT 108 104 (.load 1 false (tm 107)),oT 109 104 (.bin .neq (tm 106) (tm 108)),mT 110 109 104,oF 111 110 (.offA 4 (tm 17)),oF 112 110 (.load 1 false (tm 111)),oF 113 110 (.offA 4 (tm 11)),oF 114 110 (.load 1 false (tm 113)),oF 115 110 (.bin .neq (tm 112) (tm 114)),oT 116 104 (.pick (tm 110) kT (tm 115)),oF 117 96 (.pick (tm 104) (tm 116) kF),oT 118 82 (.pick (tm 96) kT (tm 117)),oo 119 (.pick (tm 82) (tm 118) kF)] [])) (.cond (tm 119) (.seq (.region [oo 4 (.mov (.const .nilmap)),oo 5 (.mov kF)] []) .ret) .skip)) (.seq (.seq (.region [mv 120 18,oo 121 (.not (tm 120)),mv 122 121,mF 123 16 122,oo 124 (.pick (tm 122) kT (tm 123))] []) (.cond (tm 124) (.region [mv 125 6,fa 126 1 10,ld 127 126,lA 128 5 11,o0 (.bK false [.str] (tm 125) (tm 127) (tm 128))] []) .skip)) (.region [mv 129 7,fa 130 1 10,ld 131 130,mv 132 7,fa 133 1 10,ld 134 133,oo 135 (.mlook false [.str] (.bool false) false (tm 132) (tm 134)),mv 136 135,mF 137 16 136,oo 138 (.pick (tm 136) kT (tm 137)),o0 (.bK false [.str] (tm 129) (tm 131) (tm 138))] [])))))))))))) (.region [oo 139 (.bin .add (tm 23) (Kc 1)),mv 23 139] []))))))) (.seq (.region [mv 140 6,mv 4 140,oo 5 (.mov kT)] []) .ret)))))
theorem l96:(Tryz.f96.body.bind (bD Tryz.prog 141 [6000015,5000017,6000019,8000055]))=some c96:=by kernel_rfl
end Go.TYV
end
section
namespace Go.TY
open Go Go.DL Go.MM Go.Proofs
abbrev zV:T:=.agg [.str ⟨#[]⟩,I 0,.nil,I 0,I 0]
def esV (all:List RV):List (T×T):=all.map fun v=>(T.str v.name,sW v)
def esN (num:List (ByteArray×Bool)):List (T×T):=num.map fun p=>(T.str p.1,T.bool p.2)
theorem yj (a b:ByteArray):eqL (T.str a).cells (T.str b).cells=decide (a=b):=by
 show ((a==b)&&true)=_
 rw [Bool.and_true,CW]
theorem C9 (v:RV): ∀all:List RV,bK (.str v.name) (sW v) (esV all)=esV (uI v all)
 |[]=>rfl
 |x::xs=>by
  have ih:=C9 v xs
  show cond (eqL (T.str v.name).cells (T.str x.name).cells) _ _=esV (uI v (x::xs))
  rw [yj]
  unfold uI
  by_cases h:x.name=v.name
  ·rw [decide_eq_true h.symm,if_pos h];rfl
  ·rw [decide_eq_false (fun e=>h e.symm),if_neg h,cond_false]
   show (T.str x.name,sW x)::bK (.str v.name) (sW v) (esV xs)=_
   rw [ih];rfl
theorem C8 (n:ByteArray) (b:Bool): ∀num:List (ByteArray×Bool),bK (.str n) (.bool b) (esN num)=esN (xc n b num)
 |[]=>rfl
 |x::xs=>by
  have ih:=C8 n b xs
  show cond (eqL (T.str n).cells (T.str x.1).cells) _ _=esN (xc n b (x::xs))
  rw [yj]
  unfold xc
  by_cases h:x.1=n
  ·rw [decide_eq_true h.symm,if_pos h];rfl
  ·rw [decide_eq_false (fun e=>h e.symm),if_neg h,cond_false]
   show (T.str x.1,T.bool x.2)::bK (.str n) (.bool b) (esN xs)=_
   rw [ih];rfl
theorem zj (s:ByteArray): ∀all:List RV,ep (T.str s).cells (esV all)=(td all s).map sW
 |[]=>rfl
 |x::xs=>by
  have ih:=zj s xs
  show cond (eqL (T.str s).cells (T.str x.name).cells) (some (sW x)) (ep (T.str s).cells (esV xs))=_
  rw [yj,ih]
  unfold td
  rw [List.find?_cons]
  by_cases h:x.name=s
  ·rw [decide_eq_true h.symm,decide_eq_true h];rfl
  ·rw [decide_eq_false (fun e=>h e.symm),decide_eq_false h];rfl
theorem Bu (s:ByteArray): ∀num:List (ByteArray×Bool),ep (T.str s).cells (esN num)=(tX num s).map T.bool
 |[]=>rfl
 |x::xs=>by
  have ih:=Bu s xs
  show cond (eqL (T.str s).cells (T.str x.1).cells) (some (T.bool x.2)) (ep (T.str s).cells (esN xs))=_
  rw [yj,ih]
  unfold tX
  rw [List.find?_cons]
  by_cases h:x.1=s
  ·rw [decide_eq_true h.symm,decide_eq_true h];rfl
  ·rw [decide_eq_false (fun e=>h e.symm),decide_eq_false h];rfl
theorem GC (s:ByteArray) (all:List RV):mS zV true (ep (T.str s).cells (esV all))=match td all s with
  |some v=>T.tup [sW v,.bool true]
  |none=>T.tup [zV,.bool false]:=by
 rw [zj]
 cases td all s <;> rfl
theorem GB (s:ByteArray) (num:List (ByteArray×Bool)):mS (.bool false) false (ep (T.str s).cells (esN num))=T.bool ((tX num s).getD false):=by
 rw [Bu]
 cases tX num s <;> rfl
theorem HS (l:List Fd) (hl:LOk l) (k:ByteArray):DCalls Tryz.prog 74 [fds l,.str k] (.tup [.agg [.str (fld l k).name,I (fld l k).a,I (fld l k).w],.bool (s8 l k)]):=by
 have h:=t74 l k hl.len
 unfold uU at h
 unfold fld s8
 cases hF:findF l k with
 |none=>rw [hF] at h;exact h
 |some F=>rw [hF] at h;exact h
theorem wW (l:List Fd): ∀{a b:List RS} {st:VS},ug l st (a++b)=(ug l st a).bind fun st=>ug l st b
 |[],b,st=>rfl
 |s::a,b,st=>by
  show (uV l st s).bind (fun st=>ug l st (a++b))=((uV l st s).bind fun st=>ug l st a).bind fun st=>ug l st b
  cases uV l st s with
  |none=>rfl
  |some st'=>exact wW l
def uy (l:List Fd) (gs:List RG):Option VS:=ug l ⟨[],[]⟩ (tk (gs.map (·.st)))
def FI:Option VS→T
 |some st=>.tup [.mapd false [.str] (st.all.map fun v=>.str v.name) (st.all.map sW),.bool true]
 |none=>.tup [.nilmap,.bool false]
theorem AP (gs:List RG) (i:Nat) (h:i<gs.length):tk ((gs.take (i+1)).map (·.st))=tk ((gs.take i).map (·.st))++(if gs[i].st.kind=0 then [] else [gs[i].st]):=by
 rw [List.take_succ_eq_append_getElem h,List.map_append]
 unfold tk
 rw [List.filter_append]
 congr 1
 by_cases hk:gs[i].st.kind=0
 ·rw [if_pos hk];simp [hk]
 ·rw [if_neg hk];simp [hk]
def CV (l:List Fd) (look:Option RV) (nb:Bool) (s:RS):Bool:=match look with
 |none=>false
 |some old=>(old.fam !=tS s.kind)|| !(old.ws==s7 l s)||(s.own&&nb&&((old.n !=s.n)||(old.m !=s.m)))
theorem EL (l:List Fd) (st:VS) (s:RS):uV l st s=if CV l (td st.all s.var) ((tX st.num s.var).getD false) s then none else some ⟨if (!(td st.all s.var).isSome||s.own) then uI (vOf l s) st.all else st.all,xc s.var (((tX st.num s.var).getD false)||s.own) st.num⟩:=by
 unfold uV CV
 dsimp only
 cases td st.all s.var with
 |none=>simp
 |some old=>simp
abbrev yO (l:List Fd) (s:RS) (n m:Int):List V:=[.t (.str s.var),.t (I (tS s.kind)),.t (.slice 1 ((s7 l s).map I)),.t (I n),.t (I m)]
abbrev SVa (l:List Fd) (gs:List RG) (i:Nat) (st:VS) (x:List (Nat×V)) (b:List (Nat×BX)):Wk:=
 {sl:=(0,.t (fds l))::(6,.mp 19)::(7,.mp 20)::(21,.t (.slice 15 (gs.map tP)))::(22,.t (I gs.length))::(23,.t (I i))::x,bx:=(19,.m false [.str] (esV st.all) none)::(20,.m false [.str] (esN st.num) none)::b}
theorem EO {ks:List Nat} {bx:Nat→Option BX} {ag:Bool} {sh:List Sh} {es es':List (T×T)} (h:es=es'):LeB ks bx (.m ag sh es none) (some (.m ag sh es' none)):=by rw [h];exact .same _
theorem wH {ks:List Nat} {bx:Nat→Option BX} {n e w:Nat} {us xs:List T} (h:us=xs):LeV ks bx (.t (.slice w us)) (.own n e w xs):=by rw [h];exact LeV.data _ _ _ _
theorem Eb (a b:List Int) (hl:b.length<2^60):DCalls Tryz.prog 99 [.slice 1 (a.map I),.slice 1 (b.map I)] (.bool (a==b)):=by
 by_cases hab:a.length=b.length
 case pos=>exact ED a b (by omega)
 refine qO (rs:=[.tmp 4]) mixed Tryz.func99 l99 rfl rfl rfl (r:=[.bool _]) (nlZ rfl) ?_
 have ha:((a.map I).length:Int)=a.length:=by rw [List.length_map]
 have hb:((b.map I).length:Int)=b.length:=by rw [List.length_map]
 have e:(a==b)=false:=beq_false_of_ne fun e=>hab (by rw [e])
 rw [e]
 have hn:((a.map I).length:Int)≠((b.map I).length:Int):=by omega
 repeat' ((conv=>whnf);first|exact trivial|refine qz hn ?_|refine rb0 ?_|refine aS ?_|fail)
theorem yG (l:List Fd) (hl:LOk l) (gs:List RG) (hgl:gs.length<2^40) (hg: ∀g∈gs,SmS (2^40) g.st∧0≤g.st.kind∧g.st.kind≤6):DCalls Tryz.prog 96 [fds l,.slice 15 (gs.map tP)] (FI (uy l gs)):=by
 have hres: ∃r1 r2,FI (uy l gs)= .tup [r1,r2]:=by cases uy l gs <;> exact ⟨_,_,rfl⟩
 obtain ⟨r1,r2,hr⟩:=hres
 rw [hr]
 refine qO (rs:=[.tmp 4,.tmp 5]) mixed Tryz.func96 Go.TYV.l96 rfl rfl rfl (r:=[r1,r2]) (nlZ rfl) ?_
 have hsome: ∀st,uy l gs=some st→r1= .mapd false [.str] (st.all.map fun v=>.str v.name) (st.all.map sW)∧r2= .bool true:=fun st h=>by
  rw [h] at hr
  have h1:=T.tup.inj hr
  simp only [List.cons.injEq,and_true] at h1
  exact ⟨h1.1.symm,h1.2.symm⟩
 have hnone:uy l gs=none→r1= .nilmap∧r2= .bool false:=fun h=>by
  rw [h] at hr
  have h1:=T.tup.inj hr
  simp only [List.cons.injEq,and_true] at h1
  exact ⟨h1.1.symm,h1.2.symm⟩
 clear hr
 skip
 refine qZ 0 (α:=Nat×VS) (β:=VS) (fun p=>SVa l gs p.1 p.2 [] []) (fun p=>p.1≤gs.length∧ug l ⟨[],[]⟩ (tk ((gs.take p.1).map (·.st)))=some p.2) (fun p=>gs.length - p.1)
  (fun st=>{sl:=[(6,.mp 19)],bx:=[(19,.m false [.str] (esV st.all) none)]}) (fun st=>uy l gs=some st) (0,⟨[],[]⟩) ⟨by simp,rfl⟩ ?_ ?_ ?_
 ·repeat' (first|(exact leI (by simp))|exact trivial|exact LeV.same _|exact LeB.same _|exact rfl|exact fun _ _ _=>trivial|refine And.intro ?_ ?_)
 ·rintro ⟨i,st⟩ ⟨hi,hst⟩
  dsimp only at hi hst
  rcases Nat.lt_or_ge i gs.length with h|h
  case inr=>
   have e:i=gs.length:=by omega
   subst e
   rw [List.take_length] at hst
   repeat' ((conv=>whnf);first|(exact ⟨st,hst,by (repeat' (first|exact trivial|exact LeV.same _|exact LeB.same _|exact rfl|exact fun _ _ _=>trivial|refine And.intro ?_ ?_));done⟩)|refine aD0 ?_|refine aS ?_|fail)
  obtain ⟨hsm,hk0,hk6⟩:=hg gs[i] (List.getElem_mem h)
  have hcell:=wK gs[i]
  have hso:=AP gs i h
  have hnext: ∀st',ug l st (if gs[i].st.kind=0 then [] else [gs[i].st])=some st'→(i+1≤gs.length∧ug l ⟨[],[]⟩ (tk ((gs.take (i+1)).map (·.st)))=some st'):=fun st' h'=>⟨h,by rw [hso,wW,hst];exact h'⟩
  have hall:ug l st (if gs[i].st.kind=0 then [] else [gs[i].st])=none→uy l gs=none:=fun hn=>by
   unfold uy
   have e1:gs.map (·.st)=(gs.take (i+1)).map (·.st)++(gs.drop (i+1)).map (·.st):=by rw [← List.map_append,List.take_append_drop]
   rw [e1]
   have e2: ∀a b:List RS,tk (a++b)=tk a++tk b:=fun a b=>List.filter_append ..
   rw [e2,wW,hso,wW,hst,Option.bind_some,hn];rfl
  have hz:(aN z15 0 15 (sN gs[i])).length=15:=by rw [mU (n:=15) rfl];exact sS _
  by_cases k0:gs[i].st.kind=0
  ·rw [if_pos k0] at hnext
   have hnx:=hnext st rfl
   generalize gs[i].st=s at *
   obtain ⟨k,v,ks,f,n,m⟩:=s
   dsimp only at k0
   repeat' ((conv=>whnf);first|(refine nv_ (.agg (sN gs[i])) (by first|((simp [h];rfl);done)|fail) ?_)|(refine nv_ (.agg (sH ⟨k,v,ks,f,n,m⟩)) (by first|exact congrArg T.agg hcell|fail) ?_)|refine qx k0 ?_|refine nT_ ?_|refine aD1 ?_|(refine And.intro (by first|exact ⟨sS _,nlZ rfl⟩|exact sS _|fail) ?_)|refine aS ?_|fail)
   refine ⟨(i+1,st),hnx,by dsimp only;omega,by repeat' (first|exact trivial|exact LeV.same _|exact LeB.same _|exact rfl|exact fun _ _ _=>trivial|exact lI|refine And.intro ?_ ?_)⟩
  rw [if_neg k0] at hnext hall
  have hst1:ug l st [gs[i].st]=uV l st gs[i].st:=by
   show (uV l st gs[i].st).bind _=_
   cases uV l st gs[i].st <;> rfl
  rw [hst1] at hnext hall
  clear hso hst1
  generalize gs[i].st=s at *
  have hfam:=EG s.kind ⟨by omega,hk6⟩
  obtain ⟨k,v,ks,f,n,m⟩:=s
  dsimp only at k0 hk0 hk6 hfam
  have hkl:ks.length<2^40:=hsm.len
  repeat' ((conv=>whnf);first|(refine nv_ (.agg (sN gs[i])) (by first|((simp [h];rfl);done)|fail) ?_)|(refine nv_ (.agg (sH ⟨k,v,ks,f,n,m⟩)) (by first|exact congrArg T.agg hcell|fail) ?_)|refine qw k0 ?_|refine rE _ (hfam) ?_|refine nT_ ?_|refine aD1 ?_|(refine And.intro (by first|exact ⟨sS _,nlZ rfl⟩|exact sS _|fail) ?_)|refine aS ?_|fail)
  refine qZ 2 (α:=Nat) (β:=Unit) (fun j=>SVa l gs i st [(10,.ptr 10 0),(11,.ptr 11 0),(39,.t (.slice 1 (ks.map .str))),(40,.t (I ks.length)),(41,.t (I j))] [(10,.d 6 (sH ⟨k,v,ks,f,n,m⟩)),(11,.v [.t (.str v),.t (I (tS k)),.own 56 3 1 ((ks.take j).map fun x=>I (fld l x).w),.t (I 0),.t (I 0)])])
   (fun j=>j≤ks.length) (fun j=>ks.length - j)
   (fun _=>SVa l gs i st [(10,.ptr 10 0),(11,.ptr 11 0)] [(10,.d 6 (sH ⟨k,v,ks,f,n,m⟩)),(11,.v (yO l ⟨k,v,ks,f,n,m⟩ 0 0))]) (fun _=>True) 0 (by simp) ?_ ?_ ?_
  ·repeat' (first|(exact leI (by simp))|(refine LeB.dv _ _ _ ?_)|exact trivial|exact LeV.same _|exact LeB.same _|exact rfl|exact fun _ _ _=>trivial|exact LeV.nil _ _ _|refine And.intro ?_ ?_)
  ·rintro j hj
   rcases Nat.lt_or_ge j ks.length with h1|h1
   ·have ht:=HS l hl ks[j]
    have hk:ks.take (j+1)=ks.take j++[ks[j]]:=by rw [List.take_succ_eq_append_getElem h1]
    repeat' ((conv=>whnf);first|(refine nv_ (.str ks[j]) (by first|(simp [h1];done)|fail) ?_)|refine rE _ (ht) ?_|refine nT_ ?_|refine aD1 ?_|(refine And.intro (by first|((simp only [List.length_map,List.length_take,List.length_cons,List.length_nil];omega);done)|fail) ?_)|refine aS ?_|fail)
    refine ⟨j+1,h1,by omega,?_⟩
    repeat' (first|(exact rX (by rw [hk,List.map_append];rfl))|(refine LeB.v _ _ ?_)|exact trivial|exact LeV.same _|exact LeB.same _|exact rfl|exact fun _ _ _=>trivial|exact lI|refine And.intro ?_ ?_)
   ·have:j=ks.length:=by omega
    subst this
    rw [List.take_length]
    have hw:((s7 l ⟨k,v,ks,f,n,m⟩).map I)=ks.map fun x=>I (fld l x).w:=by unfold s7;rw [List.map_map];rfl
    repeat' ((conv=>whnf);first|(exact ⟨(),trivial,by (repeat' (first|(refine LeB.v _ _ ?_)|(exact wH hw)|exact trivial|exact LeV.same _|exact LeB.same _|exact rfl|exact fun _ _ _=>trivial|refine And.intro ?_ ?_));done⟩)|refine aD0 ?_|refine aS ?_|fail)
  rintro _ _
  obtain ⟨lc,is,hlc,hl5,hcase⟩: ∃lc is,mS zV true (ep (T.str v).cells (esV st.all))= .tup [.agg lc,.bool is]∧lc.length=5∧((is=false∧td st.all v=none)∨ ∃o,is=true∧td st.all v=some o∧lc=vW o):=by
   rw [GC]
   cases td st.all v with
   |none=>exact ⟨_,_,rfl,rfl,Or.inl ⟨rfl,rfl⟩⟩
   |some o=>exact ⟨_,_,rfl,rfl,Or.inr ⟨o,rfl,rfl,rfl⟩⟩
  have hp5:lc=aN [.str ⟨#[]⟩,I 0,.nil,I 0,I 0] 0 5 lc:=(mU (n:=5) rfl).symm
  obtain ⟨ow,how⟩: ∃ow,ow=RS.own ⟨k,v,ks,f,n,m⟩:=⟨_,rfl⟩
  refine rA (β:=Unit) (fun _=>SVa l gs i st [(10,.ptr 10 0),(11,.ptr 11 0),(16,.t (.bool ow))] [(10,.d 6 (sH ⟨k,v,ks,f,n,m⟩)),(11,.v (yO l ⟨k,v,ks,f,n,m⟩ 0 0))]) (fun _=>True) ?_ ?_
  ·by_cases k4:k=4
   ·have e:ow=true:=by rw [how];simp [RS.own,k4]
    subst e
    repeat' ((conv=>whnf);first|refine qx k4 ?_|(exact ⟨(),trivial,by (repeat' (first|exact trivial|exact LeV.same _|exact LeB.same _|exact rfl|exact fun _ _ _=>trivial|refine And.intro ?_ ?_));done⟩)|refine nT_ ?_|refine aS ?_|fail)
   by_cases k6:k=6
   ·have e:ow=true:=by rw [how];simp [RS.own,k6]
    subst e
    repeat' ((conv=>whnf);first|refine qw k4 ?_|refine qx k6 ?_|(exact ⟨(),trivial,by (repeat' (first|exact trivial|exact LeV.same _|exact LeB.same _|exact rfl|exact fun _ _ _=>trivial|refine And.intro ?_ ?_));done⟩)|refine nT_ ?_|refine aS ?_|fail)
   have e:ow=false:=by rw [how];simp [RS.own,k4,k6]
   subst e
   repeat' ((conv=>whnf);first|refine qw k4 ?_|refine qw k6 ?_|(exact ⟨(),trivial,by (repeat' (first|exact trivial|exact LeV.same _|exact LeB.same _|exact rfl|exact fun _ _ _=>trivial|refine And.intro ?_ ?_));done⟩)|refine nT_ ?_|refine aS ?_|fail)
  rintro _ _
  repeat' ((conv=>whnf);first|(refine nv_ (.tup [.agg lc,.bool is]) (by first|exact hlc|fail) ?_)|refine nT_ ?_|(refine And.intro (by first|exact hl5|exact ⟨rfl,trivial,trivial⟩|exact ⟨rfl,rfl,trivial⟩|exact ⟨rfl,trivial⟩|fail) ?_)|refine aS ?_|fail)
  refine rA (β:=Unit) (fun _=>SVa l gs i st [(10,.ptr 10 0),(11,.ptr 11 0),(16,.t (.bool ow)),(17,.ptr 17 0),(18,.t (.bool is))] [(10,.d 6 (sH ⟨k,v,ks,f,n,m⟩)),(11,.v (yO l ⟨k,v,ks,f,n,m⟩ (cond ow n 0) (cond ow m 0))),(17,.d 5 lc)]) (fun _=>True) ?_ ?_
  ·cases ow <;> repeat' ((conv=>whnf);first|(exact ⟨(),trivial,by (repeat' (first|(exact su hp5)|exact trivial|exact LeV.same _|exact LeB.same _|exact rfl|exact fun _ _ _=>trivial|refine And.intro ?_ ?_));done⟩)|refine nT_ ?_|refine aS ?_|fail)
  rintro _ _
  clear hlc hp5
  obtain ⟨nb,hnb⟩: ∃nb,nb=(tX st.num v).getD false:=⟨_,rfl⟩
  have hln:=GB v st.num
  rw [← hnb] at hln
  have hst2:=EL l st ⟨k,v,ks,f,n,m⟩
  dsimp only at hst2
  rw [← hnb, ←how] at hst2
  obtain ⟨bad,hbad⟩: ∃bad,bad=CV l (td st.all v) nb ⟨k,v,ks,f,n,m⟩:=⟨_,rfl⟩
  rw [← hbad] at hst2
  have heq:=fun o:RV=>Eb o.ws (s7 l ⟨k,v,ks,f,n,m⟩) (by unfold s7;rw [List.length_map];exact Nat.lt_of_lt_of_le hkl (by decide))
  refine rA (β:=Unit) (fun _=>SVa l gs i st [(10,.ptr 10 0),(11,.ptr 11 0),(16,.t (.bool ow)),(18,.t (.bool is)),(119,.t (.bool bad))] [(10,.d 6 (sH ⟨k,v,ks,f,n,m⟩)),(11,.v (yO l ⟨k,v,ks,f,n,m⟩ (cond ow n 0) (cond ow m 0)))]) (fun _=>True) ?_ ?_
  ·rcases hcase with ⟨rfl,hl0⟩|⟨o,rfl,hl0,rfl⟩
   ·rw [hl0] at hbad
    have e:bad=false:=hbad
    subst e
    repeat' ((conv=>whnf);first|(exact ⟨(),trivial,by (repeat' (first|exact trivial|exact LeV.same _|exact LeB.same _|exact rfl|exact fun _ _ _=>trivial|refine And.intro ?_ ?_));done⟩)|fail)
   rw [hl0] at hbad
   unfold CV at hbad
   dsimp only at hbad
   rw [← how] at hbad
   have heq:=heq o
   generalize (o.ws==s7 l ⟨k,v,ks,f,n,m⟩)=eqw at *
   generalize hb1:(o.fam !=tS k)=b1 at hbad
   generalize hb2:(o.n !=n)=b2 at hbad
   generalize hb3:(o.m !=m)=b3 at hbad
   subst hbad
   clear how hst2 hnb hall hnext
   cases b1 with
   |true=>repeat' ((conv=>whnf);first|refine nb_ _ hb1 ?_|(exact ⟨(),trivial,by (repeat' (first|exact trivial|exact LeV.same _|exact LeB.same _|exact rfl|exact fun _ _ _=>trivial|refine And.intro ?_ ?_));done⟩)|refine nT_ ?_|refine aS ?_|fail)
   |false=>
   cases eqw with
   |false=>repeat' ((conv=>whnf);first|refine nb_ _ hb1 ?_|refine rE _ (heq) ?_|(exact ⟨(),trivial,by (repeat' (first|exact trivial|exact LeV.same _|exact LeB.same _|exact rfl|exact fun _ _ _=>trivial|refine And.intro ?_ ?_));done⟩)|refine nT_ ?_|refine aS ?_|fail)
   |true=>
   cases ow with
   |false=>repeat' ((conv=>whnf);first|refine nb_ _ hb1 ?_|refine rE _ (heq) ?_|(exact ⟨(),trivial,by (repeat' (first|exact trivial|exact LeV.same _|exact LeB.same _|exact rfl|exact fun _ _ _=>trivial|refine And.intro ?_ ?_));done⟩)|refine nT_ ?_|refine aS ?_|fail)
   |true=>
   cases nb with
   |false=>repeat' ((conv=>whnf);first|refine nb_ _ hb1 ?_|refine rE _ (heq) ?_|(refine nv_ (.bool false) (by first|exact hln|fail) ?_)|(exact ⟨(),trivial,by (repeat' (first|exact trivial|exact LeV.same _|exact LeB.same _|exact rfl|exact fun _ _ _=>trivial|refine And.intro ?_ ?_));done⟩)|refine nT_ ?_|(refine And.intro (by first|exact ⟨rfl,trivial⟩|fail) ?_)|refine aS ?_|fail)
   |true=>
   cases b2 with
   |true=>repeat' ((conv=>whnf);first|refine nb_ _ hb1 ?_|refine rE _ (heq) ?_|(refine nv_ (.bool true) (by first|exact hln|fail) ?_)|refine nb_ _ hb2 ?_|(exact ⟨(),trivial,by (repeat' (first|exact trivial|exact LeV.same _|exact LeB.same _|exact rfl|exact fun _ _ _=>trivial|refine And.intro ?_ ?_));done⟩)|refine nT_ ?_|(refine And.intro (by first|exact ⟨rfl,trivial⟩|fail) ?_)|refine aS ?_|fail)
   |false=>
   cases b3 <;> repeat' ((conv=>whnf);first|refine nb_ _ hb1 ?_|refine rE _ (heq) ?_|(refine nv_ (.bool true) (by first|exact hln|fail) ?_)|refine nb_ _ hb2 ?_|refine nb_ _ hb3 ?_|(exact ⟨(),trivial,by (repeat' (first|exact trivial|exact LeV.same _|exact LeB.same _|exact rfl|exact fun _ _ _=>trivial|refine And.intro ?_ ?_));done⟩)|refine nT_ ?_|(refine And.intro (by first|exact ⟨rfl,trivial⟩|fail) ?_)|refine aS ?_|fail)
  rintro _ _
  clear heq
  cases bad with
  |true=>
   rw [if_pos rfl] at hst2
   obtain ⟨rfl,rfl⟩:=hnone (hall hst2)
   repeat' ((conv=>whnf);first|exact trivial|refine rb0 ?_|refine aS ?_|fail)
  |false=>
  rw [if_neg (by simp)] at hst2
  have hnx:=hnext _ hst2
  have his:(td st.all v).isSome=is:=by rcases hcase with ⟨rfl,h⟩|⟨o,rfl,h,_⟩ <;> rw [h] <;> rfl
  have he:vOf l ⟨k,v,ks,f,n,m⟩=⟨v,tS k,s7 l ⟨k,v,ks,f,n,m⟩,cond ow n 0,cond ow m 0⟩:=by
   unfold vOf
   rw [← how]
   cases ow <;> rfl
  rw [his,he] at hnx
  have hV:=C9 ⟨v,tS k,s7 l ⟨k,v,ks,f,n,m⟩,cond ow n 0,cond ow m 0⟩ st.all
  have hN:=C8 v (nb||ow) st.num
  clear he his hst2 how hbad hnb hall hnext hcase
  cases is <;> cases ow <;> cases nb <;> (repeat' ((conv=>whnf);first|(refine nv_ (.bool _) (by first|exact hln|fail) ?_)|(refine ⟨(i+1,_),hnx,by (dsimp only;omega),by (repeat' (first|(exact EO hV.symm)|(exact EO hN.symm)|exact trivial|exact LeV.same _|exact LeB.same _|exact rfl|exact fun _ _ _=>trivial|exact lI|refine And.intro ?_ ?_));done⟩)|refine nT_ ?_|(refine And.intro (by first|exact ⟨rfl,trivial⟩|fail) ?_)|refine aS ?_|fail))
 ·rintro st hv
  obtain ⟨rfl,rfl⟩:=hsome st hv
  skip
  (conv=>whnf)
  refine ⟨?_,rfl,trivial⟩
  show some (T.mapd false [.str] ((esV st.all).map (·.1)) ((esV st.all).map (·.2)))=some _
  unfold esV
  rw [List.map_map,List.map_map];rfl
end Go.TY
end
section
namespace Go.TY
open Go Go.DL Go.MM Go.Proofs
theorem A8 {s:RS} (h:tu s=0):0≤s.kind∧s.kind≤6:=by
 unfold tu at h
 have h1:okS s=true:=by
  cases e:okS s with
  |true=>rfl
  |false=>rw [e] at h;simp at h
 unfold okS at h1
 rw [Bool.or_eq_true] at h1
 rcases h1 with h1|h1
 ·unfold vr at h1
  simp only [Bool.and_eq_true,beq_iff_eq] at h1
  omega
 simp only [Bool.and_eq_true] at h1
 have h3:=h1.2
 unfold uD at h3
 by_cases k1:s.kind=1
 ·omega
 by_cases k2:s.kind=2
 ·omega
 by_cases k3:s.kind=3
 ·omega
 by_cases k4:s.kind=4
 ·omega
 by_cases k5:s.kind=5
 ·omega
 by_cases k6:s.kind=6
 ·omega
 simp only [k1,k2,k3,k4,k5,k6,if_false] at h3
 cases h3
theorem CQ {l:List Fd} {s:RS} (h:tT l s=0):0≤s.kind∧s.kind≤6:=by
 refine A8 ?_
 unfold tT at h
 by_cases c:tu s=0
 ·exact c
 ·rw [if_pos c] at h;exact h
theorem Bq {α:Type} {f g:α→Int}: ∀{xs:List α},fz2 f g xs=0→ ∀x∈xs,f x=0∧g x=0
 |[],_,_,hx=>by cases hx
 |x::xs,h,y,hy=>by
  have h:sQ (f x::g x::xs.flatMap fun x=>[f x,g x])=0:=h
  simp only [sQ] at h
  by_cases h1:f x=0
  ·by_cases h2:g x=0
   ·simp only [h1,h2] at h
    rcases List.mem_cons.1 hy with rfl|hy
    ·exact ⟨h1,h2⟩
    ·exact Bq (by simpa [fz2] using h) y hy
   ·simp [h1,h2] at h
  ·simp [h1] at h
def B6 (l:List Fd) (gs:List RG):Int:=
 if xi gs≠0 then xi gs
 else if fz2 (fun g=>uC l g.pol) (fun g=>tT l g.st) gs≠0 then fz2 (fun g=>uC l g.pol) (fun g=>tT l g.st) gs
 else if (uy l gs).isNone then 11 else 0
theorem Ed (l:List Fd) (hl:LOk l) (gs:List RG) (hgl:gs.length<2^40) (hg: ∀g∈gs,SmG (2^39) g):DCalls Tryz.prog 38 [fds l,.slice 15 (gs.map tP)] (I (B6 l gs)):=by
 refine qO (rs:=[.tmp 4]) mixed Tryz.func38 l38 rfl rfl rfl (r:=[.int _ _]) (nlZ rfl) ?_
 have hc:=zp gs (by omega) fun g hgm=>⟨(hg g hgm).st.mono (by omega),by have:=(hg g hgm).wt;omega,fun _=>(hg g hgm).names (by omega)⟩
 unfold B6
 by_cases c0:xi gs=0
 case neg=>
  rw [if_pos c0]
  generalize xi gs=x at *
  repeat' ((conv=>whnf);first|exact trivial|refine rE _ (hc) ?_|refine qz c0 ?_|refine rix ?_|refine aS ?_|fail)
 rw [if_neg (by simpa using c0)]
 rw [c0] at hc
 repeat' ((conv=>whnf);first|refine rE _ (hc) ?_|refine aN0 ?_|refine aS ?_|fail)
 refine qZ 0 (α:=Nat) (β:=Unit) (fun i=>{sl:=[(0,.t (fds l)),(1,.t (.slice 15 (gs.map tP))),(17,.t (.slice 15 (gs.map tP))),(18,.t (I gs.length)),(19,.t (I i))],bx:=[]})
  (fun i=>i≤gs.length∧ ∀j (h:j<gs.length),j<i→uC l gs[j].pol=0∧tT l gs[j].st=0) (fun i=>gs.length - i)
  (fun _=>{sl:=[(0,.t (fds l)),(1,.t (.slice 15 (gs.map tP)))],bx:=[]}) (fun _=>fz2 (fun g=>uC l g.pol) (fun g=>tT l g.st) gs=0) 0 (by simp) ?_ ?_ ?_
 ·repeat' (first|(exact leI (by simp))|exact trivial|exact LeV.same _|exact rfl|exact fun _ _ _=>trivial|refine And.intro ?_ ?_)
 ·rintro i ⟨hi,hp⟩
  rcases Nat.lt_or_ge i gs.length with h|h
  ·have hm:=hg gs[i] (List.getElem_mem h)
   have h1:=yM l hl gs[i].pol (by have:=hm.wt;omega) (hm.names (by omega))
   have h2:=AS l hl gs[i].st (hm.st.mono (by omega))
   by_cases c1:uC l gs[i].pol=0
   ·rw [c1] at h1
    by_cases c2:tT l gs[i].st=0
    ·rw [c2] at h2
     repeat' ((conv=>whnf);first|(refine nv_ (.agg (sN gs[i])) (by first|((simp [h];rfl);done)|fail) ?_)|(refine nv_ (.agg (sA gs[i].pol)) (by first|(exact congrArg T.agg (uJ gs[i]);done)|fail) ?_)|(refine nv_ (.agg (sH gs[i].st)) (by first|(exact congrArg T.agg (wK gs[i]);done)|fail) ?_)|refine rE _ (h1) ?_|refine rE _ (h2) ?_|refine aN0 ?_|refine aD1 ?_|(refine And.intro (by first|exact ⟨sS _,nlZ rfl⟩|exact sS _|fail) ?_)|refine aS ?_|fail)
     refine ⟨i+1,⟨h,fun j hj hlt=>?_⟩,by omega,?_⟩
     ·rcases Nat.lt_or_ge j i with h4|h4
      ·exact hp j hj h4
      ·obtain rfl:j=i:=by omega
       exact ⟨c1,c2⟩
     ·repeat' (first|exact trivial|exact LeV.same _|exact rfl|exact fun _ _ _=>trivial|exact lI|refine And.intro ?_ ?_)
    ·have e:=BW (f:=fun g:RG=>uC l g.pol) (g:=fun g=>tT l g.st) h hp c1 c2
     have e2:fz2 (fun g:RG=>uC l g.pol) (fun g=>tT l g.st) gs≠0:=by rw [e];exact c2
     rw [if_pos e2,e]
     clear e e2
     dsimp only
     generalize tT l gs[i].st=x at *
     repeat' ((conv=>whnf);first|exact trivial|(refine nv_ (.agg (sN gs[i])) (by first|((simp [h];rfl);done)|fail) ?_)|(refine nv_ (.agg (sA gs[i].pol)) (by first|(exact congrArg T.agg (uJ gs[i]);done)|fail) ?_)|(refine nv_ (.agg (sH gs[i].st)) (by first|(exact congrArg T.agg (wK gs[i]);done)|fail) ?_)|refine rE _ (h1) ?_|refine rE _ (h2) ?_|refine qz c2 ?_|refine aN0 ?_|refine aD1 ?_|refine rix ?_|(refine And.intro (by first|exact ⟨sS _,nlZ rfl⟩|exact sS _|fail) ?_)|refine aS ?_|fail)
   ·have e:=BV (f:=fun g:RG=>uC l g.pol) (g:=fun g=>tT l g.st) h hp c1
    have e2:fz2 (fun g:RG=>uC l g.pol) (fun g=>tT l g.st) gs≠0:=by rw [e];exact c1
    rw [if_pos e2,e]
    clear e e2
    dsimp only
    generalize uC l gs[i].pol=x at *
    repeat' ((conv=>whnf);first|exact trivial|(refine nv_ (.agg (sN gs[i])) (by first|((simp [h];rfl);done)|fail) ?_)|(refine nv_ (.agg (sA gs[i].pol)) (by first|(exact congrArg T.agg (uJ gs[i]);done)|fail) ?_)|refine rE _ (h1) ?_|refine qz c1 ?_|refine aD1 ?_|refine rix ?_|(refine And.intro (by first|exact ⟨sS _,nlZ rfl⟩|exact sS _|fail) ?_)|refine aS ?_|fail)
  ·have e:=BU (f:=fun g:RG=>uC l g.pol) (g:=fun g=>tT l g.st) (xs:=gs) fun j hj=>hp j hj (by omega)
   repeat' ((conv=>whnf);first|(exact ⟨(),e,by (repeat' (first|exact trivial|exact LeV.same _|exact rfl|exact fun _ _ _=>trivial|refine And.intro ?_ ?_));done⟩)|refine aD0 ?_|refine aS ?_|fail)
 ·rintro _ hz
  have hk:=Bq hz
  rw [if_neg (by simpa using hz)]
  have hv:=yG l hl gs hgl fun g hgm=>⟨(hg g hgm).st.mono (by omega),CQ (hk g hgm).2⟩
  cases hq:uy l gs with
  |none=>
   rw [hq] at hv
   have hv:DCalls Tryz.prog 96 [fds l,.slice 15 (gs.map tP)] (.tup [.nilmap,.bool false]):=hv
   repeat' ((conv=>whnf);first|exact trivial|refine rE _ (hv) ?_|refine rix ?_|fail)
  |some st=>
   rw [hq] at hv
   have hv:DCalls Tryz.prog 96 [fds l,.slice 15 (gs.map tP)] (.tup [.mapd false [.str] (st.all.map fun v=>.str v.name) (st.all.map sW),.bool true]):=hv
   repeat' ((conv=>whnf);first|exact trivial|refine rE _ (hv) ?_|refine rix ?_|fail)
end Go.TY
end
noncomputable section
namespace Go.TY
open Go Go.DL Go.Proofs
def KB:aY:=(.seq (.region [oo 2 (.mov (.const .nil))] []) (.seq (.region [mv 3 0,oo 4 (.inl 156 [(.const .nil),(tm 3)]),mv 2 4] []) .ret))
theorem Gz:(Tryz.f131.body.bind (bD Tryz.prog 5 [156]))=some KB:=by kernel_rfl
def c87:aY:=(.seq (.region [oo 2 (.mov (.const .nil))] []) (.seq (.region [mv 4 0,oo 5 (.inl 131 [tm 4]),mv 3 5] []) (.seq (.region [mv 6 3,oo 7 (.inl 132 [tm 6])] []) (.seq (.region [mv 8 3,mv 2 8] []) .ret))))
theorem l87:(Tryz.f87.body.bind (bD Tryz.prog 9 [131,132]))=some c87:=by kernel_rfl
def c88:aY:=(.seq (.region [oo 1 (.box 1 (tm 0)),oo 2 (.mov (.const .nilfn))] []) (.seq (.region [oo 3 (.mkfn 133 [tm 1]),mv 2 3] []) .ret))
theorem l88:(Tryz.f88.body.bind (bD Tryz.prog 4 []))=some c88:=by kernel_rfl
def c97:aY:=(.seq (.region [oo 1 (.box 1 (tm 0)),oo 2 (.mov (.const .nilfn))] []) (.seq (.region [oo 3 (.mkfn 138 [tm 1]),mv 2 3] []) .ret))
theorem l97:(Tryz.f97.body.bind (bD Tryz.prog 4 []))=some c97:=by kernel_rfl
def KC:aY:=(.seq (.region [oo 2 (.mov (.const .nil))] []) (.seq (.region [mv 3 0,oo 4 (.inl 159 [(.const .nil),(tm 3)]),mv 2 4] []) .ret))
theorem LZ:(Tryz.f134.body.bind (bD Tryz.prog 5 [159]))=some KC:=by kernel_rfl
def c91:aY:=(.seq (.region [oo 2 (.mov (.const .nil))] []) (.seq (.region [mv 4 0,oo 5 (.inl 134 [tm 4]),mv 3 5] []) (.seq (.region [mv 6 3,oo 7 (.inl 135 [tm 6])] []) (.seq (.region [mv 8 3,mv 2 8] []) .ret))))
theorem l91:(Tryz.f91.body.bind (bD Tryz.prog 9 [134,135]))=some c91:=by kernel_rfl
def c92:aY:=(.seq (.region [oo 1 (.box 1 (tm 0)),oo 2 (.mov (.const .nilfn))] []) (.seq (.region [oo 3 (.mkfn 136 [tm 1]),mv 2 3] []) .ret))
theorem l92:(Tryz.f92.body.bind (bD Tryz.prog 4 []))=some c92:=by kernel_rfl
def Gh:aY:=(.seq (.region [ld 4 1,oo 5 (.mrng (tm 4))] []) (.block 0 (.loop (.seq (.region [oo 6 (.mnext (tm 5)),oo 7 (.ext (tm 6) 0)] []) (.seq (.cond (tm 7) .skip (.exit 0)) (.block 1 (.seq (.region [oo 8 (.ment (tm 5)),oo 9 (.ext (tm 8) 0),mv 3 9] []) (.seq (.sem 14 (rg0 3 Tryz.f133.body)) (.cond (tm 13) .ret .skip)))))))))
theorem LY:(Tryz.f133.body.bind (bD Tryz.prog 14 [1000003]))=some Gh:=by kernel_rfl
def Gj:aY:=(.seq (.region [ld 4 1,oo 5 (.mrng (tm 4))] []) (.block 0 (.loop (.seq (.region [oo 6 (.mnext (tm 5)),oo 7 (.ext (tm 6) 0)] []) (.seq (.cond (tm 7) .skip (.exit 0)) (.block 1 (.seq (.region [oo 8 (.ment (tm 5)),oo 9 (.ext (tm 8) 0),mv 3 9] []) (.seq (.sem 14 (rg0 3 Tryz.f138.body)) (.cond (tm 13) .ret .skip)))))))))
theorem L6:(Tryz.f138.body.bind (bD Tryz.prog 14 [1000003]))=some Gj:=by kernel_rfl
def Gi:aY:=(.seq (.region [ld 4 1,oo 5 (.mrng (tm 4))] []) (.block 0 (.loop (.seq (.region [oo 6 (.mnext (tm 5)),oo 7 (.ext (tm 6) 0)] []) (.seq (.cond (tm 7) .skip (.exit 0)) (.block 1 (.seq (.region [oo 8 (.ment (tm 5)),oo 9 (.ext (tm 8) 0),mv 3 9] []) (.seq (.sem 14 (rg0 3 Tryz.f136.body)) (.cond (tm 13) .ret .skip)))))))))
theorem L0:(Tryz.f136.body.bind (bD Tryz.prog 14 [1000003]))=some Gi:=by kernel_rfl
end Go.TY
end
section
namespace Go.Proofs
open Go.Shelf
def Tryz.Bc:Go.Shelf.Ren:=⟨fun|190=>132|125=>158|258=>157|128=>179|129=>180|302=>170|303=>171|304=>172|305=>173|306=>174|307=>175|308=>176|309=>177|310=>178|333=>200|329=>201|330=>202|334=>203|335=>204|336=>205|344=>215|n=>n,fun|31=>29|9=>9|3=>3|46=>156|0=>0|51=>172|53=>174|4=>4|183=>164|182=>163|131=>169|5=>5|218=>188|222=>192|228=>198|229=>199|n=>n,fun|n=>n⟩
theorem Tryz.Bs:Go.Proofs.Lays.n190 Tryz.prog Tryz.Bc:={
 mixed:=by kernel_rfl
 f125:=Tryz.func158.trans (congrArg some (by kernel_rfl))
 f128:=Tryz.func179.trans (congrArg some (by kernel_rfl))
 f129:=Tryz.func180.trans (congrArg some (by kernel_rfl))
 f190:=Tryz.func132.trans (congrArg some (by kernel_rfl))
 f258:=Tryz.func157.trans (congrArg some (by kernel_rfl))
 f302:=Tryz.func170.trans (congrArg some (by kernel_rfl))
 f303:=Tryz.func171.trans (congrArg some (by kernel_rfl))
 f304:=Tryz.func172.trans (congrArg some (by kernel_rfl))
 f305:=Tryz.func173.trans (congrArg some (by kernel_rfl))
 f306:=Tryz.func174.trans (congrArg some (by kernel_rfl))
 f307:=Tryz.func175.trans (congrArg some (by kernel_rfl))
 f308:=Tryz.func176.trans (congrArg some (by kernel_rfl))
 f309:=Tryz.func177.trans (congrArg some (by kernel_rfl))
 f310:=Tryz.func178.trans (congrArg some (by kernel_rfl))
 f329:=Tryz.func201.trans (congrArg some (by kernel_rfl))
 f330:=Tryz.func202.trans (congrArg some (by kernel_rfl))
 f333:=Tryz.func200.trans (congrArg some (by kernel_rfl))
 f334:=Tryz.func203.trans (congrArg some (by kernel_rfl))
 f335:=Tryz.func204.trans (congrArg some (by kernel_rfl))
 f336:=Tryz.func205.trans (congrArg some (by kernel_rfl))
 f344:=Tryz.func215.trans (congrArg some (by kernel_rfl))
 t0:=Tryz.underlying0
 a0:=Tryz.isAgg0
 z0:=Tryz.sizeOf0
 v0:=Tryz.zeroValue0
 t3:=Tryz.underlying3
 a3:=Tryz.isAgg3
 z3:=Tryz.sizeOf3
 v3:=Tryz.zeroValue3
 t4:=Tryz.underlying4
 a4:=Tryz.isAgg4
 z4:=Tryz.sizeOf4
 v4:=Tryz.zeroValue4
 t5:=Tryz.underlying5
 a5:=Tryz.isAgg5
 z5:=Tryz.sizeOf5
 v5:=Tryz.zeroValue5
 t9:=Tryz.underlying9
 a9:=Tryz.isAgg9
 z9:=Tryz.sizeOf9
 v9:=Tryz.zeroValue9
 t31:=Tryz.underlying29
 a31:=Tryz.isAgg29
 z31:=Tryz.sizeOf29
 v31:=Tryz.zeroValue29
 t46:=Tryz.underlying156
 a46:=Tryz.isAgg156
 z46:=Tryz.sizeOf156
 v46:=Tryz.zeroValue156
 t51:=Tryz.underlying172
 a51:=Tryz.isAgg172
 z51:=Tryz.sizeOf172
 v51:=Tryz.zeroValue172
 t53:=Tryz.underlying174
 a53:=Tryz.isAgg174
 z53:=Tryz.sizeOf174
 v53:=Tryz.zeroValue174
 t131:=Tryz.underlying169
 a131:=Tryz.isAgg169
 z131:=Tryz.sizeOf169
 v131:=Tryz.zeroValue169
 t182:=Tryz.underlying163
 a182:=Tryz.isAgg163
 z182:=Tryz.sizeOf163
 v182:=Tryz.zeroValue163
 t183:=Tryz.underlying164
 a183:=Tryz.isAgg164
 z183:=Tryz.sizeOf164
 v183:=Tryz.zeroValue164
 t218:=Tryz.underlying188
 a218:=Tryz.isAgg188
 z218:=Tryz.sizeOf188
 v218:=Tryz.zeroValue188
 t222:=Tryz.underlying192
 a222:=Tryz.isAgg192
 z222:=Tryz.sizeOf192
 v222:=Tryz.zeroValue192
 t228:=Tryz.underlying198
 a228:=Tryz.isAgg198
 z228:=Tryz.sizeOf198
 v228:=Tryz.zeroValue198
 t229:=Tryz.underlying199
 a229:=Tryz.isAgg199
 z229:=Tryz.sizeOf199
 v229:=Tryz.zeroValue199 }
def Tryz.Bb:Go.Shelf.Ren:=⟨fun|189=>135|125=>158|257=>160|128=>179|129=>180|294=>181|295=>182|296=>183|297=>184|298=>185|299=>186|216=>187|300=>188|301=>189|328=>206|329=>201|330=>202|331=>207|332=>208|215=>209|343=>216|n=>n,fun|28=>46|3=>3|46=>156|0=>0|51=>172|53=>174|4=>4|183=>164|182=>163|131=>169|5=>5|9=>9|218=>188|222=>192|228=>198|229=>199|n=>n,fun|n=>n⟩
theorem Tryz.FW:Go.Proofs.Lays.n189 Tryz.prog Tryz.Bb:={
 mixed:=by kernel_rfl
 f125:=Tryz.func158.trans (congrArg some (by kernel_rfl))
 f128:=Tryz.func179.trans (congrArg some (by kernel_rfl))
 f129:=Tryz.func180.trans (congrArg some (by kernel_rfl))
 f189:=Tryz.func135.trans (congrArg some (by kernel_rfl))
 f215:=Tryz.func209.trans (congrArg some (by kernel_rfl))
 f216:=Tryz.func187.trans (congrArg some (by kernel_rfl))
 f257:=Tryz.func160.trans (congrArg some (by kernel_rfl))
 f294:=Tryz.func181.trans (congrArg some (by kernel_rfl))
 f295:=Tryz.func182.trans (congrArg some (by kernel_rfl))
 f296:=Tryz.func183.trans (congrArg some (by kernel_rfl))
 f297:=Tryz.func184.trans (congrArg some (by kernel_rfl))
 f298:=Tryz.func185.trans (congrArg some (by kernel_rfl))
 f299:=Tryz.func186.trans (congrArg some (by kernel_rfl))
 f300:=Tryz.func188.trans (congrArg some (by kernel_rfl))
 f301:=Tryz.func189.trans (congrArg some (by kernel_rfl))
 f328:=Tryz.func206.trans (congrArg some (by kernel_rfl))
 f329:=Tryz.func201.trans (congrArg some (by kernel_rfl))
 f330:=Tryz.func202.trans (congrArg some (by kernel_rfl))
 f331:=Tryz.func207.trans (congrArg some (by kernel_rfl))
 f332:=Tryz.func208.trans (congrArg some (by kernel_rfl))
 f343:=Tryz.func216.trans (congrArg some (by kernel_rfl))
 t0:=Tryz.underlying0
 a0:=Tryz.isAgg0
 z0:=Tryz.sizeOf0
 v0:=Tryz.zeroValue0
 t3:=Tryz.underlying3
 a3:=Tryz.isAgg3
 z3:=Tryz.sizeOf3
 v3:=Tryz.zeroValue3
 t4:=Tryz.underlying4
 a4:=Tryz.isAgg4
 z4:=Tryz.sizeOf4
 v4:=Tryz.zeroValue4
 t5:=Tryz.underlying5
 a5:=Tryz.isAgg5
 z5:=Tryz.sizeOf5
 v5:=Tryz.zeroValue5
 t9:=Tryz.underlying9
 a9:=Tryz.isAgg9
 z9:=Tryz.sizeOf9
 v9:=Tryz.zeroValue9
 t28:=Tryz.underlying46
 a28:=Tryz.isAgg46
 z28:=Tryz.sizeOf46
 v28:=Tryz.zeroValue46
 t46:=Tryz.underlying156
 a46:=Tryz.isAgg156
 z46:=Tryz.sizeOf156
 v46:=Tryz.zeroValue156
 t51:=Tryz.underlying172
 a51:=Tryz.isAgg172
 z51:=Tryz.sizeOf172
 v51:=Tryz.zeroValue172
 t53:=Tryz.underlying174
 a53:=Tryz.isAgg174
 z53:=Tryz.sizeOf174
 v53:=Tryz.zeroValue174
 t131:=Tryz.underlying169
 a131:=Tryz.isAgg169
 z131:=Tryz.sizeOf169
 v131:=Tryz.zeroValue169
 t182:=Tryz.underlying163
 a182:=Tryz.isAgg163
 z182:=Tryz.sizeOf163
 v182:=Tryz.zeroValue163
 t183:=Tryz.underlying164
 a183:=Tryz.isAgg164
 z183:=Tryz.sizeOf164
 v183:=Tryz.zeroValue164
 t218:=Tryz.underlying188
 a218:=Tryz.isAgg188
 z218:=Tryz.sizeOf188
 v218:=Tryz.zeroValue188
 t222:=Tryz.underlying192
 a222:=Tryz.isAgg192
 z222:=Tryz.sizeOf192
 v222:=Tryz.zeroValue192
 t228:=Tryz.underlying198
 a228:=Tryz.isAgg198
 z228:=Tryz.sizeOf198
 v228:=Tryz.zeroValue198
 t229:=Tryz.underlying199
 a229:=Tryz.isAgg199
 z229:=Tryz.sizeOf199
 v229:=Tryz.zeroValue199 }
end Go.Proofs
end
noncomputable section
namespace Go.TY
open Go Go.DL Go.MM Go.Proofs
abbrev env:ByteArray→T:=T.str
abbrev mpv (ks:List ByteArray) (vs:List T):T:=.mapd false [.str] (ks.map env) vs
def tK (id:Nat) (c:Option Code):Array Oper:=match rg0 id c with
 |.region _ ops _=>ops
 |_=> #[]
abbrev fAv:Option Code:=Tryz.f156.body
abbrev fKv:Option Code:=Tryz.f138.body
theorem bAv:fAv=some (.seq (.region 0 (tK 0 fAv) false) (.seq (.seq (.region 1 (tK 1 fAv) false)
  (.block 0 (.rangeFunc (.tmp 6) #[7] (.region 2 (tK 2 fAv) false) (.block 1 (.region 3 (tK 3 fAv) false))))) (.seq (.region 4 (tK 4 fAv) false) .ret))):=by kernel_rfl
abbrev IE:List DI:=[⟨some 5,.mov (.tmp 7),none,[]⟩]
abbrev II:List DI:=[⟨some 8,.load 1 false (.tmp 2),none,[]⟩,⟨some 9,.mov (.tmp 5),none,[]⟩,⟨some 10,.buildS 9 1 1 [.str ⟨#[]⟩] [(0,.tmp 9)],none,[1]⟩,
 ⟨some 11,.append 29 9 1 16 (.tmp 8) (.tmp 10),none,[0,2]⟩,⟨none,.store 1 (.tmp 2) (.tmp 11),none,[3,3,0,1,2,3]⟩]
theorem H6:bX Tryz.prog 13 [] (tK 0 fAv) (tK 0 fAv).toList=some [⟨some 2,.box 1 (.tmp 0),none,[]⟩,⟨some 4,.mov (.const .nil),none,[]⟩]:=by kernel_rfl
theorem H9:bX Tryz.prog 13 [] (tK 1 fAv) (tK 1 fAv).toList=some [⟨some 6,.mov (.tmp 1),none,[]⟩]:=by kernel_rfl
theorem Ic:bX Tryz.prog 13 [] (tK 2 fAv) (tK 2 fAv).toList=some IE:=by kernel_rfl
theorem Ih:bX Tryz.prog 13 [] (tK 3 fAv) (tK 3 fAv).toList=some II:=by kernel_rfl
theorem Ik:bX Tryz.prog 13 [] (tK 4 fAv) (tK 4 fAv).toList=some [⟨some 12,.load 1 false (.tmp 2),none,[]⟩,⟨some 4,.mov (.tmp 12),none,[0,0]⟩]:=by kernel_rfl
abbrev yKv:Array Oper:=tK 3 fKv
theorem bKv:rg0 3 fKv= .region 3 yKv false:=by kernel_rfl
theorem Io:dW Tryz.prog 14 yKv [0,1]=some [⟨some 10,.mov (.tmp 0),none,[]⟩,⟨some 11,.mov (.tmp 3),none,[]⟩]:=by kernel_rfl
theorem Ir:dW Tryz.prog 14 yKv [3]=some [⟨some 13,.not (.tmp 12),none,[2]⟩]:=by kernel_rfl
theorem Iv: ∃o ats,yKv[2]? =some o∧o.guard=none∧o.op= .call {callee:=.value (.tmp 10),args:= #[.tmp 11],argTypes:=ats }∧o.dst=some 12:=by
 refine ⟨((tK 3 fKv)[2]?).getD default,(match (((tK 3 fKv)[2]?).getD default).op with|.call c=>c.argTypes|_=> #[]),by kernel_rfl,by kernel_rfl,by kernel_rfl,by kernel_rfl⟩
abbrev Gy (l d:Nat) (f:FuncId) (tmps:Array Value):aa→World→Prop:=nr l (cW f tmps 7 (.region 2 (tK 2 fAv) false) (.block 1 (.region 3 (tK 3 fAv) false)) d)
abbrev WKv (l:Nat) (C:aa→World→Prop) (ks:List ByteArray) (vs:List T) (ix:List Nat):Wk:=
 {sl:=[(0,.raw (.func (.yield l) #[] #[])),(5,.ptr 2005 0)],bx:=[(2,.v [.own 3011 9 1 (zk env e0 ks ix)]),(2005,.itd (esK env ks vs) ix)],gh:=[(0,[(2,.ptr 2 0)])],off:=2000,cx:=C }
theorem Gm (l d:Nat) (f:FuncId) (tmps:Array Value) (ht:tmps.size=13) (ks:List ByteArray) (vs:List T) (hvs:vs.length=ks.length) (hl:ks.length<2^40) (st0:St)
  (h0:st0=({sl:=[(2,.ptr 2 0),(6,.fn 138 [.t (.cptr [mpv ks vs] 0)])],bx:=[(2,.v [.own 3011 9 1 []])]}:Wk).mk'):
  wpC Tryz.prog Gj (st0.iter l (cW f tmps 7 (.region 2 (tK 2 fAv) false) (.block 1 (.region 3 (tK 3 fAv) false)) d) [.t (.cptr [mpv ks vs] 0)] 2000)
   (qK st0 fun st=>st.sl 2= .ptr 2 0∧(∃ xs,um env e0 ks xs∧st.bx 2=some (.v [.own 3011 9 1 xs]))∧ ∀S w,st.cx S w):=by
 subst h0
 have hes:(esK env ks vs).length=ks.length:=by simp [hvs]
 repeat' ((conv=>whnf);first|refine nT_ ?_|refine aS ?_|fail)
 refine qZ 0 (α:=List Nat) (β:=List Nat) (fun ix=>WKv l (Gy l d f tmps) ks vs ix) (fun ix=>ix.Nodup∧ ∀j∈ix,j<ks.length) (fun ix=>ks.length - ix.length)
  (fun ix=>WKv l (Gy l d f tmps) ks vs ix) (fun ix=>ix.Perm (List.range ks.length)) [] ⟨List.nodup_nil,by simp⟩ ?_ ?_ ?_
 ·exact ⟨⟨.same _,.same _,trivial⟩,⟨.same _,.same _,trivial⟩,⟨⟨.same _,trivial⟩,trivial⟩,rfl,fun _ _ h=>h,rfl⟩
 ·rintro ix ⟨hnd,hix⟩
  refine And.intro (fun j hj=>by rw [hes];exact hix j hj) (And.intro ?_ ?_)
  ·intro j e he hj
   obtain ⟨he1,hjl⟩:=zi (d:=e0) he
   have hent:=yI _ ix j e he
   have hje:(ix++[j]).getLast?.getD 0<(esK env ks vs).length:=by rw [List.getLast?_concat,hes];exact hjl
   obtain ⟨e1,e2⟩:=e
   dsimp only at he1 hent
   subst he1
   have hixl:ix.length≤ks.length:=by
    have:=hnd.length_le_of_subset (l₂:=List.range ks.length) (fun j hj=>List.mem_range.2 (hix j hj))
    simpa using this
   have hnd':(ix++[j]).Nodup:=by
    rw [List.nodup_append]
    exact ⟨hnd,by simp,fun a ha b hb=>by rw [List.mem_singleton.1 hb];exact fun e=>hj (e▸ha)⟩
   have hix': ∀i∈ix++[j],i<ks.length:=fun i hi=>by
    rcases List.mem_append.1 hi with h|h
    ·exact hix i h
    ·rw [List.mem_singleton.1 h];exact hjl
   have hixl':(ix++[j]).length≤ks.length:=by
    have:=hnd'.length_le_of_subset (l₂:=List.range ks.length) (fun j hj=>List.mem_range.2 (hix' j hj))
    simpa using this
   repeat' ((conv=>whnf);first|refine nv_ (.tup [env (ks.getD j e0),e2]) hent ?_|(refine And.intro (by first|exact ⟨by simp,hje⟩|fail) ?_)|fail)
   obtain ⟨o,ats,o1,o2,o3,o4⟩:=Iv
   have hsem: ∀(st:St) (Q:aB→St→Prop),p0 Tryz.prog 14 (.region 3 yKv false) st Q→p0 Tryz.prog 14 (rg0 3 fKv) st Q:=fun st Q h=>by rw [bKv];exact h
   refine hsem _ _ ?_
   refine q0 (P:=Tryz.prog) (k1:=[0,1]) (k:=2) (k2:=[3]) (by kernel_rfl) Io rfl Ir rfl o1 o2 o3 o4 (by decide) (p:=7) ht (by decide) Ic rfl Ih rfl 3000 (l:=l) (fn:=f) (dd:=d) (id1:=2) (id2:=3) (bl:=1) ?_
   refine ⟨fun _ _ h=>h,rfl,?_⟩
   repeat' ((conv=>whnf);first|(refine And.intro (by first|exact fun _ _=>trivial|exact ⟨rfl,nlZ rfl⟩|((simp;omega);done)|exact .inl rfl|fail) ?_)|refine aS ?_|fail)
   refine ⟨ix++[j],⟨hnd',hix'⟩,by rw [List.length_append];simp at hixl' ⊢;omega,?_⟩
   refine ⟨⟨.same _,.same _,trivial⟩,⟨?_,.same _,trivial⟩,⟨⟨.same _,trivial⟩,trivial⟩,rfl,fun _ _ h=>h,rfl⟩
   refine .v _ _ ⟨rX ?_,trivial⟩
   simp [zk]
  ·intro hall
   skip
   refine ⟨ix,xN hnd hix (fun j hj=>hall j (by rw [hes];exact hj)),?_⟩
   exact ⟨⟨.same _,.same _,trivial⟩,⟨.same _,.same _,trivial⟩,⟨⟨.same _,trivial⟩,trivial⟩,rfl,fun _ _ h=>h,rfl⟩
 rintro ix hp
 repeat' ((conv=>whnf);first|refine aS ?_|fail)
 exact ⟨⟨_,⟨ix,hp,rfl⟩,rfl⟩,fun _ _=>trivial⟩
abbrev uR (ks:List ByteArray) (vs:List T):T:=.clos 138 [.cptr [mpv ks vs] 0]
theorem zS (ks:List ByteArray) (vs:List T) (hvs:vs.length=ks.length) (hl:ks.length<2^40):fK Tryz.prog 156 [.nil,uR ks vs] 9 1 (um env e0 ks):=by
 refine qm Tryz.func156 bAv rfl (nlZ rfl) ?_
 intro S w a0 hsr hdf
 let K0:St→Prop:=fun st=>aA Tryz.prog [⟨some 6,.mov (.tmp 1),none,[]⟩] st fun st=>
  bP {sl:=[(2,.ptr 2 0),(6,.t (uR ks vs))],bx:=[(2,.d 1 [.nil])]} st
 have hK0:aA Tryz.prog [⟨some 2,.box 1 (.tmp 0),none,[]⟩,⟨some 4,.mov (.const .nil),none,[]⟩] (eU [.nil,uR ks vs]) K0:=by
  repeat' ((conv=>whnf);first|refine aS ?_|fail)
  exact ⟨⟨.same _,.same _,trivial⟩,⟨.same _,trivial⟩,trivial,rfl,fun _ _ _=>trivial,rfl⟩
 refine wp_seq (nE (X:=[]) (N:=13) hsr H6 (fun a1 w1 h1=>?_) hK0)
 obtain ⟨E1,s1,rfl,k1,k2,k3⟩:=h1
 refine wp_seq (wp_seq (nE (X:=[]) k1 H9 (fun a2 w2 h2=>?_) k3))
 obtain ⟨E2,s2,rfl,k4,k5,k6⟩:=h2
 obtain ⟨E3,e3,k7⟩:=k4.bP k6
 rw [← e3]
 have k8:=k7.rG (k:=6) (k7.sl 6).rv
 obtain ⟨E4,e4,k10⟩:=SR.bP (a:=a2) (s:={sl:=[(2,.ptr 2 0),(6,.fn 138 [.t (.cptr [mpv ks vs] 0)])],bx:=[(2,.v [.own 3011 9 1 []])]}) k8 ⟨⟨.same _,.same _,trivial⟩,⟨.dv _ _ _ ⟨.nil _ _ _,trivial⟩,trivial⟩,trivial,rfl,fun _ _ _=>trivial,rfl⟩
 rw [← e4]
 refine wp_block ?_
 refine rh mixed k10 (fun _ _=>trivial) (y:=.tmp 6) rfl (gf:=138) (caps:=[.t (.cptr [mpv ks vs] 0)]) rfl Tryz.func138 L6 rfl rfl rfl (nlZ rfl) 2000
  (K:=fun st=>st.sl 2= .ptr 2 0∧(∃ xs,um env e0 ks xs∧st.bx 2=some (.v [.own 3011 9 1 xs]))∧ ∀S w,st.cx S w) (fun l d f tmps ht=>?_) (fun a5 w5 h5=>?_)
 ·exact Gm l d f tmps ht ks vs hvs hl _ rfl
 ·obtain ⟨S0',E5,s5,D,rfl,q1,q2,q3,q4,q5,q6,r1,⟨xs,hxs,r2⟩,r3⟩:=h5
  have q6':a5.defers=[{target:=.collected D,args:= #[]}]:=by rw [q6,k5,k2,hdf]
  show Code.wp _ _ _ _ _
  refine wp_seq (nE (X:=[]) q1 Ik (K:=fun st=>(∀ S w,st.cx S w)∧st.sl 4= .own 3011 9 1 xs) (fun a6 w6 h6=>?_) ?_)
  ·obtain ⟨E6,s6,rfl,p1,p2,p3,p4⟩:=h6
   obtain ⟨js,hjs,rfl⟩:=hxs
   refine wp_ret ⟨.inr rfl,S0',E6,s6,D,rfl,p1,q2,q3,q4,q5,by rw [p2,q6'],p3,_,_,⟨js,hjs,rfl⟩,vd (fun _=>rfl) (fun _=>rfl) js ks,?_,.inl ⟨3011,rfl⟩⟩
   have:dP s6 Tryz.f156.results.toList=some [s6.sl 4]:=by
    rw [show Tryz.f156.results.toList=[.tmp 4] from rfl];rfl
   rw [this,p4]
  ·obtain ⟨sl5,bx5,gh5,off5,cx5⟩:=s5
   dsimp only at r1 r2 r3
   obtain ⟨g,rfl⟩: ∃g,sl5=upd g 2 (.ptr 2 0):=⟨sl5,(uA r1).symm⟩
   obtain ⟨b,rfl⟩: ∃b,bx5=upd b 2 (some (.v [.own 3011 9 1 xs])):=⟨bx5,(uA r2).symm⟩
   exact ⟨r3,rfl⟩
theorem BT (ks:List ByteArray) (vs:List T) (hvs:vs.length=ks.length) (hl:ks.length<2^40):fK Tryz.prog 131 [uR ks vs] 9 1 (um env e0 ks):=by
 refine qG (rs:=[.tmp 2]) mixed Tryz.func131 Gz rfl rfl rfl (nlZ rfl) ?_
 repeat' ((conv=>whnf);first|refine ru (ts:=[.nil,uR ks vs]) rfl (zS ks vs hvs hl) (fun xs hx=>?_)|fail)
 obtain ⟨js,hjs,rfl⟩:=hx
 exact ⟨_,_,⟨js,hjs,rfl⟩,vd (fun _=>rfl) (fun _=>rfl) js ks,rfl,.inl ⟨_,rfl⟩⟩
theorem Ea:iz Tryz.prog 132 encStr (fun x y:List UInt8=>decide (x≤y)):=iz.str Tryz.Bs rfl (bQ Tryz.func132 rfl rfl)
theorem Da (ks:List ByteArray) (vs:List T) (hvs:vs.length=ks.length) (hl:ks.length<2^40) (hn:ks.Nodup):kI Tryz.prog 87 [uR ks vs] (.slice 1 ((vI ks).map env)):=by
 refine qS (rs:=[.tmp 2]) mixed Tryz.func87 l87 rfl rfl rfl (nlZ rfl) ?_
 repeat' ((conv=>whnf);first|refine rf (ts:=[uR ks vs]) rfl (BT ks vs hvs hl) rfl (fun h0=>?_) (fun xs hx hc=>?_)|fail)
 ·obtain ⟨zs,hp,h0⟩:=ve h0
  have:zs=[]:=by
   cases zs with
   |nil=>rfl
   |cons z zs=>cases h0
  subst this
  have:ks=[]:=List.nil_perm.1 hp
  subst this
  repeat' ((conv=>whnf);first|refine qc Ea ?_|fail)
  exact ⟨.t .nil,rfl,.nil 1⟩
 ·obtain ⟨zs,hp,rfl⟩:=ve hx
  have hzl:zs.length<2^40:=by rw [hp.length_eq];exact hl
  have hfl:=zH (enc:=env) (fun _=>rfl) zs
  have hle:(zs.map env).length=zs.length:=List.length_map _
  have hsl:(vI ks).length=zs.length:=by
   have e:=congrArg List.length (yr hn hp)
   simp only [List.length_map,List.length_mergeSort] at e
   omega
  repeat' ((conv=>whnf);first|(refine re (n:=5) (off:=0) (len:=(zs.map env).length) (m:=(zs.map env).length * 1) (ts:=(zs.map env).flatMap T.cells) (encT:=wY) Ea rfl (zs.map ByteArray.toList) ?_ ?_ (by omega) (fun a S w v h=>by cases h;rfl) (fun a S w=>.str _) (fun _=>rfl) ?_)|fail)
  ·rw [hfl,List.drop_zero,List.take_of_length_le (by omega)]
   exact (by rw [List.map_map];exact List.map_congr_left fun z _=>(Bo z).symm)
  ·simp
  ·skip
   have e:=yr hn hp
   refine ⟨.view 5 0 (zs.map env).length 1,rfl,.view 5 0 (zs.map env).length 1 ((zs.map env).length * 1) (aN ((zs.map env).flatMap T.cells) 0 (zs.map env).length (((zs.map ByteArray.toList).mergeSort (fun x y:List UInt8=>decide (x≤y))).map wY)) _ [5] rfl ?_ ?_⟩
   ·rw [vf (by rw [hfl]),e]
    intro t ht
    obtain ⟨z,_,rfl⟩:=List.mem_map.1 ht
    rfl
   ·show (cond (Nat.blt 0 1&&Nat.ble (0+(zs.map env).length * 1) ((zs.map env).length * 1)) (some (T.slice 1 (chunk 1 (zs.map env).length ((aN ((zs.map env).flatMap T.cells) 0 (zs.map env).length (((zs.map ByteArray.toList).mergeSort (fun x y:List UInt8=>decide (x≤y))).map wY)).drop 0)),[5])) none)=_
    rw [vf (by rw [hfl]),e,Nat.zero_add,List.drop_zero,yg _ _ (by rw [List.length_map];omega)]
    have:Nat.ble ((zs.map env).length * 1) ((zs.map env).length * 1)=true:=Nat.ble_eq_true_of_le (Nat.le_refl _)
    rw [this]
    rfl
theorem Ga (ks:List ByteArray) (vs:List T):DCalls Tryz.prog 97 [mpv ks vs] (uR ks vs):=by
 refine qO (rs:=[.tmp 2]) mixed Tryz.func97 l97 rfl rfl rfl (r:=[uR ks vs]) (nlZ rfl) ?_
 repeat' ((conv=>whnf);first|exact trivial|refine aS ?_|fail)
end Go.TY
end
section
namespace Go.TY
open Go Go.DL Go.MM Go.Proofs
theorem Ek {l:List Fd} {gs:List RG} {st:VS} (h:uy l gs=some st):xD l (tk (gs.map (·.st))) st:=by
 unfold uy at h
 have hs:=zc (ts:=tk (gs.map (·.st))) (xD.start (l:=l))
 rw [List.nil_append] at hs
 by_cases hp:PW l (tk (gs.map (·.st)))
 ·obtain ⟨st',h1,h2⟩:=hs.1 hp
  rw [h1] at h
  cases h;exact h2
 ·rw [hs.2 hp] at h;cases h
def xt (gs:List RG):List ByteArray:=vI (once [] ((tk (gs.map (·.st))).map (·.var)))
def v0:RV:=⟨e0,0,[],0,0⟩
def zJ (l:List Fd) (gs:List RG):List RV:=(xt gs).map fun s=>(wg l (tk (gs.map (·.st))) s).getD v0
theorem Ex {ks:List ByteArray} (_:ks.Nodup) {x:ByteArray}:x∈vI ks↔x∈ks:=by
 unfold vI
 exact wv
theorem By {α:Type} [DecidableEq α] {lt:α→α→Bool} {x:α}: ∀{l:List α},(put lt l x).length≤l.length+1
 |[]=>by simp [put]
 |y::l=>by
  have ih:=By (lt:=lt) (x:=x) (l:=l)
  have hf:=List.length_filter_le (fun y'=> !decide (y'=x)) (y::l)
  unfold put
  split
  ·simp only [List.length_cons] at *;omega
  ·simp only [List.length_cons] at *;omega
theorem yz {α:Type} [DecidableEq α] {lt:α→α→Bool}: ∀{l acc:List α},(l.foldl (put lt) acc).length≤acc.length+l.length
 |[],_=>by simp
 |x::l,acc=>by
  have h1:=By (lt:=lt) (x:=x) (l:=acc)
  have h2:=yz (lt:=lt) (l:=l) (acc:=put lt acc x)
  rw [List.foldl_cons,List.length_cons]
  omega
theorem B7 {α:Type} [DecidableEq α] {lt:α→α→Bool} {l:List α}:(uo lt l).length≤l.length:=by
 have:=yz (lt:=lt) (l:=l) (acc:=[])
 rw [List.length_nil,Nat.zero_add] at this;exact this
theorem FX (s:ByteArray) (all:List RV) (v:RV) (h:td all s=some v):mS zV false (ep (T.str s).cells (esV all))= .agg (vW v):=by
 rw [zj,h];rfl
theorem C0 {all:List RV} {s:ByteArray} (h:s∈all.map (·.name)): ∃v,td all s=some v:=by
 unfold td
 obtain ⟨v,hv,rfl⟩:=List.mem_map.1 h
 cases e:all.find? fun x=>decide (x.name=v.name) with
 |some x=>exact ⟨x,rfl⟩
 |none=>
  have:=List.find?_eq_none.1 e v hv
  simp at this
theorem FP (all:List RV):(((all.map fun v=>T.str v.name)).zip (all.map sW))=esV all:=by
 unfold esV
 induction all with
 |nil=>rfl
 |cons x xs ih=>simp only [List.map_cons,List.zip_cons_cons,ih]
theorem Bj (l:List Fd) (hl:LOk l) (gs:List RG) (hgl:gs.length<2^39) (hg: ∀g∈gs,SmS (2^40) g.st∧0≤g.st.kind∧g.st.kind≤6) (st:VS) (hst:uy l gs=some st):
  DCalls Tryz.prog 39 [fds l,.slice 15 (gs.map tP)] (.slice 5 ((zJ l gs).map sW)):=by
 refine qO (rs:=[.tmp 4]) mixed Tryz.func39 l39 rfl rfl rfl (r:=[.slice 5 ((zJ l gs).map sW)]) (nlZ rfl) ?_
 have hv:DCalls Tryz.prog 96 [fds l,.slice 15 (gs.map tP)] (.tup [.mapd false [.str] (st.all.map fun v=>.str v.name) (st.all.map sW),.bool true]):=by
  have:=yG l hl gs (by omega) hg
  rw [hst] at this;exact this
 have hi:=Ek hst
 have hnd:(st.all.map (·.name)).Nodup:=by rw [hi.names];exact uN (l:=(tk (gs.map (·.st))).map (·.var)) (acc:=[]) List.nodup_nil
 have hln:(st.all.map (·.name)).length≤gs.length:=by
  rw [hi.names]
  have h1:=vE (l:=(tk (gs.map (·.st))).map (·.var)) (acc:=[])
  have h2:(tk (gs.map (·.st))).length≤gs.length:=by
   unfold tk
   exact Nat.le_trans (List.length_filter_le _ _) (by rw [List.length_map];omega)
  rw [List.length_map,List.length_nil] at h1
  omega
 have hks:=Ga (st.all.map (·.name)) (st.all.map sW)
 have hso:=(Da (st.all.map (·.name)) (st.all.map sW) (by simp) (by omega) hnd).rD
 have hnm:vI (st.all.map (·.name))=xt gs:=by rw [hi.names];rfl
 have hmem: ∀x∈xt gs, ∃v,td st.all x=some v:=fun x hx=>by
  rw [← hnm] at hx
  exact C0 ((Ex hnd).1 hx)
 have hsum:=hi.look
 have hnl:(xt gs).length<2^40:=by
  have:(xt gs).length≤(st.all.map (·.name)).length:=by rw [← hnm];exact B7
  omega
 rw [hnm] at hso
 have e1:mpv (st.all.map (·.name)) (st.all.map sW)= .mapd false [.str] (st.all.map fun v=>.str v.name) (st.all.map sW):=by unfold mpv;rw [List.map_map];rfl
 rw [e1] at hks
 unfold zJ
 clear hnm hi hnd hln
 generalize xt gs=ns at *
 generalize tk (gs.map (·.st))=ss at *
 have hz:=FP st.all
 generalize uR (st.all.map (·.name)) (st.all.map sW)=kc at *
 repeat' ((conv=>whnf);first|refine rE _ (hv) ?_|refine rE _ (hks) ?_|refine rE _ (hso) ?_|fail)
 refine qZ 0 (α:=Nat) (β:=Unit) (fun i=>{sl:=[(5,.t (.mapd false [.str] (st.all.map fun v=>.str v.name) (st.all.map sW))),(7,.own 29 66 5 ((ns.take i).map fun s=>sW ((wg l ss s).getD v0))),(18,.t (.slice 1 (ns.map env))),(19,.t (I ns.length)),(20,.t (I i))],bx:=[]})
  (fun i=>i≤ns.length) (fun i=>ns.length - i) (fun _=>{sl:=[(7,.t (.slice 5 ((ns.map fun s=>(wg l ss s).getD v0).map sW)))],bx:=[]}) (fun _=>True) 0 (by simp) ?_ ?_ ?_
 ·repeat' (first|(exact leI (by simp))|exact trivial|exact LeV.same _|exact rfl|exact fun _ _ _=>trivial|exact LeV.nil _ _ _|refine And.intro ?_ ?_)
 ·rintro i hi
  rcases Nat.lt_or_ge i ns.length with h|h
  ·obtain ⟨v,hv⟩:=hmem ns[i] (List.getElem_mem h)
   have hk:=FX ns[i] st.all v hv
   rw [← hz] at hk
   have hv2:(wg l ss ns[i]).getD v0=v:=by rw [← hsum,hv];rfl
   have ht:ns.take (i+1)=ns.take i++[ns[i]]:=by rw [List.take_succ_eq_append_getElem h]
   repeat' ((conv=>whnf);first|(refine nv_ (.str ns[i]) (by first|(simp [h];done)|fail) ?_)|(refine nv_ (.agg (vW v)) (by first|exact hk|fail) ?_)|refine nT_ ?_|refine aD1 ?_|(refine And.intro (by first|exact ⟨rfl,trivial⟩|((simp only [List.length_map,List.length_take];omega);done)|fail) ?_)|refine aS ?_|fail)
   refine ⟨i+1,h,by omega,?_⟩
   repeat' (first|(exact rX (by rw [ht,List.map_append];exact congrArg (_++ ·) (congrArg (fun c=>[sW c]) hv2)))|exact trivial|exact LeV.same _|exact rfl|exact fun _ _ _=>trivial|exact lI|refine And.intro ?_ ?_)
  ·have:i=ns.length:=by omega
   subst this
   rw [List.take_length]
   repeat' ((conv=>whnf);first|(exact ⟨(),trivial,by (repeat' (first|(exact wH (by rw [List.map_map];rfl))|exact trivial|exact rfl|exact fun _ _ _=>trivial|refine And.intro ?_ ?_));done⟩)|refine aD0 ?_|refine aS ?_|fail)
 ·rintro _ _
  repeat' ((conv=>whnf);first|exact trivial|refine aS ?_|fail)
end Go.TY
end
noncomputable section
namespace Go.TY
open Go Go.DL Go.Proofs
def c22:aY:=(.seq (.region [oo 4 (.mov kF)] []) (.seq (.seq (.region [mv 6 0,ln 7 6,mv 8 1,ln 9 8,oo 10 (.bin .neq (tm 7) (tm 9))] []) (.cond (tm 10) (.seq (.region [oo 4 (.mov kF)] []) .ret) .skip)) (.seq (.seq (.region [oo 5 (.mov (Kc 0))] []) (.block 0 (.loop (.seq (.seq (.region [mv 11 5,mv 12 0,ln 13 12,oo 14 (.bin .lss (tm 11) (tm 13))] []) (.cond (tm 14) .skip (.exit 0))) (.seq (.block 1 (.seq (.region [mv 17 0,mv 18 5,ix 19 1 17 18,ld 20 19,mv 21 1,mv 22 5,ix 23 1 21 22,ld 24 23,oo 25 (.bin .neq (tm 20) (tm 24))] []) (.cond (tm 25) (.seq (.region [oo 4 (.mov kF)] []) .ret) .skip))) (.region [mv 15 5,oo 16 (.bin .add (tm 15) (Kc 1)),mv 5 16] [])))))) (.seq (.region [oo 4 (.mov kT)] []) .ret))))
theorem l22:(Tryz.f22.body.bind (bD Tryz.prog 26 []))=some c22:=by kernel_rfl
def c27:aY:=(.seq (.region [oo 4 (.mov kF)] []) (.seq (.seq (.region [mv 6 0,ln 7 6,mv 8 1,ln 9 8,oo 10 (.bin .neq (tm 7) (tm 9))] []) (.cond (tm 10) (.seq (.region [oo 4 (.mov kF)] []) .ret) .skip)) (.seq (.seq (.region [oo 5 (.mov (Kc 0))] []) (.block 0 (.loop (.seq (.seq (.region [mv 11 5,mv 12 0,ln 13 12,oo 14 (.bin .lss (tm 11) (tm 13))] []) (.cond (tm 14) .skip (.exit 0))) (.seq (.block 1 (.seq (.region [mv 17 0,mv 18 5,ix 19 1 17 18,ld 20 19,mv 21 1,mv 22 5,ix 23 1 21 22,ld 24 23,oo 25 (.bin .neq (tm 20) (tm 24))] []) (.cond (tm 25) (.seq (.region [oo 4 (.mov kF)] []) .ret) .skip))) (.region [mv 15 5,oo 16 (.bin .add (tm 15) (Kc 1)),mv 5 16] [])))))) (.seq (.region [oo 4 (.mov kT)] []) .ret))))
theorem l27:(Tryz.f27.body.bind (bD Tryz.prog 26 []))=some c27:=by kernel_rfl
def c42:aY:=(.seq (.region [oo 2 (.box 5 (tm 0)),oo 3 (.box 5 (tm 1)),oo 4 (.mov kF)] []) (.seq (.region [fa 6 2 2,ld 7 6,fa 8 2 3,ld 9 8,oo 10 (.call 27 [(tm 7),(tm 9)]),mv 5 10] []) (.seq (.region [mv 11 5,mv 12 11,oT 13 12 (.offA 0 (tm 2)),oT 14 12 (.load 1 false (tm 13)),oT 15 12 (.offA 0 (tm 3)),oT 16 12 (.load 1 false (tm 15)),oT 17 12 (.bin .eql (tm 14) (tm 16)),oo 18 (.pick (tm 12) (tm 17) kF),mv 19 18,oT 20 19 (.offA 1 (tm 2)),oT 21 19 (.load 1 false (tm 20)),oT 22 19 (.offA 1 (tm 3)),oT 23 19 (.load 1 false (tm 22)),oT 24 19 (.bin .eql (tm 21) (tm 23)),oo 25 (.pick (tm 19) (tm 24) kF),mv 26 25,oT 27 26 (.offA 3 (tm 2)),oT 28 26 (.load 1 false (tm 27)),oT 29 26 (.offA 3 (tm 3)),oT 30 26 (.load 1 false (tm 29)),oT 31 26 (.bin .eql (tm 28) (tm 30)),oo 32 (.pick (tm 26) (tm 31) kF),mv 33 32,oT 34 33 (.offA 4 (tm 2)),oT 35 33 (.load 1 false (tm 34)),oT 36 33 (.offA 4 (tm 3)),oT 37 33 (.load 1 false (tm 36)),oT 38 33 (.bin .eql (tm 35) (tm 37)),oo 39 (.pick (tm 33) (tm 38) kF),mv 4 39] []) .ret)))
theorem l42:(Tryz.f42.body.bind (bD Tryz.prog 40 []))=some c42:=by kernel_rfl
def c45:aY:=(.seq (.region [oo 4 (.mov kF)] []) (.seq (.seq (.region [mv 7 0,ln 8 7,mv 9 1,ln 10 9,oo 11 (.bin .neq (tm 8) (tm 10))] []) (.cond (tm 11) (.seq (.region [oo 4 (.mov kF)] []) .ret) .skip)) (.seq (.seq (.region [oo 5 (.mov (Kc 0))] []) (.block 0 (.loop (.seq (.seq (.region [mv 12 5,mv 13 0,ln 14 13,oo 15 (.bin .lss (tm 12) (tm 14))] []) (.cond (tm 15) .skip (.exit 0))) (.seq (.block 1 (.seq (.region [mv 18 0,mv 19 5,ix 20 5 18 19,lA 21 5 20,mv 22 1,mv 23 5,ix 24 5 22 23,lA 25 5 24,oo 26 (.call 42 [(tm 21),(tm 25)]),mv 6 26] []) (.seq (.region [mv 27 6,oo 28 (.not (tm 27))] []) (.cond (tm 28) (.seq (.region [oo 4 (.mov kF)] []) .ret) .skip)))) (.region [mv 16 5,oo 17 (.bin .add (tm 16) (Kc 1)),mv 5 17] [])))))) (.seq (.region [oo 4 (.mov kT)] []) .ret))))
theorem l45:(Tryz.f45.body.bind (bD Tryz.prog 29 []))=some c45:=by kernel_rfl
def c51:aY:=(.seq (.region [oo 2 (.box 5 (tm 0)),oo 3 (.box 5 (tm 1)),oo 4 (.mov kF)] []) (.seq (.seq (.region [fa 7 0 2,ld 8 7,fa 9 0 3,ld 10 9,oo 11 (.bin .neq (tm 8) (tm 10)),mv 12 11,oF 13 12 (.offA 1 (tm 2)),oF 14 12 (.load 1 false (tm 13)),oF 15 12 (.offA 1 (tm 3)),oF 16 12 (.load 1 false (tm 15)),oF 17 12 (.bin .neq (tm 14) (tm 16)),oo 18 (.pick (tm 12) kT (tm 17)),mv 19 18,oF 20 19 (.offA 2 (tm 2)),oF 21 19 (.load 1 false (tm 20)),oF 22 19 (.offA 2 (tm 3)),oF 23 19 (.load 1 false (tm 22)),oF 24 19 (.bin .neq (tm 21) (tm 23)),oo 25 (.pick (tm 19) kT (tm 24)),mv 26 25,oF 27 26 (.offA 3 (tm 2)),oF 28 26 (.load 1 false (tm 27)),oF 29 26 (.offA 3 (tm 3)),oF 30 26 (.load 1 false (tm 29)),oF 31 26 (.bin .neq (tm 28) (tm 30)),oo 32 (.pick (tm 26) kT (tm 31)),mv 33 32,oF 34 33 (.offA 4 (tm 2)),oF 35 33 (.load 1 false (tm 34)),oF 36 33 (.len (tm 35)),oF 37 33 (.offA 4 (tm 3)),oF 38 33 (.load 1 false (tm 37)),oF 39 33 (.len (tm 38)),oF 40 33 (.bin .neq (tm 36) (tm 39)),oo 41 (.pick (tm 33) kT (tm 40))] []) (.cond (tm 41) (.seq (.region [oo 4 (.mov kF)] []) .ret) .skip)) (.seq (.seq (.region [oo 5 (.mov (Kc 0))] []) (.block 0 (.loop (.seq (.seq (.region [mv 42 5,fa 43 4 2,ld 44 43,ln 45 44,oo 46 (.bin .lss (tm 42) (tm 45))] []) (.cond (tm 46) .skip (.exit 0))) (.seq (.block 1 (.seq (.region [fa 49 4 2,ld 50 49,mv 51 5,ix 52 5 50 51,lA 53 5 52,fa 54 4 3,ld 55 54,mv 56 5,ix 57 5 55 56,lA 58 5 57,oo 59 (.call 51 [(tm 53),(tm 58)]),mv 6 59] []) (.seq (.region [mv 60 6,oo 61 (.not (tm 60))] []) (.cond (tm 61) (.seq (.region [oo 4 (.mov kF)] []) .ret) .skip)))) (.region [mv 47 5,oo 48 (.bin .add (tm 47) (Kc 1)),mv 5 48] [])))))) (.seq (.region [oo 4 (.mov kT)] []) .ret))))
theorem l51:(Tryz.f51.body.bind (bD Tryz.prog 62 []))=some c51:=by kernel_rfl
def c48:aY:=(.seq (.region [oo 2 (.box 9 (tm 0)),oo 3 (.box 9 (tm 1)),oo 4 (.mov kF)] []) (.seq (.region [fa 8 1 2,lA 9 5 8,fa 10 1 3,lA 11 5 10,oo 12 (.call 51 [(tm 9),(tm 11)]),mv 5 12] []) (.seq (.seq (.region [mv 13 5,oo 14 (.not (tm 13)),mv 15 14,oF 16 15 (.offA 0 (tm 2)),oF 17 15 (.load 1 false (tm 16)),oF 18 15 (.offA 0 (tm 3)),oF 19 15 (.load 1 false (tm 18)),oF 20 15 (.bin .neq (tm 17) (tm 19)),oo 21 (.pick (tm 15) kT (tm 20)),mv 22 21,oF 23 22 (.offA 6 (tm 2)),oF 24 22 (.load 1 false (tm 23)),oF 25 22 (.offA 6 (tm 3)),oF 26 22 (.load 1 false (tm 25)),oF 27 22 (.bin .neq (tm 24) (tm 26)),oo 28 (.pick (tm 22) kT (tm 27)),mv 29 28,oF 30 29 (.offA 7 (tm 2)),oF 31 29 (.load 1 false (tm 30)),oF 32 29 (.offA 7 (tm 3)),oF 33 29 (.load 1 false (tm 32)),oF 34 29 (.bin .neq (tm 31) (tm 33)),oo 35 (.pick (tm 29) kT (tm 34)),mv 36 35,oF 37 36 (.offA 8 (tm 2)),oF 38 36 (.load 1 false (tm 37)),oF 39 36 (.len (tm 38)),oF 40 36 (.offA 8 (tm 3)),oF 41 36 (.load 1 false (tm 40)),oF 42 36 (.len (tm 41)),oF 43 36 (.bin .neq (tm 39) (tm 42)),oo 44 (.pick (tm 36) kT (tm 43))] []) (.cond (tm 44) (.seq (.region [oo 4 (.mov kF)] []) .ret) .skip)) (.seq (.seq (.region [oo 6 (.mov (Kc 0))] []) (.block 0 (.loop (.seq (.seq (.region [mv 45 6,fa 46 8 2,ld 47 46,ln 48 47,oo 49 (.bin .lss (tm 45) (tm 48))] []) (.cond (tm 49) .skip (.exit 0))) (.seq (.block 1 (.seq (.region [fa 52 8 2,ld 53 52,mv 54 6,ix 55 9 53 54,lA 56 9 55,fa 57 8 3,ld 58 57,mv 59 6,ix 60 9 58 59,lA 61 9 60,oo 62 (.call 48 [(tm 56),(tm 61)]),mv 7 62] []) (.seq (.region [mv 63 7,oo 64 (.not (tm 63))] []) (.cond (tm 64) (.seq (.region [oo 4 (.mov kF)] []) .ret) .skip)))) (.region [mv 50 6,oo 51 (.bin .add (tm 50) (Kc 1)),mv 6 51] [])))))) (.seq (.region [oo 4 (.mov kT)] []) .ret)))))
theorem l48:(Tryz.f48.body.bind (bD Tryz.prog 65 []))=some c48:=by kernel_rfl
def Kd:aY:=(.seq (.region [oo 2 (.box 6 (tm 0)),oo 3 (.box 6 (tm 1)),oo 4 (.mov kF)] []) (.seq (.seq (.region [fa 6 0 2,ld 7 6,fa 8 0 3,ld 9 8,oo 10 (.bin .neq (tm 7) (tm 9)),mv 11 10,oF 12 11 (.offA 1 (tm 2)),oF 13 11 (.load 1 false (tm 12)),oF 14 11 (.offA 1 (tm 3)),oF 15 11 (.load 1 false (tm 14)),oF 16 11 (.bin .neq (tm 13) (tm 15)),oo 17 (.pick (tm 11) kT (tm 16)),mv 18 17,oF 19 18 (.offA 3 (tm 2)),oF 20 18 (.load 1 false (tm 19)),oF 21 18 (.offA 3 (tm 3)),oF 22 18 (.load 1 false (tm 21)),oF 23 18 (.bin .neq (tm 20) (tm 22)),oo 24 (.pick (tm 18) kT (tm 23)),mv 25 24,oF 26 25 (.offA 4 (tm 2)),oF 27 25 (.load 1 false (tm 26)),oF 28 25 (.offA 4 (tm 3)),oF 29 25 (.load 1 false (tm 28)),oF 30 25 (.bin .neq (tm 27) (tm 29)),oo 31 (.pick (tm 25) kT (tm 30)),mv 32 31,oF 33 32 (.offA 5 (tm 2)),oF 34 32 (.load 1 false (tm 33)),oF 35 32 (.offA 5 (tm 3)),oF 36 32 (.load 1 false (tm 35)),oF 37 32 (.bin .neq (tm 34) (tm 36)),oo 38 (.pick (tm 32) kT (tm 37)),mv 39 38,oF 40 39 (.offA 2 (tm 2)),oF 41 39 (.load 1 false (tm 40)),oF 42 39 (.len (tm 41)),oF 43 39 (.offA 2 (tm 3)),oF 44 39 (.load 1 false (tm 43)),oF 45 39 (.len (tm 44)),oF 46 39 (.bin .neq (tm 42) (tm 45)),oo 47 (.pick (tm 39) kT (tm 46))] []) (.cond (tm 47) (.seq (.region [oo 4 (.mov kF)] []) .ret) .skip)) (.seq (.seq (.region [oo 5 (.mov (Kc 0))] []) (.block 0 (.loop (.seq (.seq (.region [mv 48 5,fa 49 2 2,ld 50 49,ln 51 50,oo 52 (.bin .lss (tm 48) (tm 51))] []) (.cond (tm 52) .skip (.exit 0))) (.seq (.block 1 (.seq (.region [fa 55 2 2,ld 56 55,mv 57 5,ix 58 1 56 57,ld 59 58,fa 60 2 3,ld 61 60,mv 62 5,ix 63 1 61 62,ld 64 63,oo 65 (.bin .neq (tm 59) (tm 64))] []) (.cond (tm 65) (.seq (.region [oo 4 (.mov kF)] []) .ret) .skip))) (.region [mv 53 5,oo 54 (.bin .add (tm 53) (Kc 1)),mv 5 54] [])))))) (.seq (.region [oo 4 (.mov kT)] []) .ret))))
theorem Ly:(Tryz.f104.body.bind (bD Tryz.prog 66 []))=some Kd:=by kernel_rfl
def c16:aY:=(.seq (.region [oo 3 (.box 5 (tm 1)),oo 4 (.mov (Kc 0))] []) (.seq (.region [lA 6 5 3,oo 7 (.call 70 [tm 6]),mv 5 7] []) (.seq (.seq (.region [mv 8 5,oo 9 (.bin .neq (tm 8) (Kc 0))] []) (.cond (tm 9) (.seq (.region [mv 10 5,mv 4 10] []) .ret) .skip)) (.seq (.region [mv 11 0,lA 12 5 3,oo 13 (.call 71 [(tm 11),(tm 12)]),mv 4 13] []) .ret))))
theorem l16:(Tryz.f16.body.bind (bD Tryz.prog 14 []))=some c16:=by kernel_rfl
def c20:aY:=(.seq (.region [oo 3 (.box 6 (tm 1)),oo 4 (.mov (Kc 0))] []) (.seq (.region [lA 14 6 3,oo 15 (.call 83 [tm 14]),mv 5 15] []) (.seq (.seq (.region [mv 16 5,oo 17 (.bin .neq (tm 16) (Kc 0)),mv 18 17,oF 19 18 (.offA 0 (tm 3)),oF 20 18 (.load 1 false (tm 19)),oF 21 18 (.bin .eql (tm 20) (Kc 0)),oo 22 (.pick (tm 18) kT (tm 21))] []) (.cond (tm 22) (.seq (.region [mv 23 5,mv 4 23] []) .ret) .skip)) (.seq (.region [⟨some 24,.buildS 9 1 0 [S0] [],none,[]⟩,fa 25 2 3,ld 26 25,oo 27 (.append 29 9 1 16 (tm 24) (tm 26)),mv 6 27] []) (.seq (.cut (.seq (.region [fa 28 3 3,ld 29 28,⟨some 30,.bin .neq (tm 29) (.const S0),none,[]⟩] []) (.cond (tm 30) (.region [mv 31 6,fa 32 3 3,ld 33 32,⟨some 34,.buildF 1 1 [S0] [(0,(tm 33))],none,[]⟩,oo 35 (.append 29 9 1 16 (tm 31) (tm 34)),mv 6 35] []) .skip))) (.seq (.seq (.region [oo 7 (.mov (Kc 0))] []) (.block 0 (.loop (.seq (.seq (.region [mv 36 7,mv 37 6,ln 38 37,oo 39 (.bin .lss (tm 36) (tm 38))] []) (.cond (tm 39) .skip (.exit 0))) (.seq (.block 1 (.seq (.region [mv 43 0,mv 44 6,mv 45 7,ix 46 1 44 45,ld 47 46,oo 48 (.call 77 [(tm 43),(tm 47)]),mv 42 48,oo 49 (.ext (tm 42) 0),oo 50 (.ext (tm 42) 1),⟨some 8,.alloc [S0,Z0,Z0],none,[]⟩,o0 (.store 3 (tm 8) (tm 49)),mv 9 50] []) (.seq (.region [mv 51 9,oo 52 (.not (tm 51))] []) (.cond (tm 52) (.seq (.region [oo 4 (.mov (Kc 4))] []) .ret) .skip)))) (.region [mv 40 7,oo 41 (.bin .add (tm 40) (Kc 1)),mv 7 41] [])))))) (.seq (.seq (.region [oo 10 (.mov (Kc 0))] []) (.block 2 (.loop (.seq (.seq (.region [mv 53 10,fa 54 2 3,ld 55 54,ln 56 55,oo 57 (.bin .lss (tm 53) (tm 56))] []) (.cond (tm 57) .skip (.exit 2))) (.seq (.block 3 (.seq (.region [oo 11 (.mov (Kc 0))] []) (.block 4 (.loop (.seq (.seq (.region [mv 60 11,mv 61 10,oo 62 (.bin .lss (tm 60) (tm 61))] []) (.cond (tm 62) .skip (.exit 4))) (.seq (.block 5 (.seq (.region [fa 65 2 3,ld 66 65,mv 67 11,ix 68 1 66 67,ld 69 68,fa 70 2 3,ld 71 70,mv 72 10,ix 73 1 71 72,ld 74 73,oo 75 (.bin .eql (tm 69) (tm 74))] []) (.cond (tm 75) (.seq (.region [oo 4 (.mov (Kc 1))] []) .ret) .skip))) (.region [mv 63 11,oo 64 (.bin .add (tm 63) (Kc 1)),mv 11 64] []))))))) (.region [mv 58 10,oo 59 (.bin .add (tm 58) (Kc 1)),mv 10 59] [])))))) (.seq (.cut (.region [mv 77 0,fa 78 3 3,ld 79 78,oo 80 (.call 77 [(tm 77),(tm 79)]),mv 76 80,oo 81 (.ext (tm 76) 0),oo 82 (.ext (tm 76) 1),⟨some 12,.alloc [S0,Z0,Z0],none,[]⟩,o0 (.store 3 (tm 12) (tm 81)),mv 13 82] [])) (.seq (.seq (.region [fa 83 0 3,ld 84 83,oo 85 (.bin .eql (tm 84) (Kc 4)),mv 86 85,oT 87 86 (.offA 5 (tm 3)),oT 88 86 (.load 1 false (tm 87)),oT 89 86 (.load 3 true (tm 12)),oT 90 86 (.call 78 [tm 89]),oT 91 86 (.bin .gtr (tm 88) (tm 90)),oo 92 (.pick (tm 86) (tm 91) kF)] []) (.cond (tm 92) (.seq (.region [oo 4 (.mov (Kc 1))] []) .ret) .skip)) (.seq (.region [oo 4 (.mov (Kc 0))] []) .ret))))))))))
theorem l20:(Tryz.f20.body.bind (bD Tryz.prog 93 [5000005,6000021,8000034]))=some c20:=by kernel_rfl
def c70:aY:=(.seq (.region [oo 1 (.box 5 (tm 0)),oo 2 (.mov (Kc 0))] []) (.seq (.region [lA 3 5 1,oo 4 (.call 67 [tm 3]),lA 5 5 1,oo 6 (.call 110 [tm 5]),oo 7 (.call 84 [(tm 4),(tm 6)]),mv 2 7] []) .ret))
theorem l70:(Tryz.f70.body.bind (bD Tryz.prog 8 []))=some c70:=by kernel_rfl
def Ky:aY:=(.seq (.region [oo 1 (.box 6 (tm 0)),oo 2 (.mov kF)] []) (.seq (.region [lA 9 6 1,⟨some 10,.build [Z0,S0,.nil,S0,Z0,Z0] [],none,[]⟩,oo 11 (.call 104 [(tm 9),(tm 10)]),mv 3 11] []) (.seq (.seq (.region [mv 12 3] []) (.cond (tm 12) (.seq (.region [oo 2 (.mov kT)] []) .ret) .skip)) (.seq (.region [fa 13 1 1,ld 14 13,oo 15 (.call 155 [tm 14]),mv 4 15] []) (.seq (.seq (.cut (.region [mv 16 4,oo 17 (.not (tm 16)),mv 18 17,oF 19 18 (.offA 2 (tm 1)),oF 20 18 (.load 1 false (tm 19)),oF 21 18 (.len (tm 20)),oF 22 18 (.bin .lss (tm 21) (Kc 1)),oo 23 (.pick (tm 18) kT (tm 22)),mv 24 23,oF 25 24 (.offA 2 (tm 1)),oF 26 24 (.load 1 false (tm 25)),oF 27 24 (.len (tm 26)),oF 28 24 (.bin .gtr (tm 27) (Kc 4)),oo 29 (.pick (tm 24) kT (tm 28))] [])) (.cond (tm 29) (.seq (.region [oo 2 (.mov kF)] []) .ret) .skip)) (.seq (.seq (.region [oo 5 (.mov (Kc 0))] []) (.block 0 (.loop (.seq (.seq (.region [mv 30 5,fa 31 2 1,ld 32 31,ln 33 32,oo 34 (.bin .lss (tm 30) (tm 33))] []) (.cond (tm 34) .skip (.exit 0))) (.seq (.block 1 (.seq (.region [fa 37 2 1,ld 38 37,mv 39 5,ix 40 1 38 39,ld 41 40,oo 42 (.call 129 [tm 41]),mv 6 42] []) (.seq (.region [mv 43 6,oo 44 (.not (tm 43))] []) (.cond (tm 44) (.seq (.region [oo 2 (.mov kF)] []) .ret) .skip)))) (.region [mv 35 5,oo 36 (.bin .add (tm 35) (Kc 1)),mv 5 36] [])))))) (.seq (.region [fa 45 3 1,ld 46 45,oo 47 (.call 129 [tm 46]),mv 7 47] []) (.seq (.cut (.region [fa 48 4 1,ld 49 48,oo 50 (.bin .eql (tm 49) (Kc 0)),mv 51 50,oT 52 51 (.offA 5 (tm 1)),oT 53 51 (.load 1 false (tm 52)),oT 54 51 (.bin .eql (tm 53) (Kc 0)),oo 55 (.pick (tm 51) (tm 54) kF),mv 8 55] [])) (.seq (.seq (.region [fa 56 0 1,ld 57 56] []) (.block 2 (.seq (.region [oo 59 (.bin .eql (tm 57) (Kc 1)),mv 58 59] []) (.cond (tm 58) (.seq (.region [mv 60 7,mv 61 60,oF 62 61 (.offA 3 (tm 1)),oF 63 61 (.load 1 false (tm 62)),⟨some 64,.bin .eql (tm 63) (.const S0),some (61,false),[]⟩,oo 65 (.pick (tm 61) kT (tm 64)),mv 66 65,mT 67 8 66,oo 68 (.pick (tm 66) (tm 67) kF),mv 2 68] []) .ret) (.seq (.region [oo 70 (.bin .eql (tm 57) (Kc 2)),mv 69 70] []) (.cond (tm 69) (.seq (.region [fa 71 3 1,ld 72 71,⟨some 73,.bin .eql (tm 72) (.const S0),none,[]⟩,mv 74 73,mT 75 8 74,oo 76 (.pick (tm 74) (tm 75) kF),mv 2 76] []) .ret) (.seq (.region [oo 78 (.bin .eql (tm 57) (Kc 3)),mv 77 78] []) (.cond (tm 77) (.seq (.region [fa 79 3 1,ld 80 79,⟨some 81,.bin .eql (tm 80) (.const S0),none,[]⟩,mv 82 81,oT 83 82 (.offA 4 (tm 1)),oT 84 82 (.load 1 false (tm 83)),oT 85 82 (.bin .geq (tm 84) (Kc 0)),oo 86 (.pick (tm 82) (tm 85) kF),mv 87 86,oT 88 87 (.offA 4 (tm 1)),oT 89 87 (.load 1 false (tm 88)),oT 90 87 (.bin .leq (tm 89) (Kc 1073741824)),oo 91 (.pick (tm 87) (tm 90) kF),mv 92 91,oT 93 92 (.offA 5 (tm 1)),oT 94 92 (.load 1 false (tm 93)),oT 95 92 (.bin .eql (tm 94) (Kc 0)),oo 96 (.pick (tm 92) (tm 95) kF),mv 2 96] []) .ret) (.seq (.region [oo 98 (.bin .eql (tm 57) (Kc 4)),mv 97 98] []) (.cond (tm 97) (.seq (.region [mv 99 7,mv 100 99,oT 101 100 (.offA 4 (tm 1)),oT 102 100 (.load 1 false (tm 101)),oT 103 100 (.bin .geq (tm 102) (Kc 0)),oo 104 (.pick (tm 100) (tm 103) kF),mv 105 104,oT 106 105 (.offA 4 (tm 1)),oT 107 105 (.load 1 false (tm 106)),oT 108 105 (.offA 5 (tm 1)),oT 109 105 (.load 1 false (tm 108)),oT 110 105 (.bin .leq (tm 107) (tm 109)),oo 111 (.pick (tm 105) (tm 110) kF),mv 112 111,oT 113 112 (.offA 5 (tm 1)),oT 114 112 (.load 1 false (tm 113)),oT 115 112 (.bin .leq (tm 114) (Kc 65535)),oo 116 (.pick (tm 112) (tm 115) kF),mv 2 116] []) .ret) (.seq (.region [oo 118 (.bin .eql (tm 57) (Kc 5)),mv 117 118] []) (.cond (tm 117) (.seq (.region [mv 119 7,mv 120 119,mT 121 8 120,oo 122 (.pick (tm 120) (tm 121) kF),mv 2 122] []) .ret) (.seq (.region [oo 124 (.bin .eql (tm 57) (Kc 6)),mv 123 124] []) (.cond (tm 123) (.seq (.region [fa 125 3 1,ld 126 125,⟨some 127,.bin .eql (tm 126) (.const S0),none,[]⟩,mv 128 127,oT 129 128 (.offA 4 (tm 1)),oT 130 128 (.load 1 false (tm 129)),oT 131 128 (.bin .geq (tm 130) (Kc 1)),oo 132 (.pick (tm 128) (tm 131) kF),mv 133 132,oT 134 133 (.offA 4 (tm 1)),oT 135 133 (.load 1 false (tm 134)),oT 136 133 (.bin .leq (tm 135) (Kc 65535)),oo 137 (.pick (tm 133) (tm 136) kF),mv 138 137,oT 139 138 (.offA 5 (tm 1)),oT 140 138 (.load 1 false (tm 139)),oT 141 138 (.bin .geq (tm 140) (Kc 1)),oo 142 (.pick (tm 138) (tm 141) kF),mv 143 142,oT 144 143 (.offA 5 (tm 1)),oT 145 143 (.load 1 false (tm 144)),oT 146 143 (.bin .leq (tm 145) (Kc 1073741824)),oo 147 (.pick (tm 143) (tm 146) kF),mv 2 147] []) .ret) .skip)))))))))))))) (.seq (.region [oo 2 (.mov kF)] []) .ret))))))))))
theorem LV:(Tryz.f127.body.bind (bD Tryz.prog 148 [6000005,6000014]))=some Ky:=by kernel_rfl
def c83:aY:=(.seq (.region [oo 1 (.box 6 (tm 0)),oo 2 (.mov (Kc 0))] []) (.seq (.region [lA 4 6 1,oo 5 (.call 127 [tm 4]),mv 3 5] []) (.seq (.seq (.region [mv 6 3,oo 7 (.not (tm 6))] []) (.cond (tm 7) (.seq (.region [oo 2 (.mov (Kc 1))] []) .ret) .skip)) (.seq (.region [oo 2 (.mov (Kc 0))] []) .ret))))
theorem l83:(Tryz.f83.body.bind (bD Tryz.prog 8 []))=some c83:=by kernel_rfl
def c12:aY:=(.seq (.region [oo 1 (.box 5 (tm 0)),oo 2 (.mov kF)] []) (.seq (.region [lA 4 5 1,oo 5 (.call 67 [tm 4]),oo 3 (.alloc [Z0,Z0]),o0 (.store 2 (tm 3) (tm 5))] []) (.seq (.region [fa 6 0 3,ld 7 6,oo 8 (.bin .leq (tm 7) (Kc 400)),mv 9 8,oT 10 9 (.offA 1 (tm 3)),oT 11 9 (.load 1 false (tm 10)),oT 12 9 (.bin .leq (tm 11) (Kc 60)),oo 13 (.pick (tm 9) (tm 12) kF),mv 2 13] []) .ret)))
theorem l12:(Tryz.f12.body.bind (bD Tryz.prog 14 []))=some c12:=by kernel_rfl
def c13:aY:=(.seq (.region [oo 1 (.box 9 (tm 0)),oo 2 (.mov kF)] []) (.seq (.region [lA 5 9 1,oo 6 (.call 34 [tm 5]),oo 3 (.alloc [Z0,Z0]),o0 (.store 2 (tm 3) (tm 6))] []) (.seq (.region [fa 7 1 1,lA 8 5 7,oo 9 (.call 67 [tm 8]),oo 4 (.alloc [Z0,Z0]),o0 (.store 2 (tm 4) (tm 9))] []) (.seq (.region [fa 10 0 3,ld 11 10,oo 12 (.bin .leq (tm 11) (Kc 400)),mv 13 12,oT 14 13 (.offA 1 (tm 3)),oT 15 13 (.load 1 false (tm 14)),oT 16 13 (.bin .leq (tm 15) (Kc 60)),oo 17 (.pick (tm 13) (tm 16) kF),mv 18 17,oT 19 18 (.offA 0 (tm 4)),oT 20 18 (.load 1 false (tm 19)),oT 21 18 (.bin .leq (tm 20) (Kc 400)),oo 22 (.pick (tm 18) (tm 21) kF),mv 2 22] []) .ret))))
theorem l13:(Tryz.f13.body.bind (bD Tryz.prog 23 []))=some c13:=by kernel_rfl
def c14:aY:=(.seq (.region [oo 1 (.box 6 (tm 0)),oo 2 (.mov kF)] []) (.seq (.region [fa 3 2 1,ld 4 3,ln 5 4,oo 6 (.bin .leq (tm 5) (Kc 20)),mv 2 6] []) .ret))
theorem l14:(Tryz.f14.body.bind (bD Tryz.prog 7 []))=some c14:=by kernel_rfl
end Go.TY
end
section
namespace Go.TY
open Go Go.DL Go.MM Go.Proofs
theorem yY (a b:List Int) (hl:a.length<2^60∨b.length<2^60):DCalls Tryz.prog 27 [.slice 1 (a.map I),.slice 1 (b.map I)] (.bool (a==b)):=by
 refine qO (rs:=[.tmp 4]) mixed Tryz.func27 l27 rfl rfl rfl (r:=[.bool _]) (nlZ rfl) ?_
 have ha:((a.map I).length:Int)=a.length:=by rw [List.length_map]
 have hb:((b.map I).length:Int)=b.length:=by rw [List.length_map]
 by_cases hab:a.length=b.length
 case neg=>
  have e:(a==b)=false:=beq_false_of_ne fun e=>hab (by rw [e])
  rw [e]
  have hn:((a.map I).length:Int)≠((b.map I).length:Int):=by omega
  repeat' ((conv=>whnf);first|exact trivial|refine qz hn ?_|refine rb0 ?_|refine aS ?_|fail)
 have hl:a.length<2^60:=by omega
 have hn:((a.map I).length:Int)=((b.map I).length:Int):=by omega
 repeat' ((conv=>whnf);first|refine qy hn ?_|refine aS ?_|fail)
 refine rq (α:=Nat) (fun i=>{sl:=[(0,.t (.slice 1 (a.map I))),(1,.t (.slice 1 (b.map I))),(5,.t (I i))],bx:=[]})
  (fun i=>i≤a.length∧ ∀j (h:j<a.length) (h':j<b.length),j<i→a[j]=b[j]) (fun i=>a.length - i) 0 (by simp) ?_ ?_
 ·repeat' (first|exact trivial|exact LeV.same _|exact rfl|exact fun _ _ _=>trivial|refine And.intro ?_ ?_)
 rintro i ⟨hi,hp⟩
 rcases Nat.lt_or_ge i a.length with h|h
 ·have h':i<b.length:=by omega
  have hlt:(i:Int)<((a.map I).length:Int):=by omega
  by_cases he:a[i]=b[i]
  ·repeat' ((conv=>whnf);first|refine qv hlt ?_|(refine nv_ (I a[i]) (by first|(simp [h];done)|fail) ?_)|(refine nv_ (I b[i]) (by first|(simp [h'];done)|fail) ?_)|refine qy he ?_|refine nT_ ?_|refine aS ?_|fail)
   refine ⟨i+1,⟨h,fun j hj hj' hlt=>?_⟩,by omega,?_⟩
   ·rcases Nat.lt_or_ge j i with h4|h4
    ·exact hp j hj hj' h4
    ·obtain rfl:j=i:=by omega
     exact he
   ·repeat' (first|exact trivial|exact LeV.same _|exact rfl|exact fun _ _ _=>trivial|exact lI|refine And.intro ?_ ?_)
  ·have e:(a==b)=false:=beq_false_of_ne fun e=>he (by subst e;rfl)
   rw [e]
   repeat' ((conv=>whnf);first|exact trivial|refine qv hlt ?_|(refine nv_ (I a[i]) (by first|(simp [h];done)|fail) ?_)|(refine nv_ (I b[i]) (by first|(simp [h'];done)|fail) ?_)|refine qz he ?_|refine nT_ ?_|refine rb0 ?_|refine aS ?_|fail)
 ·have e:(a==b)=true:=by
   have:a=b:=List.ext_getElem hab fun j h1 h2=>hp j h1 h2 (by omega)
   simp [this]
  rw [e]
  have hlt: ¬(i:Int)<((a.map I).length:Int):=by omega
  repeat' ((conv=>whnf);first|exact trivial|refine qu hlt ?_|refine rb1 ?_|refine aS ?_|fail)
def vo:List ByteArray→List ByteArray→Bool
 |[],[]=>true
 |x::xs,y::ys=>sC x y&&vo xs ys
 |_,_=>false
theorem wc: ∀{a b:List ByteArray},vo a b=true↔a=b
 |[],[]=>by simp [vo]
 |[],_::_=>by simp [vo]
 |_::_,[]=>by simp [vo]
 |x::xs,y::ys=>by
  unfold vo
  rw [Bool.and_eq_true,wc (a:=xs),sO,List.cons.injEq]
theorem AO {a b:List ByteArray} (h:a≠b):vo a b=false:=by
 cases e:vo a b with
 |false=>rfl
 |true=>exact (h (wc.1 e)).elim
theorem Bh (a b:List ByteArray) (hl:a.length<2^60∨b.length<2^60):DCalls Tryz.prog 22 [.slice 1 (a.map .str),.slice 1 (b.map .str)] (.bool (vo a b)):=by
 refine qO (rs:=[.tmp 4]) mixed Tryz.func22 l22 rfl rfl rfl (r:=[.bool _]) (nlZ rfl) ?_
 have ha:((a.map T.str).length:Int)=a.length:=by rw [List.length_map]
 have hb:((b.map T.str).length:Int)=b.length:=by rw [List.length_map]
 by_cases hab:a.length=b.length
 case neg=>
  rw [AO fun e=>hab (by rw [e])]
  have hn:((a.map T.str).length:Int)≠((b.map T.str).length:Int):=by omega
  repeat' ((conv=>whnf);first|exact trivial|refine qz hn ?_|refine rb0 ?_|refine aS ?_|fail)
 have hl:a.length<2^60:=by omega
 have hn:((a.map T.str).length:Int)=((b.map T.str).length:Int):=by omega
 repeat' ((conv=>whnf);first|refine qy hn ?_|refine aS ?_|fail)
 refine rq (α:=Nat) (fun i=>{sl:=[(0,.t (.slice 1 (a.map .str))),(1,.t (.slice 1 (b.map .str))),(5,.t (I i))],bx:=[]})
  (fun i=>i≤a.length∧ ∀j (h:j<a.length) (h':j<b.length),j<i→a[j]=b[j]) (fun i=>a.length - i) 0 (by simp) ?_ ?_
 ·repeat' (first|exact trivial|exact LeV.same _|exact rfl|exact fun _ _ _=>trivial|refine And.intro ?_ ?_)
 rintro i ⟨hi,hp⟩
 rcases Nat.lt_or_ge i a.length with h|h
 ·have h':i<b.length:=by omega
  have hlt:(i:Int)<((a.map T.str).length:Int):=by omega
  have hE:=sI a[i] b[i]
  have hN:(!(a[i].toList==b[i].toList))= !sC a[i] b[i]:=by rw [hE]
  by_cases he:a[i]=b[i]
  ·rw [sO.2 he] at hN
   repeat' ((conv=>whnf);first|refine qv hlt ?_|(refine nv_ (.str a[i]) (by first|(simp [h];done)|fail) ?_)|(refine nv_ (.str b[i]) (by first|(simp [h'];done)|fail) ?_)|refine nb_ _ hN ?_|refine nT_ ?_|refine aS ?_|fail)
   refine ⟨i+1,⟨h,fun j hj hj' hlt=>?_⟩,by omega,?_⟩
   ·rcases Nat.lt_or_ge j i with h4|h4
    ·exact hp j hj hj' h4
    ·obtain rfl:j=i:=by omega
     exact he
   ·repeat' (first|exact trivial|exact LeV.same _|exact rfl|exact fun _ _ _=>trivial|exact lI|refine And.intro ?_ ?_)
  ·rw [AO fun e=>he (by subst e;rfl)]
   have hs:sC a[i] b[i]=false:=by
    cases e:sC a[i] b[i] with
    |false=>rfl
    |true=>exact (he (sO.1 e)).elim
   rw [hs] at hN
   repeat' ((conv=>whnf);first|exact trivial|refine qv hlt ?_|(refine nv_ (.str a[i]) (by first|(simp [h];done)|fail) ?_)|(refine nv_ (.str b[i]) (by first|(simp [h'];done)|fail) ?_)|refine nb_ _ hN ?_|refine nT_ ?_|refine rb0 ?_|refine aS ?_|fail)
 ·rw [wc.2 (List.ext_getElem hab fun j h1 h2=>hp j h1 h2 (by omega))]
  have hlt: ¬(i:Int)<((a.map T.str).length:Int):=by omega
  repeat' ((conv=>whnf);first|exact trivial|refine qu hlt ?_|refine rb1 ?_|refine aS ?_|fail)
end Go.TY
end
section
namespace Go.TY
open Go Go.DL Go.MM Go.Proofs
theorem zl (a b:RV) (hl:a.ws.length<2^60∨b.ws.length<2^60):DCalls Tryz.prog 42 [sW a,sW b] (.bool (xO a b)):=by
 obtain ⟨a1,a2,a3,a4,a5⟩:=a
 obtain ⟨b1,b2,b3,b4,b5⟩:=b
 refine qO (rs:=[.tmp 4]) mixed Tryz.func42 l42 rfl rfl rfl (r:=[.bool _]) (nlZ rfl) ?_
 have h1:=yY a3 b3 hl
 have hE:=sI a1 b1
 simp only [xO]
 generalize sC a1 b1=e at *
 generalize (a3==b3)=z at *
 by_cases c2:a2=b2
 case neg=>rw [beq_false_of_ne c2];cases e <;> cases z <;> repeat' ((conv=>whnf);first|exact trivial|refine rE _ (h1) ?_|refine nb_ _ hE ?_|refine qw c2 ?_|refine nT_ ?_|refine rb0 ?_|refine aS ?_|fail)
 by_cases c4:a4=b4
 case neg=>rw [beq_false_of_ne c4,c2];cases e <;> cases z <;> repeat' ((conv=>whnf);first|exact trivial|refine rE _ (h1) ?_|refine nb_ _ hE ?_|refine qw c4 ?_|refine nT_ ?_|refine aE1 ?_|refine rb0 ?_|refine aS ?_|fail)
 by_cases c5:a5=b5
 case neg=>rw [beq_false_of_ne c5,c2,c4];cases e <;> cases z <;> repeat' ((conv=>whnf);first|exact trivial|refine rE _ (h1) ?_|refine nb_ _ hE ?_|refine qw c5 ?_|refine nT_ ?_|refine aE1 ?_|refine rb0 ?_|refine aS ?_|fail)
 rw [c2,c4,c5]
 cases e <;> cases z <;> repeat' ((conv=>whnf);first|exact trivial|refine rE _ (h1) ?_|refine nb_ _ hE ?_|refine nT_ ?_|refine aE1 ?_|refine rb1 ?_|refine rb0 ?_|refine aS ?_|fail)
def vp:List RV→List RV→Bool
 |[],[]=>true
 |x::xs,y::ys=>xO x y&&vp xs ys
 |_,_=>false
theorem wz: ∀{a b:List RV},vp a b=true↔a=b
 |[],[]=>by simp [vp]
 |[],_::_=>by simp [vp]
 |_::_,[]=>by simp [vp]
 |x::xs,y::ys=>by
  unfold vp
  rw [Bool.and_eq_true,wz (a:=xs),yd,List.cons.injEq]
theorem zA {a b:List RV} (h:a≠b):vp a b=false:=by
 cases e:vp a b with
 |false=>rfl
 |true=>exact (h (wz.1 e)).elim
theorem yZ (a b:List RV) (hl:a.length<2^60∨b.length<2^60) (hw:(∀ v∈a,v.ws.length<2^60)∨(∀ v∈b,v.ws.length<2^60)):
  DCalls Tryz.prog 45 [.slice 5 (a.map sW),.slice 5 (b.map sW)] (.bool (vp a b)):=by
 refine qO (rs:=[.tmp 4]) mixed Tryz.func45 l45 rfl rfl rfl (r:=[.bool _]) (nlZ rfl) ?_
 have ha:((a.map sW).length:Int)=a.length:=by rw [List.length_map]
 have hb:((b.map sW).length:Int)=b.length:=by rw [List.length_map]
 by_cases hab:a.length=b.length
 case neg=>
  rw [zA fun e=>hab (by rw [e])]
  have hn:((a.map sW).length:Int)≠((b.map sW).length:Int):=by omega
  repeat' ((conv=>whnf);first|exact trivial|refine qz hn ?_|refine rb0 ?_|refine aS ?_|fail)
 have hl:a.length<2^60:=by omega
 have hn:((a.map sW).length:Int)=((b.map sW).length:Int):=by omega
 repeat' ((conv=>whnf);first|refine qy hn ?_|refine aS ?_|fail)
 refine rq (α:=Nat) (fun i=>{sl:=[(0,.t (.slice 5 (a.map sW))),(1,.t (.slice 5 (b.map sW))),(5,.t (I i))],bx:=[]})
  (fun i=>i≤a.length∧ ∀j (h:j<a.length) (h':j<b.length),j<i→a[j]=b[j]) (fun i=>a.length - i) 0 (by simp) ?_ ?_
 ·repeat' (first|exact trivial|exact LeV.same _|exact rfl|exact fun _ _ _=>trivial|refine And.intro ?_ ?_)
 rintro i ⟨hi,hp⟩
 rcases Nat.lt_or_ge i a.length with h|h
 ·have h':i<b.length:=by omega
  have hlt:(i:Int)<((a.map sW).length:Int):=by omega
  have hc:=zl a[i] b[i] (hw.imp (fun hw=>hw _ (List.getElem_mem h)) (fun hw=>hw _ (List.getElem_mem h')))
  by_cases he:a[i]=b[i]
  ·rw [yd.2 he] at hc
   repeat' ((conv=>whnf);first|refine qv hlt ?_|(refine nv_ (.agg (vW a[i])) (by first|((simp [h];rfl);done)|fail) ?_)|(refine nv_ (.agg (vW b[i])) (by first|((simp [h'];rfl);done)|fail) ?_)|refine rE _ (hc) ?_|refine aS ?_|fail)
   refine ⟨i+1,⟨h,fun j hj hj' hlt=>?_⟩,by omega,?_⟩
   ·rcases Nat.lt_or_ge j i with h4|h4
    ·exact hp j hj hj' h4
    ·obtain rfl:j=i:=by omega
     exact he
   ·repeat' (first|exact trivial|exact LeV.same _|exact rfl|exact fun _ _ _=>trivial|exact lI|refine And.intro ?_ ?_)
  ·rw [zA fun e=>he (by subst e;rfl)]
   have hs:xO a[i] b[i]=false:=by
    cases e:xO a[i] b[i] with
    |false=>rfl
    |true=>exact (he (yd.1 e)).elim
   rw [hs] at hc
   repeat' ((conv=>whnf);first|exact trivial|refine qv hlt ?_|(refine nv_ (.agg (vW a[i])) (by first|((simp [h];rfl);done)|fail) ?_)|(refine nv_ (.agg (vW b[i])) (by first|((simp [h'];rfl);done)|fail) ?_)|refine rE _ (hc) ?_|refine rb0 ?_|refine aS ?_|fail)
 ·rw [wz.2 (List.ext_getElem hab fun j h1 h2=>hp j h1 h2 (by omega))]
  have hlt: ¬(i:Int)<((a.map sW).length:Int):=by omega
  repeat' ((conv=>whnf);first|exact trivial|refine qu hlt ?_|refine rb1 ?_|refine aS ?_|fail)
theorem DY (l:List Fd) (hl:LOk l) (k:ByteArray):DCalls Tryz.prog 77 [fds l,.str k] (.tup [.agg [.str (fld l k).name,I (fld l k).a,I (fld l k).w],.bool (s8 l k)]):=by
 have h:=t51 l k hl.len
 unfold uU at h
 unfold fld s8
 cases hF:findF l k with
 |none=>rw [hF] at h;exact h
 |some F=>rw [hF] at h;exact h
end Go.TY
end
section
namespace Go.TY
open Go Go.DL Go.MM Go.Proofs
mutual
def x9:RP→RP→Bool
 |.mk k f n m a,.mk k' f' n' m' a'=>(k==k')&&sC f f'&&(n==n')&&(m==m')&&vG a a'
def vG:List RP→List RP→Bool
 |[],[]=>true
 |x::xs,y::ys=>x9 x y&&vG xs ys
 |[],_::_=>false
 |_::_,[]=>false
end
mutual
theorem tj: ∀{a b:RP},x9 a b=true↔a=b
 |.mk k f n m a,.mk k' f' n' m' a'=>by
  simp only [x9,Bool.and_eq_true,beq_iff_eq,sO,yD (a:=a) (b:=a'),RP.mk.injEq]
  exact ⟨fun h=>⟨h.1.1.1.1,h.1.1.1.2,h.1.1.2,h.1.2,h.2⟩,fun h=>⟨⟨⟨⟨h.1,h.2.1⟩,h.2.2.1⟩,h.2.2.2.1⟩,h.2.2.2.2⟩⟩
theorem yD: ∀{a b:List RP},vG a b=true↔a=b
 |[],[]=>by simp [vG]
 |[],_::_=>by simp [vG]
 |_::_,[]=>by simp [vG]
 |x::xs,y::ys=>by
  simp only [vG,Bool.and_eq_true,tj (a:=x) (b:=y),yD (a:=xs) (b:=ys),List.cons.injEq]
end
theorem s4 {b:Bool} {p:Prop} (hi:b=true↔p) (h: ¬p):b=false:=by
 cases b with
 |false=>rfl
 |true=>exact (h (hi.1 rfl)).elim
theorem B9 (N:Nat): ∀a b:RP,a.nodes≤N→N<2^60→DCalls Tryz.prog 51 [.agg (sB a),.agg (sB b)] (.bool (x9 a b)):=by
 induction N with
 |zero=>intro r _ h;have:=r.uc;omega
 |succ N ih=>
  rintro ⟨k,f,n,m,l⟩ ⟨k',f',n',m',l'⟩ hr hN
  refine qO (rs:=[.tmp 4]) mixed Tryz.func51 l51 rfl rfl rfl (r:=[.bool _]) (nlZ rfl) ?_
  simp only [RP.nodes] at hr
  have hE:=sI f f'
  have hS:(!(f.toList==f'.toList))= !sC f f':=by rw [hE]
  by_cases c1:k=k'
  case neg=>rw [s4 tj fun e=>c1 (by cases e;rfl)];repeat' ((conv=>whnf);first|exact trivial|refine qz c1 ?_|refine nT_ ?_|refine rb0 ?_|refine aS ?_|fail)
  by_cases c2:f=f'
  case neg=>
   rw [s4 tj fun e=>c2 (by cases e;rfl)]
   rw [s4 sO c2] at hS
   repeat' ((conv=>whnf);first|exact trivial|refine qy c1 ?_|refine nb_ _ hS ?_|refine nT_ ?_|refine rb0 ?_|refine aS ?_|fail)
  rw [sO.2 c2] at hS
  by_cases c3:n=n'
  case neg=>rw [s4 tj fun e=>c3 (by cases e;rfl)];repeat' ((conv=>whnf);first|exact trivial|refine qy c1 ?_|refine nb_ _ hS ?_|refine qz c3 ?_|refine nT_ ?_|refine rb0 ?_|refine aS ?_|fail)
  by_cases c4:m=m'
  case neg=>rw [s4 tj fun e=>c4 (by cases e;rfl)];repeat' ((conv=>whnf);first|exact trivial|refine qy c1 ?_|refine nb_ _ hS ?_|refine qy c3 ?_|refine qz c4 ?_|refine nT_ ?_|refine rb0 ?_|refine aS ?_|fail)
  have ha:((l.map sL).length:Int)=l.length:=by rw [List.length_map]
  have hb:((l'.map sL).length:Int)=l'.length:=by rw [List.length_map]
  by_cases hab:l.length=l'.length
  case neg=>
   rw [s4 tj fun e=>hab (by cases e;rfl)]
   have hn:((l.map sL).length:Int)≠((l'.map sL).length:Int):=by omega
   repeat' ((conv=>whnf);first|exact trivial|refine qy c1 ?_|refine nb_ _ hS ?_|refine qy c3 ?_|refine qy c4 ?_|refine qz hn ?_|refine nT_ ?_|refine rb0 ?_|refine aS ?_|fail)
  have hn:((l.map sL).length:Int)=((l'.map sL).length:Int):=by omega
  have hnp:=tU l
  repeat' ((conv=>whnf);first|refine qy c1 ?_|refine nb_ _ hS ?_|refine qy c3 ?_|refine qy c4 ?_|refine qy hn ?_|refine nT_ ?_|refine aS ?_|fail)
  refine rq (α:=Nat) (fun i=>{sl:=[(2,.ptr 2 0),(3,.ptr 3 0),(5,.t (I i))],bx:=[(2,.d 5 (sB (.mk k f n m l))),(3,.d 5 (sB (.mk k' f' n' m' l')))]})
   (fun i=>i≤l.length∧ ∀j (h:j<l.length) (h':j<l'.length),j<i→l[j]=l'[j]) (fun i=>l.length - i) 0 (by simp) ?_ ?_
  ·repeat' (first|exact trivial|exact LeV.same _|exact LeB.same _|exact rfl|exact fun _ _ _=>trivial|refine And.intro ?_ ?_)
  rintro i ⟨hi,hp⟩
  rcases Nat.lt_or_ge i l.length with h|h
  ·have h':i<l'.length:=by omega
   have hlt:(i:Int)<((l.map sL).length:Int):=by omega
   have hn:=tG h
   have hm:=tF (l:=l) (j:=i+1)
   have hc:=ih l[i] l'[i] (by omega) (by omega)
   by_cases he:l[i]=l'[i]
   ·rw [tj.2 he] at hc
    repeat' ((conv=>whnf);first|refine qv hlt ?_|(refine nv_ (.agg (sB l[i])) (by first|(simp [h,sF];done)|fail) ?_)|(refine nv_ (.agg (sB l'[i])) (by first|(simp [h',sF];done)|fail) ?_)|refine rE _ (hc) ?_|refine nT_ ?_|(refine And.intro (by first|exact sD _|fail) ?_)|refine aS ?_|fail)
    refine ⟨i+1,⟨h,fun j hj hj' hlt=>?_⟩,by omega,?_⟩
    ·rcases Nat.lt_or_ge j i with h4|h4
     ·exact hp j hj hj' h4
     ·obtain rfl:j=i:=by omega
      exact he
    ·repeat' (first|exact trivial|exact LeV.same _|exact LeB.same _|exact rfl|exact fun _ _ _=>trivial|exact lI|refine And.intro ?_ ?_)
   ·rw [s4 tj he] at hc
    rw [s4 tj fun e=>he (by cases e;rfl)]
    repeat' ((conv=>whnf);first|exact trivial|refine qv hlt ?_|(refine nv_ (.agg (sB l[i])) (by first|(simp [h,sF];done)|fail) ?_)|(refine nv_ (.agg (sB l'[i])) (by first|(simp [h',sF];done)|fail) ?_)|refine rE _ (hc) ?_|refine nT_ ?_|refine rb0 ?_|(refine And.intro (by first|exact sD _|fail) ?_)|refine aS ?_|fail)
  ·have e:l=l':=List.ext_getElem hab fun j h1 h2=>hp j h1 h2 (by omega)
   rw [tj.2 (by rw [c1,c2,c3,c4,e])]
   have hlt: ¬(i:Int)<((l.map sL).length:Int):=by omega
   repeat' ((conv=>whnf);first|exact trivial|refine qu hlt ?_|refine nT_ ?_|refine rb1 ?_|refine aS ?_|fail)
def yc (a b:RS):Bool:=(a.kind==b.kind)&&sC a.var b.var&&sC a.field b.field&&(a.n==b.n)&&(a.m==b.m)&&vo a.key b.key
theorem uf {a b:RS}:yc a b=true↔a=b:=by
 obtain ⟨a1,a2,a3,a4,a5,a6⟩:=a
 obtain ⟨b1,b2,b3,b4,b5,b6⟩:=b
 unfold yc
 simp only [Bool.and_eq_true,sO,beq_iff_eq,wc,RS.mk.injEq]
 exact ⟨fun h=>⟨h.1.1.1.1.1,h.1.1.1.1.2,h.2,h.1.1.1.2,h.1.1.2,h.1.2⟩,fun h=>⟨⟨⟨⟨⟨h.1,h.2.1⟩,h.2.2.2.1⟩,h.2.2.2.2.1⟩,h.2.2.2.2.2⟩,h.2.2.1⟩⟩
theorem Ca (a b:RS) (hl:a.key.length<2^60):DCalls Tryz.prog 104 [.agg (sH a),.agg (sH b)] (.bool (yc a b)):=by
 obtain ⟨k,v,l,f,n,m⟩:=a
 obtain ⟨k',v',l',f',n',m'⟩:=b
 dsimp only at hl
 refine qO (rs:=[.tmp 4]) mixed Tryz.func104 Ly rfl rfl rfl (r:=[.bool _]) (nlZ rfl) ?_
 have hV:(!(v.toList==v'.toList))= !sC v v':=by rw [sI]
 have hS:(!(f.toList==f'.toList))= !sC f f':=by rw [sI]
 by_cases c1:k=k'
 case neg=>rw [s4 uf fun e=>c1 (by cases e;rfl)];repeat' ((conv=>whnf);first|exact trivial|refine qz c1 ?_|refine nT_ ?_|refine rb0 ?_|refine aS ?_|fail)
 by_cases c5:v=v'
 case neg=>
  rw [s4 uf fun e=>c5 (by cases e;rfl)]
  rw [s4 sO c5] at hV
  repeat' ((conv=>whnf);first|exact trivial|refine qy c1 ?_|refine nb_ _ hV ?_|refine nT_ ?_|refine rb0 ?_|refine aS ?_|fail)
 rw [sO.2 c5] at hV
 by_cases c2:f=f'
 case neg=>
  rw [s4 uf fun e=>c2 (by cases e;rfl)]
  rw [s4 sO c2] at hS
  repeat' ((conv=>whnf);first|exact trivial|refine qy c1 ?_|refine nb_ _ hV ?_|refine nb_ _ hS ?_|refine nT_ ?_|refine rb0 ?_|refine aS ?_|fail)
 rw [sO.2 c2] at hS
 by_cases c3:n=n'
 case neg=>rw [s4 uf fun e=>c3 (by cases e;rfl)];repeat' ((conv=>whnf);first|exact trivial|refine qy c1 ?_|refine nb_ _ hV ?_|refine nb_ _ hS ?_|refine qz c3 ?_|refine nT_ ?_|refine rb0 ?_|refine aS ?_|fail)
 by_cases c4:m=m'
 case neg=>rw [s4 uf fun e=>c4 (by cases e;rfl)];repeat' ((conv=>whnf);first|exact trivial|refine qy c1 ?_|refine nb_ _ hV ?_|refine nb_ _ hS ?_|refine qy c3 ?_|refine qz c4 ?_|refine nT_ ?_|refine rb0 ?_|refine aS ?_|fail)
 have ha:((l.map T.str).length:Int)=l.length:=by rw [List.length_map]
 have hb:((l'.map T.str).length:Int)=l'.length:=by rw [List.length_map]
 by_cases hab:l.length=l'.length
 case neg=>
  rw [s4 uf fun e=>hab (by cases e;rfl)]
  have hn:((l.map T.str).length:Int)≠((l'.map T.str).length:Int):=by omega
  repeat' ((conv=>whnf);first|exact trivial|refine qy c1 ?_|refine nb_ _ hV ?_|refine nb_ _ hS ?_|refine qy c3 ?_|refine qy c4 ?_|refine qz hn ?_|refine nT_ ?_|refine rb0 ?_|refine aS ?_|fail)
 have hn:((l.map T.str).length:Int)=((l'.map T.str).length:Int):=by omega
 repeat' ((conv=>whnf);first|refine qy c1 ?_|refine nb_ _ hV ?_|refine nb_ _ hS ?_|refine qy c3 ?_|refine qy c4 ?_|refine qy hn ?_|refine nT_ ?_|refine aS ?_|fail)
 refine rq (α:=Nat) (fun i=>{sl:=[(2,.ptr 2 0),(3,.ptr 3 0),(5,.t (I i))],bx:=[(2,.d 6 (sH ⟨k,v,l,f,n,m⟩)),(3,.d 6 (sH ⟨k',v',l',f',n',m'⟩))]})
  (fun i=>i≤l.length∧ ∀j (h:j<l.length) (h':j<l'.length),j<i→l[j]=l'[j]) (fun i=>l.length - i) 0 (by simp) ?_ ?_
 ·repeat' (first|exact trivial|exact LeV.same _|exact LeB.same _|exact rfl|exact fun _ _ _=>trivial|refine And.intro ?_ ?_)
 rintro i ⟨hi,hp⟩
 rcases Nat.lt_or_ge i l.length with h|h
 ·have h':i<l'.length:=by omega
  have hlt:(i:Int)<((l.map T.str).length:Int):=by omega
  have hN:(!(l[i].toList==l'[i].toList))= !sC l[i] l'[i]:=by rw [sI]
  by_cases he:l[i]=l'[i]
  ·rw [sO.2 he] at hN
   repeat' ((conv=>whnf);first|refine qv hlt ?_|(refine nv_ (.str l[i]) (by first|(simp [h];done)|fail) ?_)|(refine nv_ (.str l'[i]) (by first|(simp [h'];done)|fail) ?_)|refine nb_ _ hN ?_|refine nT_ ?_|refine aS ?_|fail)
   refine ⟨i+1,⟨h,fun j hj hj' hlt=>?_⟩,by omega,?_⟩
   ·rcases Nat.lt_or_ge j i with h4|h4
    ·exact hp j hj hj' h4
    ·obtain rfl:j=i:=by omega
     exact he
   ·repeat' (first|exact trivial|exact LeV.same _|exact LeB.same _|exact rfl|exact fun _ _ _=>trivial|exact lI|refine And.intro ?_ ?_)
  ·rw [s4 sO he] at hN
   rw [s4 uf fun e=>he (by cases e;rfl)]
   repeat' ((conv=>whnf);first|exact trivial|refine qv hlt ?_|(refine nv_ (.str l[i]) (by first|(simp [h];done)|fail) ?_)|(refine nv_ (.str l'[i]) (by first|(simp [h'];done)|fail) ?_)|refine nb_ _ hN ?_|refine nT_ ?_|refine rb0 ?_|refine aS ?_|fail)
 ·have e:l=l':=List.ext_getElem hab fun j h1 h2=>hp j h1 h2 (by omega)
  rw [uf.2 (by rw [c1,c2,c3,c4,c5,e])]
  have hlt: ¬(i:Int)<((l.map T.str).length:Int):=by omega
  repeat' ((conv=>whnf);first|exact trivial|refine qu hlt ?_|refine nT_ ?_|refine rb1 ?_|refine aS ?_|fail)
end Go.TY
end
section
namespace Go.TY
open Go Go.DL Go.MM Go.Proofs
mutual
def wa:RO→RO→Bool
 |.mk k p f n a,.mk k' p' f' n' a'=>x9 p p'&&(k==k')&&sC f f'&&(n==n')&&vF a a'
def vF:List RO→List RO→Bool
 |[],[]=>true
 |x::xs,y::ys=>wa x y&&vF xs ys
 |[],_::_=>false
 |_::_,[]=>false
end
mutual
theorem uO: ∀{a b:RO},wa a b=true↔a=b
 |.mk k p f n a,.mk k' p' f' n' a'=>by
  simp only [wa,Bool.and_eq_true,beq_iff_eq,sO,tj,yC (a:=a) (b:=a'),RO.mk.injEq]
  exact ⟨fun h=>⟨h.1.1.1.2,h.1.1.1.1,h.1.1.2,h.1.2,h.2⟩,fun h=>⟨⟨⟨⟨h.2.1,h.1⟩,h.2.2.1⟩,h.2.2.2.1⟩,h.2.2.2.2⟩⟩
theorem yC: ∀{a b:List RO},vF a b=true↔a=b
 |[],[]=>by simp [vF]
 |[],_::_=>by simp [vF]
 |_::_,[]=>by simp [vF]
 |x::xs,y::ys=>by
  simp only [vF,Bool.and_eq_true,uO (a:=x) (b:=y),yC (a:=xs) (b:=ys),List.cons.injEq]
end
theorem A5: ∀{l:List RO} {i:Nat} (h:i<l.length),l[i].wt≤tl l
 |r::rs,0,_=>by simp only [List.getElem_cons_zero,tl];omega
 |r::rs,i+1,h=>by
  have:=A5 (l:=rs) (i:=i) (by simpa using h)
  simp only [List.getElem_cons_succ,tl];omega
theorem Ak (N:Nat): ∀a b:RO,a.wt≤N→N<2^60→DCalls Tryz.prog 48 [.agg (sA a),.agg (sA b)] (.bool (wa a b)):=by
 induction N with
 |zero=>intro r _ h;have:=r.we;omega
 |succ N ih=>
  rintro ⟨k,p,f,n,l⟩ ⟨k',p',f',n',l'⟩ hr hN
  refine qO (rs:=[.tmp 4]) mixed Tryz.func48 l48 rfl rfl rfl (r:=[.bool _]) (nlZ rfl) ?_
  simp only [RO.wt] at hr
  have hS:(!(f.toList==f'.toList))= !sC f f':=by rw [sI]
  have hP:=B9 _ p p' (Nat.le_refl _) (by omega)
  by_cases c5:p=p'
  case neg=>
   rw [s4 tj c5] at hP
   rw [s4 uO fun e=>c5 (by cases e;rfl)]
   obtain ⟨pk,pf,pn,pm,pa⟩:=p
   obtain ⟨pk',pf',pn',pm',pa'⟩:=p'
   repeat' ((conv=>whnf);first|exact trivial|refine rE _ (hP) ?_|refine nT_ ?_|refine rb0 ?_|refine aS ?_|fail)
  rw [tj.2 c5] at hP
  have hno: ∀{q:Prop},((RO.mk k p f n l=RO.mk k' p' f' n' l')→q)→ ¬q→wa (.mk k p f n l) (.mk k' p' f' n' l')=false:=fun h1 h2=>s4 uO fun e=>h2 (h1 e)
  have hyes:k=k'→f=f'→n=n'→l=l'→wa (.mk k p f n l) (.mk k' p' f' n' l')=true:=fun h1 h2 h3 h4=>uO.2 (by rw [h1,h2,h3,h4,c5])
  generalize wa (.mk k p f n l) (.mk k' p' f' n' l')=res at *
  clear c5
  obtain ⟨pk,pf,pn,pm,pa⟩:=p
  obtain ⟨pk',pf',pn',pm',pa'⟩:=p'
  by_cases c1:k=k'
  case neg=>rw [hno (fun e=>by cases e;rfl) c1];repeat' ((conv=>whnf);first|exact trivial|refine rE _ (hP) ?_|refine qz c1 ?_|refine nT_ ?_|refine rb0 ?_|refine aS ?_|fail)
  by_cases c2:f=f'
  case neg=>
   rw [hno (fun e=>by cases e;rfl) c2]
   rw [s4 sO c2] at hS
   repeat' ((conv=>whnf);first|exact trivial|refine rE _ (hP) ?_|refine qy c1 ?_|refine nb_ _ hS ?_|refine nT_ ?_|refine rb0 ?_|refine aS ?_|fail)
  rw [sO.2 c2] at hS
  by_cases c3:n=n'
  case neg=>rw [hno (fun e=>by cases e;rfl) c3];repeat' ((conv=>whnf);first|exact trivial|refine rE _ (hP) ?_|refine qy c1 ?_|refine nb_ _ hS ?_|refine qz c3 ?_|refine nT_ ?_|refine rb0 ?_|refine aS ?_|fail)
  have ha:((l.map sZ).length:Int)=l.length:=by rw [List.length_map]
  have hb:((l'.map sZ).length:Int)=l'.length:=by rw [List.length_map]
  by_cases hab:l.length=l'.length
  case neg=>
   rw [hno (fun e=>by cases e;rfl) hab]
   have hn:((l.map sZ).length:Int)≠((l'.map sZ).length:Int):=by omega
   repeat' ((conv=>whnf);first|exact trivial|refine rE _ (hP) ?_|refine qy c1 ?_|refine nb_ _ hS ?_|refine qy c3 ?_|refine qz hn ?_|refine nT_ ?_|refine rb0 ?_|refine aS ?_|fail)
  have hn:((l.map sZ).length:Int)=((l'.map sZ).length:Int):=by omega
  have hlen:=uK l
  repeat' ((conv=>whnf);first|refine rE _ (hP) ?_|refine qy c1 ?_|refine nb_ _ hS ?_|refine qy c3 ?_|refine qy hn ?_|refine nT_ ?_|refine aS ?_|fail)
  refine rq (α:=Nat) (fun i=>{sl:=[(2,.ptr 2 0),(3,.ptr 3 0),(6,.t (I i))],bx:=[(2,.d 9 (sA (.mk k (.mk pk pf pn pm pa) f n l))),(3,.d 9 (sA (.mk k' (.mk pk' pf' pn' pm' pa') f' n' l')))]})
   (fun i=>i≤l.length∧ ∀j (h:j<l.length) (h':j<l'.length),j<i→l[j]=l'[j]) (fun i=>l.length - i) 0 (by simp) ?_ ?_
  ·repeat' (first|exact trivial|exact LeV.same _|exact LeB.same _|exact rfl|exact fun _ _ _=>trivial|refine And.intro ?_ ?_)
  rintro i ⟨hi,hp⟩
  rcases Nat.lt_or_ge i l.length with h|h
  ·have h':i<l'.length:=by omega
   have hlt:(i:Int)<((l.map sZ).length:Int):=by omega
   have hg:=A5 h
   have hc:=ih l[i] l'[i] (by omega) (by omega)
   by_cases he:l[i]=l'[i]
   ·rw [uO.2 he] at hc
    repeat' ((conv=>whnf);first|refine qv hlt ?_|(refine nv_ (.agg (sA l[i])) (by first|(simp [h,sJ];done)|fail) ?_)|(refine nv_ (.agg (sA l'[i])) (by first|(simp [h',sJ];done)|fail) ?_)|refine rE _ (hc) ?_|refine nT_ ?_|(refine And.intro (by first|exact sE _|fail) ?_)|refine aS ?_|fail)
    refine ⟨i+1,⟨h,fun j hj hj' hlt=>?_⟩,by omega,?_⟩
    ·rcases Nat.lt_or_ge j i with h4|h4
     ·exact hp j hj hj' h4
     ·obtain rfl:j=i:=by omega
      exact he
    ·repeat' (first|exact trivial|exact LeV.same _|exact LeB.same _|exact rfl|exact fun _ _ _=>trivial|exact lI|refine And.intro ?_ ?_)
   ·rw [s4 uO he] at hc
    rw [hno (q:=l[i]=l'[i]) (fun e=>by cases e;rfl) he]
    repeat' ((conv=>whnf);first|exact trivial|refine qv hlt ?_|(refine nv_ (.agg (sA l[i])) (by first|(simp [h,sJ];done)|fail) ?_)|(refine nv_ (.agg (sA l'[i])) (by first|(simp [h',sJ];done)|fail) ?_)|refine rE _ (hc) ?_|refine nT_ ?_|refine rb0 ?_|(refine And.intro (by first|exact sE _|fail) ?_)|refine aS ?_|fail)
  ·have e:l=l':=List.ext_getElem hab fun j h1 h2=>hp j h1 h2 (by omega)
   rw [hyes c1 c2 c3 e]
   have hlt: ¬(i:Int)<((l.map sZ).length:Int):=by omega
   repeat' ((conv=>whnf);first|exact trivial|refine qu hlt ?_|refine nT_ ?_|refine rb1 ?_|refine aS ?_|fail)
end Go.TY
end
section
namespace Go.TY
open Go Go.DL Go.MM Go.Proofs
def Er (r:RP):Bool:=decide (r.nodes≤400)&&decide (r.depth≤60)
def Ep (r:RO):Bool:=decide (r.size≤400)&&decide (r.deep≤60)&&decide (r.pred.nodes≤400)
theorem wB {a b:Nat}:decide ((a:Int)≤(b:Int))=decide (a≤b):=by
 by_cases h:a≤b
 ·rw [decide_eq_true h,decide_eq_true (by omega)]
 ·rw [decide_eq_false h,decide_eq_false (by omega)]
theorem DW (r:RP) (hr:r.nodes<2^60):DCalls Tryz.prog 12 [.agg (sB r)] (.bool (Er r)):=by
 refine qO (rs:=[.tmp 2]) mixed Tryz.func12 l12 rfl rfl rfl (r:=[.bool _]) (nlZ rfl) ?_
 have h1:=t103 _ r (Nat.le_refl _) hr
 have d1:decide ((r.nodes:Int)≤400)=decide (r.nodes≤400):=wB
 have d2:decide ((r.depth:Int)≤60)=decide (r.depth≤60):=wB
 unfold Er
 have hq:=sD r
 obtain ⟨k,f,n,m,l⟩:=r
 generalize (RP.mk k f n m l).nodes=a at *
 generalize (RP.mk k f n m l).depth=d at *
 generalize decide (a≤400)=b1 at *
 generalize decide (d≤60)=b2 at *
 cases b1 <;> repeat' ((conv=>whnf);first|exact trivial|refine rE _ (h1) ?_|refine nb_ _ d1 ?_|refine nb_ _ d2 ?_|refine nT_ ?_|refine rb0 ?_|refine rbx ?_|refine aS ?_|fail)
theorem DX (s:RS):DCalls Tryz.prog 14 [.agg (sH s)] (.bool (decide (s.key.length≤20))):=by
 refine qO (rs:=[.tmp 2]) mixed Tryz.func14 l14 rfl rfl rfl (r:=[.bool _]) (nlZ rfl) ?_
 obtain ⟨k,v,l,f,n,m⟩:=s
 have d1:decide (((l.map T.str).length:Int)≤20)=decide (l.length≤20):=by rw [List.length_map];exact wB
 dsimp only
 generalize decide (l.length≤20)=b at *
 repeat' ((conv=>whnf);first|exact trivial|refine nb_ _ d1 ?_|refine nT_ ?_|refine rbx ?_|refine aS ?_|fail)
theorem Bg (r:RO) (hr:r.wt<2^60):DCalls Tryz.prog 13 [.agg (sA r)] (.bool (Ep r)):=by
 refine qO (rs:=[.tmp 2]) mixed Tryz.func13 l13 rfl rfl rfl (r:=[.bool _]) (nlZ rfl) ?_
 have h1:=t89 _ r (Nat.le_refl _) hr
 have hpn:r.pred.nodes<2^60:=by
  obtain ⟨k,p,f,n,l⟩:=r
  simp only [RO.wt] at hr
  show p.nodes<_;omega
 have h2:=t103 _ r.pred (Nat.le_refl _) hpn
 have d1:decide ((r.size:Int)≤400)=decide (r.size≤400):=wB
 have d2:decide ((r.deep:Int)≤60)=decide (r.deep≤60):=wB
 have d3:decide ((r.pred.nodes:Int)≤400)=decide (r.pred.nodes≤400):=wB
 unfold Ep
 obtain ⟨k,⟨pk,pf,pn,pm,pa⟩,f,n,l⟩:=r
 have e:(RO.mk k (.mk pk pf pn pm pa) f n l).pred= .mk pk pf pn pm pa:=rfl
 rw [e] at h2 d3 ⊢
 clear hr hpn e
 generalize (RO.mk k (.mk pk pf pn pm pa) f n l).size=a at *
 generalize (RO.mk k (.mk pk pf pn pm pa) f n l).deep=d at *
 generalize (RP.mk pk pf pn pm pa).nodes=c at *
 generalize (RP.mk pk pf pn pm pa).depth=c' at *
 generalize decide (a≤400)=b1 at *
 generalize decide (d≤60)=b2 at *
 generalize decide (c≤400)=b3 at *
 cases b1 <;> cases b2 <;> repeat' ((conv=>whnf);first|exact trivial|refine rE _ (h1) ?_|refine rE _ (h2) ?_|refine nb_ _ d1 ?_|refine nb_ _ d2 ?_|refine nb_ _ d3 ?_|refine nT_ ?_|refine rb0 ?_|refine rbx ?_|refine aS ?_|fail)
end Go.TY
end
section
namespace Go.TY
open Go Go.DL Go.MM Go.Proofs
theorem Be (r:RP) (hr:r.nodes<2^60) (hn:uk r):DCalls Tryz.prog 70 [.agg (sB r)] (I (tW r)):=by
 refine qO (rs:=[.tmp 2]) mixed Tryz.func70 l70 rfl rfl rfl (r:=[.int _ _]) (nlZ rfl) ?_
 have h1:=t103 _ r (Nat.le_refl _) hr
 have h2:=t106 _ r (Nat.le_refl _) hr hn
 have h3:=t88 r.nodes r.depth (sM r)
 have hl:=sD r
 unfold tW
 repeat' ((conv=>whnf);first|exact trivial|refine rE _ (h1) ?_|refine rE _ (h2) ?_|refine rE _ (h3) ?_|refine rix ?_|refine aS ?_|fail)
def B8 (l:List Fd) (r:RP):Int:=if tW r≠0 then tW r else fitAll l r
theorem HB (l:List Fd) (hl:LOk l) (r:RP) (hr:r.nodes<2^40) (hn:uk r):DCalls Tryz.prog 16 [fds l,.agg (sB r)] (I (B8 l r)):=by
 refine qO (rs:=[.tmp 4]) mixed Tryz.func16 l16 rfl rfl rfl (r:=[.int _ _]) (nlZ rfl) ?_
 have h1:=Be r (by omega) hn
 have h2:=t65 l hl r hr
 have hcl:=sD r
 unfold B8
 by_cases c:tW r=0
 ·rw [if_neg (by simpa using c)]
  rw [c] at h1
  repeat' ((conv=>whnf);first|exact trivial|refine rE _ (h1) ?_|refine rE _ (h2) ?_|refine aN0 ?_|refine rix ?_|refine aS ?_|fail)
 ·rw [if_pos c]
  generalize tW r=x at *
  repeat' ((conv=>whnf);first|exact trivial|refine rE _ (h1) ?_|refine qz c ?_|refine rix ?_|refine aS ?_|fail)
end Go.TY
end
section
namespace Go.TY
open Go Go.DL Go.MM Go.Proofs
end Go.TY
end
section
namespace Go.TY
open Go Go.DL Go.MM Go.Proofs
theorem D5 (s:RS):yc s ⟨0,e0,[],e0,0,0⟩=vr s:=by
 obtain ⟨k,v,l,f,n,m⟩:=s
 unfold yc vr
 have:vo l []=(l.length==0):=by cases l <;> rfl
 rw [this]
theorem EA (s:RS) (hl:s.key.length<2^60):DCalls Tryz.prog 104 [.agg (sH s),.agg [I 0,.str e0,.nil,.str e0,I 0,I 0]] (.bool (vr s)):=by
 rw [← D5]
 exact (Ca s ⟨0,e0,[],e0,0,0⟩ hl).lesAll ⟨Les.refl _,Les.agg (.cons (Les.refl _) rfl (.cons (Les.refl _) rfl (.cons (Les.nil 1) rfl (.cons (Les.refl _) rfl (.cons (Les.refl _) rfl (.cons (Les.refl _) rfl .nil)))))),trivial⟩
theorem FR (br e nd:Bool) (n m:Int):uD 3 br e nd n m=(e&&(decide (n≥0)&&(decide (n≤1073741824)&&(m==0)))):=by
 unfold uD uP
 rw [if_neg (by omega),if_neg (by omega),if_pos rfl]
 cases e <;> cases h1:decide (0≤n) <;> cases h2:decide (n≤1073741824) <;> cases h3:(m==0) <;> simp_all
theorem FT (br e nd:Bool) (n m:Int):uD 4 br e nd n m=(nd&&(decide (n≥0)&&(decide (n≤m)&&decide (m≤65535)))):=by
 unfold uD tQ
 rw [if_neg (by omega),if_neg (by omega),if_neg (by omega),if_pos rfl]
 cases nd
 ·rfl
 ·rw [Bool.eq_iff_iff]
  simp only [Bool.true_and,Bool.and_eq_true,decide_eq_true_eq]
  omega
theorem FU (br e nd:Bool) (n m:Int):uD 6 br e nd n m=(e&&(decide (n≥1)&&(decide (n≤65535)&&(decide (m≥1)&&decide (m≤1073741824))))):=by
 unfold uD tQ uP
 rw [if_neg (by omega),if_neg (by omega),if_neg (by omega),if_neg (by omega),if_neg (by omega),if_pos rfl]
 cases e
 ·rfl
 ·rw [Bool.eq_iff_iff]
  simp only [Bool.true_and,Bool.and_eq_true,decide_eq_true_eq]
  omega
theorem Aj (s:RS) (hv:s.var.size<2^62) (hf:s.field.size<2^62) (hk: ∀k∈s.key,k.size<2^62) (hl:s.key.length<2^60):DCalls Tryz.prog 127 [.agg (sH s)] (.bool (okS s)):=by
 refine qO (rs:=[.tmp 2]) mixed Tryz.func127 LV rfl rfl rfl (r:=[.bool _]) (nlZ rfl) ?_
 have h0:=EA s hl
 unfold okS
 generalize vr s=z0 at *
 obtain ⟨k,v,l,f,n,m⟩:=s
 dsimp only at hv hf hk hl ⊢
 cases z0 with
 |true=>repeat' ((conv=>whnf);first|exact trivial|refine rE _ (h0) ?_|refine rb1 ?_|refine aS ?_|fail)
 |false=>
 rw [Bool.false_or]
 have h1:=t108 v hv
 have h3:=t104 f hf
 have hE:=sI f e0
 have hlen:((l.map T.str).length:Int)=(l.length:Int):=by rw [List.length_map]
 generalize uz v=pv at *
 generalize sV f=nd at *
 generalize sC f e0=e at *
 repeat' ((conv=>whnf);first|refine rE _ (h0) ?_|refine rE _ (h1) ?_|refine nT_ ?_|refine aS ?_|fail)
 refine rA (β:=Unit) (fun _=>{sl:=[(1,.ptr 1 0),(29,.t (.bool (!(pv&&decide (1≤l.length)&&decide (l.length≤4)))))],bx:=[(1,.d 6 (sH ⟨k,v,l,f,n,m⟩))]}) (fun _=>True) ?_ ?_
 ·by_cases c0:1≤l.length
  ·have e0': ¬((l.map T.str).length:Int)<1:=by omega
   rw [decide_eq_true c0,Bool.and_true]
   by_cases c4:l.length≤4
   ·have e4: ¬((l.map T.str).length:Int)>4:=by omega
    rw [decide_eq_true c4,Bool.and_true]
    cases pv <;> repeat' ((conv=>whnf);first|refine qu e0' ?_|refine qu e4 ?_|(exact ⟨(),trivial,by (repeat' (first|exact trivial|exact LeV.same _|exact LeB.same _|exact rfl|exact fun _ _ _=>trivial|refine And.intro ?_ ?_));done⟩)|refine nT_ ?_|refine aS ?_|fail)
   ·have e4:((l.map T.str).length:Int)>4:=by omega
    rw [decide_eq_false c4,Bool.and_false]
    cases pv <;> repeat' ((conv=>whnf);first|refine qu e0' ?_|refine qv e4 ?_|(exact ⟨(),trivial,by (repeat' (first|exact trivial|exact LeV.same _|exact LeB.same _|exact rfl|exact fun _ _ _=>trivial|refine And.intro ?_ ?_));done⟩)|refine nT_ ?_|refine aS ?_|fail)
  ·have e0':((l.map T.str).length:Int)<1:=by omega
   rw [decide_eq_false c0,Bool.and_false,Bool.false_and]
   cases pv <;> repeat' ((conv=>whnf);first|refine qv e0' ?_|(exact ⟨(),trivial,by (repeat' (first|exact trivial|exact LeV.same _|exact LeB.same _|exact rfl|exact fun _ _ _=>trivial|refine And.intro ?_ ?_));done⟩)|refine nT_ ?_|refine aS ?_|fail)
 rintro _ _
 generalize (pv&&decide (1≤l.length)&&decide (l.length≤4))=g at *
 cases g with
 |false=>repeat' ((conv=>whnf);first|exact trivial|refine rb0 ?_|fail)
 |true=>
 rw [Bool.true_and]
 skip
 refine qZ 0 (α:=Nat) (β:=Unit) (fun i=>{sl:=[(1,.ptr 1 0),(5,.t (I i))],bx:=[(1,.d 6 (sH ⟨k,v,l,f,n,m⟩))]})
  (fun i=>i≤l.length∧ ∀j (h:j<l.length),j<i→sV l[j]=true) (fun i=>l.length - i)
  (fun _=>{sl:=[(1,.ptr 1 0)],bx:=[(1,.d 6 (sH ⟨k,v,l,f,n,m⟩))]}) (fun _=>l.all sV=true) 0 (by simp) ?_ ?_ ?_
 ·repeat' (first|exact trivial|exact LeV.same _|exact LeB.same _|exact rfl|exact fun _ _ _=>trivial|refine And.intro ?_ ?_)
 ·rintro i ⟨hi,hp⟩
  rcases Nat.lt_or_ge i l.length with h|h
  ·have hlt:(i:Int)<((l.map T.str).length:Int):=by omega
   have hn:=t104 l[i] (hk _ (List.getElem_mem h))
   have hx:(l.map T.str)[i]?.getD .nil= .str l[i]:=by simp [h]
   cases hb:sV l[i] with
   |true=>
    rw [hb] at hn
    repeat' ((conv=>whnf);first|refine qv hlt ?_|(refine nv_ (.str l[i]) (by first|exact hx|fail) ?_)|refine rE _ (hn) ?_|refine nT_ ?_|refine aS ?_|fail)
    refine ⟨i+1,⟨h,fun j hj hlt=>?_⟩,by omega,?_⟩
    ·rcases Nat.lt_or_ge j i with h4|h4
     ·exact hp j hj h4
     ·obtain rfl:j=i:=by omega
      exact hb
    ·repeat' (first|exact trivial|exact LeV.same _|exact LeB.same _|exact rfl|exact fun _ _ _=>trivial|exact lI|refine And.intro ?_ ?_)
   |false=>
    rw [hb] at hn
    have e:l.all sV=false:=by
     rw [List.all_eq_false]
     exact ⟨l[i],List.getElem_mem h,by rw [hb];simp⟩
    rw [e]
    clear e
    repeat' ((conv=>whnf);first|exact trivial|refine qv hlt ?_|(refine nv_ (.str l[i]) (by first|exact hx|fail) ?_)|refine rE _ (hn) ?_|refine nT_ ?_|refine rb0 ?_|refine aS ?_|fail)
  ·have hlt: ¬(i:Int)<((l.map T.str).length:Int):=by omega
   have hall:l.all sV=true:=by
    rw [List.all_eq_true]
    intro x hx
    obtain ⟨j,hj,rfl⟩:=List.getElem_of_mem hx
    exact hp j hj (by omega)
   repeat' ((conv=>whnf);first|refine qu hlt ?_|(exact ⟨(),hall,by (repeat' (first|exact trivial|exact LeV.same _|exact LeB.same _|exact rfl|exact fun _ _ _=>trivial|refine And.intro ?_ ?_));done⟩)|refine nT_ ?_|refine aS ?_|fail)
 rintro _ hall
 rw [hall,Bool.true_and]
 clear hall
 repeat' ((conv=>whnf);first|refine rE _ (h3) ?_|refine nT_ ?_|refine aS ?_|fail)
 refine rA (β:=Unit) (fun _=>{sl:=[(1,.ptr 1 0),(7,.t (.bool nd)),(8,.t (.bool ((n==0)&&(m==0))))],bx:=[(1,.d 6 (sH ⟨k,v,l,f,n,m⟩))]}) (fun _=>True) ?_ ?_
 ·by_cases hn:n=0
  ·by_cases hm:m=0
   ·rw [show ((n==0)&&(m==0))=true by simp [hn,hm]]
    repeat' ((conv=>whnf);first|refine qx hn ?_|refine qx hm ?_|(exact ⟨(),trivial,by (repeat' (first|exact trivial|exact LeV.same _|exact LeB.same _|exact rfl|exact fun _ _ _=>trivial|refine And.intro ?_ ?_));done⟩)|refine nT_ ?_|refine aS ?_|fail)
   ·rw [show ((n==0)&&(m==0))=false by simp [hm]]
    repeat' ((conv=>whnf);first|refine qx hn ?_|refine qw hm ?_|(exact ⟨(),trivial,by (repeat' (first|exact trivial|exact LeV.same _|exact LeB.same _|exact rfl|exact fun _ _ _=>trivial|refine And.intro ?_ ?_));done⟩)|refine nT_ ?_|refine aS ?_|fail)
  ·rw [show ((n==0)&&(m==0))=false by simp [hn]]
   repeat' ((conv=>whnf);first|refine qw hn ?_|(exact ⟨(),trivial,by (repeat' (first|exact trivial|exact LeV.same _|exact LeB.same _|exact rfl|exact fun _ _ _=>trivial|refine And.intro ?_ ?_));done⟩)|refine nT_ ?_|refine aS ?_|fail)
 rintro _ _
 clear h0 h1 h3
 generalize ((n==0)&&(m==0))=br at *
 by_cases k1:k=1
 ·subst k1
  unfold uD
  rw [if_pos rfl]
  cases br <;> cases e <;> cases nd <;> repeat' ((conv=>whnf);first|exact trivial|refine nb_ _ hE ?_|refine nT_ ?_|refine aE1 ?_|refine rb1 ?_|refine rb0 ?_|refine aS ?_|fail)
 by_cases k2:k=2
 ·subst k2
  unfold uD
  rw [if_neg (by omega),if_pos rfl]
  cases br <;> cases e <;> repeat' ((conv=>whnf);first|exact trivial|refine nb_ _ hE ?_|refine nT_ ?_|refine aE1 ?_|refine aE0 ?_|refine rb1 ?_|refine rb0 ?_|refine aS ?_|fail)
 by_cases k3:k=3
 ·subst k3
  rw [FR]
  by_cases q1:n≥0
  ·by_cases q2:n≤1073741824
   ·rw [decide_eq_true q1,decide_eq_true q2,Bool.true_and,Bool.true_and]
    by_cases q3:m=0
    ·rw [show (m==0)=true by simp [q3]]
     cases e <;> repeat' ((conv=>whnf);first|exact trivial|refine nb_ _ hE ?_|refine qv q1 ?_|refine qv q2 ?_|refine qx q3 ?_|refine nT_ ?_|refine aE1 ?_|refine aE0 ?_|refine rb1 ?_|refine rb0 ?_|refine aS ?_|fail)
    ·rw [show (m==0)=false by simp [q3]]
     cases e <;> repeat' ((conv=>whnf);first|exact trivial|refine nb_ _ hE ?_|refine qv q1 ?_|refine qv q2 ?_|refine qw q3 ?_|refine nT_ ?_|refine aE1 ?_|refine aE0 ?_|refine rb0 ?_|refine aS ?_|fail)
   ·rw [decide_eq_true q1,decide_eq_false q2,Bool.true_and,Bool.false_and]
    cases e <;> repeat' ((conv=>whnf);first|exact trivial|refine nb_ _ hE ?_|refine qv q1 ?_|refine qu q2 ?_|refine nT_ ?_|refine aE1 ?_|refine aE0 ?_|refine rb0 ?_|refine aS ?_|fail)
  ·rw [decide_eq_false q1,Bool.false_and]
   cases e <;> repeat' ((conv=>whnf);first|exact trivial|refine nb_ _ hE ?_|refine qu q1 ?_|refine nT_ ?_|refine aE1 ?_|refine aE0 ?_|refine rb0 ?_|refine aS ?_|fail)
 by_cases k4:k=4
 ·subst k4
  rw [FT]
  by_cases q1:n≥0
  ·by_cases q2:n≤m
   ·rw [decide_eq_true q1,decide_eq_true q2,Bool.true_and,Bool.true_and]
    by_cases q3:m≤65535
    ·rw [decide_eq_true q3]
     cases nd <;> repeat' ((conv=>whnf);first|exact trivial|refine qv q1 ?_|refine qv q2 ?_|refine qv q3 ?_|refine nT_ ?_|refine aE1 ?_|refine aE0 ?_|refine rb1 ?_|refine rb0 ?_|refine aS ?_|fail)
    ·rw [decide_eq_false q3]
     cases nd <;> repeat' ((conv=>whnf);first|exact trivial|refine qv q1 ?_|refine qv q2 ?_|refine qu q3 ?_|refine nT_ ?_|refine aE1 ?_|refine aE0 ?_|refine rb0 ?_|refine aS ?_|fail)
   ·rw [decide_eq_true q1,decide_eq_false q2,Bool.true_and,Bool.false_and]
    cases nd <;> repeat' ((conv=>whnf);first|exact trivial|refine qv q1 ?_|refine qu q2 ?_|refine nT_ ?_|refine aE1 ?_|refine aE0 ?_|refine rb0 ?_|refine aS ?_|fail)
  ·rw [decide_eq_false q1,Bool.false_and]
   cases nd <;> repeat' ((conv=>whnf);first|exact trivial|refine qu q1 ?_|refine nT_ ?_|refine aE1 ?_|refine aE0 ?_|refine rb0 ?_|refine aS ?_|fail)
 by_cases k5:k=5
 ·subst k5
  unfold uD
  rw [if_neg (by omega),if_neg (by omega),if_neg (by omega),if_neg (by omega),if_pos rfl]
  cases br <;> cases nd <;> repeat' ((conv=>whnf);first|exact trivial|refine nT_ ?_|refine aE1 ?_|refine aE0 ?_|refine rb1 ?_|refine rb0 ?_|refine aS ?_|fail)
 by_cases k6:k=6
 ·subst k6
  rw [FU]
  by_cases q1:n≥1
  ·by_cases q2:n≤65535
   ·rw [decide_eq_true q1,decide_eq_true q2,Bool.true_and,Bool.true_and]
    by_cases q3:m≥1
    ·rw [decide_eq_true q3,Bool.true_and]
     by_cases q4:m≤1073741824
     ·rw [decide_eq_true q4]
      cases e <;> repeat' ((conv=>whnf);first|exact trivial|refine nb_ _ hE ?_|refine qv q1 ?_|refine qv q2 ?_|refine qv q3 ?_|refine qv q4 ?_|refine nT_ ?_|refine aE1 ?_|refine aE0 ?_|refine rb1 ?_|refine rb0 ?_|refine aS ?_|fail)
     ·rw [decide_eq_false q4]
      cases e <;> repeat' ((conv=>whnf);first|exact trivial|refine nb_ _ hE ?_|refine qv q1 ?_|refine qv q2 ?_|refine qv q3 ?_|refine qu q4 ?_|refine nT_ ?_|refine aE1 ?_|refine aE0 ?_|refine rb0 ?_|refine aS ?_|fail)
    ·rw [decide_eq_false q3,Bool.false_and]
     cases e <;> repeat' ((conv=>whnf);first|exact trivial|refine nb_ _ hE ?_|refine qv q1 ?_|refine qv q2 ?_|refine qu q3 ?_|refine nT_ ?_|refine aE1 ?_|refine aE0 ?_|refine rb0 ?_|refine aS ?_|fail)
   ·rw [decide_eq_true q1,decide_eq_false q2,Bool.true_and,Bool.false_and]
    cases e <;> repeat' ((conv=>whnf);first|exact trivial|refine nb_ _ hE ?_|refine qv q1 ?_|refine qu q2 ?_|refine nT_ ?_|refine aE1 ?_|refine aE0 ?_|refine rb0 ?_|refine aS ?_|fail)
  ·rw [decide_eq_false q1,Bool.false_and]
   cases e <;> repeat' ((conv=>whnf);first|exact trivial|refine nb_ _ hE ?_|refine qu q1 ?_|refine nT_ ?_|refine aE1 ?_|refine aE0 ?_|refine rb0 ?_|refine aS ?_|fail)
 unfold uD
 rw [if_neg k1,if_neg k2,if_neg k3,if_neg k4,if_neg k5,if_neg k6]
 repeat' ((conv=>whnf);first|exact trivial|refine nT_ ?_|refine aE0 ?_|refine rb0 ?_|refine aS ?_|fail)
theorem Bf (s:RS) (h:SmS (2^60) s):DCalls Tryz.prog 83 [.agg (sH s)] (I (tu s)):=by
 refine qO (rs:=[.tmp 2]) mixed Tryz.func83 l83 rfl rfl rfl (r:=[.int _ _]) (nlZ rfl) ?_
 have h1:=Aj s (by have:=h.var;omega) (by have:=h.field;omega) (fun k hk=>by have:=h.keys k hk;omega) h.len
 unfold tu
 generalize okS s=b at *
 cases b <;> repeat' ((conv=>whnf);first|exact trivial|refine rE _ (h1) ?_|refine rix ?_|(refine And.intro (by first|(rfl;done)|fail) ?_)|fail)
end Go.TY
end
section
namespace Go.TY
open Go Go.DL Go.MM Go.Proofs
section
variable {α:Type} [DecidableEq α] {lt:α→α→Bool}
end
end Go.TY
end
noncomputable section
namespace Go.TY
open Go Go.DL Go.Proofs
def c49:aY:=(.seq (.region [oo 2 (.box 9 (tm 0)),oo 3 (.box 1 (tm 1)),⟨some 4,.alloc [Z0,Z0,S0,Z0,Z0,.nil,S0,Z0,.nil],none,[]⟩] []) (.seq (.region [oo 5 (.alloc [.nilfn])] []) (.seq (.cut (.region [oo 6 (.mkfn 103 [(tm 3),(tm 5)]),o0 (.store 1 (tm 5) (tm 6))] [])) (.seq (.region [ld 7 5,lA 8 9 2,oo 9 (.b8 (tm 7) [tm 8]),o0 (.store 9 (tm 4) (tm 9))] []) .ret))))
theorem l49:(Tryz.f49.body.bind (bD Tryz.prog 10 [6000002]))=some c49:=by kernel_rfl
def Kb:aY:=(.seq (.region [oo 3 (.box 9 (tm 0)),⟨some 4,.alloc [Z0,Z0,S0,Z0,Z0,.nil,S0,Z0,.nil],none,[]⟩] []) (.seq (.region [fa 8 1 3,lA 9 5 8,ld 10 1,oo 11 (.call 52 [(tm 9),(tm 10)]),fa 12 1 3,o0 (.store 5 (tm 12) (tm 11))] []) (.seq (.region [oo 5 (.mov (.const .nil))] []) (.seq (.seq (.region [fa 13 8 3,ld 14 13,ln 15 14,oo 16 (.mov (Kc 0))] []) (.block 0 (.loop (.seq (.region [oo 17 (.bin .lss (tm 16) (tm 15))] []) (.seq (.cond (tm 17) .skip (.exit 0)) (.seq (.block 1 (.seq (.region [ix 18 9 14 16,lA 19 9 18,⟨some 7,.alloc [Z0,Z0,S0,Z0,Z0,.nil,S0,Z0,.nil],none,[]⟩,o0 (.store 9 (tm 7) (tm 19))] []) (.region [mv 20 5,ld 21 2,lA 22 9 7,oo 23 (.b8 (tm 21) [tm 22]),⟨some 24,.buildS 28 9 1 [Z0,Z0,S0,Z0,Z0,.nil,S0,Z0,.nil] [(0,(tm 23))],none,[]⟩,oo 25 (.append 26 28 9 120 (tm 20) (tm 24)),mv 5 25] []))) (.region [oo 26 (.bin .add (tm 16) (Kc 1)),mv 16 26] []))))))) (.seq (.region [mv 27 5,fa 28 8 3,o0 (.store 1 (tm 28) (tm 27))] []) (.seq (.region [lA 29 9 3,o0 (.store 9 (tm 4) (tm 29))] []) .ret))))))
theorem Lx:(Tryz.f103.body.bind (bD Tryz.prog 30 []))=some Kb:=by kernel_rfl
def c52:aY:=(.seq (.region [oo 2 (.box 5 (tm 0)),⟨some 4,.alloc [Z0,S0,Z0,Z0,.nil],none,[]⟩] []) (.seq (.seq (.region [fa 8 0 2,ld 9 8,oo 10 (.bin .eql (tm 9) (Kc 9))] []) (.cond (tm 10) (.seq (.seq (.region [fa 11 2 2,ld 12 11,mv 13 1,oo 14 (.bin .leq (tm 12) (tm 13)),mv 15 14,mT 16 1 15,oT 17 15 (.offA 3 (tm 2)),oT 18 15 (.load 1 false (tm 17)),oT 19 15 (.bin .lss (tm 16) (tm 18)),oo 20 (.pick (tm 15) (tm 19) kF)] []) (.cond (tm 20) (.seq (.region [⟨some 21,.build [Z0,S0,Z0,Z0,.nil] [(0,1,(Kc 1))],none,[]⟩,o0 (.store 5 (tm 4) (tm 21))] []) .ret) .skip)) (.seq (.region [⟨some 22,.build [Z0,S0,Z0,Z0,.nil] [(0,1,(Kc 2))],none,[]⟩,o0 (.store 5 (tm 4) (tm 22))] []) .ret)) .skip)) (.seq (.region [oo 5 (.mov (.const .nil))] []) (.seq (.seq (.region [fa 23 4 2,ld 24 23,ln 25 24,oo 26 (.mov (Kc 0))] []) (.block 0 (.loop (.seq (.region [oo 27 (.bin .lss (tm 26) (tm 25))] []) (.seq (.cond (tm 27) .skip (.exit 0)) (.seq (.block 1 (.seq (.region [ix 28 5 24 26,lA 29 5 28,⟨some 7,.alloc [Z0,S0,Z0,Z0,.nil],none,[]⟩,o0 (.store 5 (tm 7) (tm 29))] []) (.region [mv 30 5,lA 31 5 7,mv 32 1,oo 33 (.call 52 [(tm 31),(tm 32)]),⟨some 34,.buildS 25 5 1 [Z0,S0,Z0,Z0,.nil] [(0,(tm 33))],none,[]⟩,oo 35 (.append 23 25 5 64 (tm 30) (tm 34)),mv 5 35] []))) (.region [oo 36 (.bin .add (tm 26) (Kc 1)),mv 26 36] []))))))) (.seq (.region [mv 37 5,fa 38 4 2,o0 (.store 1 (tm 38) (tm 37))] []) (.seq (.region [lA 39 5 2,o0 (.store 5 (tm 4) (tm 39))] []) .ret))))))
theorem l52:(Tryz.f52.body.bind (bD Tryz.prog 40 []))=some c52:=by kernel_rfl
end Go.TY
end
