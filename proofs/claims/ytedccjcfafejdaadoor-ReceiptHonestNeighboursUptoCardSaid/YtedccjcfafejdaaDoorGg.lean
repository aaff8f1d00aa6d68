/- Joined by program: parts of a data level over the model, of the program's functions over it, and of the statement's proof. -/
import Derived.Test.YtedccjcfafejdaaDoorProg
import Derived.Test.YtedccjcfafejdaaDoorGd
import Derived.KernelRfl
import Derived.Test.YtedccjcfafejdaaDoorGf
section
namespace Go.RC
open Go Go.DL Go.Proofs
set_option maxRecDepth 100000
noncomputable def c11 : DCode := (.seq (.region [oo 0 (.mov (.const (.bool false)))] []) (.seq (.region [oo 1 (.mov (Kc 4294967295))] []) (.seq (.seq (.region [mv 27 1,oo 28 (.build [(Zi 0), (Zi 0), (Zi 0), (Zi 0)] [(0, 1, (tm 27)), (1, 1, (Kc 0)), (2, 1, (Kc 0)), (3, 1, (Kc 5))]),oo 29 (.build [(Zi 0), (Zi 0), (Zi 0), (Zi 0)] [(0, 1, (Kc 1)), (1, 1, (Kc 2)), (2, 1, (Kc 0)), (3, 1, (Kc 5))]),oo 30 (.call 14 [(tm 28), (tm 29)]),oo 31 (.build [(Zi 0), (Zi 0), (Zi 0), (Zi 0)] [(0, 1, (Kc 0)), (1, 1, (Kc 2)), (2, 1, (Kc 0)), (3, 1, (Kc 10))]),oo 32 (.eqv true [.int .i64, .int .i64, .int .i64, .int .i64] (tm 30) (tm 31)),mv 33 32,oF 34 33 (.build [(Zi 0), (Zi 0), (Zi 0), (Zi 0)] []),oF 35 33 (.build [(Zi 0), (Zi 0), (Zi 0), (Zi 0)] [(0, 1, (Kc 1))]),oF 36 33 (.call 16 [(tm 34), (tm 35)]),mF 37 1 33,oF 38 33 (.build [(Zi 0), (Zi 0), (Zi 0), (Zi 0)] [(0, 1, (tm 37)), (1, 1, (Kc 0)), (2, 1, (Kc 0)), (3, 1, (Kc 0))]),oF 39 33 (.eqv true [.int .i64, .int .i64, .int .i64, .int .i64] (tm 36) (tm 38)),oo 40 (.pick (tm 33) (.const (.bool true)) (tm 39))] []) (.cond (tm 40) (.seq (.region [oo 0 (.mov (.const (.bool false)))] []) .ret) .skip)) (.seq (.region [oo 42 (.inl 40 [(Kc 3)]),mv 41 42,oo 43 (.ext (tm 41) 0),oo 44 (.ext (tm 41) 1),mv 2 43,mv 3 44] []) (.seq (.region [oo 46 (.inl 40 [(Kc 200)]),mv 45 46,oo 47 (.ext (tm 45) 0),oo 48 (.ext (tm 45) 1),mv 4 47,mv 5 48] []) (.seq (.seq (.region [mv 49 3,oo 50 (.bin .neq (tm 49) (Kc 0)),mv 51 50,mF 52 5 51,oF 53 51 (.bin .neq (tm 52) (Kc 1)),oo 54 (.pick (tm 51) (.const (.bool true)) (tm 53)),mv 55 54,mF 56 2 55,oF 57 55 (.isnil 0 false (tm 56)),oo 58 (.pick (tm 55) (.const (.bool true)) (tm 57))] []) (.cond (tm 58) (.seq (.region [oo 0 (.mov (.const (.bool false)))] []) .ret) .skip)) (.seq (.region [oo 59 (.build [(Zi 0), (Zi 0), (Zi 0), (Zi 0), (Zi 0), (Zi 0), (Zi 0), (Zi 0), (Zi 0), (Zi 0)] [(0, 1, (Kc 7)), (1, 1, (Kc 5))]),oo 60 (.build [(Zi 0), (Zi 0), (Zi 0), (Zi 0), (Zi 0), (Zi 0), (Zi 0), (Zi 0), (Zi 0), (Zi 0)] [(0, 1, (Kc 7)), (1, 1, (Kc 6))]),oo 6 (.alloc [(Zi 0), (Zi 0), (Zi 0), (Zi 0), (Zi 0), (Zi 0), (Zi 0), (Zi 0), (Zi 0), (Zi 0)]),oo 7 (.alloc [(Zi 0), (Zi 0), (Zi 0), (Zi 0), (Zi 0), (Zi 0), (Zi 0), (Zi 0), (Zi 0), (Zi 0)]),o0 (.store 10 (tm 6) (tm 59)),o0 (.store 10 (tm 7) (tm 60))] []) (.seq (.seq (.region [mv 61 2,oo 62 (.load 10 true (tm 6)),oo 63 (.mcall [1013, 1011] 41 [(tm 61), (Kc 2), (Kc 7), (Kc 1), (tm 62)]),mv 64 2,oo 65 (.load 10 true (tm 6)),oo 66 (.mcall [1013, 1011] 41 [(tm 64), (Kc 1), (Kc 2), (Kc 1), (tm 65)]),mv 67 2,oo 68 (.load 10 true (tm 7)),oo 69 (.mcall [1013, 1011] 41 [(tm 67), (Kc 2), (Kc 7), (Kc 1), (tm 68)]),oo 70 (.buildT 1 3 [(Zi 0)] [(0, (tm 63)), (1, (tm 66)), (2, (tm 69))]),oo 71 (.len (tm 70)),oo 72 (.mov (Kc 0))] [[], [], [], [], [2], [], [], [2, 5], [], [], [], []]) (.block 0 (.loop (.seq (.region [oo 73 (.bin .lss (tm 72) (tm 71))] []) (.seq (.cond (tm 73) .skip (.exit 0)) (.seq (.block 1 (.seq (.region [oo 74 (.idxL 1 (tm 70) (tm 72)),oo 75 (.load 1 false (tm 74)),mv 9 75] []) (.seq (.region [mv 76 9,oo 77 (.bin .neq (tm 76) (Kc 0))] []) (.cond (tm 77) (.seq (.region [oo 0 (.mov (.const (.bool false)))] []) .ret) .skip)))) (.region [oo 78 (.bin .add (tm 72) (Kc 1)),mv 72 78] []))))))) (.seq (.cut (.region [mv 80 2,oo 81 (.inl 42 [(tm 80)]),mv 79 81,oo 82 (.ext (tm 79) 0),oo 83 (.ext (tm 79) 1),oo 10 (.alloc [(Zi 0), (Zi 0), .nil, (Ui 0), (Ui 0), (Ui 0), (Ui 0), (Ui 0), (Ui 0), (Ui 0), (Ui 0), (Ui 0), (Ui 0), (Ui 0), (Ui 0), (Ui 0), (Ui 0), (Ui 0), (Ui 0)]),o0 (.store 19 (tm 10) (tm 82)),mv 11 83] [])) (.seq (.cut (.region [mv 85 2,oo 86 (.inl 42 [(tm 85)]),mv 84 86,oo 87 (.ext (tm 84) 0),oo 88 (.ext (tm 84) 1),oo 12 (.alloc [(Zi 0), (Zi 0), .nil, (Ui 0), (Ui 0), (Ui 0), (Ui 0), (Ui 0), (Ui 0), (Ui 0), (Ui 0), (Ui 0), (Ui 0), (Ui 0), (Ui 0), (Ui 0), (Ui 0), (Ui 0), (Ui 0)]),o0 (.store 19 (tm 12) (tm 87)),mv 13 88] [])) (.seq (.cut (.region [oo 90 (.load 19 true (tm 10)),oo 91 (.load 19 true (tm 12)),oo 92 (.buildS 51 19 2 [(Zi 0), (Zi 0), .nil, (Ui 0), (Ui 0), (Ui 0), (Ui 0), (Ui 0), (Ui 0), (Ui 0), (Ui 0), (Ui 0), (Ui 0), (Ui 0), (Ui 0), (Ui 0), (Ui 0), (Ui 0), (Ui 0)] [(0, (tm 90)), (1, (tm 91))]),oo 93 (.call 22 [(Kc 3), (tm 92)]),mv 89 93,oo 94 (.ext (tm 89) 0),oo 95 (.ext (tm 89) 1),mv 14 94,mv 15 95] [])) (.seq (.cut (.region [oo 97 (.load 19 true (tm 12)),oo 98 (.buildS 51 19 1 [(Zi 0), (Zi 0), .nil, (Ui 0), (Ui 0), (Ui 0), (Ui 0), (Ui 0), (Ui 0), (Ui 0), (Ui 0), (Ui 0), (Ui 0), (Ui 0), (Ui 0), (Ui 0), (Ui 0), (Ui 0), (Ui 0)] [(0, (tm 97))]),oo 99 (.call 22 [(Kc 3), (tm 98)]),mv 96 99,oo 100 (.ext (tm 96) 0),oo 101 (.ext (tm 96) 1),mv 16 100,mv 17 101] [])) (.seq (.cut (.region [oo 103 (.load 19 true (tm 10)),oo 104 (.call 30 [(tm 103), (Kc 2), (Kc 7), (Kc 1)]),mv 102 104,oo 105 (.ext (tm 102) 0),oo 106 (.ext (tm 102) 1),oo 18 (.alloc [(Zi 0), (Zi 0), (Zi 0), (Zi 0), (Zi 0), (Zi 0), (Zi 0), (Zi 0)]),o0 (.store 8 (tm 18) (tm 105)),mv 19 106] [])) (.seq (.region [oo 108 (.build [(Zi 0), (Zi 0), (Zi 0), (Zi 0), (Zi 0), (Zi 0), (Zi 0), (Zi 0)] [(3, 1, (Kc 5))]),oo 109 (.build [(Zi 0), (Zi 0), (Zi 0), (Zi 0), (Zi 0), (Zi 0), (Zi 0), (Zi 0)] [(3, 1, (Kc 3))]),oo 110 (.call 19 [(tm 108), (tm 109)]),mv 107 110,oo 111 (.ext (tm 107) 0),oo 112 (.ext (tm 107) 1),mv 20 111,mv 21 112] []) (.seq (.region [oo 114 (.build [(Zi 0), (Zi 0), (Zi 0), (Zi 0), (Zi 0), (Zi 0), (Zi 0), (Zi 0)] [(3, 1, (Kc 3))]),oo 115 (.build [(Zi 0), (Zi 0), (Zi 0), (Zi 0), (Zi 0), (Zi 0), (Zi 0), (Zi 0)] [(3, 1, (Kc 5))]),oo 116 (.call 19 [(tm 114), (tm 115)]),mv 113 116,oo 117 (.ext (tm 113) 0),oo 118 (.ext (tm 113) 1),mv 22 117,mv 23 118] []) (.seq (.cut (.region [oo 120 (.build [(Zi 0), (Zi 0), (Zi 0), (Zi 0)] [(0, 1, (Kc 1))]),oo 121 (.build [(Zi 0), (Zi 0), (Zi 0), (Zi 0), (Zi 0), (Zi 0), (Zi 0), (Zi 0)] [(3, 1, (Kc 5)), (4, 4, (tm 120))]),oo 122 (.build [(Zi 0), (Zi 0), (Zi 0), (Zi 0), (Zi 0), (Zi 0), (Zi 0), (Zi 0)] [(3, 1, (Kc 5))]),oo 123 (.call 19 [(tm 121), (tm 122)]),mv 119 123,oo 124 (.ext (tm 119) 0),oo 125 (.ext (tm 119) 1),mv 24 124,mv 25 125] [])) (.seq (.cut (.region [mv 126 11,oo 127 (.bin .eql (tm 126) (Kc 0)),mv 128 127,mT 129 13 128,oT 130 128 (.bin .eql (tm 129) (Kc 0)),oo 131 (.pick (tm 128) (tm 130) (.const (.bool false))),mv 132 131,oT 133 132 (.offA 2 (tm 10)),oT 134 132 (.load 1 false (tm 133)),oT 135 132 (.len (tm 134)),oT 136 132 (.bin .eql (tm 135) (Kc 2)),oo 137 (.pick (tm 132) (tm 136) (.const (.bool false))),mv 138 137,oT 139 138 (.offA 2 (tm 10)),oT 140 138 (.load 1 false (tm 139)),oT 141 138 (.idxL 8 (tm 140) (Kc 0)),oT 142 138 (.offA 0 (tm 141)),oT 143 138 (.load 1 false (tm 142)),oT 144 138 (.bin .eql (tm 143) (Kc 1)),oo 145 (.pick (tm 138) (tm 144) (.const (.bool false))),mv 146 145,oT 147 146 (.offA 2 (tm 10)),oT 148 146 (.load 1 false (tm 147)),oT 149 146 (.idxL 8 (tm 148) (Kc 0)),oT 150 146 (.offA 3 (tm 149)),oT 151 146 (.load 1 false (tm 150)),oT 152 146 (.bin .eql (tm 151) (Kc 1)),oo 153 (.pick (tm 146) (tm 152) (.const (.bool false))),mv 154 153,oT 155 154 (.offA 1 (tm 10)),oT 156 154 (.load 1 false (tm 155)),oT 157 154 (.bin .eql (tm 156) (Kc 0)),oo 158 (.pick (tm 154) (tm 157) (.const (.bool false))),mv 159 158,oT 160 159 (.offA 1 (tm 12)),oT 161 159 (.load 1 false (tm 160)),oT 162 159 (.bin .eql (tm 161) (Kc 1)),oo 163 (.pick (tm 159) (tm 162) (.const (.bool false))),mv 164 163,oT 165 164 (.offA 2 (tm 12)),oT 166 164 (.load 1 false (tm 165)),oT 167 164 (.len (tm 166)),oT 168 164 (.bin .eql (tm 167) (Kc 0)),oo 169 (.pick (tm 164) (tm 168) (.const (.bool false))),mv 170 169,oT 171 170 (.offA 3 (tm 12)),oT 172 170 (.load 16 true (tm 171)),oT 173 170 (.load 19 true (tm 10)),oT 174 170 (.call 24 [(tm 173)]),oT 175 170 (.eqv false [.int .u8, .int .u8, .int .u8, .int .u8, .int .u8, .int .u8, .int .u8, .int .u8, .int .u8, .int .u8, .int .u8, .int .u8, .int .u8, .int .u8, .int .u8, .int .u8] (tm 172) (tm 174)),oo 176 (.pick (tm 170) (tm 175) (.const (.bool false))),mv 177 176,oT 178 177 (.load 19 true (tm 10)),oT 179 177 (.call 28 [(tm 178)]),oT 180 177 (.bin .eql (tm 179) (Kc 0)),oo 181 (.pick (tm 177) (tm 180) (.const (.bool false))),mv 26 181] [])) (.seq (.region [mv 182 26,mv 183 182,mT 184 14 183,oT 185 183 (.bin .eql (tm 184) (Kc 2)),oo 186 (.pick (tm 183) (tm 185) (.const (.bool false))),mv 187 186,mT 188 15 187,oT 189 187 (.bin .eql (tm 188) (Kc 0)),oo 190 (.pick (tm 187) (tm 189) (.const (.bool false))),mv 191 190,mT 192 16 191,oT 193 191 (.bin .eql (tm 192) (Kc 0)),oo 194 (.pick (tm 191) (tm 193) (.const (.bool false))),mv 195 194,mT 196 17 195,oT 197 195 (.bin .eql (tm 196) (Kc 25)),oo 198 (.pick (tm 195) (tm 197) (.const (.bool false))),mv 199 198,mT 200 19 199,oo 201 (.pick (tm 199) (tm 200) (.const (.bool false))),mv 202 201,oT 203 202 (.offA 3 (tm 18)),oT 204 202 (.load 1 false (tm 203)),oT 205 202 (.bin .eql (tm 204) (Kc 2)),oo 206 (.pick (tm 202) (tm 205) (.const (.bool false))),mv 207 206,oT 208 207 (.offA 4 (tm 18)),oT 209 207 (.load 4 true (tm 208)),oT 210 207 (.load 10 true (tm 6)),oT 211 207 (.call 12 [(tm 210)]),oT 212 207 (.load 10 true (tm 7)),oT 213 207 (.call 12 [(tm 212)]),oT 214 207 (.call 14 [(tm 211), (tm 213)]),oT 215 207 (.eqv false [.int .i64, .int .i64, .int .i64, .int .i64] (tm 209) (tm 214)),oo 216 (.pick (tm 207) (tm 215) (.const (.bool false))),mv 217 216,mT 218 20 217,oT 219 217 (.bin .eql (tm 218) (Kc 2)),oo 220 (.pick (tm 217) (tm 219) (.const (.bool false))),mv 221 220,mT 222 21 221,oT 223 221 (.bin .eql (tm 222) (Kc 0)),oo 224 (.pick (tm 221) (tm 223) (.const (.bool false))),mv 225 224,mT 226 23 225,oT 227 225 (.bin .eql (tm 226) (Kc 26)),oo 228 (.pick (tm 225) (tm 227) (.const (.bool false))),mv 229 228,mT 230 25 229,oT 231 229 (.bin .eql (tm 230) (Kc 26)),oo 232 (.pick (tm 229) (tm 231) (.const (.bool false))),mv 0 232] []) .ret))))))))))))))))))
theorem l11 : (Tryd.f11.body.bind (lowC Tryd.prog 233 [40, 42, 6000015, 6000016, 6000017, 6000018, 6000019, 6000022, 6000023, 1000063001013, 1000063001011, 1000066001013, 1000066001011, 1000069001013, 1000069001011])) = some c11 := by kernel_rfl
noncomputable def c3 : DCode := (.seq (.region [oo 4 (.box 10 (tm 0)),oo 5 (.box 4 (tm 1)),oo 6 (.box 4 (tm 2)),oo 7 (.box 4 (tm 3)),oo 8 (.mov (.const (.bool false)))] []) (.seq (.seq (.region [oo 11 (.load 10 true (tm 4)),oo 12 (.call 9 [(tm 11)]),oo 13 (.not (tm 12)),mv 14 13,oF 15 14 (.load 4 true (tm 5)),oF 16 14 (.call 10 [(tm 15)]),oF 17 14 (.not (tm 16)),oo 18 (.pick (tm 14) (.const (.bool true)) (tm 17)),mv 19 18,oF 20 19 (.load 4 true (tm 6)),oF 21 19 (.call 10 [(tm 20)]),oF 22 19 (.not (tm 21)),oo 23 (.pick (tm 19) (.const (.bool true)) (tm 22)),mv 24 23,oF 25 24 (.load 4 true (tm 7)),oF 26 24 (.call 10 [(tm 25)]),oF 27 24 (.not (tm 26)),oo 28 (.pick (tm 24) (.const (.bool true)) (tm 27))] []) (.cond (tm 28) (.seq (.region [oo 29 (.call 11 []),mv 8 29] []) .ret) .skip)) (.seq (.seq (.region [oo 30 (.load 10 true (tm 4)),oo 31 (.call 12 [(tm 30)]),oo 32 (.load 10 true (tm 4)),oo 33 (.call 13 [(tm 32)]),oo 34 (.eqv true [.int .i64, .int .i64, .int .i64, .int .i64] (tm 31) (tm 33)),mv 35 34,oF 36 35 (.load 4 true (tm 5)),oF 37 35 (.load 4 true (tm 6)),oF 38 35 (.call 14 [(tm 36), (tm 37)]),oF 39 35 (.load 4 true (tm 5)),oF 40 35 (.load 4 true (tm 6)),oF 41 35 (.call 15 [(tm 39), (tm 40)]),oF 42 35 (.eqv true [.int .i64, .int .i64, .int .i64, .int .i64] (tm 38) (tm 41)),oo 43 (.pick (tm 35) (.const (.bool true)) (tm 42)),mv 44 43,oF 45 44 (.load 4 true (tm 5)),oF 46 44 (.load 4 true (tm 6)),oF 47 44 (.call 16 [(tm 45), (tm 46)]),oF 48 44 (.load 4 true (tm 5)),oF 49 44 (.load 4 true (tm 6)),oF 50 44 (.call 17 [(tm 48), (tm 49)]),oF 51 44 (.eqv true [.int .i64, .int .i64, .int .i64, .int .i64] (tm 47) (tm 50)),oo 52 (.pick (tm 44) (.const (.bool true)) (tm 51)),mv 53 52,oF 54 53 (.load 10 true (tm 4)),oF 55 53 (.call 12 [(tm 54)]),oF 56 53 (.call 10 [(tm 55)]),oF 57 53 (.not (tm 56)),oo 58 (.pick (tm 53) (.const (.bool true)) (tm 57))] []) (.cond (tm 58) (.seq (.region [oo 8 (.mov (.const (.bool false)))] []) .ret) .skip)) (.seq (.region [oo 59 (.load 4 true (tm 5)),oo 60 (.load 4 true (tm 6)),oo 61 (.call 14 [(tm 59), (tm 60)]),oo 62 (.load 4 true (tm 7)),oo 63 (.call 14 [(tm 61), (tm 62)]),oo 64 (.load 4 true (tm 5)),oo 65 (.load 4 true (tm 6)),oo 66 (.load 4 true (tm 7)),oo 67 (.call 14 [(tm 65), (tm 66)]),oo 68 (.call 14 [(tm 64), (tm 67)]),oo 9 (.alloc [(Zi 0), (Zi 0), (Zi 0), (Zi 0)]),oo 10 (.alloc [(Zi 0), (Zi 0), (Zi 0), (Zi 0)]),o0 (.store 4 (tm 9) (tm 63)),o0 (.store 4 (tm 10) (tm 68))] []) (.seq (.region [oo 69 (.call 11 []),mv 70 69,oT 71 70 (.load 4 true (tm 5)),oT 72 70 (.load 4 true (tm 6)),oT 73 70 (.call 14 [(tm 71), (tm 72)]),oT 74 70 (.load 4 true (tm 6)),oT 75 70 (.load 4 true (tm 5)),oT 76 70 (.call 14 [(tm 74), (tm 75)]),oT 77 70 (.eqv false [.int .i64, .int .i64, .int .i64, .int .i64] (tm 73) (tm 76)),oo 78 (.pick (tm 70) (tm 77) (.const (.bool false))),mv 79 78,oT 80 79 (.load 4 true (tm 9)),oT 81 79 (.load 4 true (tm 10)),oT 82 79 (.eqv false [.int .i64, .int .i64, .int .i64, .int .i64] (tm 80) (tm 81)),oo 83 (.pick (tm 79) (tm 82) (.const (.bool false))),mv 84 83,oT 85 84 (.load 4 true (tm 5)),oT 86 84 (.load 4 true (tm 6)),oT 87 84 (.call 14 [(tm 85), (tm 86)]),oT 88 84 (.load 4 true (tm 6)),oT 89 84 (.call 16 [(tm 87), (tm 88)]),oT 90 84 (.load 4 true (tm 5)),oT 91 84 (.eqv false [.int .i64, .int .i64, .int .i64, .int .i64] (tm 89) (tm 90)),oo 92 (.pick (tm 84) (tm 91) (.const (.bool false))),mv 93 92,oT 94 93 (.load 4 true (tm 5)),oT 95 93 (.build [(Zi 0), (Zi 0), (Zi 0), (Zi 0)] []),oT 96 93 (.call 14 [(tm 94), (tm 95)]),oT 97 93 (.load 4 true (tm 5)),oT 98 93 (.eqv false [.int .i64, .int .i64, .int .i64, .int .i64] (tm 96) (tm 97)),oo 99 (.pick (tm 93) (tm 98) (.const (.bool false))),mv 8 99] []) .ret)))))
theorem l3 : (Tryd.f3.body.bind (lowC Tryd.prog 100 [])) = some c3 := by kernel_rfl
end Go.RC
end
section
namespace Go.DL
open Go.RowKit
section
variable [Glb] {P : Program} {X : List FuncId} {N : Nat} {w0 : World} {S0 : Base} {a : Act} {E : Env} {st : St}
def resVP (sz : TypeId → Option (Nat × Bool)) (st : St) : List ResultVar → List V → Prop
  | [], [] => True
  | .tmp t :: rs, u :: us => st.sl t = u ∧ resVP sz st rs us
  | .cell c ty :: rs, .t x :: us => resP sz st [.cell c ty] [x] ∧ resVP sz st rs us
  | _, _ => False
theorem resVP_run (h : SR N w0 S0 E st a.tmps) : ∀ {rs : List ResultVar} {us : List V}, resVP (sizesOf P) st rs us → ∃ vs : List Value, (rs.mapM (readRes a.tmps)).run P E.w = .ok vs E.w ∧ vs.length = us.length ∧ ∀ (i : Nat) (v : Value) (u : V), vs[i]? = some v → us[i]? = some u → VR E v u
  | [], [], _ => ⟨[], by simp, rfl, fun i v x hv => by simp at hv⟩
  | .tmp t :: rs, u :: us, hr => by
    obtain ⟨hu, hr'⟩ := hr
    obtain ⟨vs, h1, h2, h3⟩ := resVP_run h hr'
    refine ⟨a.tmps.getD t undef :: vs, ?_, by simp [h2], fun i v y hv hy => ?_⟩
    · rw [List.mapM_cons, Sem.run_bind]
      have : (readRes a.tmps (.tmp t)).run P E.w = .ok (a.tmps.getD t undef) E.w := rfl
      rw [this]
      simp [h1]
    · cases i with
      | zero => simp only [List.getElem?_cons_zero, Option.some.injEq] at hv hy; subst hv; subst hy; rw [← hu]; exact h.sl t
      | succ i => simp at hv hy; exact h3 i v y hv hy
  | .cell c ty :: rs, .t x :: us, hr => by
    obtain ⟨⟨hp1, _⟩, hr'⟩ := hr
    obtain ⟨vs, h1, h2, h3⟩ := resVP_run h hr'
    have key : ∃ v, (readRes a.tmps (.cell c ty)).run P E.w = .ok v E.w ∧ Rep E.S E.w v x := by
      have hs := h.sl c
      split at hp1
      · rename_i b off n agg hb hz
        rw [hb] at hs
        obtain ⟨hv, hl⟩ := hs.inv_ptr
        unfold sizesOf at hz
        split at hz
        · rename_i d i hu hi
          simp only [cond_eq_ite] at hz
          split at hz
          · simp only [Option.some.injEq, Prod.mk.injEq] at hz
            obtain ⟨rfl, rfl⟩ := hz
            split at hp1
            · rename_i cs hcs
              obtain ⟨v, k1, k2⟩ := load_res h hu hi (off := off) hcs (x := x) hp1
              refine ⟨v, ?_, k2⟩
              show (asAddr (a.tmps.getD c undef) >>= fun d => loadVar ty d).run P E.w = _
              rw [hv]
              simp [asAddr, k1]
            · exact hp1.elim
          · cases hz
        · cases hz
      · exact hp1.elim
    obtain ⟨v0, k1, k2⟩ := key
    refine ⟨v0 :: vs, ?_, by simp [h2], fun i v y hv hy => ?_⟩
    · rw [List.mapM_cons, Sem.run_bind, k1]
      simp [h1]
    · cases i with
      | zero => simp only [List.getElem?_cons_zero, Option.some.injEq] at hv hy; subst hv; subst hy; exact .t _ _ k2
      | succ i => simp at hv hy; exact h3 i v y hv hy
theorem resultsVP_run (h : SR N w0 S0 E st a.tmps) {fn : Func} {us : List V} (hr : resVP (sizesOf P) st fn.results.toList us) : ∃ v, (results fn a.tmps).run P E.w = .ok v E.w ∧ VR E v (oneV us) := by
  obtain ⟨vs, h1, h2, h3⟩ := resVP_run (P := P) h hr
  have hr : (results fn a.tmps).run P E.w = .ok (if h : vs.toArray.size = 1 then vs.toArray[0] else .tuple vs.toArray) E.w := by
    have : results fn a.tmps = (do let vs ← fn.results.mapM (readRes a.tmps); pure (if h : vs.size = 1 then vs[0] else .tuple vs)) := rfl
    rw [this, Array.mapM_eq_mapM_toList]
    rw [Sem.run_bind]
    have h2 : (List.toArray <$> fn.results.toList.mapM (readRes a.tmps)).run P E.w = .ok vs.toArray E.w := by
      rw [map_eq_pure_bind, Sem.run_bind, h1]; rfl
    rw [h2]; rfl
  refine ⟨_, hr, ?_⟩
  match vs, us, h2, h3 with
  | [v], [x], _, h3 => exact h3 0 v x rfl rfl
  | [], [], _, h3 => exact .tup _ _ rfl fun i x t hx ht => by simp at ht
  | v :: u :: vs, x :: y :: xs, h2, h3 =>
    have hne : ¬ (v :: u :: vs).toArray.size = 1 := by simp
    rw [dif_neg hne]
    exact .tup _ _ (by simpa using h2) fun i z t hz ht => h3 i z t (by simpa using hz) ht
def PostVP (sz : TypeId → Option (Nat × Bool)) (rs : List ResultVar) (st : St) (d : Option Nat) (K : St → Prop) : DExit → St → Prop
  | .normal, st2 => ∃ us, resVP sz st2 rs us ∧ K ((st2.back st).set d (oneV us))
  | .ret, st2 => ∃ us, resVP sz st2 rs us ∧ K ((st2.back st).set d (oneV us))
  | .exit _, _ => False
theorem WC_inlP (hm : P.follows .mixedOrders = true) {f : FuncId} {fn : Func} {dc : DCode} {N' : Nat} {rs : List ResultVar} (hf : P.funcs[f]? = some fn) (hl : (fn.body.bind (lowC P N' X)) = some dc) (hN : fn.ntmps = N') (hn : (fn.name == "runtime.NumGoroutine") = false)
    (hr : fn.results.toList = rs) {us : List V} (off : Nat) (ha : us.length ≤ N') {d : Option Nat} {K : St → Prop} (hw : wpC P dc (st.enter us off) (PostVP (sizesOf P) rs st d K)) : WC P f us d st K := by
  cases hb : fn.body with
  | none => rw [hb] at hl; cases hl
  | some c =>
    rw [hb] at hl
    subst hN; subst hr
    refine ⟨callable_of hf (by rw [hb]; rfl) hn, fun N w0 S0 E a vs h hlen hv hd => calls_of_wp hf hb ?_⟩
    have hsr : SR fn.ntmps w0 { S0 with vals := pushB (fun m => a.getD m undef) S0.vals } E (st.enter us off) (vs ++ Array.replicate (fn.ntmps - vs.size) undef) := by
      refine ⟨by simp; omega, h.base, h.glob, fun m => ?_, fun k m => ?_, h.bx, h.live, h.inj, h.rows, h.rinj, h.lt, h.below, h.s0, h.s1, h.obj, ⟨S0.vals, h.cx⟩⟩
      · show VR _ _ (us[m]?.getD .top)
        cases ht : us[m]? with
        | none => exact .top _
        | some t =>
          have hlt : m < vs.size := by rw [hlen]; exact (List.getElem?_eq_some_iff.1 ht).1
          have hv := hv m vs[m] t (Array.getElem?_eq_getElem hlt) ht
          have : (vs ++ Array.replicate (fn.ntmps - vs.size) undef).getD m undef = vs[m] := by
            rw [Array.getD_eq_getD_getElem?, Array.getElem?_append_left hlt]
            simp [hlt]
          rw [this]
          exact hv
      · cases k with
        | zero => exact h.sl m
        | succ k => exact h.gh k m
    refine wp_mono (wpC_wp hm hl (a := { tmps := vs ++ Array.replicate (fn.ntmps - vs.size) undef, defers := [] }) hsr hw) ?_
    have fin : ∀ {a' : Act} {w' : World}, EndIs fn.ntmps w0 { S0 with vals := pushB (fun m => a.getD m undef) S0.vals } [] (fun st2 => ∃ us, resVP (sizesOf P) st2 fn.results.toList us ∧ K ((st2.back st).set d (oneV us))) a' w' → a'.defers = [] ∧ ∃ v, (results fn a'.tmps).run P w' = .ok v w' ∧
        ∃ v', Ending.returned v = .returned v' ∧ ∃ (E' : Env) (st' : St), E'.w = w' ∧ K st' ∧ SR N w0 S0 E' st' (putA a d v') := by
      rintro a' w' ⟨E', st2, rfl, hsr', hdf, us', hus, hk⟩
      obtain ⟨v, h1, h2⟩ := resultsVP_run (P := P) hsr' hus
      have hback : SR N w0 S0 E' (st2.back st) a := by
        refine ⟨h.size, hsr'.base, hsr'.glob, fun m => hsr'.gh 0 m, fun k m => hsr'.gh (k + 1) m, hsr'.bx, hsr'.live, hsr'.inj, hsr'.rows, hsr'.rinj, hsr'.lt, hsr'.below, hsr'.s0, hsr'.s1, hsr'.obj, h.cx⟩
      exact ⟨hdf, v, h1, v, rfl, E', _, rfl, hk, set_put hback hd h2⟩
    intro e a' w' hh
    cases e with
    | normal => exact fin hh
    | ret => exact fin hh
    | exit id =>
      obtain ⟨_, _, _, _, _, hk⟩ := hh
      exact hk.elim
    | goto l => exact hh.elim
    | panic ch => exact hh.elim
    | outgrown => exact hh.elim
end
end Go.DL
end
section
namespace Go.RC
open Go Go.DL Go.Proofs
set_option maxRecDepth 100000
set_option maxHeartbeats 2000000
abbrev Ent := N3 × Int × List Int
abbrev tly (c : Int) (s : List Int) : T := .agg (I c :: s.map I)
abbrev esM (es : List Ent) : List (T × T) := es.map fun e => (nk e.1, tly e.2.1 e.2.2)
def getM (k : N3) : List Ent → Option (Int × List Int)
  | [] => none
  | e :: es => if k = e.1 then some e.2 else getM k es
def putM (k : N3) (v : Int × List Int) : List Ent → List Ent
  | [] => [(k, v)]
  | e :: es => if k = e.1 then (k, v) :: es else e :: putM k v es
theorem getM_cons (k : N3) (e : Ent) (es : List Ent) : getM k (e :: es) = if k = e.1 then some e.2 else getM k es := rfl
theorem putM_cons (k : N3) (v : Int × List Int) (e : Ent) (es : List Ent) : putM k v (e :: es) = if k = e.1 then (k, v) :: es else e :: putM k v es := rfl
theorem eqL_nk (k k' : N3) : eqL (nk k).cells (nk k').cells = decide (k = k') := by
  obtain ⟨a, b, c⟩ := k
  obtain ⟨a', b', c'⟩ := k'
  show (a == a' && (b == b' && (c == c' && true))) = _
  by_cases h1 : a = a' <;> by_cases h2 : b = b' <;> by_cases h3 : c = c' <;> simp [h1, h2, h3]
theorem mfind_esM (k : N3) : ∀ es : List Ent, mfind (nk k).cells (esM es) = (getM k es).map fun v => tly v.1 v.2
  | [] => rfl
  | e :: es => by
    show cond (eqL (nk k).cells (nk e.1).cells) (some (tly e.2.1 e.2.2)) (mfind (nk k).cells (esM es)) = _
    rw [eqL_nk, mfind_esM k es, getM_cons]
    by_cases h : k = e.1
    · simp [h]
    · simp [h]
theorem mput_esM (k : N3) (v : Int × List Int) : ∀ es : List Ent, mput (nk k) (tly v.1 v.2) (esM es) = esM (putM k v es)
  | [] => rfl
  | e :: es => by
    show cond (eqL (nk k).cells (nk e.1).cells) ((nk k, tly v.1 v.2) :: esM es) ((nk e.1, tly e.2.1 e.2.2) :: mput (nk k) (tly v.1 v.2) (esM es)) = _
    rw [eqL_nk, mput_esM k v es, putM_cons]
    by_cases h : k = e.1
    · simp [h]
    · simp [h]
def noteM (k : N3) (h : List Int) (es : List Ent) : Int × List Ent :=
  if rightN k.1 k.2.1 k.2.2 && rightH h then match getM k es with
    | none => if es.length ≥ 1000 then (2, es) else (0, putM k (1, sAdd [0, 0, 0, 0] (ofH h)) es)
    | some v => if v.1 ≥ 1073741824 then (2, es) else (0, putM k (v.1 + 1, sAdd v.2 (ofH h)) es)
  else (1, es)
def okE (es : List Ent) : Prop := ∀ e ∈ es, isS e.2.2 ∧ 0 ≤ e.2.1 ∧ e.2.1 ≤ 1073741824
theorem getM_mem {k : N3} {v : Int × List Int} : ∀ {es : List Ent}, getM k es = some v → (k, v) ∈ es
  | [], h => by cases h
  | e :: es, h => by
    rw [getM_cons] at h
    split at h
    · rename_i hk
      cases h
      rw [hk]; simp
    · exact List.mem_cons_of_mem _ (getM_mem h)
abbrev lgC (a b : V) (rest : List V) : List V := a :: b :: .mp 1011 :: rest
theorem mc_Note (a b : V) (rest : List V) (es : List Ent) (he : okE es) (hel : es.length < 2 ^ 40) (s p f : Int) (h : List Int) (hl : h.length = 10) :
    MC Tryd.prog 41 [.ptr 1013 0, .t (I s), .t (I p), .t (I f), .t (hd h)] [(1013, .v (lgC a b rest)), (1011, .m true sh3 (esM es) none)] [5009, 5011, 5012] 1011 (.m true sh3 (esM (noteM (s, p, f) h es).2) none) (I (noteM (s, p, f) h es).1) := by
  refine MC_of mixed Tryd.func41 l41 rfl rfl (rs := [.tmp 10]) rfl 5000 (Nat.le_of_ble_eq_true rfl) (fun _ => trivial) (by decide) ?_
  intro st d hneed hfr
  obtain ⟨sl, bx, gh, o, cx⟩ := st
  have e1 : bx 1013 = some (.v (lgC a b rest)) := hneed (1013, _) (by simp)
  have e2 : bx 1011 = some (.m true sh3 (esM es) none) := hneed (1011, _) (by simp)
  have e3 : bx 5009 = none := hfr 5009 (by simp)
  have e4 : bx 5011 = none := hfr 5011 (by simp)
  have e5 : bx 5012 = none := hfr 5012 (by simp)
  clear hneed hfr
  obtain ⟨g, hg⟩ : ∃ g, bx = upd (upd (upd (upd (upd g 5009 none) 5011 none) 5012 none) 1013 (some (.v (lgC a b rest)))) 1011 (some (.m true sh3 (esM es) none)) :=
    ⟨bx, by rw [upd_same_id e3, upd_same_id e4, upd_same_id e5, upd_same_id e1, upd_same_id e2]⟩
  subst hg
  clear e1 e2 e3 e4 e5
  have hR := t_right s p f
  have hO := fun (hh : okH h) => t_OfH h hh
  have hC := t_ContainsFunc 69 _ h (by rw [hl]; decide) (fun x _ => t_wide x)
  have hci : (h.any fun x => decide (x < 0) || decide (x > 65535)) = !rightH h := by
    unfold rightH
    rw [List.not_all_eq_any_not]
    congr 1
    funext x
    by_cases h1 : x < 0 <;> by_cases h2 : x > 65535 <;> simp [h1, h2] <;> omega
  rw [hci] at hC
  rw [← chunk1 (f := I) h 10 hl] at hC
  unfold noteM
  cases h1 : rightN s p f with
  | false =>
    rw [h1] at hR
    repeat' ((conv => whnf); first | exact trivial | refine k_call _ (hR) ?_ | refine nT_ ?_ | refine aE1 ?_ | refine aE0 ?_ | refine aN1 ?_ | refine aN0 ?_ | refine aD1 ?_ | refine aD0 ?_ | refine nE_ (fun hq => ?_) (fun hq => ?_) | refine nN_ (fun hq => ?_) (fun hq => ?_) | refine nD_ (fun hq => ?_) (fun hq => ?_) | refine rb1 ?_ | refine rb0 ?_ | refine rbx ?_ | refine rix ?_ | (refine And.intro (by first | (exact (List.length_map _).trans hl; done) | fail) ?_) | refine aS ?_ | fail)
    refine ⟨[.t (I 1)], rfl, ?_⟩
    cases d <;> refine ⟨rfl, rfl, rfl, rfl, rfl, fun n h1 h2 => ?_⟩
    all_goals
      simp only [List.mem_cons, List.not_mem_nil, or_false, not_or] at h2
      show upd (upd (upd _ 5009 _) 5011 _) 5011 _ n = _
      rw [upd_other _ _ _ _ h2.2.1, upd_other _ _ _ _ h2.2.1, upd_other _ _ _ _ h2.1]
      rfl
  | true =>
    rw [h1] at hR
    cases h2 : rightH h with
    | false =>
      rw [h2] at hC
      repeat' ((conv => whnf); first | exact trivial | refine k_call _ (hR) ?_ | refine k_call _ (hC) ?_ | refine nT_ ?_ | refine aE1 ?_ | refine aE0 ?_ | refine aN1 ?_ | refine aN0 ?_ | refine aD1 ?_ | refine aD0 ?_ | refine nE_ (fun hq => ?_) (fun hq => ?_) | refine nN_ (fun hq => ?_) (fun hq => ?_) | refine nD_ (fun hq => ?_) (fun hq => ?_) | refine rb1 ?_ | refine rb0 ?_ | refine rbx ?_ | refine rix ?_ | (refine And.intro (by first | (exact (List.length_map _).trans hl; done) | fail) ?_) | refine aS ?_ | fail)
      refine ⟨[.t (I 1)], rfl, ?_⟩
      cases d <;> refine ⟨rfl, rfl, rfl, rfl, rfl, fun n h1 h2 => ?_⟩
      all_goals
        simp only [List.mem_cons, List.not_mem_nil, or_false, not_or] at h2
        show upd (upd (upd _ 5009 _) 5011 _) 5011 _ n = _
        rw [upd_other _ _ _ _ h2.2.1, upd_other _ _ _ _ h2.2.1, upd_other _ _ _ _ h2.1]
        rfl
    | true =>
      rw [h2] at hC
      have hok := (rightH_ok hl).1 h2
      have hOf := hO hok
      have hofS := ofH_isS h
      generalize ofH h = oh at hOf hofS
      have hkey : keyOk true sh3 (nk (s, p, f)) := ⟨rfl, rfl, rfl, rfl, trivial⟩
      have hmf := mfind_esM (s, p, f) es
      rw [if_pos (show (true && true) = true from rfl)]
      cases h3 : getM (s, p, f) es with
      | none =>
        rw [h3] at hmf
        have hz : isS [0, 0, 0, 0] := ⟨rfl, by simp [M32]⟩
        have hA := t_sAdd [0, 0, 0, 0] oh hz hofS
        have hpu := mput_esM (s, p, f) (1, sAdd [0, 0, 0, 0] oh) es
        have hAl := (isS_add hz hofS).1
        show wpC _ _ _ (PostV _ _ _ (Ended _ _ _ _ (.m true sh3 (esM (if es.length ≥ 1000 then ((2 : Int), es) else (0, putM (s, p, f) (1, sAdd [0, 0, 0, 0] oh) es)).2) none) (I (if es.length ≥ 1000 then ((2 : Int), es) else (0, putM (s, p, f) (1, sAdd [0, 0, 0, 0] oh) es)).1)))
        generalize sAdd [0, 0, 0, 0] oh = sa at *
        obtain ⟨a0, a1, a2, a3, rfl⟩ : ∃ a b c d, sa = [a, b, c, d] := by
          match sa, hAl with
          | [a, b, c, d], _ => exact ⟨a, b, c, d, rfl⟩
        by_cases h4 : es.length ≥ 1000
        · rw [if_pos h4]
          repeat' ((conv => whnf); first | exact trivial | refine k_call _ (hR) ?_ | refine k_call _ (hC) ?_ | (refine nv_ (.tup [.agg [I 0, I 0, I 0, I 0, I 0], .bool false]) (by show mres _ _ (mfind (nk (s, p, f)).cells (esM es)) = _; rw [hmf]; rfl) ?_) | (refine now_D1 (by simp; omega) ?_) | refine nT_ ?_ | refine aE1 ?_ | refine aE0 ?_ | refine aN1 ?_ | refine aN0 ?_ | refine aD1 ?_ | refine aD0 ?_ | refine nE_ (fun hq => ?_) (fun hq => ?_) | refine nN_ (fun hq => ?_) (fun hq => ?_) | refine nD_ (fun hq => ?_) (fun hq => ?_) | refine rb1 ?_ | refine rb0 ?_ | refine rbx ?_ | refine rix ?_ | (refine And.intro (by first | (exact (List.length_map _).trans hl; done) | (exact hkey; done) | fail) ?_) | refine aS ?_ | fail)
          refine ⟨[.t (I 2)], rfl, ?_⟩
          cases d <;> refine ⟨rfl, rfl, rfl, rfl, rfl, fun n h1 h2 => ?_⟩
          all_goals
            simp only [List.mem_cons, List.not_mem_nil, or_false, not_or] at h2
            show upd (upd (upd (upd (upd _ 5009 _) 5011 _) 5011 _) 5012 _) 5012 _ n = _
            rw [upd_other _ _ _ _ h2.2.2, upd_other _ _ _ _ h2.2.2, upd_other _ _ _ _ h2.2.1, upd_other _ _ _ _ h2.2.1, upd_other _ _ _ _ h2.1]
            rfl
        · rw [if_neg h4]
          repeat' ((conv => whnf); first | exact trivial | refine k_call _ (hR) ?_ | refine k_call _ (hC) ?_ | (refine nv_ (.tup [.agg [I 0, I 0, I 0, I 0, I 0], .bool false]) (by show mres _ _ (mfind (nk (s, p, f)).cells (esM es)) = _; rw [hmf]; rfl) ?_) | (refine now_D0 (by simp; omega) ?_) | refine k_call _ (hOf) ?_ | refine k_call _ (hA) ?_ | refine nT_ ?_ | refine aE1 ?_ | refine aE0 ?_ | refine aN1 ?_ | refine aN0 ?_ | refine aD1 ?_ | refine aD0 ?_ | refine nE_ (fun hq => ?_) (fun hq => ?_) | refine nN_ (fun hq => ?_) (fun hq => ?_) | refine nD_ (fun hq => ?_) (fun hq => ?_) | refine rb1 ?_ | refine rb0 ?_ | refine rbx ?_ | refine rix ?_ | (refine And.intro (by first | (exact (List.length_map _).trans hl; done) | (exact hkey; done) | fail) ?_) | refine aS ?_ | fail)
          refine ⟨[.t (I 0)], rfl, ?_⟩
          cases d <;> refine ⟨rfl, rfl, rfl, rfl, congrArg (fun es => some (BX.m true sh3 es none)) hpu, fun n h1 h2 => ?_⟩
          all_goals
            simp only [List.mem_cons, List.not_mem_nil, or_false, not_or] at h2
            show upd (upd (upd (upd (upd (upd _ 5009 _) 5011 _) 5011 _) 5012 _) 5012 _) 1011 _ n = _
            rw [upd_other _ _ _ _ h1, upd_other _ _ _ _ h2.2.2, upd_other _ _ _ _ h2.2.2, upd_other _ _ _ _ h2.2.1, upd_other _ _ _ _ h2.2.1, upd_other _ _ _ _ h2.1]
            rfl
      | some v =>
        obtain ⟨c, t⟩ := v
        rw [h3] at hmf
        obtain ⟨hts, hc0, hc1⟩ := he _ (getM_mem h3)
        dsimp only at hts hc0 hc1
        have hA := t_sAdd t oh hts hofS
        have hpu := mput_esM (s, p, f) (c + 1, sAdd t oh) es
        have hAl := (isS_add hts hofS).1
        show wpC _ _ _ (PostV _ _ _ (Ended _ _ _ _ (.m true sh3 (esM (if c ≥ 1073741824 then ((2 : Int), es) else (0, putM (s, p, f) (c + 1, sAdd t oh) es)).2) none) (I (if c ≥ 1073741824 then ((2 : Int), es) else (0, putM (s, p, f) (c + 1, sAdd t oh) es)).1)))
        generalize sAdd t oh = sa at *
        obtain ⟨a0, a1, a2, a3, rfl⟩ : ∃ a b c d, sa = [a, b, c, d] := by
          match sa, hAl with
          | [a, b, c, d], _ => exact ⟨a, b, c, d, rfl⟩
        obtain ⟨t0, t1, t2, t3, rfl⟩ : ∃ a b c d, t = [a, b, c, d] := by
          match t, hts.1 with
          | [a, b, c, d], _ => exact ⟨a, b, c, d, rfl⟩
        have hw : IntKind.i64.wrap (c + 1) = c + 1 := wrap_id (by omega) (by omega)
        by_cases h4 : c ≥ 1073741824
        · rw [if_pos h4]
          repeat' ((conv => whnf); first | exact trivial | refine k_call _ (hR) ?_ | refine k_call _ (hC) ?_ | (refine nv_ (.tup [tly c [t0, t1, t2, t3], .bool true]) (by show mres _ _ (mfind (nk (s, p, f)).cells (esM es)) = _; rw [hmf]; rfl) ?_) | refine nT_ ?_ | refine aE1 ?_ | refine aE0 ?_ | refine aN1 ?_ | refine aN0 ?_ | refine aD1 ?_ | refine aD0 ?_ | refine nE_ (fun hq => ?_) (fun hq => ?_) | refine nN_ (fun hq => ?_) (fun hq => ?_) | refine nD_ (fun hq => ?_) (fun hq => ?_) | refine rb1 ?_ | refine rb0 ?_ | refine rbx ?_ | refine rix ?_ | (refine And.intro (by first | (exact (List.length_map _).trans hl; done) | (exact hkey; done) | fail) ?_) | refine aS ?_ | fail)
          refine ⟨[.t (I 2)], rfl, ?_⟩
          cases d <;> refine ⟨rfl, rfl, rfl, rfl, rfl, fun n h1 h2 => ?_⟩
          all_goals
            simp only [List.mem_cons, List.not_mem_nil, or_false, not_or] at h2
            show upd (upd (upd (upd (upd _ 5009 _) 5011 _) 5011 _) 5012 _) 5012 _ n = _
            rw [upd_other _ _ _ _ h2.2.2, upd_other _ _ _ _ h2.2.2, upd_other _ _ _ _ h2.2.1, upd_other _ _ _ _ h2.2.1, upd_other _ _ _ _ h2.1]
            rfl
        · rw [if_neg h4]
          repeat' ((conv => whnf); first | exact trivial | refine k_call _ (hR) ?_ | refine k_call _ (hC) ?_ | (refine nv_ (.tup [tly c [t0, t1, t2, t3], .bool true]) (by show mres _ _ (mfind (nk (s, p, f)).cells (esM es)) = _; rw [hmf]; rfl) ?_) | refine k_call _ (hOf) ?_ | refine k_call _ (hA) ?_ | refine nT_ ?_ | refine aE1 ?_ | refine aE0 ?_ | refine aN1 ?_ | refine aN0 ?_ | refine aD1 ?_ | refine aD0 ?_ | refine nE_ (fun hq => ?_) (fun hq => ?_) | refine nN_ (fun hq => ?_) (fun hq => ?_) | refine nD_ (fun hq => ?_) (fun hq => ?_) | refine rb1 ?_ | refine rb0 ?_ | refine rbx ?_ | refine rix ?_ | (refine And.intro (by first | (exact (List.length_map _).trans hl; done) | (exact hkey; done) | fail) ?_) | refine aS ?_ | fail)
          refine ⟨[.t (I 0)], rfl, ?_⟩
          cases d <;> refine ⟨rfl, rfl, rfl, rfl, (congrArg (fun c => some (BX.m true sh3 (mput (nk (s, p, f)) (tly c [a0, a1, a2, a3]) (esM es)) none)) hw).trans (congrArg (fun es => some (BX.m true sh3 es none)) hpu), fun n h1 h2 => ?_⟩
          all_goals
            simp only [List.mem_cons, List.not_mem_nil, or_false, not_or] at h2
            show upd (upd (upd (upd (upd (upd _ 5009 _) 5011 _) 5011 _) 5012 _) 5012 _) 1011 _ n = _
            rw [upd_other _ _ _ _ h1, upd_other _ _ _ _ h2.2.2, upd_other _ _ _ _ h2.2.2, upd_other _ _ _ _ h2.2.1, upd_other _ _ _ _ h2.2.1, upd_other _ _ _ _ h2.1]
            rfl
end Go.RC
end
section
namespace Go.RC
open Go Go.DL Go.Proofs
set_option maxRecDepth 100000
set_option maxHeartbeats 4000000
abbrev ha : List Int := [7, 5, 0, 0, 0, 0, 0, 0, 0, 0]
abbrev hb : List Int := [7, 6, 0, 0, 0, 0, 0, 0, 0, 0]
theorem okHa : okH ha := ⟨rfl, by decide⟩
theorem okHb : okH hb := ⟨rfl, by decide⟩
abbrev S0' : List Int := [0, 0, 0, 0]
theorem isS0 : isS S0' := ⟨rfl, by simp [M32]⟩
def Sa : List Int := sAdd S0' (ofH ha)
def Sab : List Int := sAdd Sa (ofH hb)
theorem isSa : isS Sa := isS_add isS0 (ofH_isS _)
theorem isSab : isS Sab := isS_add isSa (ofH_isS _)
def es1 : List Ent := [((2, 7, 1), 1, Sa)]
def es2 : List Ent := [((2, 7, 1), 1, Sa), ((1, 2, 1), 1, Sa)]
def es3 : List Ent := [((2, 7, 1), 2, Sab), ((1, 2, 1), 1, Sa)]
theorem n1 : noteM (2, 7, 1) ha [] = (0, es1) := rfl
theorem n2 : noteM (1, 2, 1) ha es1 = (0, es2) := rfl
theorem n3 : noteM (2, 7, 1) hb es2 = (0, es3) := rfl
theorem okE0 : okE [] := fun e h => by cases h
theorem okE1 : okE es1 := fun e h => by
  simp only [es1, List.mem_singleton] at h; subst h; exact ⟨isSa, by decide, by decide⟩
theorem okE2 : okE es2 := fun e h => by
  simp only [es2, List.mem_cons, List.not_mem_nil, or_false] at h
  rcases h with rfl | rfl <;> exact ⟨isSa, by decide, by decide⟩
abbrev lg0 (rest : List V) : List V := lgC (.t (I 3)) (.t (I 0)) rest
theorem m1 (rest : List V) : MC Tryd.prog 41 [.ptr 1013 0, .t (I 2), .t (I 7), .t (I 1), .t (hd ha)] [(1013, .v (lg0 rest)), (1011, .m true sh3 [] none)] [5009, 5011, 5012] 1011 (.m true sh3 (esM es1) none) (I 0) := by
  have := mc_Note (.t (I 3)) (.t (I 0)) rest [] okE0 (by decide) 2 7 1 ha rfl
  rwa [n1] at this
theorem m2 (rest : List V) : MC Tryd.prog 41 [.ptr 1013 0, .t (I 1), .t (I 2), .t (I 1), .t (hd ha)] [(1013, .v (lg0 rest)), (1011, .m true sh3 (esM es1) none)] [5009, 5011, 5012] 1011 (.m true sh3 (esM es2) none) (I 0) := by
  have := mc_Note (.t (I 3)) (.t (I 0)) rest es1 okE1 (by decide) 1 2 1 ha rfl
  rwa [n2] at this
theorem m3 (rest : List V) : MC Tryd.prog 41 [.ptr 1013 0, .t (I 2), .t (I 7), .t (I 1), .t (hd hb)] [(1013, .v (lg0 rest)), (1011, .m true sh3 (esM es2) none)] [5009, 5011, 5012] 1011 (.m true sh3 (esM es3) none) (I 0) := by
  have := mc_Note (.t (I 3)) (.t (I 0)) rest es2 okE2 (by decide) 2 7 1 hb rfl
  rwa [n3] at this
theorem srt3 : srt [(2, 7, 1), (1, 2, 1)] = [(1, 2, 1), (2, 7, 1)] := (srt_eq (ks := [(2, 7, 1), (1, 2, 1)]) (zs := [(1, 2, 1), (2, 7, 1)]) (.swap _ _ _) (by simp [cmpN, orI, cmpI])).symm
abbrev pvV (pv : List Int) : List V := pv.map fun x => .t (Y x)
theorem sAdd0 {a : List Int} (h : isS a) : sAdd S0' a = a := by
  obtain ⟨hl, hx⟩ := h
  match a, hl, hx with
  | [a, b, c, d], _, hx =>
    have h1 := hx a (by simp)
    have h2 := hx b (by simp)
    have h3 := hx c (by simp)
    have h4 := hx d (by simp)
    show [(0 + a) % M32, (0 + b) % M32, (0 + c) % M32, (0 + d) % M32] = _
    unfold M32 at *
    rw [Int.zero_add, Int.zero_add, Int.zero_add, Int.zero_add, Int.emod_eq_of_lt h1.1 h1.2, Int.emod_eq_of_lt h2.1 h2.2, Int.emod_eq_of_lt h3.1 h3.2, Int.emod_eq_of_lt h4.1 h4.2]
theorem ex16 {l : List Int} (h : l.length = 16) : ∃ d0 d1 d2 d3 d4 d5 d6 d7 d8 d9 d10 d11 d12 d13 d14 d15, l = [d0, d1, d2, d3, d4, d5, d6, d7, d8, d9, d10, d11, d12, d13, d14, d15] := by
  match l, h with
  | [d0, d1, d2, d3, d4, d5, d6, d7, d8, d9, d10, d11, d12, d13, d14, d15], _ => exact ⟨d0, d1, d2, d3, d4, d5, d6, d7, d8, d9, d10, d11, d12, d13, d14, d15, rfl⟩
theorem four {l : List Int} (h : l.length = 4) : ∃ a b c d, l = [a, b, c, d] := by
  match l, h with
  | [a, b, c, d], _ => exact ⟨a, b, c, d, rfl⟩
theorem t_sanity : DCalls Tryd.prog 11 [] (.bool true) := by
  refine dcalls_low (rs := [.tmp 0]) mixed Tryd.func11 l11 rfl rfl rfl (r := [.bool true]) (Nat.le_of_ble_eq_true rfl) ?_
  obtain ⟨x0, x1, x2, x3, hx⟩ := four isSa.1
  obtain ⟨y0, y1, y2, y3, hy⟩ := four isSab.1
  have m3' := m3 (pvV zero16)
  have he3 : esM es3 = [(nk (2, 7, 1), tly 2 [y0, y1, y2, y3]), (nk (1, 2, 1), tly 1 [x0, x1, x2, x3])] := by simp only [es3, esM, hx, hy, List.map_cons, List.map_nil]
  rw [he3] at m3'
  have xi : ∀ y ∈ [x0, x1, x2, x3], 0 ≤ y ∧ y < M32 := fun y hy => (isSa.2 y (by rw [hx]; exact hy))
  have yi : ∀ z ∈ [y0, y1, y2, y3], 0 ≤ z ∧ z < M32 := fun y hh => (isSab.2 y (by rw [hy]; exact hh))
  have hL8 : ∀ x ∈ [[1, 2, 1, 1, x0, x1, x2, x3], [2, 7, 1, 2, y0, y1, y2, y3]], x.length = 8 ∧ ∀ y ∈ x, i64 y := fun x hh => by
    simp only [List.mem_cons, List.not_mem_nil, or_false] at hh
    rcases hh with rfl | rfl
    · refine ⟨rfl, fun y h => ?_⟩
      rcases List.mem_append.1 (show y ∈ [1, 2, 1, 1] ++ [x0, x1, x2, x3] from h) with h | h
      · simp only [List.mem_cons, List.not_mem_nil, or_false] at h
        unfold i64; omega
      · have := xi y h
        unfold M32 at this; unfold i64; omega
    · refine ⟨rfl, fun y h => ?_⟩
      rcases List.mem_append.1 (show y ∈ [2, 7, 1, 2] ++ [y0, y1, y2, y3] from h) with h | h
      · simp only [List.mem_cons, List.not_mem_nil, or_false] at h
        unfold i64; omega
      · have := yi y h
        unfold M32 at this; unfold i64; omega
  have hr1 : Rc.ok ⟨3, 0, [[1, 2, 1, 1, x0, x1, x2, x3], [2, 7, 1, 2, y0, y1, y2, y3]], zero16⟩ := ⟨⟨(show i64 3 by unfold i64; decide), (show i64 0 by unfold i64; decide), hL8, rfl, (show areB zero16 by unfold areB; decide)⟩, Nat.le_of_ble_eq_true rfl⟩
  obtain ⟨d0, d1, d2, d3, d4, d5, d6, d7, d8, d9, d10, d11, d12, d13, d14, d15, hD⟩ := ex16 (dgR_len 3 0 [[1, 2, 1, 1, x0, x1, x2, x3], [2, 7, 1, 2, y0, y1, y2, y3]] zero16)
  have hDb := dgR_areB 3 0 [[1, 2, 1, 1, x0, x1, x2, x3], [2, 7, 1, 2, y0, y1, y2, y3]] zero16
  rw [hD] at hDb
  have hr2 : Rc.ok ⟨3, 1, [], [d0, d1, d2, d3, d4, d5, d6, d7, d8, d9, d10, d11, d12, d13, d14, d15]⟩ := ⟨⟨(show i64 3 by unfold i64; decide), (show i64 1 by unfold i64; decide), fun x h => by simp at h, rfl, hDb⟩, Nat.le_of_ble_eq_true rfl⟩
  have hD1 := t_Digest 3 0 [[1, 2, 1, 1, x0, x1, x2, x3], [2, 7, 1, 2, y0, y1, y2, y3]] zero16 hr1.1 hr1.2
  rw [hD] at hD1
  have hD2 := t_Digest 3 1 [] [d0, d1, d2, d3, d4, d5, d6, d7, d8, d9, d10, d11, d12, d13, d14, d15] hr2.1 hr2.2
  have hD2l := dgR_len 3 1 [] [d0, d1, d2, d3, d4, d5, d6, d7, d8, d9, d10, d11, d12, d13, d14, d15]
  generalize dgR 3 1 [] [d0, d1, d2, d3, d4, d5, d6, d7, d8, d9, d10, d11, d12, d13, d14, d15] = D2 at hD2 hD2l
  have a1 := t_sAdd [4294967295, 0, 0, 5] [1, 2, 0, 5] ⟨rfl, by simp [M32]⟩ ⟨rfl, by simp [M32]⟩
  have a2 := t_sSub [0, 0, 0, 0] [1, 0, 0, 0] ⟨rfl, by simp [M32]⟩ ⟨rfl, by simp [M32]⟩
  repeat' ((conv => whnf); first | exact trivial | refine k_call _ (a1) ?_ | refine k_call _ (a2) ?_ | refine nb_ false rfl ?_ | refine nT_ ?_ | refine aE1 ?_ | refine aE0 ?_ | refine aN1 ?_ | refine aN0 ?_ | refine aD1 ?_ | refine aD0 ?_ | refine nE_ (fun hq => ?_) (fun hq => ?_) | refine nN_ (fun hq => ?_) (fun hq => ?_) | refine nD_ (fun hq => ?_) (fun hq => ?_) | refine rb1 ?_ | refine rb0 ?_ | refine rbx ?_ | refine rix ?_ | (refine And.intro (by first | (exact ⟨⟨rfl, rfl, rfl, rfl, trivial⟩, ⟨rfl, rfl, rfl, rfl, trivial⟩⟩; done) | fail) ?_) | refine aS ?_ | fail)
  refine WC_inl mixed Tryd.func40 l40 rfl rfl (rs := [.tmp 2, .tmp 3]) rfl 1000 (Nat.le_of_ble_eq_true rfl) ?_
  repeat' ((conv => whnf); first | exact trivial | refine nT_ ?_ | refine aE1 ?_ | refine aE0 ?_ | refine aN1 ?_ | refine aN0 ?_ | refine aD1 ?_ | refine aD0 ?_ | refine nE_ (fun hq => ?_) (fun hq => ?_) | refine nN_ (fun hq => ?_) (fun hq => ?_) | refine nD_ (fun hq => ?_) (fun hq => ?_) | refine rb1 ?_ | refine rb0 ?_ | refine rbx ?_ | refine rix ?_ | refine aS ?_ | refine ⟨_, rfl, ?_⟩ | fail)
  refine WC_inl mixed Tryd.func40 l40 rfl rfl (rs := [.tmp 2, .tmp 3]) rfl 2000 (Nat.le_of_ble_eq_true rfl) ?_
  repeat' ((conv => whnf); first | exact trivial | refine nT_ ?_ | refine aE1 ?_ | refine aE0 ?_ | refine aN1 ?_ | refine aN0 ?_ | refine aD1 ?_ | refine aD0 ?_ | refine nE_ (fun hq => ?_) (fun hq => ?_) | refine nN_ (fun hq => ?_) (fun hq => ?_) | refine nD_ (fun hq => ?_) (fun hq => ?_) | refine rb1 ?_ | refine rb0 ?_ | refine rbx ?_ | refine rix ?_ | refine aS ?_ | refine ⟨_, rfl, ?_⟩ | fail)
  (conv => whnf)
  refine ⟨_, _, _, _, _, m1 (pvV zero16), ?_, ?_, by decide, ?_, ?_⟩
  · intro p hp
    simp only [List.mem_cons, List.not_mem_nil, or_false] at hp
    rcases hp with rfl | rfl <;> rfl
  · intro n hn
    simp only [List.mem_cons, List.not_mem_nil, or_false] at hn
    rcases hn with rfl | rfl | rfl <;> rfl
  · rfl
  repeat' ((conv => whnf); first | exact trivial | refine nT_ ?_ | refine aE1 ?_ | refine aE0 ?_ | refine aN1 ?_ | refine aN0 ?_ | refine aD1 ?_ | refine aD0 ?_ | refine nE_ (fun hq => ?_) (fun hq => ?_) | refine nN_ (fun hq => ?_) (fun hq => ?_) | refine nD_ (fun hq => ?_) (fun hq => ?_) | refine rb1 ?_ | refine rb0 ?_ | refine rbx ?_ | refine rix ?_ | refine aS ?_ | fail)
  (conv => whnf)
  refine ⟨_, _, _, _, _, m2 (pvV zero16), ?_, ?_, by decide, ?_, ?_⟩
  · intro p hp
    simp only [List.mem_cons, List.not_mem_nil, or_false] at hp
    rcases hp with rfl | rfl <;> rfl
  · intro n hn
    simp only [List.mem_cons, List.not_mem_nil, or_false] at hn
    rcases hn with rfl | rfl | rfl <;> rfl
  · rfl
  repeat' ((conv => whnf); first | exact trivial | refine nT_ ?_ | refine aE1 ?_ | refine aE0 ?_ | refine aN1 ?_ | refine aN0 ?_ | refine aD1 ?_ | refine aD0 ?_ | refine nE_ (fun hq => ?_) (fun hq => ?_) | refine nN_ (fun hq => ?_) (fun hq => ?_) | refine nD_ (fun hq => ?_) (fun hq => ?_) | refine rb1 ?_ | refine rb0 ?_ | refine rbx ?_ | refine rix ?_ | refine aS ?_ | fail)
  (conv => whnf)
  refine ⟨_, _, _, _, _, m3', ?_, ?_, by decide, ?_, ?_⟩
  · intro p hp
    simp only [List.mem_cons, List.not_mem_nil, or_false] at hp
    rcases hp with rfl | rfl <;> rfl
  · intro n hn
    simp only [List.mem_cons, List.not_mem_nil, or_false] at hn
    rcases hn with rfl | rfl | rfl <;> rfl
  · rfl
  repeat' ((conv => whnf); first | exact trivial | refine nT_ ?_ | refine aE1 ?_ | refine aE0 ?_ | refine aN1 ?_ | refine aN0 ?_ | refine aD1 ?_ | refine aD0 ?_ | refine nE_ (fun hq => ?_) (fun hq => ?_) | refine nN_ (fun hq => ?_) (fun hq => ?_) | refine nD_ (fun hq => ?_) (fun hq => ?_) | refine rb1 ?_ | refine rb0 ?_ | refine rbx ?_ | refine rix ?_ | refine aS ?_ | fail)
  refine wpC_loopE 0 (α := Nat) (β := Unit) (fun k => {sl := [(2, .ptr 1013 0), (6, .ptr 6 0), (7, .ptr 7 0), (70, .t (.slice 1 [I 0, I 0, I 0])), (71, .t (I 3)), (72, .t (I k))], bx := [(6, .d 10 (ha.map I)), (7, .d 10 (hb.map I)), (1013, .v (lg0 (pvV zero16))), (1011, .m true sh3 [(nk (2, 7, 1), tly 2 [y0, y1, y2, y3]), (nk (1, 2, 1), tly 1 [x0, x1, x2, x3])] none)]})
    (fun k => k ≤ 3) (fun k => 3 - k) (fun _ => {sl := [(2, .ptr 1013 0), (6, .ptr 6 0), (7, .ptr 7 0)], bx := [(6, .d 10 (ha.map I)), (7, .d 10 (hb.map I)), (1013, .v (lg0 (pvV zero16))), (1011, .m true sh3 [(nk (2, 7, 1), tly 2 [y0, y1, y2, y3]), (nk (1, 2, 1), tly 1 [x0, x1, x2, x3])] none)]}) (fun _ => True) 0 (by omega) ?_ ?_ ?_
  · repeat' (first | exact trivial | exact LeV.same _ | exact LeB.same _ | exact rfl | exact fun _ _ _ => trivial | exact lI | exact LeV.nil _ _ _ | exact lB | refine leBd ?_ | refine leOwn ?_ | refine And.intro ?_ ?_)
  · rintro k hk
    rcases Nat.lt_or_ge k 3 with h | h
    · have hg : ([I 0, I 0, I 0] : List T)[k]?.getD .nil = I 0 := by
        match k, h with
        | 0, _ => rfl
        | 1, _ => rfl
        | 2, _ => rfl
      repeat' ((conv => whnf); first | exact trivial | (refine nv_ (I 0) (by first | (exact hg; done) | fail) ?_) | refine nT_ ?_ | refine aE1 ?_ | refine aE0 ?_ | refine aN1 ?_ | refine aN0 ?_ | refine aD1 ?_ | refine aD0 ?_ | refine nE_ (fun hq => ?_) (fun hq => ?_) | refine nN_ (fun hq => ?_) (fun hq => ?_) | refine nD_ (fun hq => ?_) (fun hq => ?_) | refine rb1 ?_ | refine rb0 ?_ | refine rbx ?_ | refine rix ?_ | (refine And.intro (by first | ((simp; omega); done) | fail) ?_) | refine aS ?_ | fail)
      exact ⟨k + 1, by omega, by omega, by repeat' (first | exact trivial | exact LeV.same _ | exact LeB.same _ | exact rfl | exact fun _ _ _ => trivial | exact lI | exact LeV.nil _ _ _ | exact lB | refine leBd ?_ | refine leOwn ?_ | refine And.intro ?_ ?_)⟩
    · have : k = 3 := by omega
      subst this
      repeat' ((conv => whnf); first | exact trivial | refine nT_ ?_ | refine aE1 ?_ | refine aE0 ?_ | refine aN1 ?_ | refine aN0 ?_ | refine aD1 ?_ | refine aD0 ?_ | refine nE_ (fun hq => ?_) (fun hq => ?_) | refine nN_ (fun hq => ?_) (fun hq => ?_) | refine nD_ (fun hq => ?_) (fun hq => ?_) | refine rb1 ?_ | refine rb0 ?_ | refine rbx ?_ | refine rix ?_ | refine aS ?_ | fail)
      exact ⟨(), trivial, by repeat' (first | exact trivial | exact LeV.same _ | exact LeB.same _ | exact rfl | exact fun _ _ _ => trivial | exact lI | exact LeV.nil _ _ _ | exact lB | refine leBd ?_ | refine leOwn ?_ | refine And.intro ?_ ?_)⟩
  rintro - -
  refine wpC_cut (β := Unit) (fun _ => {sl := [(2, .ptr 1013 0), (6, .ptr 6 0), (7, .ptr 7 0), (10, .ptr 10 0), (11, .t (I 0))], bx := [(6, .d 10 (ha.map I)), (7, .d 10 (hb.map I)), (10, .d 19 (rcC 3 0 [[1, 2, 1, 1, x0, x1, x2, x3], [2, 7, 1, 2, y0, y1, y2, y3]] zero16)), (1013, .v (lgC (.t (I 3)) (.t (I 1)) (pvV [d0, d1, d2, d3, d4, d5, d6, d7, d8, d9, d10, d11, d12, d13, d14, d15]))), (1011, .m true sh3 [] none)]}) (fun _ => True) ?_ fun _ _ => ?_
  · repeat' ((conv => whnf); first | exact trivial | refine nT_ ?_ | refine aE1 ?_ | refine aE0 ?_ | refine aN1 ?_ | refine aN0 ?_ | refine aD1 ?_ | refine aD0 ?_ | refine nE_ (fun hq => ?_) (fun hq => ?_) | refine nN_ (fun hq => ?_) (fun hq => ?_) | refine nD_ (fun hq => ?_) (fun hq => ?_) | refine rb1 ?_ | refine rb0 ?_ | refine rbx ?_ | refine rix ?_ | refine aS ?_ | fail)
    refine WC_inlP mixed Tryd.func42 l42 rfl rfl (rs := [.cell 2 51, .tmp 3]) rfl 6000 (Nat.le_of_ble_eq_true rfl) ?_
    repeat' ((conv => whnf); first | exact trivial | refine nT_ ?_ | refine aE1 ?_ | refine aE0 ?_ | refine aN1 ?_ | refine aN0 ?_ | refine aD1 ?_ | refine aD0 ?_ | refine nE_ (fun hq => ?_) (fun hq => ?_) | refine nN_ (fun hq => ?_) (fun hq => ?_) | refine nD_ (fun hq => ?_) (fun hq => ?_) | refine rb1 ?_ | refine rb0 ?_ | refine rbx ?_ | refine rix ?_ | refine aS ?_ | fail)
    refine WC_inl mixed Tryd.func71 l71 rfl rfl (rs := [.tmp 2]) rfl 8000 (Nat.le_of_ble_eq_true rfl) ?_
    repeat' ((conv => whnf); first | exact trivial | refine nT_ ?_ | refine aE1 ?_ | refine aE0 ?_ | refine aN1 ?_ | refine aN0 ?_ | refine aD1 ?_ | refine aD0 ?_ | refine nE_ (fun hq => ?_) (fun hq => ?_) | refine nN_ (fun hq => ?_) (fun hq => ?_) | refine nD_ (fun hq => ?_) (fun hq => ?_) | refine rb1 ?_ | refine rb0 ?_ | refine rbx ?_ | refine rix ?_ | refine aS ?_ | refine ⟨_, rfl, ?_⟩ | fail)
    have hNS := n_Sorted [(2, 7, 1), (1, 2, 1)] [tly 2 [y0, y1, y2, y3], tly 1 [x0, x1, x2, x3]] rfl (by decide)
    rw [srt3] at hNS
    refine WC_new rfl hNS ?_
    refine wpC_loopE 0 (α := Nat) (β := Unit) (fun k => {sl := [(0, .ptr 1013 0), (2, .ptr 6002 0), (4, .ptr 6004 0), (32, .t (.slice 3 ([(1, 2, 1), (2, 7, 1)].map nk))), (33, .t (I 2)), (34, .t (I k))], bx := [(6, .d 10 (ha.map I)), (7, .d 10 (hb.map I)), (1013, .v (lg0 (pvV zero16))), (1011, .m true sh3 [(nk (2, 7, 1), tly 2 [y0, y1, y2, y3]), (nk (1, 2, 1), tly 1 [x0, x1, x2, x3])] none), (6002, .d 19 z19), (6004, .v (.t (I 3) :: .t (I 0) :: .own 6058 36 8 (([[1, 2, 1, 1, x0, x1, x2, x3], [2, 7, 1, 2, y0, y1, y2, y3]].take k).map ln) :: pvV zero16))], gh := [(0, [(2, .ptr 1013 0), (6, .ptr 6 0), (7, .ptr 7 0)])], off := 6000})
      (fun k => k ≤ 2) (fun k => 2 - k) (fun _ => {sl := [(0, .ptr 1013 0), (2, .ptr 6002 0), (4, .ptr 6004 0)], bx := [(6, .d 10 (ha.map I)), (7, .d 10 (hb.map I)), (1013, .v (lg0 (pvV zero16))), (1011, .m true sh3 [(nk (2, 7, 1), tly 2 [y0, y1, y2, y3]), (nk (1, 2, 1), tly 1 [x0, x1, x2, x3])] none), (6002, .d 19 z19), (6004, .v (.t (I 3) :: .t (I 0) :: .t (linesT [[1, 2, 1, 1, x0, x1, x2, x3], [2, 7, 1, 2, y0, y1, y2, y3]]) :: pvV zero16))], gh := [(0, [(2, .ptr 1013 0), (6, .ptr 6 0), (7, .ptr 7 0)])], off := 6000}) (fun _ => True) 0 (by omega) ?_ ?_ ?_
    · refine ⟨⟨.same _, .same _, .same _, .same _, .same _, .same _, trivial⟩, ⟨.same _, .same _, .same _, .same _, .same _, .dv _ _ _ ⟨.same _, .same _, .nil _ _ _, .same _, .same _, .same _, .same _, .same _, .same _, .same _, .same _, .same _, .same _, .same _, .same _, .same _, .same _, .same _, .same _, trivial⟩, trivial⟩, ⟨⟨.same _, .same _, .same _, trivial⟩, trivial⟩, rfl, fun _ _ _ => trivial, rfl⟩
    · rintro k hk
      match k, hk with
      | 0, _ =>
        repeat' ((conv => whnf); first | exact trivial | refine nT_ ?_ | refine aE1 ?_ | refine aE0 ?_ | refine aN1 ?_ | refine aN0 ?_ | refine aD1 ?_ | refine aD0 ?_ | refine nE_ (fun hq => ?_) (fun hq => ?_) | refine nN_ (fun hq => ?_) (fun hq => ?_) | refine nD_ (fun hq => ?_) (fun hq => ?_) | refine rb1 ?_ | refine rb0 ?_ | refine rbx ?_ | refine rix ?_ | (refine And.intro (by first | (exact ⟨rfl, rfl, rfl, rfl, trivial⟩; done) | fail) ?_) | refine aS ?_ | refine nb_ _ rfl ?_ | fail)
        exact ⟨1, by omega, by omega, ⟨⟨.same _, .same _, .same _, .same _, .same _, lI, trivial⟩, ⟨.same _, .same _, .same _, .same _, .same _, .same _, trivial⟩, ⟨⟨.same _, .same _, .same _, trivial⟩, trivial⟩, rfl, fun _ _ _ => trivial, rfl⟩⟩
      | 1, _ =>
        repeat' ((conv => whnf); first | exact trivial | refine nT_ ?_ | refine aE1 ?_ | refine aE0 ?_ | refine aN1 ?_ | refine aN0 ?_ | refine aD1 ?_ | refine aD0 ?_ | refine nE_ (fun hq => ?_) (fun hq => ?_) | refine nN_ (fun hq => ?_) (fun hq => ?_) | refine nD_ (fun hq => ?_) (fun hq => ?_) | refine rb1 ?_ | refine rb0 ?_ | refine rbx ?_ | refine rix ?_ | (refine And.intro (by first | (exact ⟨rfl, rfl, rfl, rfl, trivial⟩; done) | fail) ?_) | refine aS ?_ | refine nb_ _ rfl ?_ | fail)
        exact ⟨2, by omega, by omega, ⟨⟨.same _, .same _, .same _, .same _, .same _, lI, trivial⟩, ⟨.same _, .same _, .same _, .same _, .same _, .same _, trivial⟩, ⟨⟨.same _, .same _, .same _, trivial⟩, trivial⟩, rfl, fun _ _ _ => trivial, rfl⟩⟩
      | 2, _ =>
        repeat' ((conv => whnf); first | exact trivial | refine nT_ ?_ | refine aE1 ?_ | refine aE0 ?_ | refine aN1 ?_ | refine aN0 ?_ | refine aD1 ?_ | refine aD0 ?_ | refine nE_ (fun hq => ?_) (fun hq => ?_) | refine nN_ (fun hq => ?_) (fun hq => ?_) | refine nD_ (fun hq => ?_) (fun hq => ?_) | refine rb1 ?_ | refine rb0 ?_ | refine rbx ?_ | refine rix ?_ | refine aS ?_ | refine nb_ _ rfl ?_ | fail)
        exact ⟨(), trivial, ⟨⟨.same _, .same _, .same _, trivial⟩, ⟨.same _, .same _, .same _, .same _, .same _, .v _ _ ⟨.same _, .same _, .data _ _ _ _, .same _, .same _, .same _, .same _, .same _, .same _, .same _, .same _, .same _, .same _, .same _, .same _, .same _, .same _, .same _, .same _, trivial⟩, trivial⟩, ⟨⟨.same _, .same _, .same _, trivial⟩, trivial⟩, rfl, fun _ _ _ => trivial, rfl⟩⟩
      | k + 3, h => omega
    rintro - -
    repeat' ((conv => whnf); first | exact trivial | refine k_call _ (hD1) ?_ | refine nT_ ?_ | refine aE1 ?_ | refine aE0 ?_ | refine aN1 ?_ | refine aN0 ?_ | refine aD1 ?_ | refine aD0 ?_ | refine nE_ (fun hq => ?_) (fun hq => ?_) | refine nN_ (fun hq => ?_) (fun hq => ?_) | refine nD_ (fun hq => ?_) (fun hq => ?_) | refine rb1 ?_ | refine rb0 ?_ | refine rbx ?_ | refine rix ?_ | refine aS ?_ | fail)
    refine ⟨[.t _, .t (I 0)], ⟨⟨rfl, trivial⟩, rfl, trivial⟩, ?_⟩
    repeat' ((conv => whnf); first | exact trivial | refine nT_ ?_ | refine aE1 ?_ | refine aE0 ?_ | refine aN1 ?_ | refine aN0 ?_ | refine aD1 ?_ | refine aD0 ?_ | refine nE_ (fun hq => ?_) (fun hq => ?_) | refine nN_ (fun hq => ?_) (fun hq => ?_) | refine nD_ (fun hq => ?_) (fun hq => ?_) | refine rb1 ?_ | refine rb0 ?_ | refine rbx ?_ | refine rix ?_ | refine aS ?_ | fail)
    exact ⟨(), trivial, ⟨⟨.same _, .same _, .same _, .same _, .same _, trivial⟩, ⟨.same _, .same _, .same _, .same _, .same _, trivial⟩, trivial, rfl, fun _ _ _ => trivial, rfl⟩⟩
  refine wpC_cut (β := Unit) (fun _ => {sl := [(6, .ptr 6 0), (7, .ptr 7 0), (10, .ptr 10 0), (11, .t (I 0)), (12, .ptr 12 0), (13, .t (I 0))], bx := [(6, .d 10 (ha.map I)), (7, .d 10 (hb.map I)), (10, .d 19 (rcC 3 0 [[1, 2, 1, 1, x0, x1, x2, x3], [2, 7, 1, 2, y0, y1, y2, y3]] zero16)), (12, .d 19 (rcC 3 1 [] [d0, d1, d2, d3, d4, d5, d6, d7, d8, d9, d10, d11, d12, d13, d14, d15]))]}) (fun _ => True) ?_ fun _ _ => ?_
  · repeat' ((conv => whnf); first | exact trivial | refine nT_ ?_ | refine aE1 ?_ | refine aE0 ?_ | refine aN1 ?_ | refine aN0 ?_ | refine aD1 ?_ | refine aD0 ?_ | refine nE_ (fun hq => ?_) (fun hq => ?_) | refine nN_ (fun hq => ?_) (fun hq => ?_) | refine nD_ (fun hq => ?_) (fun hq => ?_) | refine rb1 ?_ | refine rb0 ?_ | refine rbx ?_ | refine rix ?_ | refine aS ?_ | fail)
    refine WC_inlP mixed Tryd.func42 l42 rfl rfl (rs := [.cell 2 51, .tmp 3]) rfl 9000 (Nat.le_of_ble_eq_true rfl) ?_
    repeat' ((conv => whnf); first | exact trivial | refine now_D0 (by decide) ?_ | refine nT_ ?_ | refine aE1 ?_ | refine aE0 ?_ | refine aN1 ?_ | refine aN0 ?_ | refine aD1 ?_ | refine aD0 ?_ | refine nE_ (fun hq => ?_) (fun hq => ?_) | refine nN_ (fun hq => ?_) (fun hq => ?_) | refine nD_ (fun hq => ?_) (fun hq => ?_) | refine rb1 ?_ | refine rb0 ?_ | refine rbx ?_ | refine rix ?_ | refine aS ?_ | fail)
    refine WC_inl mixed Tryd.func71 l71 rfl rfl (rs := [.tmp 2]) rfl 11000 (Nat.le_of_ble_eq_true rfl) ?_
    repeat' ((conv => whnf); first | exact trivial | refine nT_ ?_ | refine aE1 ?_ | refine aE0 ?_ | refine aN1 ?_ | refine aN0 ?_ | refine aD1 ?_ | refine aD0 ?_ | refine nE_ (fun hq => ?_) (fun hq => ?_) | refine nN_ (fun hq => ?_) (fun hq => ?_) | refine nD_ (fun hq => ?_) (fun hq => ?_) | refine rb1 ?_ | refine rb0 ?_ | refine rbx ?_ | refine rix ?_ | refine aS ?_ | refine ⟨_, rfl, ?_⟩ | fail)
    have hNS := n_Sorted [] [] rfl (by decide)
    rw [show srt [] = [] by simp [srt]] at hNS
    refine WC_new rfl hNS ?_
    refine wpC_loopE 0 (α := Unit) (β := Unit) (fun _ => {sl := [(0, .ptr 1013 0), (2, .ptr 9002 0), (4, .ptr 9004 0), (33, .t (I 0)), (34, .t (I 0))], bx := [(6, .d 10 (ha.map I)), (7, .d 10 (hb.map I)), (10, .d 19 (rcC 3 0 [[1, 2, 1, 1, x0, x1, x2, x3], [2, 7, 1, 2, y0, y1, y2, y3]] zero16)), (1013, .v (lgC (.t (I 3)) (.t (I 1)) (pvV [d0, d1, d2, d3, d4, d5, d6, d7, d8, d9, d10, d11, d12, d13, d14, d15]))), (1011, .m true sh3 [] none), (9002, .d 19 z19), (9004, .d 19 (I 3 :: I 1 :: .nil :: [d0, d1, d2, d3, d4, d5, d6, d7, d8, d9, d10, d11, d12, d13, d14, d15].map Y))], gh := [(0, [(2, .ptr 1013 0), (6, .ptr 6 0), (7, .ptr 7 0), (10, .ptr 10 0), (11, .t (I 0))])], off := 9000})
      (fun _ => True) (fun _ => 0) (fun _ => {sl := [(0, .ptr 1013 0), (2, .ptr 9002 0), (4, .ptr 9004 0)], bx := [(6, .d 10 (ha.map I)), (7, .d 10 (hb.map I)), (10, .d 19 (rcC 3 0 [[1, 2, 1, 1, x0, x1, x2, x3], [2, 7, 1, 2, y0, y1, y2, y3]] zero16)), (1013, .v (lgC (.t (I 3)) (.t (I 1)) (pvV [d0, d1, d2, d3, d4, d5, d6, d7, d8, d9, d10, d11, d12, d13, d14, d15]))), (1011, .m true sh3 [] none), (9002, .d 19 z19), (9004, .v (.t (I 3) :: .t (I 1) :: .t (linesT []) :: pvV [d0, d1, d2, d3, d4, d5, d6, d7, d8, d9, d10, d11, d12, d13, d14, d15]))], gh := [(0, [(2, .ptr 1013 0), (6, .ptr 6 0), (7, .ptr 7 0), (10, .ptr 10 0), (11, .t (I 0))])], off := 9000}) (fun _ => True) () trivial ?_ ?_ ?_
    · exact ⟨⟨.same _, .same _, .same _, .same _, .same _, trivial⟩, ⟨.same _, .same _, .same _, .same _, .same _, .same _, .same _, trivial⟩, ⟨⟨.same _, .same _, .same _, .same _, .same _, trivial⟩, trivial⟩, rfl, fun _ _ _ => trivial, rfl⟩
    · rintro - -
      repeat' ((conv => whnf); first | exact trivial | refine nT_ ?_ | refine aE1 ?_ | refine aE0 ?_ | refine aN1 ?_ | refine aN0 ?_ | refine aD1 ?_ | refine aD0 ?_ | refine nE_ (fun hq => ?_) (fun hq => ?_) | refine nN_ (fun hq => ?_) (fun hq => ?_) | refine nD_ (fun hq => ?_) (fun hq => ?_) | refine rb1 ?_ | refine rb0 ?_ | refine rbx ?_ | refine rix ?_ | refine aS ?_ | refine nb_ _ rfl ?_ | fail)
      exact ⟨(), trivial, ⟨⟨.same _, .same _, .same _, trivial⟩, ⟨.same _, .same _, .same _, .same _, .same _, .same _, .dv _ _ _ ⟨.same _, .same _, .empty _, .same _, .same _, .same _, .same _, .same _, .same _, .same _, .same _, .same _, .same _, .same _, .same _, .same _, .same _, .same _, .same _, trivial⟩, trivial⟩, ⟨⟨.same _, .same _, .same _, .same _, .same _, trivial⟩, trivial⟩, rfl, fun _ _ _ => trivial, rfl⟩⟩
    rintro - -
    repeat' ((conv => whnf); first | exact trivial | refine k_call _ (hD2) ?_ | refine nT_ ?_ | refine aE1 ?_ | refine aE0 ?_ | refine aN1 ?_ | refine aN0 ?_ | refine aD1 ?_ | refine aD0 ?_ | refine nE_ (fun hq => ?_) (fun hq => ?_) | refine nN_ (fun hq => ?_) (fun hq => ?_) | refine nD_ (fun hq => ?_) (fun hq => ?_) | refine rb1 ?_ | refine rb0 ?_ | refine rbx ?_ | refine rix ?_ | (refine And.intro (by first | (exact ⟨(List.length_map _).trans hD2l, Nat.le_of_ble_eq_true rfl⟩; done) | fail) ?_) | refine aS ?_ | fail)
    refine ⟨[.t _, .t (I 0)], ⟨⟨rfl, trivial⟩, rfl, trivial⟩, ?_⟩
    repeat' ((conv => whnf); first | exact trivial | refine nT_ ?_ | refine aE1 ?_ | refine aE0 ?_ | refine aN1 ?_ | refine aN0 ?_ | refine aD1 ?_ | refine aD0 ?_ | refine nE_ (fun hq => ?_) (fun hq => ?_) | refine nN_ (fun hq => ?_) (fun hq => ?_) | refine nD_ (fun hq => ?_) (fun hq => ?_) | refine rb1 ?_ | refine rb0 ?_ | refine rbx ?_ | refine rix ?_ | refine aS ?_ | fail)
    exact ⟨(), trivial, ⟨⟨.same _, .same _, .same _, .same _, .same _, .same _, trivial⟩, ⟨.same _, .same _, .same _, .same _, trivial⟩, trivial, rfl, fun _ _ _ => trivial, rfl⟩⟩
  have k0 : okLn [1, 2, 1, 1, x0, x1, x2, x3] = true := by rw [okLn8, (isSb_ok rfl).2 ⟨rfl, xi⟩]; rfl
  have k1 : okLn [2, 7, 1, 2, y0, y1, y2, y3] = true := by rw [okLn8, (isSb_ok rfl).2 ⟨rfl, yi⟩]; rfl
  have kf : okFrom none [[1, 2, 1, 1, x0, x1, x2, x3], [2, 7, 1, 2, y0, y1, y2, y3]] = true := by
    show ((okLn _ && true) && ((okLn _ && decide (cmpN (1, 2, 1) (2, 7, 1) < 0)) && true)) = true
    rw [k0, k1]; rfl
  have c1 : chk 3 0 [[1, 2, 1, 1, x0, x1, x2, x3], [2, 7, 1, 2, y0, y1, y2, y3]] = 0 := by
    unfold chk
    rw [if_neg (by simp), if_neg (by omega), if_pos kf]
  have c2 : chk 3 1 [] = 0 := rfl
  have v1 : ver 3 0 zero16 [⟨3, 0, [[1, 2, 1, 1, x0, x1, x2, x3], [2, 7, 1, 2, y0, y1, y2, y3]], zero16⟩, ⟨3, 1, [], [d0, d1, d2, d3, d4, d5, d6, d7, d8, d9, d10, d11, d12, d13, d14, d15]⟩] = (2, 0) := by
    show (if chk 3 0 [[1, 2, 1, 1, x0, x1, x2, x3], [2, 7, 1, 2, y0, y1, y2, y3]] ≠ 0 then ((0 : Int), chk 3 0 [[1, 2, 1, 1, x0, x1, x2, x3], [2, 7, 1, 2, y0, y1, y2, y3]]) else if (3 : Int) ≠ 3 then (0, 1) else if (0 : Int) ≠ 0 then (0, 25) else if zero16 ≠ zero16 then (0, 7) else ver 3 1 (dgR 3 0 [[1, 2, 1, 1, x0, x1, x2, x3], [2, 7, 1, 2, y0, y1, y2, y3]] zero16) [⟨3, 1, [], [d0, d1, d2, d3, d4, d5, d6, d7, d8, d9, d10, d11, d12, d13, d14, d15]⟩]) = _
    rw [c1, if_neg (by simp), if_neg (by simp), if_neg (by simp), if_neg (by simp), hD]
    show (if chk 3 1 [] ≠ 0 then ((1 : Int), chk 3 1 []) else if (3 : Int) ≠ 3 then (1, 1) else if (1 : Int) ≠ 1 then (1, 25) else if [d0, d1, d2, d3, d4, d5, d6, d7, d8, d9, d10, d11, d12, d13, d14, d15] ≠ [d0, d1, d2, d3, d4, d5, d6, d7, d8, d9, d10, d11, d12, d13, d14, d15] then (1, 7) else (2, 0)) = _
    rw [c2, if_neg (by simp), if_neg (by simp), if_neg (by simp), if_neg (by simp)]
  have v2 : ver 3 0 zero16 [⟨3, 1, [], [d0, d1, d2, d3, d4, d5, d6, d7, d8, d9, d10, d11, d12, d13, d14, d15]⟩] = (0, 25) := rfl
  have hV1 := t_Verify 3 [⟨3, 0, [[1, 2, 1, 1, x0, x1, x2, x3], [2, 7, 1, 2, y0, y1, y2, y3]], zero16⟩, ⟨3, 1, [], [d0, d1, d2, d3, d4, d5, d6, d7, d8, d9, d10, d11, d12, d13, d14, d15]⟩] (Nat.le_of_ble_eq_true rfl) (fun r hr => by
    simp only [List.mem_cons, List.not_mem_nil, or_false] at hr
    rcases hr with rfl | rfl
    · exact hr1
    · exact hr2)
  rw [v1] at hV1
  have hV2 := t_Verify 3 [⟨3, 1, [], [d0, d1, d2, d3, d4, d5, d6, d7, d8, d9, d10, d11, d12, d13, d14, d15]⟩] (Nat.le_of_ble_eq_true rfl) (fun r hr => by
    simp only [List.mem_cons, List.not_mem_nil, or_false] at hr
    rw [hr]
    exact hr2)
  rw [v2] at hV2
  have hF := t_Find 3 0 [[1, 2, 1, 1, x0, x1, x2, x3], [2, 7, 1, 2, y0, y1, y2, y3]] zero16 2 7 1 (Nat.le_of_ble_eq_true rfl) (fun x h => (hL8 x h).1) rfl
  have hF2 : fnd [[1, 2, 1, 1, x0, x1, x2, x3], [2, 7, 1, 2, y0, y1, y2, y3]] 2 7 1 = .tup [ln [2, 7, 1, 2, y0, y1, y2, y3], .bool true] := rfl
  rw [hF2] at hF
  have hCk := t_Check 3 0 [[1, 2, 1, 1, x0, x1, x2, x3], [2, 7, 1, 2, y0, y1, y2, y3]] zero16 (Nat.le_of_ble_eq_true rfl) (fun x h => (hL8 x h).1) rfl
  rw [c1] at hCk
  have q1 : DCalls Tryd.prog 19 [ln [0, 0, 0, 5, 0, 0, 0, 0], ln [0, 0, 0, 3, 0, 0, 0, 0]] (verT (2, 0)) := t_Compare _ _ rfl rfl (by unfold i64; decide) (by unfold i64; decide) (by decide) (by decide)
  have q2 : DCalls Tryd.prog 19 [ln [0, 0, 0, 3, 0, 0, 0, 0], ln [0, 0, 0, 5, 0, 0, 0, 0]] (verT (0, 26)) := t_Compare _ _ rfl rfl (by unfold i64; decide) (by unfold i64; decide) (by decide) (by decide)
  have q3 : DCalls Tryd.prog 19 [ln [0, 0, 0, 5, 1, 0, 0, 0], ln [0, 0, 0, 5, 0, 0, 0, 0]] (verT (0, 26)) := t_Compare _ _ rfl rfl (by unfold i64; decide) (by unfold i64; decide) (by decide) (by decide)
  have o1 := t_OfH ha okHa
  have o2 := t_OfH hb okHb
  have o3 := t_sAdd _ _ (ofH_isS ha) (ofH_isS hb)
  rw [show sAdd (ofH ha) (ofH hb) = [y0, y1, y2, y3] by rw [← hy]; unfold Sab Sa; rw [sAdd0 (ofH_isS ha)]] at o3
  refine wpC_cut (β := Unit) (fun _ => {sl := [(6, .ptr 6 0), (7, .ptr 7 0), (10, .ptr 10 0), (11, .t (I 0)), (12, .ptr 12 0), (13, .t (I 0)), (14, .t (I 2)), (15, .t (I 0))], bx := [(6, .d 10 (ha.map I)), (7, .d 10 (hb.map I)), (10, .d 19 (rcC 3 0 [[1, 2, 1, 1, x0, x1, x2, x3], [2, 7, 1, 2, y0, y1, y2, y3]] zero16)), (12, .d 19 (rcC 3 1 [] [d0, d1, d2, d3, d4, d5, d6, d7, d8, d9, d10, d11, d12, d13, d14, d15]))]}) (fun _ => True) ?_ fun _ _ => ?_
  · repeat' ((conv => whnf); first | exact trivial | refine k_call _ (hV1) ?_ | refine nT_ ?_ | refine aE1 ?_ | refine aE0 ?_ | refine aN1 ?_ | refine aN0 ?_ | refine aD1 ?_ | refine aD0 ?_ | refine nE_ (fun hq => ?_) (fun hq => ?_) | refine nN_ (fun hq => ?_) (fun hq => ?_) | refine nD_ (fun hq => ?_) (fun hq => ?_) | refine rb1 ?_ | refine rb0 ?_ | refine rbx ?_ | refine rix ?_ | refine aS ?_ | fail)
    exact ⟨(), trivial, ⟨⟨.same _, .same _, .same _, .same _, .same _, .same _, .same _, .same _, trivial⟩, ⟨.same _, .same _, .same _, .same _, trivial⟩, trivial, rfl, fun _ _ _ => trivial, rfl⟩⟩
  refine wpC_cut (β := Unit) (fun _ => {sl := [(6, .ptr 6 0), (7, .ptr 7 0), (10, .ptr 10 0), (11, .t (I 0)), (12, .ptr 12 0), (13, .t (I 0)), (14, .t (I 2)), (15, .t (I 0)), (16, .t (I 0)), (17, .t (I 25))], bx := [(6, .d 10 (ha.map I)), (7, .d 10 (hb.map I)), (10, .d 19 (rcC 3 0 [[1, 2, 1, 1, x0, x1, x2, x3], [2, 7, 1, 2, y0, y1, y2, y3]] zero16)), (12, .d 19 (rcC 3 1 [] [d0, d1, d2, d3, d4, d5, d6, d7, d8, d9, d10, d11, d12, d13, d14, d15]))]}) (fun _ => True) ?_ fun _ _ => ?_
  · repeat' ((conv => whnf); first | exact trivial | refine k_call _ (hV2) ?_ | refine nT_ ?_ | refine aE1 ?_ | refine aE0 ?_ | refine aN1 ?_ | refine aN0 ?_ | refine aD1 ?_ | refine aD0 ?_ | refine nE_ (fun hq => ?_) (fun hq => ?_) | refine nN_ (fun hq => ?_) (fun hq => ?_) | refine nD_ (fun hq => ?_) (fun hq => ?_) | refine rb1 ?_ | refine rb0 ?_ | refine rbx ?_ | refine rix ?_ | refine aS ?_ | fail)
    exact ⟨(), trivial, ⟨⟨.same _, .same _, .same _, .same _, .same _, .same _, .same _, .same _, .same _, .same _, trivial⟩, ⟨.same _, .same _, .same _, .same _, trivial⟩, trivial, rfl, fun _ _ _ => trivial, rfl⟩⟩
  refine wpC_cut (β := Unit) (fun _ => {sl := [(6, .ptr 6 0), (7, .ptr 7 0), (10, .ptr 10 0), (11, .t (I 0)), (12, .ptr 12 0), (13, .t (I 0)), (14, .t (I 2)), (15, .t (I 0)), (16, .t (I 0)), (17, .t (I 25)), (18, .ptr 18 0), (19, .t (.bool true))], bx := [(6, .d 10 (ha.map I)), (7, .d 10 (hb.map I)), (10, .d 19 (rcC 3 0 [[1, 2, 1, 1, x0, x1, x2, x3], [2, 7, 1, 2, y0, y1, y2, y3]] zero16)), (12, .d 19 (rcC 3 1 [] [d0, d1, d2, d3, d4, d5, d6, d7, d8, d9, d10, d11, d12, d13, d14, d15])), (18, .d 8 ([2, 7, 1, 2, y0, y1, y2, y3].map I))]}) (fun _ => True) ?_ fun _ _ => ?_
  · repeat' ((conv => whnf); first | exact trivial | refine k_call _ (hF) ?_ | refine nT_ ?_ | refine aE1 ?_ | refine aE0 ?_ | refine aN1 ?_ | refine aN0 ?_ | refine aD1 ?_ | refine aD0 ?_ | refine nE_ (fun hq => ?_) (fun hq => ?_) | refine nN_ (fun hq => ?_) (fun hq => ?_) | refine nD_ (fun hq => ?_) (fun hq => ?_) | refine rb1 ?_ | refine rb0 ?_ | refine rbx ?_ | refine rix ?_ | refine aS ?_ | fail)
    exact ⟨(), trivial, ⟨⟨.same _, .same _, .same _, .same _, .same _, .same _, .same _, .same _, .same _, .same _, .same _, .same _, trivial⟩, ⟨.same _, .same _, .same _, .same _, .same _, trivial⟩, trivial, rfl, fun _ _ _ => trivial, rfl⟩⟩
  repeat' ((conv => whnf); first | exact trivial | refine k_call _ (q1) ?_ | refine k_call _ (q2) ?_ | refine nT_ ?_ | refine aE1 ?_ | refine aE0 ?_ | refine aN1 ?_ | refine aN0 ?_ | refine aD1 ?_ | refine aD0 ?_ | refine nE_ (fun hq => ?_) (fun hq => ?_) | refine nN_ (fun hq => ?_) (fun hq => ?_) | refine nD_ (fun hq => ?_) (fun hq => ?_) | refine rb1 ?_ | refine rb0 ?_ | refine rbx ?_ | refine rix ?_ | refine aS ?_ | fail)
  refine wpC_cut (β := Unit) (fun _ => {sl := [(6, .ptr 6 0), (7, .ptr 7 0), (10, .ptr 10 0), (11, .t (I 0)), (12, .ptr 12 0), (13, .t (I 0)), (14, .t (I 2)), (15, .t (I 0)), (16, .t (I 0)), (17, .t (I 25)), (18, .ptr 18 0), (19, .t (.bool true)), (20, .t (I 2)), (21, .t (I 0)), (23, .t (I 26)), (25, .t (I 26))], bx := [(6, .d 10 (ha.map I)), (7, .d 10 (hb.map I)), (10, .d 19 (rcC 3 0 [[1, 2, 1, 1, x0, x1, x2, x3], [2, 7, 1, 2, y0, y1, y2, y3]] zero16)), (12, .d 19 (rcC 3 1 [] [d0, d1, d2, d3, d4, d5, d6, d7, d8, d9, d10, d11, d12, d13, d14, d15])), (18, .d 8 ([2, 7, 1, 2, y0, y1, y2, y3].map I))]}) (fun _ => True) ?_ fun _ _ => ?_
  · repeat' ((conv => whnf); first | exact trivial | refine k_call _ (q3) ?_ | refine nT_ ?_ | refine aE1 ?_ | refine aE0 ?_ | refine aN1 ?_ | refine aN0 ?_ | refine aD1 ?_ | refine aD0 ?_ | refine nE_ (fun hq => ?_) (fun hq => ?_) | refine nN_ (fun hq => ?_) (fun hq => ?_) | refine nD_ (fun hq => ?_) (fun hq => ?_) | refine rb1 ?_ | refine rb0 ?_ | refine rbx ?_ | refine rix ?_ | refine aS ?_ | fail)
    exact ⟨(), trivial, ⟨⟨.same _, .same _, .same _, .same _, .same _, .same _, .same _, .same _, .same _, .same _, .same _, .same _, .same _, .same _, .same _, .same _, trivial⟩, ⟨.same _, .same _, .same _, .same _, .same _, trivial⟩, trivial, rfl, fun _ _ _ => trivial, rfl⟩⟩
  refine wpC_cut (β := Unit) (fun _ => {sl := [(6, .ptr 6 0), (7, .ptr 7 0), (14, .t (I 2)), (15, .t (I 0)), (16, .t (I 0)), (17, .t (I 25)), (18, .ptr 18 0), (19, .t (.bool true)), (20, .t (I 2)), (21, .t (I 0)), (23, .t (I 26)), (25, .t (I 26)), (26, .t (.bool true))], bx := [(6, .d 10 (ha.map I)), (7, .d 10 (hb.map I)), (18, .d 8 ([2, 7, 1, 2, y0, y1, y2, y3].map I))]}) (fun _ => True) ?_ fun _ _ => ?_
  · have eD : eqL ([d0, d1, d2, d3, d4, d5, d6, d7, d8, d9, d10, d11, d12, d13, d14, d15].map Y) ([d0, d1, d2, d3, d4, d5, d6, d7, d8, d9, d10, d11, d12, d13, d14, d15].map Y) = true := eqY (by simp)
    repeat' ((conv => whnf); first | exact trivial | refine k_call _ (hCk) ?_ | refine k_call _ (hD1) ?_ | refine nb_ true eD ?_ | refine nT_ ?_ | refine aE1 ?_ | refine aE0 ?_ | refine aN1 ?_ | refine aN0 ?_ | refine aD1 ?_ | refine aD0 ?_ | refine nE_ (fun hq => ?_) (fun hq => ?_) | refine nN_ (fun hq => ?_) (fun hq => ?_) | refine nD_ (fun hq => ?_) (fun hq => ?_) | refine rb1 ?_ | refine rb0 ?_ | refine rbx ?_ | refine rix ?_ | (refine And.intro (by first | (exact ⟨fits16 (a := [d0, d1, d2, d3, d4, d5, d6, d7, d8, d9, d10, d11, d12, d13, d14, d15]) rfl, fits16 (a := [d0, d1, d2, d3, d4, d5, d6, d7, d8, d9, d10, d11, d12, d13, d14, d15]) rfl⟩; done) | fail) ?_) | refine aS ?_ | refine nb_ _ rfl ?_ | fail)
    exact ⟨(), trivial, ⟨⟨.same _, .same _, .same _, .same _, .same _, .same _, .same _, .same _, .same _, .same _, .same _, .same _, .same _, trivial⟩, ⟨.same _, .same _, .same _, trivial⟩, trivial, rfl, fun _ _ _ => trivial, rfl⟩⟩
  have eY : eqL ([y0, y1, y2, y3].map I) ([y0, y1, y2, y3].map I) = true := eqI (by simp)
  repeat' ((conv => whnf); first | exact trivial | refine k_call _ (o1) ?_ | refine k_call _ (o2) ?_ | refine k_call _ (o3) ?_ | refine nb_ true eY ?_ | refine nT_ ?_ | refine aE1 ?_ | refine aE0 ?_ | refine aN1 ?_ | refine aN0 ?_ | refine aD1 ?_ | refine aD0 ?_ | refine nE_ (fun hq => ?_) (fun hq => ?_) | refine nN_ (fun hq => ?_) (fun hq => ?_) | refine nD_ (fun hq => ?_) (fun hq => ?_) | refine rb1 ?_ | refine rb0 ?_ | refine rbx ?_ | refine rix ?_ | (refine And.intro (by first | (exact ⟨fits4 (a := [y0, y1, y2, y3]) rfl, fits4 (a := [y0, y1, y2, y3]) rfl⟩; done) | fail) ?_) | refine aS ?_ | refine nb_ _ rfl ?_ | fail)
end Go.RC
end
section
namespace Go.RC
open Go Go.DL Go.Proofs
set_option maxRecDepth 100000
set_option maxHeartbeats 2000000
theorem m32_assoc (x y z : Int) : ((x + y) % M32 + z) % M32 = (x + (y + z) % M32) % M32 := by unfold M32; omega
theorem m32_comm (x y : Int) : (x + y) % M32 = (y + x) % M32 := by unfold M32; omega
theorem sAdd_assoc {a b c : List Int} (ha : a.length = 4) (hb : b.length = 4) (hc : c.length = 4) : sAdd (sAdd a b) c = sAdd a (sAdd b c) := by
  obtain ⟨a0, a1, a2, a3, rfl⟩ := four ha
  obtain ⟨b0, b1, b2, b3, rfl⟩ := four hb
  obtain ⟨c0, c1, c2, c3, rfl⟩ := four hc
  show [((a0 + b0) % M32 + c0) % M32, ((a1 + b1) % M32 + c1) % M32, ((a2 + b2) % M32 + c2) % M32, ((a3 + b3) % M32 + c3) % M32] = [(a0 + (b0 + c0) % M32) % M32, (a1 + (b1 + c1) % M32) % M32, (a2 + (b2 + c2) % M32) % M32, (a3 + (b3 + c3) % M32) % M32]
  rw [m32_assoc, m32_assoc, m32_assoc, m32_assoc]
theorem sAdd_comm {a b : List Int} (ha : a.length = 4) (hb : b.length = 4) : sAdd a b = sAdd b a := by
  obtain ⟨a0, a1, a2, a3, rfl⟩ := four ha
  obtain ⟨b0, b1, b2, b3, rfl⟩ := four hb
  show [(a0 + b0) % M32, (a1 + b1) % M32, (a2 + b2) % M32, (a3 + b3) % M32] = [(b0 + a0) % M32, (b1 + a1) % M32, (b2 + a2) % M32, (b3 + a3) % M32]
  rw [m32_comm a0, m32_comm a1, m32_comm a2, m32_comm a3]
end Go.RC
end
section
namespace Go.RC
open Go Go.DL Go.Proofs
set_option maxRecDepth 100000
set_option maxHeartbeats 1000000
def sumF (s : List Int) (l : List (List Int)) : List Int := l.foldl (fun s h => sAdd s (ofH h)) s
def sumH (l : List (List Int)) : List Int := sumF S0' l
theorem sumF_isS : ∀ {l : List (List Int)} {s : List Int}, isS s → isS (sumF s l)
  | [], s, h => h
  | x :: l, s, h => sumF_isS (l := l) (isS_add h (ofH_isS x))
theorem sumH_isS (l : List (List Int)) : isS (sumH l) := sumF_isS isS0
theorem sumF_snoc (s : List Int) (l : List (List Int)) (h : List Int) : sumF s (l ++ [h]) = sAdd (sumF s l) (ofH h) := by unfold sumF; rw [List.foldl_append]; rfl
theorem sumH_take {l : List (List Int)} {k : Nat} (h : k < l.length) : sumH (l.take (k + 1)) = sAdd (sumH (l.take k)) (ofH l[k]) := by
  rw [List.take_succ_eq_append_getElem h]; exact sumF_snoc _ _ _
theorem sumH_perm {l m : List (List Int)} (h : l.Perm m) : sumH l = sumH m := by
  have : ∀ s, isS s → sumF s l = sumF s m := by
    induction h with
    | nil => intro s _; rfl
    | cons x _ ih => intro s hs; exact ih _ (isS_add hs (ofH_isS x))
    | swap x y l =>
      intro s hs
      show sumF (sAdd (sAdd s (ofH y)) (ofH x)) l = sumF (sAdd (sAdd s (ofH x)) (ofH y)) l
      rw [sAdd_assoc hs.1 (ofH_isS y).1 (ofH_isS x).1, sAdd_comm (ofH_isS y).1 (ofH_isS x).1, ← sAdd_assoc hs.1 (ofH_isS x).1 (ofH_isS y).1]
    | trans _ _ i1 i2 => intro s hs; rw [i1 s hs, i2 s hs]
  exact this _ isS0
end Go.RC
end
section
namespace Go.RC
open Go Go.DL Go.Proofs
set_option maxRecDepth 100000
set_option maxHeartbeats 2000000
abbrev lgC2 (a b : V) (rest : List V) : List V := a :: b :: .mp 2011 :: rest
theorem mc_Note2 (a b : V) (rest : List V) (es : List Ent) (he : okE es) (hel : es.length < 2 ^ 40) (s p f : Int) (h : List Int) (hl : h.length = 10) :
    MC Tryd.prog 41 [.ptr 2013 0, .t (I s), .t (I p), .t (I f), .t (hd h)] [(2013, .v (lgC2 a b rest)), (2011, .m true sh3 (esM es) none)] [5009, 5011, 5012] 2011 (.m true sh3 (esM (noteM (s, p, f) h es).2) none) (I (noteM (s, p, f) h es).1) := by
  refine MC_of mixed Tryd.func41 l41 rfl rfl (rs := [.tmp 10]) rfl 5000 (Nat.le_of_ble_eq_true rfl) (fun _ => trivial) (by decide) ?_
  intro st d hneed hfr
  obtain ⟨sl, bx, gh, o, cx⟩ := st
  have e1 : bx 2013 = some (.v (lgC2 a b rest)) := hneed (2013, _) (by simp)
  have e2 : bx 2011 = some (.m true sh3 (esM es) none) := hneed (2011, _) (by simp)
  have e3 : bx 5009 = none := hfr 5009 (by simp)
  have e4 : bx 5011 = none := hfr 5011 (by simp)
  have e5 : bx 5012 = none := hfr 5012 (by simp)
  clear hneed hfr
  obtain ⟨g, hg⟩ : ∃ g, bx = upd (upd (upd (upd (upd g 5009 none) 5011 none) 5012 none) 2013 (some (.v (lgC2 a b rest)))) 2011 (some (.m true sh3 (esM es) none)) :=
    ⟨bx, by rw [upd_same_id e3, upd_same_id e4, upd_same_id e5, upd_same_id e1, upd_same_id e2]⟩
  subst hg
  clear e1 e2 e3 e4 e5
  have hR := t_right s p f
  have hO := fun (hh : okH h) => t_OfH h hh
  have hC := t_ContainsFunc 69 _ h (by rw [hl]; decide) (fun x _ => t_wide x)
  have hci : (h.any fun x => decide (x < 0) || decide (x > 65535)) = !rightH h := by
    unfold rightH
    rw [List.not_all_eq_any_not]
    congr 1
    funext x
    by_cases h1 : x < 0 <;> by_cases h2 : x > 65535 <;> simp [h1, h2] <;> omega
  rw [hci] at hC
  rw [← chunk1 (f := I) h 10 hl] at hC
  unfold noteM
  cases h1 : rightN s p f with
  | false =>
    rw [h1] at hR
    repeat' ((conv => whnf); first | exact trivial | refine k_call _ (hR) ?_ | refine nT_ ?_ | refine aE1 ?_ | refine aE0 ?_ | refine aN1 ?_ | refine aN0 ?_ | refine aD1 ?_ | refine aD0 ?_ | refine nE_ (fun hq => ?_) (fun hq => ?_) | refine nN_ (fun hq => ?_) (fun hq => ?_) | refine nD_ (fun hq => ?_) (fun hq => ?_) | refine rb1 ?_ | refine rb0 ?_ | refine rbx ?_ | refine rix ?_ | (refine And.intro (by first | (exact (List.length_map _).trans hl; done) | fail) ?_) | refine aS ?_ | fail)
    refine ⟨[.t (I 1)], rfl, ?_⟩
    cases d <;> refine ⟨rfl, rfl, rfl, rfl, rfl, fun n h1 h2 => ?_⟩
    all_goals
      simp only [List.mem_cons, List.not_mem_nil, or_false, not_or] at h2
      show upd (upd (upd _ 5009 _) 5011 _) 5011 _ n = _
      rw [upd_other _ _ _ _ h2.2.1, upd_other _ _ _ _ h2.2.1, upd_other _ _ _ _ h2.1]
      rfl
  | true =>
    rw [h1] at hR
    cases h2 : rightH h with
    | false =>
      rw [h2] at hC
      repeat' ((conv => whnf); first | exact trivial | refine k_call _ (hR) ?_ | refine k_call _ (hC) ?_ | refine nT_ ?_ | refine aE1 ?_ | refine aE0 ?_ | refine aN1 ?_ | refine aN0 ?_ | refine aD1 ?_ | refine aD0 ?_ | refine nE_ (fun hq => ?_) (fun hq => ?_) | refine nN_ (fun hq => ?_) (fun hq => ?_) | refine nD_ (fun hq => ?_) (fun hq => ?_) | refine rb1 ?_ | refine rb0 ?_ | refine rbx ?_ | refine rix ?_ | (refine And.intro (by first | (exact (List.length_map _).trans hl; done) | fail) ?_) | refine aS ?_ | fail)
      refine ⟨[.t (I 1)], rfl, ?_⟩
      cases d <;> refine ⟨rfl, rfl, rfl, rfl, rfl, fun n h1 h2 => ?_⟩
      all_goals
        simp only [List.mem_cons, List.not_mem_nil, or_false, not_or] at h2
        show upd (upd (upd _ 5009 _) 5011 _) 5011 _ n = _
        rw [upd_other _ _ _ _ h2.2.1, upd_other _ _ _ _ h2.2.1, upd_other _ _ _ _ h2.1]
        rfl
    | true =>
      rw [h2] at hC
      have hok := (rightH_ok hl).1 h2
      have hOf := hO hok
      have hofS := ofH_isS h
      generalize ofH h = oh at hOf hofS
      have hkey : keyOk true sh3 (nk (s, p, f)) := ⟨rfl, rfl, rfl, rfl, trivial⟩
      have hmf := mfind_esM (s, p, f) es
      rw [if_pos (show (true && true) = true from rfl)]
      cases h3 : getM (s, p, f) es with
      | none =>
        rw [h3] at hmf
        have hz : isS [0, 0, 0, 0] := ⟨rfl, by simp [M32]⟩
        have hA := t_sAdd [0, 0, 0, 0] oh hz hofS
        have hpu := mput_esM (s, p, f) (1, sAdd [0, 0, 0, 0] oh) es
        have hAl := (isS_add hz hofS).1
        show wpC _ _ _ (PostV _ _ _ (Ended _ _ _ _ (.m true sh3 (esM (if es.length ≥ 1000 then ((2 : Int), es) else (0, putM (s, p, f) (1, sAdd [0, 0, 0, 0] oh) es)).2) none) (I (if es.length ≥ 1000 then ((2 : Int), es) else (0, putM (s, p, f) (1, sAdd [0, 0, 0, 0] oh) es)).1)))
        generalize sAdd [0, 0, 0, 0] oh = sa at *
        obtain ⟨a0, a1, a2, a3, rfl⟩ : ∃ a b c d, sa = [a, b, c, d] := by
          match sa, hAl with
          | [a, b, c, d], _ => exact ⟨a, b, c, d, rfl⟩
        by_cases h4 : es.length ≥ 1000
        · rw [if_pos h4]
          repeat' ((conv => whnf); first | exact trivial | refine k_call _ (hR) ?_ | refine k_call _ (hC) ?_ | (refine nv_ (.tup [.agg [I 0, I 0, I 0, I 0, I 0], .bool false]) (by show mres _ _ (mfind (nk (s, p, f)).cells (esM es)) = _; rw [hmf]; rfl) ?_) | (refine now_D1 (by simp; omega) ?_) | refine nT_ ?_ | refine aE1 ?_ | refine aE0 ?_ | refine aN1 ?_ | refine aN0 ?_ | refine aD1 ?_ | refine aD0 ?_ | refine nE_ (fun hq => ?_) (fun hq => ?_) | refine nN_ (fun hq => ?_) (fun hq => ?_) | refine nD_ (fun hq => ?_) (fun hq => ?_) | refine rb1 ?_ | refine rb0 ?_ | refine rbx ?_ | refine rix ?_ | (refine And.intro (by first | (exact (List.length_map _).trans hl; done) | (exact hkey; done) | fail) ?_) | refine aS ?_ | fail)
          refine ⟨[.t (I 2)], rfl, ?_⟩
          cases d <;> refine ⟨rfl, rfl, rfl, rfl, rfl, fun n h1 h2 => ?_⟩
          all_goals
            simp only [List.mem_cons, List.not_mem_nil, or_false, not_or] at h2
            show upd (upd (upd (upd (upd _ 5009 _) 5011 _) 5011 _) 5012 _) 5012 _ n = _
            rw [upd_other _ _ _ _ h2.2.2, upd_other _ _ _ _ h2.2.2, upd_other _ _ _ _ h2.2.1, upd_other _ _ _ _ h2.2.1, upd_other _ _ _ _ h2.1]
            rfl
        · rw [if_neg h4]
          repeat' ((conv => whnf); first | exact trivial | refine k_call _ (hR) ?_ | refine k_call _ (hC) ?_ | (refine nv_ (.tup [.agg [I 0, I 0, I 0, I 0, I 0], .bool false]) (by show mres _ _ (mfind (nk (s, p, f)).cells (esM es)) = _; rw [hmf]; rfl) ?_) | (refine now_D0 (by simp; omega) ?_) | refine k_call _ (hOf) ?_ | refine k_call _ (hA) ?_ | refine nT_ ?_ | refine aE1 ?_ | refine aE0 ?_ | refine aN1 ?_ | refine aN0 ?_ | refine aD1 ?_ | refine aD0 ?_ | refine nE_ (fun hq => ?_) (fun hq => ?_) | refine nN_ (fun hq => ?_) (fun hq => ?_) | refine nD_ (fun hq => ?_) (fun hq => ?_) | refine rb1 ?_ | refine rb0 ?_ | refine rbx ?_ | refine rix ?_ | (refine And.intro (by first | (exact (List.length_map _).trans hl; done) | (exact hkey; done) | fail) ?_) | refine aS ?_ | fail)
          refine ⟨[.t (I 0)], rfl, ?_⟩
          cases d <;> refine ⟨rfl, rfl, rfl, rfl, congrArg (fun es => some (BX.m true sh3 es none)) hpu, fun n h1 h2 => ?_⟩
          all_goals
            simp only [List.mem_cons, List.not_mem_nil, or_false, not_or] at h2
            show upd (upd (upd (upd (upd (upd _ 5009 _) 5011 _) 5011 _) 5012 _) 5012 _) 2011 _ n = _
            rw [upd_other _ _ _ _ h1, upd_other _ _ _ _ h2.2.2, upd_other _ _ _ _ h2.2.2, upd_other _ _ _ _ h2.2.1, upd_other _ _ _ _ h2.2.1, upd_other _ _ _ _ h2.1]
            rfl
      | some v =>
        obtain ⟨c, t⟩ := v
        rw [h3] at hmf
        obtain ⟨hts, hc0, hc1⟩ := he _ (getM_mem h3)
        dsimp only at hts hc0 hc1
        have hA := t_sAdd t oh hts hofS
        have hpu := mput_esM (s, p, f) (c + 1, sAdd t oh) es
        have hAl := (isS_add hts hofS).1
        show wpC _ _ _ (PostV _ _ _ (Ended _ _ _ _ (.m true sh3 (esM (if c ≥ 1073741824 then ((2 : Int), es) else (0, putM (s, p, f) (c + 1, sAdd t oh) es)).2) none) (I (if c ≥ 1073741824 then ((2 : Int), es) else (0, putM (s, p, f) (c + 1, sAdd t oh) es)).1)))
        generalize sAdd t oh = sa at *
        obtain ⟨a0, a1, a2, a3, rfl⟩ : ∃ a b c d, sa = [a, b, c, d] := by
          match sa, hAl with
          | [a, b, c, d], _ => exact ⟨a, b, c, d, rfl⟩
        obtain ⟨t0, t1, t2, t3, rfl⟩ : ∃ a b c d, t = [a, b, c, d] := by
          match t, hts.1 with
          | [a, b, c, d], _ => exact ⟨a, b, c, d, rfl⟩
        have hw : IntKind.i64.wrap (c + 1) = c + 1 := wrap_id (by omega) (by omega)
        by_cases h4 : c ≥ 1073741824
        · rw [if_pos h4]
          repeat' ((conv => whnf); first | exact trivial | refine k_call _ (hR) ?_ | refine k_call _ (hC) ?_ | (refine nv_ (.tup [tly c [t0, t1, t2, t3], .bool true]) (by show mres _ _ (mfind (nk (s, p, f)).cells (esM es)) = _; rw [hmf]; rfl) ?_) | refine nT_ ?_ | refine aE1 ?_ | refine aE0 ?_ | refine aN1 ?_ | refine aN0 ?_ | refine aD1 ?_ | refine aD0 ?_ | refine nE_ (fun hq => ?_) (fun hq => ?_) | refine nN_ (fun hq => ?_) (fun hq => ?_) | refine nD_ (fun hq => ?_) (fun hq => ?_) | refine rb1 ?_ | refine rb0 ?_ | refine rbx ?_ | refine rix ?_ | (refine And.intro (by first | (exact (List.length_map _).trans hl; done) | (exact hkey; done) | fail) ?_) | refine aS ?_ | fail)
          refine ⟨[.t (I 2)], rfl, ?_⟩
          cases d <;> refine ⟨rfl, rfl, rfl, rfl, rfl, fun n h1 h2 => ?_⟩
          all_goals
            simp only [List.mem_cons, List.not_mem_nil, or_false, not_or] at h2
            show upd (upd (upd (upd (upd _ 5009 _) 5011 _) 5011 _) 5012 _) 5012 _ n = _
            rw [upd_other _ _ _ _ h2.2.2, upd_other _ _ _ _ h2.2.2, upd_other _ _ _ _ h2.2.1, upd_other _ _ _ _ h2.2.1, upd_other _ _ _ _ h2.1]
            rfl
        · rw [if_neg h4]
          repeat' ((conv => whnf); first | exact trivial | refine k_call _ (hR) ?_ | refine k_call _ (hC) ?_ | (refine nv_ (.tup [tly c [t0, t1, t2, t3], .bool true]) (by show mres _ _ (mfind (nk (s, p, f)).cells (esM es)) = _; rw [hmf]; rfl) ?_) | refine k_call _ (hOf) ?_ | refine k_call _ (hA) ?_ | refine nT_ ?_ | refine aE1 ?_ | refine aE0 ?_ | refine aN1 ?_ | refine aN0 ?_ | refine aD1 ?_ | refine aD0 ?_ | refine nE_ (fun hq => ?_) (fun hq => ?_) | refine nN_ (fun hq => ?_) (fun hq => ?_) | refine nD_ (fun hq => ?_) (fun hq => ?_) | refine rb1 ?_ | refine rb0 ?_ | refine rbx ?_ | refine rix ?_ | (refine And.intro (by first | (exact (List.length_map _).trans hl; done) | (exact hkey; done) | fail) ?_) | refine aS ?_ | fail)
          refine ⟨[.t (I 0)], rfl, ?_⟩
          cases d <;> refine ⟨rfl, rfl, rfl, rfl, (congrArg (fun c => some (BX.m true sh3 (mput (nk (s, p, f)) (tly c [a0, a1, a2, a3]) (esM es)) none)) hw).trans (congrArg (fun es => some (BX.m true sh3 es none)) hpu), fun n h1 h2 => ?_⟩
          all_goals
            simp only [List.mem_cons, List.not_mem_nil, or_false, not_or] at h2
            show upd (upd (upd (upd (upd (upd _ 5009 _) 5011 _) 5011 _) 5012 _) 5012 _) 2011 _ n = _
            rw [upd_other _ _ _ _ h1, upd_other _ _ _ _ h2.2.2, upd_other _ _ _ _ h2.2.2, upd_other _ _ _ _ h2.2.1, upd_other _ _ _ _ h2.2.1, upd_other _ _ _ _ h2.1]
            rfl
def lineE (es : List Ent) (k : N3) : List Int := [k.1, k.2.1, k.2.2, ((getM k es).getD (0, S0')).1] ++ ((getM k es).getD (0, S0')).2
def linesE (es : List Ent) : List (List Int) := (srt (es.map (·.1))).map (lineE es)
theorem esM_fst (es : List Ent) : (esM es).map (·.1) = (es.map (·.1)).map nk := by simp [esM, List.map_map]
theorem esM_snd (es : List Ent) : (esM es).map (·.2) = es.map fun e => tly e.2.1 e.2.2 := by simp [esM, List.map_map]
theorem n_SortedE (es : List Ent) (hl : es.length < 2 ^ 40) : NCalls Tryd.prog 70 [.clos 91 [.cptr [.mapd true sh3 ((esM es).map (·.1)) ((esM es).map (·.2))] 0], .clos 52 []] (.slice 3 ((srt (es.map (·.1))).map nk)) := by
  rw [esM_fst, esM_snd]
  exact n_Sorted (es.map (·.1)) (es.map fun e => tly e.2.1 e.2.2) (by simp) (by simpa using hl)
theorem getM_some {k : N3} : ∀ {es : List Ent}, k ∈ es.map (·.1) → ∃ v, getM k es = some v
  | [], h => by simp at h
  | e :: es, h => by
    rw [getM_cons]
    by_cases hk : k = e.1
    · exact ⟨e.2, if_pos hk⟩
    · rw [if_neg hk]
      refine getM_some ?_
      rw [List.map_cons, List.mem_cons] at h
      rcases h with h | h
      · exact absurd h hk
      · exact h
def okX (es : List Ent) : Prop := okE es ∧ ∀ e ∈ es, rightN e.1.1 e.1.2.1 e.1.2.2 = true
theorem okX_get {es : List Ent} (h : okX es) {k : N3} (hk : k ∈ srt (es.map (·.1))) : ∃ c t0 t1 t2 t3, getM k es = some (c, [t0, t1, t2, t3]) ∧ isS [t0, t1, t2, t3] ∧ 0 ≤ c ∧ c ≤ 1073741824 ∧ rightN k.1 k.2.1 k.2.2 = true := by
  obtain ⟨⟨c, s⟩, hv⟩ := getM_some ((srt_perm _).mem_iff.1 hk)
  have hm := getM_mem hv
  obtain ⟨h1, h2, h3⟩ := h.1 _ hm
  obtain ⟨t0, t1, t2, t3, rfl⟩ := four h1.1
  exact ⟨c, t0, t1, t2, t3, hv, h1, h2, h3, h.2 _ hm⟩
theorem rightN_i64 {a b c : Int} (h : rightN a b c = true) : i64 a ∧ i64 b ∧ i64 c := by
  unfold rightN at h
  simp only [Bool.and_eq_true, decide_eq_true_eq] at h
  unfold i64; omega
theorem linesE_8 {es : List Ent} (h : okX es) : ∀ x ∈ linesE es, x.length = 8 ∧ (∀ y ∈ x, i64 y) ∧ 0 ≤ x.getD 3 0 ∧ x.getD 3 0 ≤ 1073741824 ∧ isS (x.drop 4) := fun x hx => by
  obtain ⟨k, hk, rfl⟩ := List.mem_map.1 hx
  obtain ⟨c, t0, t1, t2, t3, hv, hs, h0, h1, hr⟩ := okX_get h hk
  obtain ⟨i1, i2, i3⟩ := rightN_i64 hr
  have e : lineE es k = [k.1, k.2.1, k.2.2, c, t0, t1, t2, t3] := by unfold lineE; rw [hv]; rfl
  rw [e]
  refine ⟨rfl, fun y hy => ?_, h0, h1, hs⟩
  rcases List.mem_append.1 (show y ∈ [k.1, k.2.1, k.2.2, c] ++ [t0, t1, t2, t3] from hy) with hy | hy
  · simp only [List.mem_cons, List.not_mem_nil, or_false] at hy
    rcases hy with rfl | rfl | rfl | rfl
    · exact i1
    · exact i2
    · exact i3
    · unfold i64; omega
  · have := hs.2 y hy
    unfold M32 at this; unfold i64; omega
theorem linesE_len (es : List Ent) : (linesE es).length = es.length := by unfold linesE; rw [List.length_map, (srt_perm _).length_eq, List.length_map]
theorem okR_linesE {n i : Int} {es : List Ent} {pv : List Int} (hn : i64 n) (hi : i64 i) (h : okX es) (hp : pv.length = 16) (hb : areB pv) : okR n i (linesE es) pv := ⟨hn, hi, fun x hx => ⟨(linesE_8 h x hx).1, (linesE_8 h x hx).2.1⟩, hp, hb⟩
def entK (n : N3) (k : Nat) (s : List Int) : List Ent := if k = 0 then [] else [(n, (k : Int), s)]
theorem entK_ok {n : N3} {k : Nat} {s : List Int} (hr : rightN n.1 n.2.1 n.2.2 = true) (hk : k ≤ 1073741824) (hs : isS s) : okX (entK n k s) := by
  unfold entK
  by_cases h : k = 0
  · rw [if_pos h]; exact ⟨fun e h => by simp at h, fun e h => by simp at h⟩
  · rw [if_neg h]
    refine ⟨fun e h => ?_, fun e h => ?_⟩
    all_goals rw [List.mem_singleton.1 h]
    · exact ⟨hs, by dsimp only; omega, by dsimp only; omega⟩
    · exact hr
theorem entK_len (n : N3) (k : Nat) (s : List Int) : (entK n k s).length ≤ 1 := by
  unfold entK; split <;> simp
theorem noteK {n : N3} {k : Nat} {s h : List Int} (hr : rightN n.1 n.2.1 n.2.2 = true) (hh : rightH h = true) (hk : k < 1073741824) (h0 : k = 0 → s = S0') : noteM n h (entK n k s) = (0, entK n (k + 1) (sAdd s (ofH h))) := by
  unfold noteM
  rw [hr, hh, if_pos (show (true && true) = true from rfl)]
  have e1 : entK n (k + 1) (sAdd s (ofH h)) = [(n, ((k + 1 : Nat) : Int), sAdd s (ofH h))] := by unfold entK; rw [if_neg (by omega)]
  rw [e1]
  by_cases hz : k = 0
  · have e2 : entK n k s = [] := by unfold entK; rw [if_pos hz]
    rw [e2, h0 hz, hz]
    rfl
  · have e2 : entK n k s = [(n, (k : Int), s)] := by unfold entK; rw [if_neg hz]
    rw [e2]
    have e3 : getM n [(n, (k : Int), s)] = some ((k : Int), s) := by rw [getM_cons, if_pos rfl]
    rw [e3]
    show (if (k : Int) ≥ 1073741824 then _ else _) = _
    rw [if_neg (by omega), putM_cons, if_pos rfl]
    rfl
theorem linesK {n : N3} {k : Nat} {s : List Int} : linesE (entK n k s) = if k = 0 then [] else [[n.1, n.2.1, n.2.2, (k : Int)] ++ s] := by
  unfold entK
  by_cases h : k = 0
  · rw [if_pos h, if_pos h]
    unfold linesE
    have : srt (([] : List Ent).map (·.1)) = [] := by simp [srt]
    rw [this]; rfl
  · rw [if_neg h, if_neg h]
    unfold linesE
    have : srt ([(n, (k : Int), s)].map (·.1)) = [n] := by simp [srt]
    rw [this]
    show [lineE _ n] = _
    unfold lineE
    rw [getM_cons, if_pos rfl]; rfl
theorem totS_app {s p f : Int} : ∀ {l m : List Rc} {a : Int × List Int}, totS s p f (l ++ m) a = totS s p f m (totS s p f l a)
  | [], _, _ => rfl
  | r :: l, m, a => totS_app (l := l)
theorem totS_K {n : N3} {k : Nat} {s : List Int} {nd i : Int} {pv : List Int} {a : Int × List Int} (ha : isS a.2) (h0 : k = 0 → s = S0') : totS n.1 n.2.1 n.2.2 [⟨nd, i, linesE (entK n k s), pv⟩] a = (a.1 + k, sAdd a.2 s) := by
  show (match (linesE (entK n k s)).find? (isN n.1 n.2.1 n.2.2) with
    | some x => (a.1 + x.getD 3 0, sAdd a.2 (x.drop 4))
    | none => a) = _
  rw [linesK]
  by_cases h : k = 0
  · rw [if_pos h, h0 h, h, sAdd_comm ha.1 rfl, sAdd0 ha]
    show a = _
    obtain ⟨x, y⟩ := a
    simp
  · rw [if_neg h]
    have : isN n.1 n.2.1 n.2.2 ([n.1, n.2.1, n.2.2, (k : Int)] ++ s) = true := by unfold isN; simp
    rw [List.find?_cons, this]
    rfl
end Go.RC
end
section
namespace Go.RC
open Go Go.DL Go.Proofs
set_option maxRecDepth 100000
noncomputable def c18 : DCode := (.seq (.region [oo 10 (.alloc [(Zi 0), (Zi 0), (Zi 0), (Zi 0), (Zi 0), (Zi 0), (Zi 0), (Zi 0)]),oo 11 (.alloc [(Zi 0), (Zi 0), (Zi 0), (Zi 0), (Zi 0), (Zi 0), (Zi 0), (Zi 0)]),oo 12 (.mov (.const (.bool false)))] []) (.seq (.region [oo 30 (.inl 40 [(Kc 0)]),mv 29 30,oo 31 (.ext (tm 29) 0),oo 32 (.ext (tm 29) 1),mv 13 31,mv 14 32] []) (.seq (.region [oo 34 (.inl 40 [(Kc 1)]),mv 33 34,oo 35 (.ext (tm 33) 0),oo 36 (.ext (tm 33) 1),mv 15 35,mv 16 36] []) (.seq (.seq (.region [mv 37 14,oo 38 (.bin .neq (tm 37) (Kc 0)),mv 39 38,mF 40 16 39,oF 41 39 (.bin .neq (tm 40) (Kc 0)),oo 42 (.pick (tm 39) (.const (.bool true)) (tm 41)),mv 43 42,mF 44 13 43,oF 45 43 (.isnil 0 false (tm 44)),oo 46 (.pick (tm 43) (.const (.bool true)) (tm 45)),mv 47 46,mF 48 15 47,oF 49 47 (.isnil 0 false (tm 48)),oo 50 (.pick (tm 47) (.const (.bool true)) (tm 49))] []) (.cond (tm 50) (.seq (.region [oo 51 (.build [(Zi 0), (Zi 0), (Zi 0), (Zi 0), (Zi 0), (Zi 0), (Zi 0), (Zi 0)] []),oo 52 (.build [(Zi 0), (Zi 0), (Zi 0), (Zi 0), (Zi 0), (Zi 0), (Zi 0), (Zi 0)] []),o0 (.store 8 (tm 10) (tm 51)),o0 (.store 8 (tm 11) (tm 52)),oo 12 (.mov (.const (.bool false)))] []) .ret) .skip)) (.seq (.region [oo 17 (.mov (.const .nil)),oo 18 (.mov (.const .nil))] []) (.seq (.region [oo 19 (.mov (.const (.bool true)))] []) (.seq (.seq (.region [mv 53 2,oo 54 (.len (tm 53)),oo 55 (.mov (Kc 0))] []) (.block 0 (.loop (.seq (.region [oo 56 (.bin .lss (tm 55) (tm 54))] []) (.seq (.cond (tm 56) .skip (.exit 0)) (.seq (.block 1 (.seq (.region [oo 57 (.idxL 10 (tm 53) (tm 55)),oo 58 (.load 10 true (tm 57)),oo 21 (.alloc [(Zi 0), (Zi 0), (Zi 0), (Zi 0), (Zi 0), (Zi 0), (Zi 0), (Zi 0), (Zi 0), (Zi 0)]),o0 (.store 10 (tm 21) (tm 58))] []) (.region [mv 59 19,mv 60 59,mT 61 13 60,mT 62 0 60,mT 63 1 60,oT 64 60 (.load 10 true (tm 21)),oT 65 60 (.inl 41 [(tm 61), (Kc 2), (tm 62), (tm 63), (tm 64)]),oT 66 60 (.bin .eql (tm 65) (Kc 0)),oo 67 (.pick (tm 60) (tm 66) (.const (.bool false))),mv 19 67] []))) (.region [oo 68 (.bin .add (tm 55) (Kc 1)),mv 55 68] []))))))) (.seq (.cut (.region [mv 70 13,oo 71 (.inl 42 [(tm 70)]),mv 69 71,oo 72 (.ext (tm 69) 0),oo 73 (.ext (tm 69) 1),oo 22 (.alloc [(Zi 0), (Zi 0), .nil, (Ui 0), (Ui 0), (Ui 0), (Ui 0), (Ui 0), (Ui 0), (Ui 0), (Ui 0), (Ui 0), (Ui 0), (Ui 0), (Ui 0), (Ui 0), (Ui 0), (Ui 0), (Ui 0)]),o0 (.store 19 (tm 22) (tm 72)),mv 23 73] [])) (.seq (.cut (.region [mv 74 17,oo 75 (.load 19 true (tm 22)),oo 76 (.buildF 19 1 [(Zi 0), (Zi 0), .nil, (Ui 0), (Ui 0), (Ui 0), (Ui 0), (Ui 0), (Ui 0), (Ui 0), (Ui 0), (Ui 0), (Ui 0), (Ui 0), (Ui 0), (Ui 0), (Ui 0), (Ui 0), (Ui 0)] [(0, (tm 75))]),oo 77 (.append 44 51 19 56 (tm 74) (tm 76)),mv 17 77] [])) (.seq (.seq (.region [mv 78 3,oo 79 (.len (tm 78)),oo 80 (.mov (Kc 0))] []) (.block 2 (.loop (.seq (.region [oo 81 (.bin .lss (tm 80) (tm 79))] []) (.seq (.cond (tm 81) .skip (.exit 2)) (.seq (.block 3 (.seq (.region [mv 82 80,oo 83 (.idxL 10 (tm 78) (tm 80)),oo 84 (.load 10 true (tm 83)),oo 25 (.alloc [(Zi 0), (Zi 0), (Zi 0), (Zi 0), (Zi 0), (Zi 0), (Zi 0), (Zi 0), (Zi 0), (Zi 0)]),mv 24 82,o0 (.store 10 (tm 25) (tm 84))] []) (.seq (.cut (.region [mv 85 19,mv 86 85,mT 87 15 86,mT 88 0 86,mT 89 1 86,oT 90 86 (.load 10 true (tm 25)),oT 91 86 (.inl 41 [(tm 87), (Kc 1), (tm 88), (tm 89), (tm 90)]),oT 92 86 (.bin .eql (tm 91) (Kc 0)),oo 93 (.pick (tm 86) (tm 92) (.const (.bool false))),mv 19 93] [])) (.seq (.region [mv 94 24,mv 95 4,oo 96 (.bin .rem (tm 94) (tm 95)),mv 97 4,oo 98 (.bin .sub (tm 97) (Kc 1)),oo 99 (.bin .eql (tm 96) (tm 98))] []) (.cond (tm 99) (.seq (.cut (.region [mv 101 15,oo 102 (.inl 42 [(tm 101)]),mv 100 102,oo 103 (.ext (tm 100) 0),oo 104 (.ext (tm 100) 1),oo 26 (.alloc [(Zi 0), (Zi 0), .nil, (Ui 0), (Ui 0), (Ui 0), (Ui 0), (Ui 0), (Ui 0), (Ui 0), (Ui 0), (Ui 0), (Ui 0), (Ui 0), (Ui 0), (Ui 0), (Ui 0), (Ui 0), (Ui 0)]),o0 (.store 19 (tm 26) (tm 103)),mv 27 104] [])) (.seq (.cut (.region [mv 105 18,oo 106 (.load 19 true (tm 26)),oo 107 (.buildF 19 1 [(Zi 0), (Zi 0), .nil, (Ui 0), (Ui 0), (Ui 0), (Ui 0), (Ui 0), (Ui 0), (Ui 0), (Ui 0), (Ui 0), (Ui 0), (Ui 0), (Ui 0), (Ui 0), (Ui 0), (Ui 0), (Ui 0)] [(0, (tm 106))]),oo 108 (.append 44 51 19 56 (tm 105) (tm 107)),mv 18 108] [])) (.region [mv 109 19,mv 110 109,mT 111 27 110,oT 112 110 (.bin .eql (tm 111) (Kc 0)),oo 113 (.pick (tm 110) (tm 112) (.const (.bool false))),mv 19 113] []))) .skip))))) (.region [oo 114 (.bin .add (tm 80) (Kc 1)),mv 80 114] []))))))) (.seq (.cut (.region [mv 116 15,oo 117 (.inl 42 [(tm 116)]),mv 115 117,oo 118 (.ext (tm 115) 0),oo 119 (.ext (tm 115) 1),o0 (.store 19 (tm 22) (tm 118)),mv 28 119] [])) (.seq (.cut (.region [mv 120 18,oo 121 (.load 19 true (tm 22)),oo 122 (.buildF 19 1 [(Zi 0), (Zi 0), .nil, (Ui 0), (Ui 0), (Ui 0), (Ui 0), (Ui 0), (Ui 0), (Ui 0), (Ui 0), (Ui 0), (Ui 0), (Ui 0), (Ui 0), (Ui 0), (Ui 0), (Ui 0), (Ui 0)] [(0, (tm 121))]),oo 123 (.append 44 51 19 56 (tm 120) (tm 122)),mv 18 123] [])) (.seq (.region [mv 124 17,mv 125 0,mv 126 1,oo 127 (.call 32 [(tm 124), (Kc 2), (tm 125), (tm 126)]),mv 128 18,mv 129 0,mv 130 1,oo 131 (.call 32 [(tm 128), (Kc 1), (tm 129), (tm 130)]),mv 132 19,mv 133 132,mT 134 23 133,oT 135 133 (.bin .eql (tm 134) (Kc 0)),oo 136 (.pick (tm 133) (tm 135) (.const (.bool false))),mv 137 136,mT 138 28 137,oT 139 137 (.bin .eql (tm 138) (Kc 0)),oo 140 (.pick (tm 137) (tm 139) (.const (.bool false))),o0 (.store 8 (tm 10) (tm 127)),o0 (.store 8 (tm 11) (tm 131)),mv 12 140] []) .ret)))))))))))))
theorem l18 : (Tryd.f18.body.bind (lowC Tryd.prog 141 [40, 41, 42, 6000012, 6000013, 6000017, 6000019, 6000020, 6000023, 6000024, 8000076, 8000107, 8000122])) = some c18 := by kernel_rfl
noncomputable def c4 : DCode := (.seq (.region [oo 12 (.mov (.const (.bool false)))] []) (.seq (.seq (.region [mv 21 2,oo 22 (.len (tm 21)),oo 23 (.bin .gtr (tm 22) (Kc 40))] []) (.cond (tm 23) (.seq (.region [oo 24 (.call 11 []),mv 12 24] []) .ret) .skip)) (.seq (.region [oo 13 (.mov (.const .nil))] []) (.seq (.seq (.region [mv 25 2,oo 26 (.len (tm 25)),oo 27 (.mov (Kc 0))] []) (.block 0 (.loop (.seq (.region [oo 28 (.bin .lss (tm 27) (tm 26))] []) (.seq (.cond (tm 28) .skip (.exit 0)) (.seq (.block 1 (.seq (.region [mv 29 27,mv 14 29] []) (.seq (.cut (.region [mv 30 14,mv 31 4,oo 32 (.conv .i64 (tm 31)),oo 33 (.bin .add (tm 30) (tm 32)),mv 34 2,oo 35 (.len (tm 34)),oo 36 (.bin .rem (tm 33) (tm 35)),mv 15 36] [])) (.seq (.seq (.region [mv 37 2,mv 38 15,oo 39 (.idxL 10 (tm 37) (tm 38)),oo 40 (.load 10 true (tm 39)),oo 41 (.call 9 [(tm 40)]),oo 42 (.not (tm 41))] []) (.cond (tm 42) (.seq (.region [oo 43 (.call 11 []),mv 12 43] []) .ret) .skip)) (.seq (.region [mv 44 3,mv 45 15,oo 46 (.bin .shr (tm 44) (tm 45)),oo 47 (.bin .and (tm 46) (.const (.int .u64 1))),oo 48 (.bin .eql (tm 47) (.const (.int .u64 1)))] []) (.cond (tm 48) (.region [mv 49 13,mv 50 2,mv 51 15,oo 52 (.idxL 10 (tm 50) (tm 51)),oo 53 (.load 10 true (tm 52)),oo 54 (.buildF 10 1 [(Zi 0), (Zi 0), (Zi 0), (Zi 0), (Zi 0), (Zi 0), (Zi 0), (Zi 0), (Zi 0), (Zi 0)] [(0, (tm 53))]),oo 55 (.append 33 23 10 80 (tm 49) (tm 54)),mv 13 55] []) .skip)))))) (.region [oo 56 (.bin .add (tm 27) (Kc 1)),mv 27 56] []))))))) (.seq (.cut (.region [mv 58 0,oo 59 (.conv .i64 (tm 58)),mv 60 1,oo 61 (.conv .i64 (tm 60)),mv 62 2,mv 63 13,mv 64 5,oo 65 (.conv .i64 (tm 64)),oo 66 (.bin .rem (tm 65) (Kc 7)),oo 67 (.bin .add (tm 66) (Kc 1)),oo 68 (.call 18 [(tm 59), (tm 61), (tm 62), (tm 63), (tm 67)]),mv 57 68,oo 69 (.ext (tm 57) 0),oo 70 (.ext (tm 57) 1),oo 71 (.ext (tm 57) 2),oo 16 (.alloc [(Zi 0), (Zi 0), (Zi 0), (Zi 0), (Zi 0), (Zi 0), (Zi 0), (Zi 0)]),oo 17 (.alloc [(Zi 0), (Zi 0), (Zi 0), (Zi 0), (Zi 0), (Zi 0), (Zi 0), (Zi 0)]),o0 (.store 8 (tm 16) (tm 69)),o0 (.store 8 (tm 17) (tm 70)),mv 18 71] [])) (.seq (.region [oo 73 (.load 8 true (tm 16)),oo 74 (.load 8 true (tm 17)),oo 75 (.call 19 [(tm 73), (tm 74)]),mv 72 75,oo 76 (.ext (tm 72) 0),oo 77 (.ext (tm 72) 1),mv 19 76,mv 20 77] []) (.seq (.region [oo 78 (.call 11 []),mv 79 78,mT 80 18 79,oo 81 (.pick (tm 79) (tm 80) (.const (.bool false))),mv 82 81,mT 83 20 82,oT 84 82 (.bin .eql (tm 83) (Kc 0)),oo 85 (.pick (tm 82) (tm 84) (.const (.bool false))),mv 86 85,mT 87 19 86,mT 88 2 86,oT 89 86 (.len (tm 88)),mT 90 13 86,oT 91 86 (.len (tm 90)),oT 92 86 (.bin .sub (tm 89) (tm 91)),oT 93 86 (.bin .eql (tm 87) (tm 92)),oo 94 (.pick (tm 86) (tm 93) (.const (.bool false))),mv 12 94] []) .ret)))))))
theorem l4 : (Tryd.f4.body.bind (lowC Tryd.prog 95 [6000007, 6000013, 8000054])) = some c4 := by kernel_rfl
end Go.RC
end
section
namespace Go.RC
open Go Go.DL Go.Proofs
set_option maxRecDepth 100000
set_option maxHeartbeats 10000000
abbrev hds (l : List (List Int)) : T := .slice 10 (l.map hd)
theorem eltHd {l : List (List Int)} {j : Nat} {h : List Int} (e : l[j]? = some h) : ((l.map hd)[j]?.getD .nil) = hd h := by
  rw [List.getElem?_map, e]; rfl
theorem hdP (h : List Int) : hd h = T.agg (putL [I 0, I 0, I 0, I 0, I 0, I 0, I 0, I 0, I 0, I 0] 0 10 (h.map I)) := (congrArg T.agg (putL_all (n := 10) rfl)).symm
theorem t_ledgers (p f ev : Int) (sent came : List (List Int)) (hp : rightN 2 p f = true) (hp1 : rightN 1 p f = true) (he0 : 1 ≤ ev) (he1 : ev ≤ 7) (hs : sent.length < 1000) (hc : came.length < 1000) (os : ∀ h ∈ sent, okH h) (oc : ∀ h ∈ came, okH h) :
    DCalls Tryd.prog 18 [I p, I f, hds sent, hds came, I ev] (.tup [ln ([2, p, f, (sent.length : Int)] ++ sumH sent), ln ([1, p, f, (came.length : Int)] ++ sumH came), .bool true]) := by
  refine dcalls_low (rs := [.cell 10 36, .cell 11 36, .tmp 12]) mixed Tryd.func18 l18 rfl rfl rfl (r := [.agg _, .agg _, .bool true]) (Nat.le_of_ble_eq_true rfl) ?_
  repeat' ((conv => whnf); first | exact trivial | refine nT_ ?_ | refine aE1 ?_ | refine aE0 ?_ | refine aN1 ?_ | refine aN0 ?_ | refine aD1 ?_ | refine aD0 ?_ | refine nE_ (fun hq => ?_) (fun hq => ?_) | refine nN_ (fun hq => ?_) (fun hq => ?_) | refine nD_ (fun hq => ?_) (fun hq => ?_) | refine rb1 ?_ | refine rb0 ?_ | refine rbx ?_ | refine rix ?_ | refine aS ?_ | fail)
  refine WC_inl mixed Tryd.func40 l40 rfl rfl (rs := [.tmp 2, .tmp 3]) rfl 1000 (Nat.le_of_ble_eq_true rfl) ?_
  repeat' ((conv => whnf); first | exact trivial | refine nT_ ?_ | refine aE1 ?_ | refine aE0 ?_ | refine aN1 ?_ | refine aN0 ?_ | refine aD1 ?_ | refine aD0 ?_ | refine nE_ (fun hq => ?_) (fun hq => ?_) | refine nN_ (fun hq => ?_) (fun hq => ?_) | refine nD_ (fun hq => ?_) (fun hq => ?_) | refine rb1 ?_ | refine rb0 ?_ | refine rbx ?_ | refine rix ?_ | refine aS ?_ | refine ⟨_, rfl, ?_⟩ | fail)
  refine WC_inl mixed Tryd.func40 l40 rfl rfl (rs := [.tmp 2, .tmp 3]) rfl 2000 (Nat.le_of_ble_eq_true rfl) ?_
  repeat' ((conv => whnf); first | exact trivial | refine nT_ ?_ | refine aE1 ?_ | refine aE0 ?_ | refine aN1 ?_ | refine aN0 ?_ | refine aD1 ?_ | refine aD0 ?_ | refine nE_ (fun hq => ?_) (fun hq => ?_) | refine nN_ (fun hq => ?_) (fun hq => ?_) | refine nD_ (fun hq => ?_) (fun hq => ?_) | refine rb1 ?_ | refine rb0 ?_ | refine rbx ?_ | refine rix ?_ | refine aS ?_ | refine ⟨_, rfl, ?_⟩ | fail)
  refine wpC_loopE 0 (α := Nat) (β := Unit) (fun k => {sl := [(0, .t (I p)), (1, .t (I f)), (4, .t (I ev)), (10, .ptr 10 0), (11, .ptr 11 0), (3, .t (hds came)), (13, .ptr 1013 0), (15, .ptr 2013 0), (17, .t .nil), (18, .t .nil), (19, .t (.bool true)), (53, .t (hds sent)), (54, .t (I sent.length)), (55, .t (I k))], bx := [(10, .d 8 [I 0, I 0, I 0, I 0, I 0, I 0, I 0, I 0]), (11, .d 8 [I 0, I 0, I 0, I 0, I 0, I 0, I 0, I 0]), (1013, .v (lgC (.t (I 0)) (.t (I 0)) (pvV zero16))), (1011, .m true sh3 (esM (entK (2, p, f) k (sumH (sent.take k)))) none), (2013, .v (lgC2 (.t (I 1)) (.t (I 0)) (pvV zero16))), (2011, .m true sh3 (esM ([])) none)]})
    (fun k => k ≤ sent.length) (fun k => sent.length - k) (fun _ => {sl := [(0, .t (I p)), (1, .t (I f)), (4, .t (I ev)), (10, .ptr 10 0), (11, .ptr 11 0), (3, .t (hds came)), (13, .ptr 1013 0), (15, .ptr 2013 0), (17, .t .nil), (18, .t .nil), (19, .t (.bool true))], bx := [(10, .d 8 [I 0, I 0, I 0, I 0, I 0, I 0, I 0, I 0]), (11, .d 8 [I 0, I 0, I 0, I 0, I 0, I 0, I 0, I 0]), (1013, .v (lgC (.t (I 0)) (.t (I 0)) (pvV zero16))), (1011, .m true sh3 (esM (entK (2, p, f) sent.length (sumH sent))) none), (2013, .v (lgC2 (.t (I 1)) (.t (I 0)) (pvV zero16))), (2011, .m true sh3 (esM ([])) none)]}) (fun _ => True) 0 (by omega) ?_ ?_ ?_
  · repeat' (first | ((refine leI ?_; simp; done)) | exact trivial | exact LeV.same _ | exact LeB.same _ | exact rfl | exact fun _ _ _ => trivial | exact lI | exact LeV.nil _ _ _ | exact lB | refine leBd ?_ | refine leOwn ?_ | refine And.intro ?_ ?_)
  · rintro k hk
    rcases Nat.lt_or_ge k sent.length with h2 | h2
    · have hh := os sent[k] (List.getElem_mem h2)
      have hst := sumH_take h2
      have hke : sent[k]? = some sent[k] := List.getElem?_eq_getElem h2
      generalize sent[k] = h at hh hst hke
      have hrh := (rightH_ok hh.1).2 hh
      have hz : k = 0 → sumH (sent.take k) = S0' := fun e => by subst e; rfl
      have hNt := noteK (n := (2, p, f)) (k := k) (s := sumH (sent.take k)) (h := h) hp hrh (by omega) hz
      rw [← hst] at hNt
      have hX := entK_ok (n := (2, p, f)) (k := k) (s := sumH (sent.take k)) hp (by omega) (sumH_isS _)
      have hXl := entK_len (2, p, f) k (sumH (sent.take k))
      have hM := mc_Note (.t (I 0)) (.t (I 0)) (pvV zero16) _ hX.1 (by omega) 2 p f h hh.1
      rw [hNt, hdP h] at hM
      generalize entK (2, p, f) k (sumH (sent.take k)) = es at *
      repeat' ((conv => whnf); first | exact trivial | refine now_D1 (by omega) ?_ | (refine nv_ (hd h) (by first | (exact eltHd (by rw [Int.toNat_natCast]; exact hke); done) | fail) ?_) | refine nT_ ?_ | refine aE1 ?_ | refine aE0 ?_ | refine aN1 ?_ | refine aN0 ?_ | refine aD1 ?_ | refine aD0 ?_ | refine nE_ (fun hq => ?_) (fun hq => ?_) | refine nN_ (fun hq => ?_) (fun hq => ?_) | refine nD_ (fun hq => ?_) (fun hq => ?_) | refine rb1 ?_ | refine rb0 ?_ | refine rbx ?_ | refine rix ?_ | (refine And.intro (by first | ((simp; omega); done) | (exact ⟨(List.length_map _).trans hh.1, Nat.le_of_ble_eq_true rfl⟩; done) | (exact (List.length_map _).trans hh.1; done) | fail) ?_) | refine aS ?_ | fail)
      refine hM _ _ _ ?_ ?_ ?_
      · intro q hq
        simp only [List.mem_cons, List.not_mem_nil, or_false] at hq
        rcases hq with rfl | rfl <;> rfl
      · intro n hn
        simp only [List.mem_cons, List.not_mem_nil, or_false] at hn
        rcases hn with rfl | rfl | rfl <;> rfl
      repeat' ((conv => whnf); first | exact trivial | refine nT_ ?_ | refine aE1 ?_ | refine aE0 ?_ | refine aN1 ?_ | refine aN0 ?_ | refine aD1 ?_ | refine aD0 ?_ | refine nE_ (fun hq => ?_) (fun hq => ?_) | refine nN_ (fun hq => ?_) (fun hq => ?_) | refine nD_ (fun hq => ?_) (fun hq => ?_) | refine rb1 ?_ | refine rb0 ?_ | refine rbx ?_ | refine rix ?_ | refine aS ?_ | fail)
      exact ⟨k + 1, by omega, by omega, by repeat' (first | exact trivial | exact LeV.same _ | exact LeB.same _ | exact rfl | exact fun _ _ _ => trivial | exact lI | exact LeV.nil _ _ _ | exact lB | refine leBd ?_ | refine leOwn ?_ | refine And.intro ?_ ?_)⟩
    · have : k = sent.length := by omega
      subst this
      repeat' ((conv => whnf); first | exact trivial | refine now_D0 (by omega) ?_ | refine nT_ ?_ | refine aE1 ?_ | refine aE0 ?_ | refine aN1 ?_ | refine aN0 ?_ | refine aD1 ?_ | refine aD0 ?_ | refine nE_ (fun hq => ?_) (fun hq => ?_) | refine nN_ (fun hq => ?_) (fun hq => ?_) | refine nD_ (fun hq => ?_) (fun hq => ?_) | refine rb1 ?_ | refine rb0 ?_ | refine rbx ?_ | refine rix ?_ | refine aS ?_ | fail)
      exact ⟨(), trivial, by repeat' (first | ((rw [List.take_length]; exact LeB.same _)) | exact trivial | exact LeV.same _ | exact LeB.same _ | exact rfl | exact fun _ _ _ => trivial | exact lI | exact LeV.nil _ _ _ | exact lB | refine leBd ?_ | refine leOwn ?_ | refine And.intro ?_ ?_)⟩
  rintro - -
  repeat' ((conv => whnf); first | exact trivial | refine nT_ ?_ | refine aE1 ?_ | refine aE0 ?_ | refine aN1 ?_ | refine aN0 ?_ | refine aD1 ?_ | refine aD0 ?_ | refine nE_ (fun hq => ?_) (fun hq => ?_) | refine nN_ (fun hq => ?_) (fun hq => ?_) | refine nD_ (fun hq => ?_) (fun hq => ?_) | refine rb1 ?_ | refine rb0 ?_ | refine rbx ?_ | refine rix ?_ | refine aS ?_ | fail)
  have hz : sent.length = 0 → sumH sent = S0' := fun e => by rw [List.length_eq_zero_iff.1 e]; rfl
  have hE := entK_ok (n := (2, p, f)) (k := sent.length) (s := sumH sent) hp (by omega) (sumH_isS _)
  have hEl := entK_len (2, p, f) sent.length (sumH sent)
  have tA := fun a ha => @totS_K (2, p, f) sent.length (sumH sent) 0 0 zero16 a ha hz
  generalize entK (2, p, f) sent.length (sumH sent) = es at *
  have hR := okR_linesE (n := 0) (i := 0) (pv := zero16) (by unfold i64; decide) (by unfold i64; decide) hE rfl (by unfold areB; decide)
  have hRl : (linesE es).length < 2 ^ 20 := by rw [linesE_len]; omega
  have hLA := linesE_8 hE
  have hDg := t_Digest 0 0 (linesE es) zero16 hR hRl
  have hDb := dgR_areB 0 0 (linesE es) zero16
  obtain ⟨d0, d1, d2, d3, d4, d5, d6, d7, d8, d9, d10, d11, d12, d13, d14, d15, hD16⟩ := ex16 (dgR_len 0 0 (linesE es) zero16)
  rw [hD16] at hDg hDb
  clear hD16
  refine wpC_cut (β := Unit) (fun _ => {sl := [(0, .t (I p)), (1, .t (I f)), (4, .t (I ev)), (10, .ptr 10 0), (11, .ptr 11 0), (3, .t (hds came)), (15, .ptr 2013 0), (17, .t .nil), (18, .t .nil), (19, .t (.bool true)), (22, .ptr 22 0), (23, .t (I 0))], bx := [(10, .d 8 [I 0, I 0, I 0, I 0, I 0, I 0, I 0, I 0]), (11, .d 8 [I 0, I 0, I 0, I 0, I 0, I 0, I 0, I 0]), (22, .d 19 (rcC 0 0 (linesE es) zero16)), (2013, .v (lgC2 (.t (I 1)) (.t (I 0)) (pvV zero16))), (2011, .m true sh3 (esM ([])) none)]}) (fun _ => True) ?_ fun _ _ => ?_
  · -- the first ledger ends
    obtain ⟨ks, hksd⟩ : ∃ ks, ks = srt (es.map (·.1)) := ⟨_, rfl⟩
    have hNS := n_SortedE es (by omega)
    rw [← hksd] at hNS
    have hls : linesE es = ks.map (lineE es) := by rw [hksd]; rfl
    have hkl : ks.length < 2 ^ 20 := by rw [hksd, (srt_perm _).length_eq, List.length_map]; omega
    repeat' ((conv => whnf); first | exact trivial | refine nT_ ?_ | refine aE1 ?_ | refine aE0 ?_ | refine aN1 ?_ | refine aN0 ?_ | refine aD1 ?_ | refine aD0 ?_ | refine nE_ (fun hq => ?_) (fun hq => ?_) | refine nN_ (fun hq => ?_) (fun hq => ?_) | refine nD_ (fun hq => ?_) (fun hq => ?_) | refine rb1 ?_ | refine rb0 ?_ | refine rbx ?_ | refine rix ?_ | refine aS ?_ | fail)
    refine WC_inlP mixed Tryd.func42 l42 rfl rfl (rs := [.cell 2 51, .tmp 3]) rfl 6000 (Nat.le_of_ble_eq_true rfl) ?_
    repeat' ((conv => whnf); first | exact trivial | refine now_D0 (by omega) ?_ | refine nT_ ?_ | refine aE1 ?_ | refine aE0 ?_ | refine aN1 ?_ | refine aN0 ?_ | refine aD1 ?_ | refine aD0 ?_ | refine nE_ (fun hq => ?_) (fun hq => ?_) | refine nN_ (fun hq => ?_) (fun hq => ?_) | refine nD_ (fun hq => ?_) (fun hq => ?_) | refine rb1 ?_ | refine rb0 ?_ | refine rbx ?_ | refine rix ?_ | refine aS ?_ | fail)
    refine WC_inl mixed Tryd.func71 l71 rfl rfl (rs := [.tmp 2]) rfl 8000 (Nat.le_of_ble_eq_true rfl) ?_
    repeat' ((conv => whnf); first | exact trivial | refine nT_ ?_ | refine aE1 ?_ | refine aE0 ?_ | refine aN1 ?_ | refine aN0 ?_ | refine aD1 ?_ | refine aD0 ?_ | refine nE_ (fun hq => ?_) (fun hq => ?_) | refine nN_ (fun hq => ?_) (fun hq => ?_) | refine nD_ (fun hq => ?_) (fun hq => ?_) | refine rb1 ?_ | refine rb0 ?_ | refine rbx ?_ | refine rix ?_ | refine aS ?_ | refine ⟨_, rfl, ?_⟩ | fail)
    refine WC_new rfl hNS ?_
    repeat' ((conv => whnf); first | exact trivial | refine nT_ ?_ | refine aE1 ?_ | refine aE0 ?_ | refine aN1 ?_ | refine aN0 ?_ | refine aD1 ?_ | refine aD0 ?_ | refine nE_ (fun hq => ?_) (fun hq => ?_) | refine nN_ (fun hq => ?_) (fun hq => ?_) | refine nD_ (fun hq => ?_) (fun hq => ?_) | refine rb1 ?_ | refine rb0 ?_ | refine rbx ?_ | refine rix ?_ | refine aS ?_ | fail)
    refine wpC_loopE 0 (α := Nat) (β := Unit) (fun kk => {sl := [(0, .ptr 1013 0), (2, .ptr 6002 0), (4, .ptr 6004 0), (32, .t (.slice 3 (ks.map nk))), (33, .t (I ks.length)), (34, .t (I kk))], bx := [(10, .d 8 [I 0, I 0, I 0, I 0, I 0, I 0, I 0, I 0]), (11, .d 8 [I 0, I 0, I 0, I 0, I 0, I 0, I 0, I 0]), (2013, .v (lgC2 (.t (I 1)) (.t (I 0)) (pvV zero16))), (2011, .m true sh3 (esM ([])) none), (1013, .v (lgC (.t (I (0))) (.t (I (0))) (pvV zero16))), (1011, .m true sh3 (esM es) none), (6002, .d 19 z19), (6004, .v (.t (I (0)) :: .t (I (0)) :: .own 6058 36 8 (((ks.take kk).map (lineE es)).map ln) :: pvV zero16))], gh := [(0, [(0, .t (I p)), (1, .t (I f)), (4, .t (I ev)), (10, .ptr 10 0), (11, .ptr 11 0), (3, .t (hds came)), (13, .ptr 1013 0), (15, .ptr 2013 0), (17, .t .nil), (18, .t .nil), (19, .t (.bool true))])], off := 6000})
      (fun kk => kk ≤ ks.length) (fun kk => ks.length - kk) (fun _ => {sl := [(0, .ptr 1013 0), (2, .ptr 6002 0), (4, .ptr 6004 0)], bx := [(10, .d 8 [I 0, I 0, I 0, I 0, I 0, I 0, I 0, I 0]), (11, .d 8 [I 0, I 0, I 0, I 0, I 0, I 0, I 0, I 0]), (2013, .v (lgC2 (.t (I 1)) (.t (I 0)) (pvV zero16))), (2011, .m true sh3 (esM ([])) none), (1013, .v (lgC (.t (I (0))) (.t (I (0))) (pvV zero16))), (1011, .m true sh3 (esM es) none), (6002, .d 19 z19), (6004, .v (.t (I (0)) :: .t (I (0)) :: .t (linesT (linesE es)) :: pvV zero16))], gh := [(0, [(0, .t (I p)), (1, .t (I f)), (4, .t (I ev)), (10, .ptr 10 0), (11, .ptr 11 0), (3, .t (hds came)), (13, .ptr 1013 0), (15, .ptr 2013 0), (17, .t .nil), (18, .t .nil), (19, .t (.bool true))])], off := 6000}) (fun _ => True) 0 (by omega) ?_ ?_ ?_
    · repeat' (first | (refine LeB.dv _ _ _ ?_) | exact trivial | exact LeV.same _ | exact LeB.same _ | exact rfl | exact fun _ _ _ => trivial | exact lI | exact LeV.nil _ _ _ | exact lB | refine leBd ?_ | refine leOwn ?_ | refine And.intro ?_ ?_)
    · rintro kk hk
      rcases Nat.lt_or_ge kk ks.length with h2 | h2
      · have hke : ks[kk]? = some ks[kk] := List.getElem?_eq_getElem h2
        obtain ⟨cc, t0, t1, t2, t3, hv, hs4, c0, c1, -⟩ := okX_get hE (k := ks[kk]) (by rw [← hksd]; exact List.getElem_mem h2)
        have hmf := mfind_esM ks[kk] es
        rw [hv] at hmf
        have hst : (ks.take (kk + 1)).map (lineE es) = (ks.take kk).map (lineE es) ++ [[ks[kk].1, ks[kk].2.1, ks[kk].2.2, cc, t0, t1, t2, t3]] := by
          rw [List.take_succ_eq_append_getElem h2, List.map_append]
          have : lineE es ks[kk] = [ks[kk].1, ks[kk].2.1, ks[kk].2.2, cc, t0, t1, t2, t3] := by unfold lineE; rw [hv]; rfl
          rw [← this]; rfl
        generalize ks[kk] = key at hke hmf hst
        obtain ⟨a, b, c⟩ := key
        have hkey : keyOk true sh3 (nk (a, b, c)) := ⟨rfl, rfl, rfl, rfl, trivial⟩
        have hel : (ks.map nk)[((kk : Int)).toNat]?.getD .nil = nk (a, b, c) := by
          rw [Int.toNat_natCast, List.getElem?_map, hke]; rfl
        repeat' ((conv => whnf); first | exact trivial | refine now_D1 (by omega) ?_ | (refine nv_ (nk (a, b, c)) (by first | (exact hel; done) | fail) ?_) | (refine nv_ (tly cc [t0, t1, t2, t3]) (by show mres _ _ (mfind (nk (a, b, c)).cells (esM es)) = _; rw [hmf]; rfl) ?_) | refine nT_ ?_ | refine aE1 ?_ | refine aE0 ?_ | refine aN1 ?_ | refine aN0 ?_ | refine aD1 ?_ | refine aD0 ?_ | refine nE_ (fun hq => ?_) (fun hq => ?_) | refine nN_ (fun hq => ?_) (fun hq => ?_) | refine nD_ (fun hq => ?_) (fun hq => ?_) | refine rb1 ?_ | refine rb0 ?_ | refine rbx ?_ | refine rix ?_ | (refine And.intro (by first | ((simp; omega); done) | (exact hkey; done) | fail) ?_) | refine aS ?_ | fail)
        refine ⟨kk + 1, by omega, by omega, ?_⟩
        repeat' (first | (refine LeB.v _ _ ?_) | ((refine leOwn ?_; rw [hst, List.map_append]; rfl)) | exact trivial | exact LeV.same _ | exact LeB.same _ | exact rfl | exact fun _ _ _ => trivial | exact lI | exact LeV.nil _ _ _ | exact lB | refine leBd ?_ | refine leOwn ?_ | refine And.intro ?_ ?_)
      · have : kk = ks.length := by omega
        subst this
        repeat' ((conv => whnf); first | exact trivial | refine now_D0 (by omega) ?_ | refine nT_ ?_ | refine aE1 ?_ | refine aE0 ?_ | refine aN1 ?_ | refine aN0 ?_ | refine aD1 ?_ | refine aD0 ?_ | refine nE_ (fun hq => ?_) (fun hq => ?_) | refine nN_ (fun hq => ?_) (fun hq => ?_) | refine nD_ (fun hq => ?_) (fun hq => ?_) | refine rb1 ?_ | refine rb0 ?_ | refine rbx ?_ | refine rix ?_ | refine aS ?_ | fail)
        exact ⟨(), trivial, by repeat' (first | (refine LeB.v _ _ ?_) | ((rw [hls, List.take_length]; exact LeV.data _ _ _ _)) | exact trivial | exact LeV.same _ | exact LeB.same _ | exact rfl | exact fun _ _ _ => trivial | exact lI | exact LeV.nil _ _ _ | exact lB | refine leBd ?_ | refine leOwn ?_ | refine And.intro ?_ ?_)⟩
    rintro - -
    clear hksd hls hkl hNS
    repeat' ((conv => whnf); first | exact trivial | refine k_call _ (hDg) ?_ | refine nT_ ?_ | refine aE1 ?_ | refine aE0 ?_ | refine aN1 ?_ | refine aN0 ?_ | refine aD1 ?_ | refine aD0 ?_ | refine nE_ (fun hq => ?_) (fun hq => ?_) | refine nN_ (fun hq => ?_) (fun hq => ?_) | refine nD_ (fun hq => ?_) (fun hq => ?_) | refine rb1 ?_ | refine rb0 ?_ | refine rbx ?_ | refine rix ?_ | (refine And.intro (by first | (exact ⟨rfl, Nat.le_of_ble_eq_true rfl⟩; done) | fail) ?_) | refine aS ?_ | fail)
    refine ⟨[.t _, .t (I 0)], ⟨⟨rfl, trivial⟩, rfl, trivial⟩, ?_⟩
    repeat' ((conv => whnf); first | exact trivial | refine nT_ ?_ | refine aE1 ?_ | refine aE0 ?_ | refine aN1 ?_ | refine aN0 ?_ | refine aD1 ?_ | refine aD0 ?_ | refine nE_ (fun hq => ?_) (fun hq => ?_) | refine nN_ (fun hq => ?_) (fun hq => ?_) | refine nD_ (fun hq => ?_) (fun hq => ?_) | refine rb1 ?_ | refine rb0 ?_ | refine rbx ?_ | refine rix ?_ | refine aS ?_ | fail)
    exact ⟨(), trivial, by repeat' (first | ((refine leBd ?_; rfl)) | exact trivial | exact LeV.same _ | exact LeB.same _ | exact rfl | exact fun _ _ _ => trivial | exact lI | exact LeV.nil _ _ _ | exact lB | refine leBd ?_ | refine leOwn ?_ | refine And.intro ?_ ?_)⟩
  have hlA : (rcC 0 0 (linesE es) zero16).length = 19 := rfl
  have hokA : Rc.ok ⟨0, 0, linesE es, zero16⟩ := ⟨hR, hRl⟩
  generalize linesE es = lsA at *
  repeat' ((conv => whnf); first | exact trivial | refine nT_ ?_ | refine aE1 ?_ | refine aE0 ?_ | refine aN1 ?_ | refine aN0 ?_ | refine aD1 ?_ | refine aD0 ?_ | refine nE_ (fun hq => ?_) (fun hq => ?_) | refine nN_ (fun hq => ?_) (fun hq => ?_) | refine nD_ (fun hq => ?_) (fun hq => ?_) | refine rb1 ?_ | refine rb0 ?_ | refine rbx ?_ | refine rix ?_ | refine aS ?_ | fail)
  refine wpC_cut (β := Unit) (fun _ => {sl := [(0, .t (I p)), (1, .t (I f)), (4, .t (I ev)), (10, .ptr 10 0), (11, .ptr 11 0), (3, .t (hds came)), (15, .ptr 2013 0), (17, .t (rcs [⟨0, 0, lsA, zero16⟩])), (18, .t .nil), (19, .t (.bool true)), (22, .ptr 22 0), (23, .t (I 0))], bx := [(10, .d 8 [I 0, I 0, I 0, I 0, I 0, I 0, I 0, I 0]), (11, .d 8 [I 0, I 0, I 0, I 0, I 0, I 0, I 0, I 0]), (22, .d 19 (rcC 0 0 lsA zero16)), (2013, .v (lgC2 (.t (I 1)) (.t (I 0)) (pvV zero16))), (2011, .m true sh3 (esM ([])) none)]}) (fun _ => True) ?_ fun _ _ => ?_
  · repeat' ((conv => whnf); first | exact trivial | refine nT_ ?_ | refine aE1 ?_ | refine aE0 ?_ | refine aN1 ?_ | refine aN0 ?_ | refine aD1 ?_ | refine aD0 ?_ | refine nE_ (fun hq => ?_) (fun hq => ?_) | refine nN_ (fun hq => ?_) (fun hq => ?_) | refine nD_ (fun hq => ?_) (fun hq => ?_) | refine rb1 ?_ | refine rb0 ?_ | refine rbx ?_ | refine rix ?_ | refine aS ?_ | fail)
    exact ⟨(), trivial, by repeat' (first | (exact LeV.data _ _ _ _) | exact trivial | exact LeV.same _ | exact LeB.same _ | exact rfl | exact fun _ _ _ => trivial | exact lI | exact LeV.nil _ _ _ | exact lB | refine leBd ?_ | refine leOwn ?_ | refine And.intro ?_ ?_)⟩
  clear hE hEl hR hRl hDg hDb
  repeat' ((conv => whnf); first | exact trivial | refine nT_ ?_ | refine aE1 ?_ | refine aE0 ?_ | refine aN1 ?_ | refine aN0 ?_ | refine aD1 ?_ | refine aD0 ?_ | refine nE_ (fun hq => ?_) (fun hq => ?_) | refine nN_ (fun hq => ?_) (fun hq => ?_) | refine nD_ (fun hq => ?_) (fun hq => ?_) | refine rb1 ?_ | refine rb0 ?_ | refine rbx ?_ | refine rix ?_ | refine aS ?_ | fail)
  refine wpC_loopE 2 (α := Nat × Nat × List Int × Nat × List Int × List Rc) (β := Nat × List Int × Nat × List Int × List Rc) (fun q => {sl := [(0, .t (I p)), (1, .t (I f)), (4, .t (I ev)), (10, .ptr 10 0), (11, .ptr 11 0), (15, .ptr 2013 0), (17, .t (rcs [⟨0, 0, lsA, zero16⟩])), (18, .own 108 51 19 (q.2.2.2.2.2.map rc)), (19, .t (.bool true)), (22, .ptr 22 0), (23, .t (I 0)), (78, .t (hds came)), (79, .t (I came.length)), (80, .t (I q.1))], bx := [(10, .d 8 [I 0, I 0, I 0, I 0, I 0, I 0, I 0, I 0]), (11, .d 8 [I 0, I 0, I 0, I 0, I 0, I 0, I 0, I 0]), (22, .d 19 (rcC 0 0 lsA zero16)), (2013, .v (lgC2 (.t (I 1)) (.t (I q.2.2.2.1)) (pvV q.2.2.2.2.1))), (2011, .m true sh3 (esM (entK (1, p, f) q.2.1 q.2.2.1)) none)]})
    (fun q => q.1 ≤ came.length ∧ q.2.1 ≤ q.1 ∧ isS q.2.2.1 ∧ (q.2.1 = 0 → q.2.2.1 = S0') ∧ q.2.2.2.1 ≤ q.1 ∧ q.2.2.2.2.1.length = 16 ∧ areB q.2.2.2.2.1 ∧ q.2.2.2.2.2.length ≤ q.1 ∧ (∀ r ∈ q.2.2.2.2.2, r.ok) ∧ sumsOk q.2.2.2.2.2 ∧ isS (totS 1 p f q.2.2.2.2.2 (0, S0')).2 ∧ (totS 1 p f q.2.2.2.2.2 (0, S0')).1 + q.2.1 = q.1 ∧ sAdd (totS 1 p f q.2.2.2.2.2 (0, S0')).2 q.2.2.1 = sumH (came.take q.1)) (fun q => came.length - q.1)
    (fun q => {sl := [(0, .t (I p)), (1, .t (I f)), (4, .t (I ev)), (10, .ptr 10 0), (11, .ptr 11 0), (15, .ptr 2013 0), (17, .t (rcs [⟨0, 0, lsA, zero16⟩])), (18, .own 108 51 19 (q.2.2.2.2.map rc)), (19, .t (.bool true)), (22, .ptr 22 0), (23, .t (I 0))], bx := [(10, .d 8 [I 0, I 0, I 0, I 0, I 0, I 0, I 0, I 0]), (11, .d 8 [I 0, I 0, I 0, I 0, I 0, I 0, I 0, I 0]), (22, .d 19 (rcC 0 0 lsA zero16)), (2013, .v (lgC2 (.t (I 1)) (.t (I q.2.2.1)) (pvV q.2.2.2.1))), (2011, .m true sh3 (esM (entK (1, p, f) q.1 q.2.1)) none)]})
    (fun q => q.1 ≤ came.length ∧ isS q.2.1 ∧ (q.1 = 0 → q.2.1 = S0') ∧ q.2.2.1 ≤ came.length ∧ q.2.2.2.1.length = 16 ∧ areB q.2.2.2.1 ∧ q.2.2.2.2.length ≤ came.length ∧ (∀ r ∈ q.2.2.2.2, r.ok) ∧ sumsOk q.2.2.2.2 ∧ isS (totS 1 p f q.2.2.2.2 (0, S0')).2 ∧ (totS 1 p f q.2.2.2.2 (0, S0')).1 + q.1 = came.length ∧ sAdd (totS 1 p f q.2.2.2.2 (0, S0')).2 q.2.1 = sumH came)
    (0, 0, S0', 0, zero16, []) ⟨by simp, by simp, isS0, fun _ => rfl, by simp, rfl, (by unfold areB; decide), by simp, by simp, (fun r h => by simp at h), isS0, rfl, rfl⟩ ?_ ?_ ?_
  · repeat' (first | ((refine leI ?_; simp; done)) | exact trivial | exact LeV.same _ | exact LeB.same _ | exact rfl | exact fun _ _ _ => trivial | exact lI | exact LeV.nil _ _ _ | exact lB | refine leBd ?_ | refine leOwn ?_ | refine And.intro ?_ ?_)
  · rintro ⟨k, kc, sc, i, pv, y⟩ ⟨hk, hkc, hsc, hsz, hi, hpl, hpb, hyl, hyo, hys, hyS, hyc, hya⟩
    dsimp only at hk hkc hsc hsz hi hpl hpb hyl hyo hys hyS hyc hya
    obtain ⟨p0, p1, p2, p3, p4, p5, p6, p7, p8, p9, p10, p11, p12, p13, p14, p15, rfl⟩ := ex16 hpl
    rcases Nat.lt_or_ge k came.length with h2 | h2
    · have hh := oc came[k] (List.getElem_mem h2)
      have hst := sumH_take h2
      have hke : came[k]? = some came[k] := List.getElem?_eq_getElem h2
      generalize came[k] = h at hh hst hke
      have hrh := (rightH_ok hh.1).2 hh
      have hNt := noteK (n := (1, p, f)) (k := kc) (s := sc) (h := h) hp1 hrh (by omega) hsz
      have hX := entK_ok (n := (1, p, f)) (k := kc) (s := sc) hp1 (by omega) hsc
      have hXl := entK_len (1, p, f) kc sc
      have hM := mc_Note2 (.t (I 1)) (.t (I i)) (pvV [p0, p1, p2, p3, p4, p5, p6, p7, p8, p9, p10, p11, p12, p13, p14, p15]) _ hX.1 (by omega) 1 p f h hh.1
      rw [hNt, hdP h] at hM
      have hsc' : isS (sAdd sc (ofH h)) := isS_add hsc (ofH_isS h)
      have hya' : sAdd (totS 1 p f y (0, S0')).2 (sAdd sc (ofH h)) = sumH (came.take (k + 1)) := by rw [hst, ← hya, sAdd_assoc hyS.1 hsc.1 (ofH_isS h).1]
      generalize sAdd sc (ofH h) = sc' at *
      clear hst hya hNt hsz
      generalize entK (1, p, f) kc sc = es0 at *
      have hE := entK_ok (n := (1, p, f)) (k := kc + 1) (s := sc') hp1 (by omega) hsc'
      have hEl := entK_len (1, p, f) (kc + 1) sc'
      have tB := fun a ha => @totS_K (1, p, f) (kc + 1) sc' 1 i [p0, p1, p2, p3, p4, p5, p6, p7, p8, p9, p10, p11, p12, p13, p14, p15] a ha (fun h => by omega)
      have hes : ∃ es, es = entK (1, p, f) (kc + 1) sc' := ⟨_, rfl⟩
      obtain ⟨es, hes⟩ := hes
      rw [← hes] at hE hEl tB hM
      repeat' ((conv => whnf); first | exact trivial | refine now_D1 (by omega) ?_ | (refine nv_ (hd h) (by first | (exact eltHd (by rw [Int.toNat_natCast]; exact hke); done) | fail) ?_) | refine nT_ ?_ | refine aE1 ?_ | refine aE0 ?_ | refine aN1 ?_ | refine aN0 ?_ | refine aD1 ?_ | refine aD0 ?_ | refine nE_ (fun hq => ?_) (fun hq => ?_) | refine nN_ (fun hq => ?_) (fun hq => ?_) | refine nD_ (fun hq => ?_) (fun hq => ?_) | refine rb1 ?_ | refine rb0 ?_ | refine rbx ?_ | refine rix ?_ | (refine And.intro (by first | ((simp; omega); done) | (exact ⟨(List.length_map _).trans hh.1, Nat.le_of_ble_eq_true rfl⟩; done) | (exact (List.length_map _).trans hh.1; done) | fail) ?_) | refine aS ?_ | fail)
      refine wpC_cut (β := Unit) (fun _ => {sl := [(0, .t (I p)), (1, .t (I f)), (4, .t (I ev)), (10, .ptr 10 0), (11, .ptr 11 0), (15, .ptr 2013 0), (17, .t (rcs [⟨0, 0, lsA, zero16⟩])), (18, .own 108 51 19 (y.map rc)), (19, .t (.bool true)), (22, .ptr 22 0), (23, .t (I 0)), (24, .t (I k)), (78, .t (hds came)), (79, .t (I came.length)), (80, .t (I k))], bx := [(10, .d 8 [I 0, I 0, I 0, I 0, I 0, I 0, I 0, I 0]), (11, .d 8 [I 0, I 0, I 0, I 0, I 0, I 0, I 0, I 0]), (22, .d 19 (rcC 0 0 lsA zero16)), (2013, .v (lgC2 (.t (I 1)) (.t (I i)) (pvV [p0, p1, p2, p3, p4, p5, p6, p7, p8, p9, p10, p11, p12, p13, p14, p15]))), (2011, .m true sh3 (esM (es)) none)]}) (fun _ => True) ?_ fun _ _ => ?_
      · repeat' ((conv => whnf); first | exact trivial | refine nT_ ?_ | refine aE1 ?_ | refine aE0 ?_ | refine aN1 ?_ | refine aN0 ?_ | refine aD1 ?_ | refine aD0 ?_ | refine nE_ (fun hq => ?_) (fun hq => ?_) | refine nN_ (fun hq => ?_) (fun hq => ?_) | refine nD_ (fun hq => ?_) (fun hq => ?_) | refine rb1 ?_ | refine rb0 ?_ | refine rbx ?_ | refine rix ?_ | refine aS ?_ | fail)
        refine hM _ _ _ ?_ ?_ ?_
        · intro q hq
          simp only [List.mem_cons, List.not_mem_nil, or_false] at hq
          rcases hq with rfl | rfl <;> rfl
        · intro n hn
          simp only [List.mem_cons, List.not_mem_nil, or_false] at hn
          rcases hn with rfl | rfl | rfl <;> rfl
        repeat' ((conv => whnf); first | exact trivial | refine nT_ ?_ | refine aE1 ?_ | refine aE0 ?_ | refine aN1 ?_ | refine aN0 ?_ | refine aD1 ?_ | refine aD0 ?_ | refine nE_ (fun hq => ?_) (fun hq => ?_) | refine nN_ (fun hq => ?_) (fun hq => ?_) | refine nD_ (fun hq => ?_) (fun hq => ?_) | refine rb1 ?_ | refine rb0 ?_ | refine rbx ?_ | refine rix ?_ | refine aS ?_ | fail)
        exact ⟨(), trivial, by repeat' (first | exact trivial | exact LeV.same _ | exact LeB.same _ | exact rfl | exact fun _ _ _ => trivial | exact lI | exact LeV.nil _ _ _ | exact lB | refine leBd ?_ | refine leOwn ?_ | refine And.intro ?_ ?_)⟩
      by_cases hev : (k : Int).tmod ev = IntKind.i64.wrap (ev - 1)
      case neg =>
        repeat' ((conv => whnf); first | exact trivial | refine now_E0 hev ?_ | refine nT_ ?_ | refine aE1 ?_ | refine aE0 ?_ | refine aN1 ?_ | refine aN0 ?_ | refine aD1 ?_ | refine aD0 ?_ | refine nE_ (fun hq => ?_) (fun hq => ?_) | refine nN_ (fun hq => ?_) (fun hq => ?_) | refine nD_ (fun hq => ?_) (fun hq => ?_) | refine rb1 ?_ | refine rb0 ?_ | refine rbx ?_ | refine rix ?_ | refine aS ?_ | fail)
        refine ⟨(k + 1, kc + 1, sc', i, [p0, p1, p2, p3, p4, p5, p6, p7, p8, p9, p10, p11, p12, p13, p14, p15], y), ⟨by dsimp only; omega, by dsimp only; omega, hsc', fun h => by simp at h, by dsimp only; omega, hpl, hpb, by dsimp only; omega, hyo, hys, hyS, by dsimp only; omega, hya'⟩, by dsimp only; omega, ?_⟩
        subst hes
        repeat' (first | exact trivial | exact LeV.same _ | exact LeB.same _ | exact rfl | exact fun _ _ _ => trivial | exact lI | exact LeV.nil _ _ _ | exact lB | refine leBd ?_ | refine leOwn ?_ | refine And.intro ?_ ?_)
      have hR := okR_linesE (n := 1) (i := (i : Int)) (pv := [p0, p1, p2, p3, p4, p5, p6, p7, p8, p9, p10, p11, p12, p13, p14, p15]) (by unfold i64; decide) (i64_nat (by omega)) hE hpl hpb
      have hRl : (linesE es).length < 2 ^ 20 := by rw [linesE_len]; omega
      have hLA := linesE_8 hE
      have hDg := t_Digest 1 i (linesE es) [p0, p1, p2, p3, p4, p5, p6, p7, p8, p9, p10, p11, p12, p13, p14, p15] hR hRl
      have hDb := dgR_areB 1 i (linesE es) [p0, p1, p2, p3, p4, p5, p6, p7, p8, p9, p10, p11, p12, p13, p14, p15]
      obtain ⟨d0, d1, d2, d3, d4, d5, d6, d7, d8, d9, d10, d11, d12, d13, d14, d15, hD16⟩ := ex16 (dgR_len 1 i (linesE es) [p0, p1, p2, p3, p4, p5, p6, p7, p8, p9, p10, p11, p12, p13, p14, p15])
      rw [hD16] at hDg hDb
      clear hD16
      repeat' ((conv => whnf); first | exact trivial | refine now_E1 hev ?_ | refine nT_ ?_ | refine aE1 ?_ | refine aE0 ?_ | refine aN1 ?_ | refine aN0 ?_ | refine aD1 ?_ | refine aD0 ?_ | refine nE_ (fun hq => ?_) (fun hq => ?_) | refine nN_ (fun hq => ?_) (fun hq => ?_) | refine nD_ (fun hq => ?_) (fun hq => ?_) | refine rb1 ?_ | refine rb0 ?_ | refine rbx ?_ | refine rix ?_ | refine aS ?_ | fail)
      refine wpC_cut (β := Unit) (fun _ => {sl := [(0, .t (I p)), (1, .t (I f)), (4, .t (I ev)), (10, .ptr 10 0), (11, .ptr 11 0), (15, .ptr 2013 0), (17, .t (rcs [⟨0, 0, lsA, zero16⟩])), (18, .own 108 51 19 (y.map rc)), (19, .t (.bool true)), (22, .ptr 22 0), (23, .t (I 0)), (26, .ptr 26 0), (27, .t (I 0)), (78, .t (hds came)), (79, .t (I came.length)), (80, .t (I k))], bx := [(10, .d 8 [I 0, I 0, I 0, I 0, I 0, I 0, I 0, I 0]), (11, .d 8 [I 0, I 0, I 0, I 0, I 0, I 0, I 0, I 0]), (22, .d 19 (rcC 0 0 lsA zero16)), (26, .d 19 (rcC 1 i (linesE es) [p0, p1, p2, p3, p4, p5, p6, p7, p8, p9, p10, p11, p12, p13, p14, p15])), (2013, .v (lgC2 (.t (I 1)) (.t (I (i + 1 : Nat))) (pvV [d0, d1, d2, d3, d4, d5, d6, d7, d8, d9, d10, d11, d12, d13, d14, d15]))), (2011, .m true sh3 (esM ([])) none)]}) (fun _ => True) ?_ fun _ _ => ?_
      · -- the second ledger ends an interval
        obtain ⟨ks, hksd⟩ : ∃ ks, ks = srt (es.map (·.1)) := ⟨_, rfl⟩
        have hNS := n_SortedE es (by omega)
        rw [← hksd] at hNS
        have hls : linesE es = ks.map (lineE es) := by rw [hksd]; rfl
        have hkl : ks.length < 2 ^ 20 := by rw [hksd, (srt_perm _).length_eq, List.length_map]; omega
        repeat' ((conv => whnf); first | exact trivial | refine nT_ ?_ | refine aE1 ?_ | refine aE0 ?_ | refine aN1 ?_ | refine aN0 ?_ | refine aD1 ?_ | refine aD0 ?_ | refine nE_ (fun hq => ?_) (fun hq => ?_) | refine nN_ (fun hq => ?_) (fun hq => ?_) | refine nD_ (fun hq => ?_) (fun hq => ?_) | refine rb1 ?_ | refine rb0 ?_ | refine rbx ?_ | refine rix ?_ | refine aS ?_ | fail)
        refine WC_inlP mixed Tryd.func42 l42 rfl rfl (rs := [.cell 2 51, .tmp 3]) rfl 6000 (Nat.le_of_ble_eq_true rfl) ?_
        repeat' ((conv => whnf); first | exact trivial | refine now_D0 (by omega) ?_ | refine nT_ ?_ | refine aE1 ?_ | refine aE0 ?_ | refine aN1 ?_ | refine aN0 ?_ | refine aD1 ?_ | refine aD0 ?_ | refine nE_ (fun hq => ?_) (fun hq => ?_) | refine nN_ (fun hq => ?_) (fun hq => ?_) | refine nD_ (fun hq => ?_) (fun hq => ?_) | refine rb1 ?_ | refine rb0 ?_ | refine rbx ?_ | refine rix ?_ | refine aS ?_ | fail)
        refine WC_inl mixed Tryd.func71 l71 rfl rfl (rs := [.tmp 2]) rfl 8000 (Nat.le_of_ble_eq_true rfl) ?_
        repeat' ((conv => whnf); first | exact trivial | refine nT_ ?_ | refine aE1 ?_ | refine aE0 ?_ | refine aN1 ?_ | refine aN0 ?_ | refine aD1 ?_ | refine aD0 ?_ | refine nE_ (fun hq => ?_) (fun hq => ?_) | refine nN_ (fun hq => ?_) (fun hq => ?_) | refine nD_ (fun hq => ?_) (fun hq => ?_) | refine rb1 ?_ | refine rb0 ?_ | refine rbx ?_ | refine rix ?_ | refine aS ?_ | refine ⟨_, rfl, ?_⟩ | fail)
        refine WC_new rfl hNS ?_
        repeat' ((conv => whnf); first | exact trivial | refine nT_ ?_ | refine aE1 ?_ | refine aE0 ?_ | refine aN1 ?_ | refine aN0 ?_ | refine aD1 ?_ | refine aD0 ?_ | refine nE_ (fun hq => ?_) (fun hq => ?_) | refine nN_ (fun hq => ?_) (fun hq => ?_) | refine nD_ (fun hq => ?_) (fun hq => ?_) | refine rb1 ?_ | refine rb0 ?_ | refine rbx ?_ | refine rix ?_ | refine aS ?_ | fail)
        refine wpC_loopE 0 (α := Nat) (β := Unit) (fun kk => {sl := [(0, .ptr 2013 0), (2, .ptr 6002 0), (4, .ptr 6004 0), (32, .t (.slice 3 (ks.map nk))), (33, .t (I ks.length)), (34, .t (I kk))], bx := [(10, .d 8 [I 0, I 0, I 0, I 0, I 0, I 0, I 0, I 0]), (11, .d 8 [I 0, I 0, I 0, I 0, I 0, I 0, I 0, I 0]), (22, .d 19 (rcC 0 0 lsA zero16)), (2013, .v (lgC2 (.t (I (1))) (.t (I (i))) (pvV [p0, p1, p2, p3, p4, p5, p6, p7, p8, p9, p10, p11, p12, p13, p14, p15]))), (2011, .m true sh3 (esM es) none), (6002, .d 19 z19), (6004, .v (.t (I (1)) :: .t (I (i)) :: .own 6058 36 8 (((ks.take kk).map (lineE es)).map ln) :: pvV [p0, p1, p2, p3, p4, p5, p6, p7, p8, p9, p10, p11, p12, p13, p14, p15]))], gh := [(0, [(0, .t (I p)), (1, .t (I f)), (4, .t (I ev)), (10, .ptr 10 0), (11, .ptr 11 0), (15, .ptr 2013 0), (17, .t (rcs [⟨0, 0, lsA, zero16⟩])), (18, .own 108 51 19 (y.map rc)), (19, .t (.bool true)), (22, .ptr 22 0), (23, .t (I 0)), (78, .t (hds came)), (79, .t (I came.length)), (80, .t (I k))])], off := 6000})
          (fun kk => kk ≤ ks.length) (fun kk => ks.length - kk) (fun _ => {sl := [(0, .ptr 2013 0), (2, .ptr 6002 0), (4, .ptr 6004 0)], bx := [(10, .d 8 [I 0, I 0, I 0, I 0, I 0, I 0, I 0, I 0]), (11, .d 8 [I 0, I 0, I 0, I 0, I 0, I 0, I 0, I 0]), (22, .d 19 (rcC 0 0 lsA zero16)), (2013, .v (lgC2 (.t (I (1))) (.t (I (i))) (pvV [p0, p1, p2, p3, p4, p5, p6, p7, p8, p9, p10, p11, p12, p13, p14, p15]))), (2011, .m true sh3 (esM es) none), (6002, .d 19 z19), (6004, .v (.t (I (1)) :: .t (I (i)) :: .t (linesT (linesE es)) :: pvV [p0, p1, p2, p3, p4, p5, p6, p7, p8, p9, p10, p11, p12, p13, p14, p15]))], gh := [(0, [(0, .t (I p)), (1, .t (I f)), (4, .t (I ev)), (10, .ptr 10 0), (11, .ptr 11 0), (15, .ptr 2013 0), (17, .t (rcs [⟨0, 0, lsA, zero16⟩])), (18, .own 108 51 19 (y.map rc)), (19, .t (.bool true)), (22, .ptr 22 0), (23, .t (I 0)), (78, .t (hds came)), (79, .t (I came.length)), (80, .t (I k))])], off := 6000}) (fun _ => True) 0 (by omega) ?_ ?_ ?_
        · repeat' (first | (refine LeB.dv _ _ _ ?_) | exact trivial | exact LeV.same _ | exact LeB.same _ | exact rfl | exact fun _ _ _ => trivial | exact lI | exact LeV.nil _ _ _ | exact lB | refine leBd ?_ | refine leOwn ?_ | refine And.intro ?_ ?_)
        · rintro kk hk
          rcases Nat.lt_or_ge kk ks.length with h2 | h2
          · have hke : ks[kk]? = some ks[kk] := List.getElem?_eq_getElem h2
            obtain ⟨cc, t0, t1, t2, t3, hv, hs4, c0, c1, -⟩ := okX_get hE (k := ks[kk]) (by rw [← hksd]; exact List.getElem_mem h2)
            have hmf := mfind_esM ks[kk] es
            rw [hv] at hmf
            have hst : (ks.take (kk + 1)).map (lineE es) = (ks.take kk).map (lineE es) ++ [[ks[kk].1, ks[kk].2.1, ks[kk].2.2, cc, t0, t1, t2, t3]] := by
              rw [List.take_succ_eq_append_getElem h2, List.map_append]
              have : lineE es ks[kk] = [ks[kk].1, ks[kk].2.1, ks[kk].2.2, cc, t0, t1, t2, t3] := by unfold lineE; rw [hv]; rfl
              rw [← this]; rfl
            generalize ks[kk] = key at hke hmf hst
            obtain ⟨a, b, c⟩ := key
            have hkey : keyOk true sh3 (nk (a, b, c)) := ⟨rfl, rfl, rfl, rfl, trivial⟩
            have hel : (ks.map nk)[((kk : Int)).toNat]?.getD .nil = nk (a, b, c) := by
              rw [Int.toNat_natCast, List.getElem?_map, hke]; rfl
            repeat' ((conv => whnf); first | exact trivial | refine now_D1 (by omega) ?_ | (refine nv_ (nk (a, b, c)) (by first | (exact hel; done) | fail) ?_) | (refine nv_ (tly cc [t0, t1, t2, t3]) (by show mres _ _ (mfind (nk (a, b, c)).cells (esM es)) = _; rw [hmf]; rfl) ?_) | refine nT_ ?_ | refine aE1 ?_ | refine aE0 ?_ | refine aN1 ?_ | refine aN0 ?_ | refine aD1 ?_ | refine aD0 ?_ | refine nE_ (fun hq => ?_) (fun hq => ?_) | refine nN_ (fun hq => ?_) (fun hq => ?_) | refine nD_ (fun hq => ?_) (fun hq => ?_) | refine rb1 ?_ | refine rb0 ?_ | refine rbx ?_ | refine rix ?_ | (refine And.intro (by first | ((simp; omega); done) | (exact hkey; done) | fail) ?_) | refine aS ?_ | fail)
            refine ⟨kk + 1, by omega, by omega, ?_⟩
            repeat' (first | (refine LeB.v _ _ ?_) | ((refine leOwn ?_; rw [hst, List.map_append]; rfl)) | exact trivial | exact LeV.same _ | exact LeB.same _ | exact rfl | exact fun _ _ _ => trivial | exact lI | exact LeV.nil _ _ _ | exact lB | refine leBd ?_ | refine leOwn ?_ | refine And.intro ?_ ?_)
          · have : kk = ks.length := by omega
            subst this
            repeat' ((conv => whnf); first | exact trivial | refine now_D0 (by omega) ?_ | refine nT_ ?_ | refine aE1 ?_ | refine aE0 ?_ | refine aN1 ?_ | refine aN0 ?_ | refine aD1 ?_ | refine aD0 ?_ | refine nE_ (fun hq => ?_) (fun hq => ?_) | refine nN_ (fun hq => ?_) (fun hq => ?_) | refine nD_ (fun hq => ?_) (fun hq => ?_) | refine rb1 ?_ | refine rb0 ?_ | refine rbx ?_ | refine rix ?_ | refine aS ?_ | fail)
            exact ⟨(), trivial, by repeat' (first | (refine LeB.v _ _ ?_) | ((rw [hls, List.take_length]; exact LeV.data _ _ _ _)) | exact trivial | exact LeV.same _ | exact LeB.same _ | exact rfl | exact fun _ _ _ => trivial | exact lI | exact LeV.nil _ _ _ | exact lB | refine leBd ?_ | refine leOwn ?_ | refine And.intro ?_ ?_)⟩
        rintro - -
        clear hksd hls hkl hNS
        repeat' ((conv => whnf); first | exact trivial | refine k_call _ (hDg) ?_ | refine nT_ ?_ | refine aE1 ?_ | refine aE0 ?_ | refine aN1 ?_ | refine aN0 ?_ | refine aD1 ?_ | refine aD0 ?_ | refine nE_ (fun hq => ?_) (fun hq => ?_) | refine nN_ (fun hq => ?_) (fun hq => ?_) | refine nD_ (fun hq => ?_) (fun hq => ?_) | refine rb1 ?_ | refine rb0 ?_ | refine rbx ?_ | refine rix ?_ | (refine And.intro (by first | (exact ⟨rfl, Nat.le_of_ble_eq_true rfl⟩; done) | fail) ?_) | refine aS ?_ | fail)
        refine ⟨[.t _, .t (I 0)], ⟨⟨rfl, trivial⟩, rfl, trivial⟩, ?_⟩
        repeat' ((conv => whnf); first | exact trivial | refine nT_ ?_ | refine aE1 ?_ | refine aE0 ?_ | refine aN1 ?_ | refine aN0 ?_ | refine aD1 ?_ | refine aD0 ?_ | refine nE_ (fun hq => ?_) (fun hq => ?_) | refine nN_ (fun hq => ?_) (fun hq => ?_) | refine nD_ (fun hq => ?_) (fun hq => ?_) | refine rb1 ?_ | refine rb0 ?_ | refine rbx ?_ | refine rix ?_ | refine aS ?_ | fail)
        have hw : IntKind.i64.wrap ((i : Int) + 1) = ((i + 1 : Nat) : Int) := by rw [wrap_id (by omega) (by omega)]; rfl
        exact ⟨(), trivial, by repeat' (first | ((refine leBd ?_; rfl)) | (refine LeB.v _ _ ?_) | ((refine leI ?_; exact hw.symm)) | exact trivial | exact LeV.same _ | exact LeB.same _ | exact rfl | exact fun _ _ _ => trivial | exact lI | exact LeV.nil _ _ _ | exact lB | refine leBd ?_ | refine leOwn ?_ | refine And.intro ?_ ?_)⟩
      have hokB : Rc.ok ⟨1, i, linesE es, [p0, p1, p2, p3, p4, p5, p6, p7, p8, p9, p10, p11, p12, p13, p14, p15]⟩ := ⟨hR, hRl⟩
      generalize linesE es = lsB at *
      refine wpC_cut (β := Unit) (fun _ => {sl := [(0, .t (I p)), (1, .t (I f)), (4, .t (I ev)), (10, .ptr 10 0), (11, .ptr 11 0), (15, .ptr 2013 0), (17, .t (rcs [⟨0, 0, lsA, zero16⟩])), (18, .own 108 51 19 ((y ++ [(⟨1, i, lsB, [p0, p1, p2, p3, p4, p5, p6, p7, p8, p9, p10, p11, p12, p13, p14, p15]⟩ : Rc)]).map rc)), (19, .t (.bool true)), (22, .ptr 22 0), (23, .t (I 0)), (27, .t (I 0)), (78, .t (hds came)), (79, .t (I came.length)), (80, .t (I k))], bx := [(10, .d 8 [I 0, I 0, I 0, I 0, I 0, I 0, I 0, I 0]), (11, .d 8 [I 0, I 0, I 0, I 0, I 0, I 0, I 0, I 0]), (22, .d 19 (rcC 0 0 lsA zero16)), (2013, .v (lgC2 (.t (I 1)) (.t (I (i + 1 : Nat))) (pvV [d0, d1, d2, d3, d4, d5, d6, d7, d8, d9, d10, d11, d12, d13, d14, d15]))), (2011, .m true sh3 (esM ([])) none)]}) (fun _ => True) ?_ fun _ _ => ?_
      · repeat' ((conv => whnf); first | exact trivial | refine nT_ ?_ | refine aE1 ?_ | refine aE0 ?_ | refine aN1 ?_ | refine aN0 ?_ | refine aD1 ?_ | refine aD0 ?_ | refine nE_ (fun hq => ?_) (fun hq => ?_) | refine nN_ (fun hq => ?_) (fun hq => ?_) | refine nD_ (fun hq => ?_) (fun hq => ?_) | refine rb1 ?_ | refine rb0 ?_ | refine rbx ?_ | refine rix ?_ | (refine And.intro (by first | ((simp; omega); done) | fail) ?_) | refine aS ?_ | fail)
        exact ⟨(), trivial, by repeat' (first | ((refine leOwn ?_; rw [List.map_append]; rfl)) | exact trivial | exact LeV.same _ | exact LeB.same _ | exact rfl | exact fun _ _ _ => trivial | exact lI | exact LeV.nil _ _ _ | exact lB | refine leBd ?_ | refine leOwn ?_ | refine And.intro ?_ ?_)⟩
      repeat' ((conv => whnf); first | exact trivial | refine nT_ ?_ | refine aE1 ?_ | refine aE0 ?_ | refine aN1 ?_ | refine aN0 ?_ | refine aD1 ?_ | refine aD0 ?_ | refine nE_ (fun hq => ?_) (fun hq => ?_) | refine nN_ (fun hq => ?_) (fun hq => ?_) | refine nD_ (fun hq => ?_) (fun hq => ?_) | refine rb1 ?_ | refine rb0 ?_ | refine rbx ?_ | refine rix ?_ | refine aS ?_ | fail)
      have hap : totS 1 p f (y ++ [(⟨1, i, lsB, [p0, p1, p2, p3, p4, p5, p6, p7, p8, p9, p10, p11, p12, p13, p14, p15]⟩ : Rc)]) (0, S0') = ((totS 1 p f y (0, S0')).1 + (kc + 1 : Nat), sAdd (totS 1 p f y (0, S0')).2 sc') := by rw [totS_app]; exact tB _ hyS
      refine ⟨(k + 1, 0, S0', i + 1, [d0, d1, d2, d3, d4, d5, d6, d7, d8, d9, d10, d11, d12, d13, d14, d15], y ++ [(⟨1, i, lsB, [p0, p1, p2, p3, p4, p5, p6, p7, p8, p9, p10, p11, p12, p13, p14, p15]⟩ : Rc)]), ⟨by dsimp only; omega, by simp, isS0, fun _ => rfl, by dsimp only; omega, rfl, hDb, by simp; omega, fun r hr => ?_, fun r hr => ?_, by rw [hap]; exact isS_add hyS hsc', by rw [hap]; dsimp only; omega, by rw [hap]; dsimp only; rw [sAdd_comm (isS_add hyS hsc').1 rfl, sAdd0 (isS_add hyS hsc')]; exact hya'⟩, by dsimp only; omega, ?_⟩
      · rcases List.mem_append.1 hr with hr | hr
        · exact hyo r hr
        · rw [List.mem_singleton.1 hr]; exact hokB
      · rcases List.mem_append.1 hr with hr | hr
        · exact hys r hr
        · rw [List.mem_singleton.1 hr]; exact fun x hx => (hLA x hx).2.2
      repeat' (first | exact trivial | exact LeV.same _ | exact LeB.same _ | exact rfl | exact fun _ _ _ => trivial | exact lI | exact LeV.nil _ _ _ | exact lB | refine leBd ?_ | refine leOwn ?_ | refine And.intro ?_ ?_)
    · have : k = came.length := by omega
      subst this
      rw [List.take_length] at hya
      repeat' ((conv => whnf); first | exact trivial | refine now_D0 (by omega) ?_ | refine nT_ ?_ | refine aE1 ?_ | refine aE0 ?_ | refine aN1 ?_ | refine aN0 ?_ | refine aD1 ?_ | refine aD0 ?_ | refine nE_ (fun hq => ?_) (fun hq => ?_) | refine nN_ (fun hq => ?_) (fun hq => ?_) | refine nD_ (fun hq => ?_) (fun hq => ?_) | refine rb1 ?_ | refine rb0 ?_ | refine rbx ?_ | refine rix ?_ | refine aS ?_ | fail)
      exact ⟨(kc, sc, i, [p0, p1, p2, p3, p4, p5, p6, p7, p8, p9, p10, p11, p12, p13, p14, p15], y), ⟨hkc, hsc, hsz, hi, hpl, hpb, hyl, hyo, hys, hyS, hyc, hya⟩, by repeat' (first | exact trivial | exact LeV.same _ | exact LeB.same _ | exact rfl | exact fun _ _ _ => trivial | exact lI | exact LeV.nil _ _ _ | exact lB | refine leBd ?_ | refine leOwn ?_ | refine And.intro ?_ ?_)⟩
  rintro ⟨kc, sc, i, pv, y⟩ ⟨hkc, hsc, hsz, hi, hpl, hpb, hyl, hyo, hys, hyS, hyc, hya⟩
  dsimp only at hkc hsc hsz hi hpl hpb hyl hyo hys hyS hyc hya
  have hLA' := hLA
  have hE := entK_ok (n := (1, p, f)) (k := kc) (s := sc) hp1 (by omega) hsc
  have hEl := entK_len (1, p, f) kc sc
  have tB := fun a ha => @totS_K (1, p, f) kc sc 1 i pv a ha hsz
  generalize entK (1, p, f) kc sc = es at *
  have hR := okR_linesE (n := 1) (i := (i : Int)) (pv := pv) (by unfold i64; decide) (i64_nat (by omega)) hE hpl hpb
  have hRl : (linesE es).length < 2 ^ 20 := by rw [linesE_len]; omega
  have hLB := linesE_8 hE
  have hDg := t_Digest 1 i (linesE es) pv hR hRl
  obtain ⟨d0, d1, d2, d3, d4, d5, d6, d7, d8, d9, d10, d11, d12, d13, d14, d15, hD16⟩ := ex16 (dgR_len 1 i (linesE es) pv)
  rw [hD16] at hDg
  clear hD16
  obtain ⟨p0, p1, p2, p3, p4, p5, p6, p7, p8, p9, p10, p11, p12, p13, p14, p15, rfl⟩ := ex16 hpl
  refine wpC_cut (β := Unit) (fun _ => {sl := [(0, .t (I p)), (1, .t (I f)), (4, .t (I ev)), (10, .ptr 10 0), (11, .ptr 11 0), (17, .t (rcs [⟨0, 0, lsA, zero16⟩])), (18, .own 108 51 19 (y.map rc)), (19, .t (.bool true)), (22, .ptr 22 0), (23, .t (I 0)), (28, .t (I 0))], bx := [(10, .d 8 [I 0, I 0, I 0, I 0, I 0, I 0, I 0, I 0]), (11, .d 8 [I 0, I 0, I 0, I 0, I 0, I 0, I 0, I 0]), (22, .d 19 (rcC 1 i (linesE es) [p0, p1, p2, p3, p4, p5, p6, p7, p8, p9, p10, p11, p12, p13, p14, p15]))]}) (fun _ => True) ?_ fun _ _ => ?_
  · -- the second ledger ends
    obtain ⟨ks, hksd⟩ : ∃ ks, ks = srt (es.map (·.1)) := ⟨_, rfl⟩
    have hNS := n_SortedE es (by omega)
    rw [← hksd] at hNS
    have hls : linesE es = ks.map (lineE es) := by rw [hksd]; rfl
    have hkl : ks.length < 2 ^ 20 := by rw [hksd, (srt_perm _).length_eq, List.length_map]; omega
    repeat' ((conv => whnf); first | exact trivial | refine nT_ ?_ | refine aE1 ?_ | refine aE0 ?_ | refine aN1 ?_ | refine aN0 ?_ | refine aD1 ?_ | refine aD0 ?_ | refine nE_ (fun hq => ?_) (fun hq => ?_) | refine nN_ (fun hq => ?_) (fun hq => ?_) | refine nD_ (fun hq => ?_) (fun hq => ?_) | refine rb1 ?_ | refine rb0 ?_ | refine rbx ?_ | refine rix ?_ | refine aS ?_ | fail)
    refine WC_inlP mixed Tryd.func42 l42 rfl rfl (rs := [.cell 2 51, .tmp 3]) rfl 6000 (Nat.le_of_ble_eq_true rfl) ?_
    repeat' ((conv => whnf); first | exact trivial | refine now_D0 (by omega) ?_ | refine nT_ ?_ | refine aE1 ?_ | refine aE0 ?_ | refine aN1 ?_ | refine aN0 ?_ | refine aD1 ?_ | refine aD0 ?_ | refine nE_ (fun hq => ?_) (fun hq => ?_) | refine nN_ (fun hq => ?_) (fun hq => ?_) | refine nD_ (fun hq => ?_) (fun hq => ?_) | refine rb1 ?_ | refine rb0 ?_ | refine rbx ?_ | refine rix ?_ | refine aS ?_ | fail)
    refine WC_inl mixed Tryd.func71 l71 rfl rfl (rs := [.tmp 2]) rfl 8000 (Nat.le_of_ble_eq_true rfl) ?_
    repeat' ((conv => whnf); first | exact trivial | refine nT_ ?_ | refine aE1 ?_ | refine aE0 ?_ | refine aN1 ?_ | refine aN0 ?_ | refine aD1 ?_ | refine aD0 ?_ | refine nE_ (fun hq => ?_) (fun hq => ?_) | refine nN_ (fun hq => ?_) (fun hq => ?_) | refine nD_ (fun hq => ?_) (fun hq => ?_) | refine rb1 ?_ | refine rb0 ?_ | refine rbx ?_ | refine rix ?_ | refine aS ?_ | refine ⟨_, rfl, ?_⟩ | fail)
    refine WC_new rfl hNS ?_
    repeat' ((conv => whnf); first | exact trivial | refine nT_ ?_ | refine aE1 ?_ | refine aE0 ?_ | refine aN1 ?_ | refine aN0 ?_ | refine aD1 ?_ | refine aD0 ?_ | refine nE_ (fun hq => ?_) (fun hq => ?_) | refine nN_ (fun hq => ?_) (fun hq => ?_) | refine nD_ (fun hq => ?_) (fun hq => ?_) | refine rb1 ?_ | refine rb0 ?_ | refine rbx ?_ | refine rix ?_ | refine aS ?_ | fail)
    refine wpC_loopE 0 (α := Nat) (β := Unit) (fun kk => {sl := [(0, .ptr 2013 0), (2, .ptr 6002 0), (4, .ptr 6004 0), (32, .t (.slice 3 (ks.map nk))), (33, .t (I ks.length)), (34, .t (I kk))], bx := [(10, .d 8 [I 0, I 0, I 0, I 0, I 0, I 0, I 0, I 0]), (11, .d 8 [I 0, I 0, I 0, I 0, I 0, I 0, I 0, I 0]), (22, .d 19 (rcC 0 0 lsA zero16)), (2013, .v (lgC2 (.t (I (1))) (.t (I (i))) (pvV [p0, p1, p2, p3, p4, p5, p6, p7, p8, p9, p10, p11, p12, p13, p14, p15]))), (2011, .m true sh3 (esM es) none), (6002, .d 19 z19), (6004, .v (.t (I (1)) :: .t (I (i)) :: .own 6058 36 8 (((ks.take kk).map (lineE es)).map ln) :: pvV [p0, p1, p2, p3, p4, p5, p6, p7, p8, p9, p10, p11, p12, p13, p14, p15]))], gh := [(0, [(0, .t (I p)), (1, .t (I f)), (4, .t (I ev)), (10, .ptr 10 0), (11, .ptr 11 0), (17, .t (rcs [⟨0, 0, lsA, zero16⟩])), (18, .own 108 51 19 (y.map rc)), (19, .t (.bool true)), (22, .ptr 22 0), (23, .t (I 0))])], off := 6000})
      (fun kk => kk ≤ ks.length) (fun kk => ks.length - kk) (fun _ => {sl := [(0, .ptr 2013 0), (2, .ptr 6002 0), (4, .ptr 6004 0)], bx := [(10, .d 8 [I 0, I 0, I 0, I 0, I 0, I 0, I 0, I 0]), (11, .d 8 [I 0, I 0, I 0, I 0, I 0, I 0, I 0, I 0]), (22, .d 19 (rcC 0 0 lsA zero16)), (2013, .v (lgC2 (.t (I (1))) (.t (I (i))) (pvV [p0, p1, p2, p3, p4, p5, p6, p7, p8, p9, p10, p11, p12, p13, p14, p15]))), (2011, .m true sh3 (esM es) none), (6002, .d 19 z19), (6004, .v (.t (I (1)) :: .t (I (i)) :: .t (linesT (linesE es)) :: pvV [p0, p1, p2, p3, p4, p5, p6, p7, p8, p9, p10, p11, p12, p13, p14, p15]))], gh := [(0, [(0, .t (I p)), (1, .t (I f)), (4, .t (I ev)), (10, .ptr 10 0), (11, .ptr 11 0), (17, .t (rcs [⟨0, 0, lsA, zero16⟩])), (18, .own 108 51 19 (y.map rc)), (19, .t (.bool true)), (22, .ptr 22 0), (23, .t (I 0))])], off := 6000}) (fun _ => True) 0 (by omega) ?_ ?_ ?_
    · repeat' (first | (refine LeB.dv _ _ _ ?_) | exact trivial | exact LeV.same _ | exact LeB.same _ | exact rfl | exact fun _ _ _ => trivial | exact lI | exact LeV.nil _ _ _ | exact lB | refine leBd ?_ | refine leOwn ?_ | refine And.intro ?_ ?_)
    · rintro kk hk
      rcases Nat.lt_or_ge kk ks.length with h2 | h2
      · have hke : ks[kk]? = some ks[kk] := List.getElem?_eq_getElem h2
        obtain ⟨cc, t0, t1, t2, t3, hv, hs4, c0, c1, -⟩ := okX_get hE (k := ks[kk]) (by rw [← hksd]; exact List.getElem_mem h2)
        have hmf := mfind_esM ks[kk] es
        rw [hv] at hmf
        have hst : (ks.take (kk + 1)).map (lineE es) = (ks.take kk).map (lineE es) ++ [[ks[kk].1, ks[kk].2.1, ks[kk].2.2, cc, t0, t1, t2, t3]] := by
          rw [List.take_succ_eq_append_getElem h2, List.map_append]
          have : lineE es ks[kk] = [ks[kk].1, ks[kk].2.1, ks[kk].2.2, cc, t0, t1, t2, t3] := by unfold lineE; rw [hv]; rfl
          rw [← this]; rfl
        generalize ks[kk] = key at hke hmf hst
        obtain ⟨a, b, c⟩ := key
        have hkey : keyOk true sh3 (nk (a, b, c)) := ⟨rfl, rfl, rfl, rfl, trivial⟩
        have hel : (ks.map nk)[((kk : Int)).toNat]?.getD .nil = nk (a, b, c) := by
          rw [Int.toNat_natCast, List.getElem?_map, hke]; rfl
        repeat' ((conv => whnf); first | exact trivial | refine now_D1 (by omega) ?_ | (refine nv_ (nk (a, b, c)) (by first | (exact hel; done) | fail) ?_) | (refine nv_ (tly cc [t0, t1, t2, t3]) (by show mres _ _ (mfind (nk (a, b, c)).cells (esM es)) = _; rw [hmf]; rfl) ?_) | refine nT_ ?_ | refine aE1 ?_ | refine aE0 ?_ | refine aN1 ?_ | refine aN0 ?_ | refine aD1 ?_ | refine aD0 ?_ | refine nE_ (fun hq => ?_) (fun hq => ?_) | refine nN_ (fun hq => ?_) (fun hq => ?_) | refine nD_ (fun hq => ?_) (fun hq => ?_) | refine rb1 ?_ | refine rb0 ?_ | refine rbx ?_ | refine rix ?_ | (refine And.intro (by first | ((simp; omega); done) | (exact hkey; done) | fail) ?_) | refine aS ?_ | fail)
        refine ⟨kk + 1, by omega, by omega, ?_⟩
        repeat' (first | (refine LeB.v _ _ ?_) | ((refine leOwn ?_; rw [hst, List.map_append]; rfl)) | exact trivial | exact LeV.same _ | exact LeB.same _ | exact rfl | exact fun _ _ _ => trivial | exact lI | exact LeV.nil _ _ _ | exact lB | refine leBd ?_ | refine leOwn ?_ | refine And.intro ?_ ?_)
      · have : kk = ks.length := by omega
        subst this
        repeat' ((conv => whnf); first | exact trivial | refine now_D0 (by omega) ?_ | refine nT_ ?_ | refine aE1 ?_ | refine aE0 ?_ | refine aN1 ?_ | refine aN0 ?_ | refine aD1 ?_ | refine aD0 ?_ | refine nE_ (fun hq => ?_) (fun hq => ?_) | refine nN_ (fun hq => ?_) (fun hq => ?_) | refine nD_ (fun hq => ?_) (fun hq => ?_) | refine rb1 ?_ | refine rb0 ?_ | refine rbx ?_ | refine rix ?_ | refine aS ?_ | fail)
        exact ⟨(), trivial, by repeat' (first | (refine LeB.v _ _ ?_) | ((rw [hls, List.take_length]; exact LeV.data _ _ _ _)) | exact trivial | exact LeV.same _ | exact LeB.same _ | exact rfl | exact fun _ _ _ => trivial | exact lI | exact LeV.nil _ _ _ | exact lB | refine leBd ?_ | refine leOwn ?_ | refine And.intro ?_ ?_)⟩
    rintro - -
    clear hksd hls hkl hNS
    repeat' ((conv => whnf); first | exact trivial | refine k_call _ (hDg) ?_ | refine nT_ ?_ | refine aE1 ?_ | refine aE0 ?_ | refine aN1 ?_ | refine aN0 ?_ | refine aD1 ?_ | refine aD0 ?_ | refine nE_ (fun hq => ?_) (fun hq => ?_) | refine nN_ (fun hq => ?_) (fun hq => ?_) | refine nD_ (fun hq => ?_) (fun hq => ?_) | refine rb1 ?_ | refine rb0 ?_ | refine rbx ?_ | refine rix ?_ | (refine And.intro (by first | (exact ⟨rfl, Nat.le_of_ble_eq_true rfl⟩; done) | fail) ?_) | refine aS ?_ | fail)
    refine ⟨[.t _, .t (I 0)], ⟨⟨rfl, trivial⟩, rfl, trivial⟩, ?_⟩
    repeat' ((conv => whnf); first | exact trivial | refine nT_ ?_ | refine aE1 ?_ | refine aE0 ?_ | refine aN1 ?_ | refine aN0 ?_ | refine aD1 ?_ | refine aD0 ?_ | refine nE_ (fun hq => ?_) (fun hq => ?_) | refine nN_ (fun hq => ?_) (fun hq => ?_) | refine nD_ (fun hq => ?_) (fun hq => ?_) | refine rb1 ?_ | refine rb0 ?_ | refine rbx ?_ | refine rix ?_ | refine aS ?_ | fail)
    exact ⟨(), trivial, by repeat' (first | ((refine leBd ?_; rfl)) | exact trivial | exact LeV.same _ | exact LeB.same _ | exact rfl | exact fun _ _ _ => trivial | exact lI | exact LeV.nil _ _ _ | exact lB | refine leBd ?_ | refine leOwn ?_ | refine And.intro ?_ ?_)⟩
  have hokB : Rc.ok ⟨1, i, linesE es, [p0, p1, p2, p3, p4, p5, p6, p7, p8, p9, p10, p11, p12, p13, p14, p15]⟩ := ⟨hR, hRl⟩
  generalize linesE es = lsB at *
  refine wpC_cut (β := Unit) (fun _ => {sl := [(0, .t (I p)), (1, .t (I f)), (4, .t (I ev)), (10, .ptr 10 0), (11, .ptr 11 0), (17, .t (rcs [⟨0, 0, lsA, zero16⟩])), (18, .t (rcs (y ++ [(⟨1, i, lsB, [p0, p1, p2, p3, p4, p5, p6, p7, p8, p9, p10, p11, p12, p13, p14, p15]⟩ : Rc)]))), (19, .t (.bool true)), (23, .t (I 0)), (28, .t (I 0))], bx := [(10, .d 8 [I 0, I 0, I 0, I 0, I 0, I 0, I 0, I 0]), (11, .d 8 [I 0, I 0, I 0, I 0, I 0, I 0, I 0, I 0])]}) (fun _ => True) ?_ fun _ _ => ?_
  · repeat' ((conv => whnf); first | exact trivial | refine nT_ ?_ | refine aE1 ?_ | refine aE0 ?_ | refine aN1 ?_ | refine aN0 ?_ | refine aD1 ?_ | refine aD0 ?_ | refine nE_ (fun hq => ?_) (fun hq => ?_) | refine nN_ (fun hq => ?_) (fun hq => ?_) | refine nD_ (fun hq => ?_) (fun hq => ?_) | refine rb1 ?_ | refine rb0 ?_ | refine rbx ?_ | refine rix ?_ | (refine And.intro (by first | ((simp; omega); done) | fail) ?_) | refine aS ?_ | fail)
    exact ⟨(), trivial, by repeat' (first | ((unfold rcs; rw [List.map_append]; exact LeV.data _ _ _ _)) | exact trivial | exact LeV.same _ | exact LeB.same _ | exact rfl | exact fun _ _ _ => trivial | exact lI | exact LeV.nil _ _ _ | exact lB | refine leBd ?_ | refine leOwn ?_ | refine And.intro ?_ ?_)⟩
  have hap : totS 1 p f (y ++ [(⟨1, i, lsB, [p0, p1, p2, p3, p4, p5, p6, p7, p8, p9, p10, p11, p12, p13, p14, p15]⟩ : Rc)]) (0, S0') = ((totS 1 p f y (0, S0')).1 + kc, sAdd (totS 1 p f y (0, S0')).2 sc) := by rw [totS_app]; exact tB _ hyS
  have T1 := t_Total 2 p f [⟨0, 0, lsA, zero16⟩] (Nat.le_of_ble_eq_true rfl) (fun r hr => by rw [List.mem_singleton.1 hr]; exact hokA) (fun r hr => by rw [List.mem_singleton.1 hr]; exact fun x hx => (hLA' x hx).2.2)
  have T2 := t_Total 1 p f (y ++ [(⟨1, i, lsB, [p0, p1, p2, p3, p4, p5, p6, p7, p8, p9, p10, p11, p12, p13, p14, p15]⟩ : Rc)]) (by simp; omega) (fun r hr => by
    rcases List.mem_append.1 hr with hr | hr
    · exact hyo r hr
    · rw [List.mem_singleton.1 hr]; exact hokB) (fun r hr => by
    rcases List.mem_append.1 hr with hr | hr
    · exact hys r hr
    · rw [List.mem_singleton.1 hr]; exact fun x hx => (hLB x hx).2.2)
  have e1 : totL 2 p f [⟨0, 0, lsA, zero16⟩] = [2, p, f, (sent.length : Int)] ++ sumH sent := by
    unfold totL
    rw [tA _ isS0]
    dsimp only
    rw [sAdd0 (sumH_isS _), Int.zero_add]
  have e2 : totL 1 p f (y ++ [(⟨1, i, lsB, [p0, p1, p2, p3, p4, p5, p6, p7, p8, p9, p10, p11, p12, p13, p14, p15]⟩ : Rc)]) = [1, p, f, (came.length : Int)] ++ sumH came := by
    unfold totL
    rw [hap]
    dsimp only
    rw [hyc, hya]
  rw [e1] at T1
  rw [e2] at T2
  obtain ⟨u0, u1, u2, u3, hu⟩ := four (sumH_isS sent).1
  obtain ⟨v0, v1, v2, v3, hv⟩ := four (sumH_isS came).1
  rw [hu] at T1 ⊢
  rw [hv] at T2 ⊢
  repeat' ((conv => whnf); first | exact trivial | refine k_call _ (T1) ?_ | refine k_call _ (T2) ?_ | refine nT_ ?_ | refine aE1 ?_ | refine aE0 ?_ | refine aN1 ?_ | refine aN0 ?_ | refine aD1 ?_ | refine aD0 ?_ | refine nE_ (fun hq => ?_) (fun hq => ?_) | refine nN_ (fun hq => ?_) (fun hq => ?_) | refine nD_ (fun hq => ?_) (fun hq => ?_) | refine rb1 ?_ | refine rb0 ?_ | refine rbx ?_ | refine rix ?_ | refine aS ?_ | fail)
end Go.RC
end
section
namespace Go.RC
open Go Go.DL Go.Proofs Go.RowKit
set_option maxRecDepth 100000
def typesN : List TypeId := [23, 25, 3, 4, 5, 32, 34, 33]
theorem typesN_ok : closedB Tryd.prog typesN = true := by kernel_rfl
theorem aU16 {us : List T} (h : HasC Tryd.prog 32 us) : ∃ n, mkT Tryd.prog 32 us = .int .u16 n ∧ 0 ≤ n ∧ n ≤ 65535 ∧ 1 ≤ bulkL us := by
  cases h with
  | int h n hw =>
    rw [Tryd.underlying32] at h; cases h
    simp only [Lit.wf, Bool.and_eq_true, decide_eq_true_eq] at hw
    obtain ⟨h1, h2⟩ := hw
    rw [show IntKind.u16.min = 0 by decide] at h1
    rw [show IntKind.u16.max = 65535 by decide] at h2
    exact ⟨n, by unfold mkT; rw [Tryd.underlying32]; rfl, h1, h2, by simp [bulkL, T.bulk]⟩
  | bool h | str h | nil h | slice h | struct h | array h => rw [Tryd.underlying32] at h; cases h
theorem aU64 {us : List T} (h : HasC Tryd.prog 34 us) : ∃ n, mkT Tryd.prog 34 us = .int .u64 n ∧ 1 ≤ bulkL us := by
  cases h with
  | int h n hw =>
    rw [Tryd.underlying34] at h; cases h
    exact ⟨n, by unfold mkT; rw [Tryd.underlying34]; rfl, by simp [bulkL, T.bulk]⟩
  | bool h | str h | nil h | slice h | struct h | array h => rw [Tryd.underlying34] at h; cases h
theorem aU8 {us : List T} (h : HasC Tryd.prog 5 us) : ∃ n, mkT Tryd.prog 5 us = .int .u8 n ∧ 0 ≤ n ∧ n < 256 ∧ 1 ≤ bulkL us := by
  obtain ⟨n, rfl, hw⟩ := hasU8 h
  exact ⟨n, by unfold mkT; rw [Tryd.underlying5]; rfl, (wf8 hw).1, (wf8 hw).2, by simp [bulkL, T.bulk]⟩
theorem aHeads {us : List T} (h : HasC Tryd.prog 33 us) : ∃ l : List (List Int), Les (mkT Tryd.prog 33 us) (hds l) ∧ (∀ x ∈ l, x.length = 10) ∧ l.length ≤ bulkL us := by
  have e : ∀ t, mkT Tryd.prog 33 [t] = t := fun t => by unfold mkT; rw [Tryd.underlying33]; rfl
  cases h with
  | nil h => exact ⟨[], by rw [e]; exact Les.nil 10, by simp, by simp⟩
  | slice h xs hx hl =>
    rw [Tryd.underlying33] at h
    cases h
    rw [e, cells23]
    have key : ∃ l : List (List Int), xs.map (mkT Tryd.prog 23) = l.map hd ∧ l.length ≤ bulkL (xs.map (mkT Tryd.prog 23)) ∧ ∀ x ∈ l, x.length = 10 := by
      clear hl
      induction xs with
      | nil => exact ⟨[], rfl, by simp, by simp⟩
      | cons x xs ih =>
        obtain ⟨y, h1, h2, -⟩ := aHead (hx x (by simp))
        obtain ⟨l, k2, k3, k4⟩ := ih fun y hy => hx y (by simp [hy])
        refine ⟨y :: l, by simp only [List.map_cons, k2, h1], ?_, fun z hz => ?_⟩
        · simp only [List.map_cons, bulkL, List.length_cons]
          rw [h1]
          match y, h2 with
          | a :: r, _ =>
            simp only [T.bulk, List.map_cons, bulkL]
            omega
          | [], h2 => simp at h2
        · rcases List.mem_cons.1 hz with rfl | hz
          · exact h2
          · exact k4 z hz
    obtain ⟨l, k2, k3, k4⟩ := key
    exact ⟨l, by rw [k2]; exact Les.refl _, k4, by simp only [bulkL, T.bulk]; omega⟩
  | int h | bool h | str h | array h | struct h => rw [Tryd.underlying33] at h; cases h
end Go.RC
end
section
namespace Go.RC
open Go Go.DL Go.Proofs
set_option maxRecDepth 100000
set_option maxHeartbeats 4000000
def comesAt (sent : List (List Int)) (t : Nat) (c : Int → Bool) : Nat → List (List Int)
  | 0 => []
  | k + 1 => comesAt sent t c k ++ (if c (((k + t) % sent.length : Nat) : Int) then [sent.getD ((k + t) % sent.length) []] else [])
theorem comesAt_len (sent : List (List Int)) (t : Nat) (c : Int → Bool) : ∀ k, (comesAt sent t c k).length ≤ k
  | 0 => by simp [comesAt]
  | k + 1 => by
    have := comesAt_len sent t c k
    unfold comesAt
    rw [List.length_append]
    split <;> simp <;> omega
theorem comesAt_all {sent : List (List Int)} {t : Nat} {c : Int → Bool} : ∀ {k : Nat}, (comesAt sent t c k).length = k → comesAt sent t c k = (List.range k).map fun j => sent.getD ((j + t) % sent.length) []
  | 0, _ => rfl
  | k + 1, h => by
    have h1 := comesAt_len sent t c k
    unfold comesAt at h ⊢
    rw [List.length_append] at h
    by_cases hc : c (((k + t) % sent.length : Nat) : Int) = true
    · rw [if_pos hc] at h ⊢
      rw [comesAt_all (k := k) (by simpa using h), List.range_succ, List.map_append]; rfl
    · rw [if_neg hc] at h
      simp at h; omega
theorem rot_perm {sent : List (List Int)} (t : Nat) : ((List.range sent.length).map fun j => sent.getD ((j + t) % sent.length) []).Perm sent := by
  by_cases hz : sent.length = 0
  · rw [List.length_eq_zero_iff.1 hz]; exact .refl _
  have hr : t % sent.length < sent.length := Nat.mod_lt _ (by omega)
  have e : ((List.range sent.length).map fun j => sent.getD ((j + t) % sent.length) []) = sent.drop (t % sent.length) ++ sent.take (t % sent.length) := by
    apply List.ext_getElem?
    intro i
    rw [List.getElem?_map]
    rcases Nat.lt_or_ge i sent.length with hi | hi
    · rw [List.getElem?_range hi]
      simp only [Option.map_some]
      have hm : (i + t) % sent.length = if i + t % sent.length < sent.length then i + t % sent.length else i + t % sent.length - sent.length := by
        rw [Nat.add_mod, Nat.mod_eq_of_lt hi]
        split
        · rename_i h; exact Nat.mod_eq_of_lt h
        · rename_i h; rw [Nat.mod_eq_sub_mod (by omega), Nat.mod_eq_of_lt (by omega)]
      rw [hm]
      split
      · rename_i h
        rw [List.getElem?_append_left (by rw [List.length_drop]; omega), List.getElem?_drop, List.getD_eq_getElem?_getD, Nat.add_comm, List.getElem?_eq_getElem (by omega)]; rfl
      · rename_i h
        rw [List.getElem?_append_right (by rw [List.length_drop]; omega), List.length_drop, List.getElem?_take, if_pos (by omega), List.getD_eq_getElem?_getD, show i - (sent.length - t % sent.length) = i + t % sent.length - sent.length by omega, List.getElem?_eq_getElem (by omega)]; rfl
    · rw [List.getElem?_eq_none (by simp; omega), List.getElem?_eq_none (by simp; omega)]; rfl
  rw [e]
  exact List.perm_append_comm.trans (by rw [List.take_append_drop])
theorem okH_all {sent : List (List Int)} {t k : Nat} (hk : k = sent.length) (h : ∀ j < k, okH (sent.getD ((j + t) % sent.length) [])) : ∀ x ∈ sent, okH x := fun x hx => by
  have := (rot_perm (sent := sent) t).mem_iff.2 hx
  obtain ⟨j, hj, rfl⟩ := List.mem_map.1 this
  exact h j (by rw [hk]; simpa using hj)
theorem comesAt_ok {sent : List (List Int)} {t : Nat} {c : Int → Bool} : ∀ {k : Nat}, (∀ j < k, okH (sent.getD ((j + t) % sent.length) [])) → ∀ x ∈ comesAt sent t c k, okH x
  | 0, _, x, hx => by simp [comesAt] at hx
  | k + 1, h, x, hx => by
    unfold comesAt at hx
    rcases List.mem_append.1 hx with hx | hx
    · exact comesAt_ok (fun j hj => h j (by omega)) x hx
    · split at hx
      · rw [List.mem_singleton.1 hx]; exact h k (by omega)
      · simp at hx
theorem tot8 (s p f : Int) (n : Nat) (l : List (List Int)) (hs : i64 s) (hp : i64 p) (hf : i64 f) (hn : n < 2 ^ 40) : ([s, p, f, (n : Int)] ++ sumH l).length = 8 ∧ ∀ y ∈ [s, p, f, (n : Int)] ++ sumH l, i64 y := by
  have h := sumH_isS l
  refine ⟨by simp [h.1], fun y hy => ?_⟩
  rcases List.mem_append.1 hy with hy | hy
  · simp only [List.mem_cons, List.not_mem_nil, or_false] at hy
    rcases hy with rfl | rfl | rfl | rfl
    · exact hs
    · exact hp
    · exact hf
    · unfold i64; omega
  · have := h.2 y hy
    unfold M32 at this; unfold i64; omega
theorem t_CompareT (s p f s' p' f' : Int) (n m : Nat) (a b : List (List Int)) (h1 : i64 s) (h2 : i64 p) (h3 : i64 f) (h4 : i64 s') (h5 : i64 p') (h6 : i64 f') (hn : n < 2 ^ 40) (hm : m < 2 ^ 40) :
    DCalls Tryd.prog 19 [ln ([s, p, f, (n : Int)] ++ sumH a), ln ([s', p', f', (m : Int)] ++ sumH b)] (verT (cmpL n m (sumH a) (sumH b))) := by
  obtain ⟨x8, xi⟩ := tot8 s p f n a h1 h2 h3 hn
  obtain ⟨y8, yi⟩ := tot8 s' p' f' m b h4 h5 h6 hm
  exact t_Compare _ _ x8 y8 xi yi (by show (0 : Int) ≤ (n : Int); omega) (by show (0 : Int) ≤ (m : Int); omega)
theorem rightN_of {s p f : Int} (hs : s = 1 ∨ s = 2) (p0 : 0 ≤ p) (p1 : p ≤ 65535) (f0 : 0 ≤ f) (f1 : f ≤ 65535) : rightN s p f = true := by
  unfold rightN
  simp only [Bool.and_eq_true, decide_eq_true_eq]
  omega
def bitC (c : Int) (i : Int) : Bool := bitsI .and .u64 (c.fdiv (2 ^ (min i.toNat 64))) 1 == 1
theorem DCalls.args {P : Program} {f : FuncId} {ts us : List T} {r : T} (h : DCalls P f ts r) (e : us = ts) : DCalls P f us r := by rw [e]; exact h
theorem t_HonestNeighbours (p f c tu ev : Int) (sent : List (List Int)) (h10 : ∀ h ∈ sent, h.length = 10) (hl : sent.length < 2 ^ 40) (p0 : 0 ≤ p) (p1 : p ≤ 65535) (f0 : 0 ≤ f) (f1 : f ≤ 65535) (t0 : 0 ≤ tu) (t1 : tu < 256) (e0 : 0 ≤ ev) (e1 : ev < 256) :
    DCalls Tryd.prog 4 [.int .u16 p, .int .u16 f, hds sent, .int .u64 c, .int .u8 tu, .int .u8 ev] (.bool true) := by
  refine dcalls_low (rs := [.tmp 12]) mixed Tryd.func4 l4 rfl rfl rfl (r := [.bool _]) (Nat.le_of_ble_eq_true rfl) ?_
  by_cases c40 : sent.length > 40
  · repeat' ((conv => whnf); first | exact trivial | (refine now_D1 (by simp; omega) ?_) | refine k_call _ (t_sanity) ?_ | refine nT_ ?_ | refine aE1 ?_ | refine aE0 ?_ | refine aN1 ?_ | refine aN0 ?_ | refine aD1 ?_ | refine aD0 ?_ | refine nE_ (fun hq => ?_) (fun hq => ?_) | refine nN_ (fun hq => ?_) (fun hq => ?_) | refine nD_ (fun hq => ?_) (fun hq => ?_) | refine rb1 ?_ | refine rb0 ?_ | refine rbx ?_ | refine rix ?_ | refine aS ?_ | fail)
  repeat' ((conv => whnf); first | exact trivial | (refine now_D0 (by simp; omega) ?_) | refine nT_ ?_ | refine aE1 ?_ | refine aE0 ?_ | refine aN1 ?_ | refine aN0 ?_ | refine aD1 ?_ | refine aD0 ?_ | refine nE_ (fun hq => ?_) (fun hq => ?_) | refine nN_ (fun hq => ?_) (fun hq => ?_) | refine nD_ (fun hq => ?_) (fun hq => ?_) | refine rb1 ?_ | refine rb0 ?_ | refine rbx ?_ | refine rix ?_ | refine aS ?_ | fail)
  obtain ⟨t, rfl⟩ := Int.eq_ofNat_of_zero_le t0
  refine wpC_loopE 0 (α := Nat) (β := Unit) (fun k => {sl := [(0, .t (.int .u16 p)), (1, .t (.int .u16 f)), (2, .t (hds sent)), (3, .t (.int .u64 c)), (4, .t (.int .u8 t)), (5, .t (.int .u8 ev)), (12, .t (.bool false)), (13, .own 55 23 10 ((comesAt sent t (bitC c) k).map hd)), (26, .t (I sent.length)), (27, .t (I k))], bx := []})
    (fun k => k ≤ sent.length ∧ ∀ j < k, okH (sent.getD ((j + t) % sent.length) [])) (fun k => sent.length - k)
    (fun _ => {sl := [(0, .t (.int .u16 p)), (1, .t (.int .u16 f)), (2, .t (hds sent)), (5, .t (.int .u8 ev)), (13, .t (hds (comesAt sent t (bitC c) sent.length)))], bx := []}) (fun _ => ∀ j < sent.length, okH (sent.getD ((j + t) % sent.length) [])) 0 ⟨by omega, fun j h => by omega⟩ ?_ ?_ ?_
  · repeat' (first | ((refine leI ?_; simp; done)) | exact trivial | exact LeV.same _ | exact LeB.same _ | exact rfl | exact fun _ _ _ => trivial | exact lI | exact LeV.nil _ _ _ | exact lB | refine leBd ?_ | refine leOwn ?_ | refine And.intro ?_ ?_)
  · rintro k ⟨hk, ho⟩
    rcases Nat.lt_or_ge k sent.length with h2 | h2
    · have hi : (k + t) % sent.length < sent.length := Nat.mod_lt _ (by omega)
      have hke : sent[(k + t) % sent.length]? = some (sent.getD ((k + t) % sent.length) []) := by rw [List.getD_eq_getElem?_getD, List.getElem?_eq_getElem hi]; rfl
      have hxm : sent.getD ((k + t) % sent.length) [] ∈ sent := List.mem_of_getElem? hke
      have hx10 := h10 _ hxm
      have hst : comesAt sent t (bitC c) (k + 1) = comesAt sent t (bitC c) k ++ (if bitC c (((k + t) % sent.length : Nat) : Int) then [sent.getD ((k + t) % sent.length) []] else []) := rfl
      have hok : okH (sent.getD ((k + t) % sent.length) []) → ∀ j < k + 1, okH (sent.getD ((j + t) % sent.length) []) := fun h j hj => by
        rcases Nat.lt_or_ge j k with h3 | h3
        · exact ho j h3
        · have : j = k := by omega
          subst this; exact h
      have hcl := comesAt_len sent t (bitC c) k
      have hidx : (IntKind.i64.wrap ((k : Int) + IntKind.i64.wrap (t : Int))).tmod (((sent.map hd).length : Nat) : Int) = (((k + t) % sent.length : Nat) : Int) := by
        rw [wrap_id (n := (t : Int)) (by omega) (by omega), wrap_id (by omega) (by omega), List.length_map, Int.tmod_eq_emod_of_nonneg (by omega)]
        push_cast; rfl
      generalize hie : (k + t) % sent.length = i at *
      generalize sent.getD i [] = h at *
      repeat' ((conv => whnf); first | exact trivial | refine now_D1 (by omega) ?_ | refine nT_ ?_ | refine aE1 ?_ | refine aE0 ?_ | refine aN1 ?_ | refine aN0 ?_ | refine aD1 ?_ | refine aD0 ?_ | refine nE_ (fun hq => ?_) (fun hq => ?_) | refine nN_ (fun hq => ?_) (fun hq => ?_) | refine nD_ (fun hq => ?_) (fun hq => ?_) | refine rb1 ?_ | refine rb0 ?_ | refine rbx ?_ | refine rix ?_ | refine aS ?_ | fail)
      refine wpC_cut (β := Unit) (fun _ => {sl := [(0, .t (.int .u16 p)), (1, .t (.int .u16 f)), (2, .t (hds sent)), (3, .t (.int .u64 c)), (4, .t (.int .u8 t)), (5, .t (.int .u8 ev)), (12, .t (.bool false)), (13, .own 55 23 10 ((comesAt sent t (bitC c) k).map hd)), (15, .t (I i)), (26, .t (I sent.length)), (27, .t (I k))], bx := []}) (fun _ => True) ?_ fun _ _ => ?_
      · repeat' ((conv => whnf); first | exact trivial | refine nT_ ?_ | refine aE1 ?_ | refine aE0 ?_ | refine aN1 ?_ | refine aN0 ?_ | refine aD1 ?_ | refine aD0 ?_ | refine nE_ (fun hq => ?_) (fun hq => ?_) | refine nN_ (fun hq => ?_) (fun hq => ?_) | refine nD_ (fun hq => ?_) (fun hq => ?_) | refine rb1 ?_ | refine rb0 ?_ | refine rbx ?_ | refine rix ?_ | (refine And.intro (by first | ((simp only [List.length_map]; omega); done) | fail) ?_) | refine aS ?_ | fail)
        exact ⟨(), trivial, by repeat' (first | ((refine leI ?_; exact hidx.symm)) | exact trivial | exact LeV.same _ | exact LeB.same _ | exact rfl | exact fun _ _ _ => trivial | exact lI | exact LeV.nil _ _ _ | exact lB | refine leBd ?_ | refine leOwn ?_ | refine And.intro ?_ ?_)⟩
      have hib : 0 ≤ (i : Int) ∧ (i : Int) < ((sent.map hd).length : Int) := by rw [List.length_map]; omega
      have hR := t_RightHead h hx10
      have hel : (sent.map hd)[((i : Int)).toNat]?.getD .nil = hd h := eltHd (by rw [Int.toNat_natCast]; exact hke)
      cases hr : rightH h with
      | false =>
        rw [hr] at hR
        repeat' ((conv => whnf); first | exact trivial | (refine nv_ (hd h) (by first | (exact hel; done) | fail) ?_) | refine k_call _ (hR) ?_ | refine k_call _ (t_sanity) ?_ | refine nT_ ?_ | refine aE1 ?_ | refine aE0 ?_ | refine aN1 ?_ | refine aN0 ?_ | refine aD1 ?_ | refine aD0 ?_ | refine nE_ (fun hq => ?_) (fun hq => ?_) | refine nN_ (fun hq => ?_) (fun hq => ?_) | refine nD_ (fun hq => ?_) (fun hq => ?_) | refine rb1 ?_ | refine rb0 ?_ | refine rbx ?_ | refine rix ?_ | (refine And.intro (by first | (exact hib; done) | (exact (List.length_map _).trans hx10; done) | fail) ?_) | refine aS ?_ | fail)
      | true =>
        rw [hr] at hR
        have hok := hok ((rightH_ok hx10).1 hr)
        cases hb : bitC c i with
        | true =>
          rw [hb, if_pos rfl] at hst
          have hb := eq_of_beq hb
          repeat' ((conv => whnf); first | exact trivial | (refine nv_ (hd h) (by first | (exact hel; done) | fail) ?_) | refine k_call _ (hR) ?_ | refine now_E1 hb ?_ | refine nT_ ?_ | refine aE1 ?_ | refine aE0 ?_ | refine aN1 ?_ | refine aN0 ?_ | refine aD1 ?_ | refine aD0 ?_ | refine nE_ (fun hq => ?_) (fun hq => ?_) | refine nN_ (fun hq => ?_) (fun hq => ?_) | refine nD_ (fun hq => ?_) (fun hq => ?_) | refine rb1 ?_ | refine rb0 ?_ | refine rbx ?_ | refine rix ?_ | (refine And.intro (by first | (exact hib; done) | (exact (List.length_map _).trans hx10; done) | (exact ⟨trivial, (List.length_map _).trans hx10⟩; done) | ((simp; omega); done) | fail) ?_) | refine aS ?_ | fail)
          refine ⟨k + 1, ⟨by omega, hok⟩, by omega, ?_⟩
          repeat' (first | ((refine leOwn ?_; rw [hst, List.map_append]; rfl)) | exact trivial | exact LeV.same _ | exact LeB.same _ | exact rfl | exact fun _ _ _ => trivial | exact lI | exact LeV.nil _ _ _ | exact lB | refine leBd ?_ | refine leOwn ?_ | refine And.intro ?_ ?_)
        | false =>
          rw [hb, if_neg (by simp), List.append_nil] at hst
          have hb : ¬ bitsI .and .u64 (c.fdiv (2 ^ (min ((i : Int)).toNat 64))) 1 = 1 := fun e => by
            have : bitC c i = true := beq_iff_eq.2 e
            rw [hb] at this; cases this
          repeat' ((conv => whnf); first | exact trivial | (refine nv_ (hd h) (by first | (exact hel; done) | fail) ?_) | refine k_call _ (hR) ?_ | refine now_E0 hb ?_ | refine nT_ ?_ | refine aE1 ?_ | refine aE0 ?_ | refine aN1 ?_ | refine aN0 ?_ | refine aD1 ?_ | refine aD0 ?_ | refine nE_ (fun hq => ?_) (fun hq => ?_) | refine nN_ (fun hq => ?_) (fun hq => ?_) | refine nD_ (fun hq => ?_) (fun hq => ?_) | refine rb1 ?_ | refine rb0 ?_ | refine rbx ?_ | refine rix ?_ | (refine And.intro (by first | (exact hib; done) | (exact (List.length_map _).trans hx10; done) | fail) ?_) | refine aS ?_ | fail)
          refine ⟨k + 1, ⟨by omega, hok⟩, by omega, ?_⟩
          repeat' (first | ((refine leOwn ?_; rw [hst]; done)) | exact trivial | exact LeV.same _ | exact LeB.same _ | exact rfl | exact fun _ _ _ => trivial | exact lI | exact LeV.nil _ _ _ | exact lB | refine leBd ?_ | refine leOwn ?_ | refine And.intro ?_ ?_)
    · have : k = sent.length := by omega
      subst this
      repeat' ((conv => whnf); first | exact trivial | refine now_D0 (by omega) ?_ | refine nT_ ?_ | refine aE1 ?_ | refine aE0 ?_ | refine aN1 ?_ | refine aN0 ?_ | refine aD1 ?_ | refine aD0 ?_ | refine nE_ (fun hq => ?_) (fun hq => ?_) | refine nN_ (fun hq => ?_) (fun hq => ?_) | refine nD_ (fun hq => ?_) (fun hq => ?_) | refine rb1 ?_ | refine rb0 ?_ | refine rbx ?_ | refine rix ?_ | refine aS ?_ | fail)
      exact ⟨(), ho, by repeat' (first | (exact LeV.data _ _ _ _) | exact trivial | exact LeV.same _ | exact LeB.same _ | exact rfl | exact fun _ _ _ => trivial | exact lI | exact LeV.nil _ _ _ | exact lB | refine leBd ?_ | refine leOwn ?_ | refine And.intro ?_ ?_)⟩
  rintro - ho
  have os := okH_all rfl ho
  have oc : ∀ x ∈ comesAt sent t (bitC c) sent.length, okH x := comesAt_ok ho
  have hcl := comesAt_len sent t (bitC c) sent.length
  have hsum : (comesAt sent t (bitC c) sent.length).length = sent.length → sumH sent = sumH (comesAt sent t (bitC c) sent.length) := fun h => by
    rw [comesAt_all h]; exact (sumH_perm (rot_perm t)).symm
  generalize comesAt sent t (bitC c) sent.length = came at *
  have wp : IntKind.i64.wrap p = p := wrap_id (by omega) (by omega)
  have wf : IntKind.i64.wrap f = f := wrap_id (by omega) (by omega)
  have we : IntKind.i64.wrap ((IntKind.i64.wrap ev).tmod 7 + 1) = ev % 7 + 1 := by
    rw [wrap_id (n := ev) (by omega) (by omega), Int.tmod_eq_emod_of_nonneg e0]; exact wrap_id (by omega) (by omega)
  have hL := t_ledgers p f (ev % 7 + 1) sent came (rightN_of (.inr rfl) p0 p1 f0 f1) (rightN_of (.inl rfl) p0 p1 f0 f1) (by omega) (by omega) (by omega) (by omega) os oc
  rw [← we] at hL
  have hL := DCalls.args hL (us := [I (IntKind.i64.wrap p), I (IntKind.i64.wrap f), hds sent, hds came, I (IntKind.i64.wrap ((IntKind.i64.wrap ev).tmod 7 + 1))]) (by rw [wp, wf])
  obtain ⟨xa, -⟩ := tot8 2 p f sent.length sent (by unfold i64; decide) (by unfold i64; omega) (by unfold i64; omega) (by omega)
  obtain ⟨xb, -⟩ := tot8 1 p f came.length came (by unfold i64; decide) (by unfold i64; omega) (by unfold i64; omega) (by omega)
  have hC := t_CompareT 2 p f 1 p f sent.length came.length sent came (by unfold i64; decide) (by unfold i64; omega) (by unfold i64; omega) (by unfold i64; decide) (by unfold i64; omega) (by unfold i64; omega) (by omega) (by omega)
  have hcm : cmpL (sent.length : Int) (came.length : Int) (sumH sent) (sumH came) = ((sent.length : Int) - came.length, 0) := by
    unfold cmpL
    rw [if_neg]
    rintro (h | ⟨h, h'⟩)
    · omega
    · exact h' (hsum (by omega))
  rw [hcm] at hC
  generalize [2, p, f, (sent.length : Int)] ++ sumH sent = x at *
  generalize [1, p, f, (came.length : Int)] ++ sumH came = y at *
  repeat' ((conv => whnf); first | exact trivial | refine nT_ ?_ | refine aE1 ?_ | refine aE0 ?_ | refine aN1 ?_ | refine aN0 ?_ | refine aD1 ?_ | refine aD0 ?_ | refine nE_ (fun hq => ?_) (fun hq => ?_) | refine nN_ (fun hq => ?_) (fun hq => ?_) | refine nD_ (fun hq => ?_) (fun hq => ?_) | refine rb1 ?_ | refine rb0 ?_ | refine rbx ?_ | refine rix ?_ | refine aS ?_ | fail)
  refine wpC_cut (β := Unit) (fun _ => {sl := [(2, .t (hds sent)), (13, .t (hds came)), (16, .ptr 16 0), (17, .ptr 17 0), (18, .t (.bool true))], bx := [(16, .d 8 (x.map I)), (17, .d 8 (y.map I))]}) (fun _ => True) ?_ fun _ _ => ?_
  · repeat' ((conv => whnf); first | exact trivial | refine k_call _ (hL) ?_ | refine nT_ ?_ | refine aE1 ?_ | refine aE0 ?_ | refine aN1 ?_ | refine aN0 ?_ | refine aD1 ?_ | refine aD0 ?_ | refine nE_ (fun hq => ?_) (fun hq => ?_) | refine nN_ (fun hq => ?_) (fun hq => ?_) | refine nD_ (fun hq => ?_) (fun hq => ?_) | refine rb1 ?_ | refine rb0 ?_ | refine rbx ?_ | refine rix ?_ | (refine And.intro (by first | (exact ⟨(List.length_map _).trans xa, Nat.le_of_ble_eq_true rfl⟩; done) | (exact ⟨(List.length_map _).trans xb, Nat.le_of_ble_eq_true rfl⟩; done) | fail) ?_) | refine aS ?_ | fail)
    exact ⟨(), trivial, by repeat' (first | ((refine leBd ?_; exact (putL_all (n := 8) rfl).symm)) | exact trivial | exact LeV.same _ | exact LeB.same _ | exact rfl | exact fun _ _ _ => trivial | exact lI | exact LeV.nil _ _ _ | exact lB | refine leBd ?_ | refine leOwn ?_ | refine And.intro ?_ ?_)⟩
  repeat' ((conv => whnf); first | exact trivial | refine k_call _ (hC) ?_ | refine k_call _ (t_sanity) ?_ | (refine now_E1 (by simp only [List.length_map]; rw [wrap_id (by omega) (by omega)]) ?_) | refine nT_ ?_ | refine aE1 ?_ | refine aE0 ?_ | refine aN1 ?_ | refine aN0 ?_ | refine aD1 ?_ | refine aD0 ?_ | refine nE_ (fun hq => ?_) (fun hq => ?_) | refine nN_ (fun hq => ?_) (fun hq => ?_) | refine nD_ (fun hq => ?_) (fun hq => ?_) | refine rb1 ?_ | refine rb0 ?_ | refine rbx ?_ | refine rix ?_ | (refine And.intro (by first | (exact (List.length_map _).trans xa; done) | (exact (List.length_map _).trans xb; done) | fail) ?_) | refine aS ?_ | fail)
end Go.RC
end
