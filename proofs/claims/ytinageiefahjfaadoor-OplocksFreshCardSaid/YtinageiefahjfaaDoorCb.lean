/- The functions of the translation as codes with hints: printed by a program, held by the kernel against the translation. Conditions: none. -/
import Derived.Test.YtinageiefahjfaaDoorNg
import Derived.Test.YtinageiefahjfaaDoorChecked
import Derived.KernelRfl
namespace Go.Proofs.YtinageiefahjfaaDoor
abbrev oA (d o x : Nat) : AOp := Oo d (.addo o (.t x))
abbrev oL (d x : Nat) : AOp := Oo d (.load false 1 (.t x))
abbrev oG (d n x : Nat) : AOp := Oo d (.load true n (.t x))
abbrev oM (d x : Nat) : AOp := Oo d (.mov (.t x))
abbrev oK (d : Nat) (n : Int) : AOp := Oo d (.mov (Ki n))
abbrev oE (d x n : Nat) : AOp := Oo d (.ext (.t x) n)
abbrev oS (n x y : Nat) : AOp := On (.store n (.t x) (.t y))
abbrev oI (d z x i : Nat) : AOp := Oo d (.ixL z (.t x) (.t i))
abbrev oB (d : Nat) (b : BinOp) (x : Nat) (n : Int) : AOp := Oo d (.bin b (.t x) (Ki n))
abbrev oC (d : Nat) (b : BinOp) (x y : Nat) : AOp := Oo d (.bin b (.t x) (.t y))
abbrev oN (d x : Nat) : AOp := Oo d (.lenL (.t x))
abbrev CK (f : Func) (h : HC) : Prop := f.body.bind (compileC Tryd.prog) = some h.er
abbrev RK (f : Func) (r : List RetV) : Prop := f.results.toList.mapM (retOf Tryd.prog) = some r
theorem tk {f : FuncId} {h k : HF} {fn : Func} (hf : some k = some h) (h0 : okF Tryd.prog f = true) (h1 : Tryd.prog.funcs[f]? = some fn) (h2 : fn.ntmps = k.nt) (h3 : CK fn k.code) (h4 : RK fn k.rs) : okF Tryd.prog f = true ∧ ∃ fn, Tryd.prog.funcs[f]? = some fn ∧ fn.ntmps = h.nt ∧ fn.body.bind (compileC Tryd.prog) = some h.code.er ∧ fn.results.toList.mapM (retOf Tryd.prog) = some h.rs := by
  cases hf
  exact ⟨h0, fn, h1, h2, h3, h4⟩
def h3l0 : HC :=
 (.seq (.seq (.region [oM 161 16, oA 162 0 9, oA 163 1 162, oL 164 163, oN 165 164, oC 166 .lss 161 165])
 (.cond (.t 166) .skip
 (.exit 2)))
 (.seq (.block 3 (.seq (.region [oA 169 0 9, oA 170 1 169, oL 171 170, oM 172 16, oI 173 2 171 172, oG 174 2 173, Oo 17 (.alloc [Zi 0, Zi 0]), oS 2 17 174])
 (.seq (.seq (.region [oA 175 0 11, oG 176 2 175, oA 177 0 17, oL 178 177, Oo 179 (.call 8 [(.t 176), (.t 178)]), oB 180 .geq 179 0])
 (.cond (.t 180) (.exit 3)
 .skip))
 (.seq (.seq (.region [oA 181 1 17, oL 182 181, oB 183 .eql 182 3])
 (.cond (.t 183) (.region [oM 184 7, oA 185 0 17, oL 186 185, oB 187 .sub 186 1, oI 188 1 184 187, oL 189 188, oM 6 189])
 .skip))
 (.seq (.region [oA 190 1 17, oL 191 190, oB 192 .eql 191 2])
 (.cond (.t 192) (.region [oM 193 8, oM 194 6, Oo 195 (.bslc 1 1 [Zi 0] [(0, (.t 194))]), Oo 196 (.app 1 8 [Zi 0] (.t 193) (.t 195)), oM 8 196])
 .skip))))))
 (.region [oM 167 16, oB 168 .add 167 1, oM 16 168])))
def h3l1 : HC :=
 (.seq (.seq (.region [oM 75 10, oM 76 0, oN 77 76, oC 78 .lss 75 77])
 (.cond (.t 78) .skip
 (.exit 0)))
 (.seq (.block 1 (.seq (.region [Oo 82 (.bslc 4 0 [Zi 0, Zi 0, Zi 0, Zi 0] []), oM 83 0, oM 84 10, oB 85 .add 84 1, Oo 86 (.slL 4 (.t 83) none (some (.t 85))), Oo 87 (.app 4 32 [Zi 0, Zi 0, Zi 0, Zi 0] (.t 82) (.t 86)), Oo 88 (.call 6 [(.t 87)]), oM 81 88, oE 89 81 0, oE 90 81 1, oE 91 81 2, Oo 11 (.alloc [(.slice none 0 0), (.slice none 0 0), Zi 0, (.slice none 0 0), (.slice none 0 0), (.slice none 0 0)]), oS 6 11 89, oM 12 90, oM 13 91])
 (.seq (.seq (.region [oM 92 13, oB 93 .neq 92 0, oM 94 93, Og 94 false 95 (.mov (.t 12)), Og 94 false 96 (.mov (.t 10)), Og 94 false 97 (.bin .add (.t 96) (Ki 1)), Og 94 false 98 (.bin .neq (.t 95) (.t 97)), Oo 99 (.pick (.t 94) (.k (.bool true)) (.t 98)), oM 100 99, Og 100 false 101 (.addo 3 (.t 11)), Og 100 false 102 (.load false 1 (.t 101)), Og 100 false 103 (.lenL (.t 102)), Og 100 false 104 (.bin .neq (.t 103) (Ki 8)), Oo 105 (.pick (.t 100) (.k (.bool true)) (.t 104)), oM 106 105, Og 106 false 107 (.addo 5 (.t 11)), Og 106 false 108 (.load false 1 (.t 107)), Og 106 false 109 (.lenL (.t 108)), Og 106 false 110 (.mov (.t 8)), Og 106 false 111 (.lenL (.t 110)), Og 106 false 112 (.bin .lss (.t 109) (.t 111)), Oo 113 (.pick (.t 106) (.k (.bool true)) (.t 112))])
 (.cond (.t 113) (.seq (.region [Oo 2 (.mov (.k (.bool false)))])
 .ret)
 .skip))
 (.seq (.region [oM 114 0, oM 115 10, oI 116 4 114 115, oA 117 0 116, oG 118 3 117, Oo 14 (.alloc [Zi 0, Zi 0, Zi 0]), oS 3 14 118])
 (.seq (.seq (.region [oA 119 0 14, oL 120 119, oB 121 .eql 120 3])
 (.cond (.t 121) (.drawnT [] (.st 0 (.st 1 (.st 2 (.st 3 (.st 4 (.st 5 (.st 6 (.st 7 (.st 8 (.st 9 (.st 10 .nil))))))))))) [oM 122 7, oA 123 1 14, oL 124 123, oB 125 .sub 124 1, oM 126 0, oM 127 10, oI 128 4 126 127, oA 129 3 128, oL 130 129, oI 131 1 122 125, oS 1 131 130])
 .skip))
 (.seq (.region [oA 132 0 11, oG 133 2 132, oA 134 1 14, oL 135 134, Oo 136 (.call 8 [(.t 133), (.t 135)]), oB 137 .geq 136 0, oM 15 137])
 (.seq (.seq (.region [oA 138 0 14, oL 139 138, oB 140 .eql 139 3, oM 141 140, Og 141 true 142 (.mov (.t 15)), Og 141 true 143 (.un .not (.t 142)), Oo 144 (.pick (.t 141) (.t 143) (.k (.bool false)))])
 (.cond (.t 144) (.region [oM 145 0, oM 146 10, oI 147 4 145 146, oA 148 3 147, oL 149 148, oM 6 149])
 .skip))
 (.seq (.seq (.region [oA 150 0 14, oL 151 150, oB 152 .eql 151 2, oM 153 152, Og 153 true 154 (.mov (.t 15)), Og 153 true 155 (.un .not (.t 154)), Oo 156 (.pick (.t 153) (.t 155) (.k (.bool false)))])
 (.cond (.t 156) (.region [oM 157 8, oM 158 6, Oo 159 (.bslc 1 1 [Zi 0] [(0, (.t 158))]), Oo 160 (.app 1 8 [Zi 0] (.t 157) (.t 159)), oM 8 160])
 .skip))
 (.seq (.seq (.region [oK 16 0])
 (.block 2 (.loop [0, 2, 2, 0, 0, 0, 0, 0, 4] h3l0)))
 (.seq (.seq (.region [oA 197 5 11, oL 198 197, oM 199 8, Oo 200 (.call 9 [(.t 198), (.t 199)]), Oo 201 (.un .not (.t 200))])
 (.cond (.t 201) (.seq (.region [Oo 2 (.mov (.k (.bool false)))])
 .ret)
 .skip))
 (.region [oG 202 6 11, oS 6 9 202])))))))))))
 (.region [oM 79 10, oB 80 .add 79 1, oM 10 80])))
def h3l2 : HC :=
 (.seq (.seq (.region [oM 205 19, oA 206 3 3, oL 207 206, oN 208 207, oC 209 .lss 205 208])
 (.cond (.t 209) .skip
 (.exit 4)))
 (.seq (.block 5 (.seq (.region [oA 212 4 3, oL 213 212, oM 214 19, oI 215 1 213 214, oL 216 215])
 (.cond (.t 216) (.region [oA 217 3 3, oL 218 217, oM 219 19, oI 220 1 218 219, oL 221 220, oM 18 221])
 .skip)))
 (.region [oM 210 19, oB 211 .add 210 1, oM 19 211])))
def h3c : HC :=
 (.seq (.region [Oo 2 (.mov (.k (.bool false)))])
 (.seq (.seq (.region [Oo 20 (.call 5 []), Oo 21 (.un .not (.t 20))])
 (.cond (.t 21) (.seq (.region [Oo 2 (.mov (.k (.bool false)))])
 .ret)
 .skip))
 (.seq (.seq (.region [oM 22 0, oN 23 22, oB 24 .gtr 23 60])
 (.cond (.t 24) (.seq (.region [Oo 2 (.mov (.k (.bool true)))])
 .ret)
 .skip))
 (.seq (.region [Oo 26 (.bslc 4 0 [Zi 0, Zi 0, Zi 0, Zi 0] []), oM 27 0, Oo 28 (.app 4 32 [Zi 0, Zi 0, Zi 0, Zi 0] (.t 26) (.t 27)), Oo 29 (.call 6 [(.t 28)]), oM 25 29, oE 30 25 0, oE 31 25 1, oE 32 25 2, Oo 3 (.alloc [(.slice none 0 0), (.slice none 0 0), Zi 0, (.slice none 0 0), (.slice none 0 0), (.slice none 0 0)]), oS 6 3 30, oM 4 31, oM 5 32])
 (.seq (.seq (.region [oM 33 5, oB 34 .neq 33 0])
 (.cond (.t 34) (.seq (.seq (.region [oM 35 4, oM 36 0, oN 37 36, oB 38 .sub 37 1, Oo 39 (.call 7 [(.t 35), (Ki 0), (.t 38)]), Oo 40 (.un .not (.t 39))])
 (.cond (.t 40) (.seq (.region [Oo 2 (.mov (.k (.bool false)))])
 .ret)
 .skip))
 (.seq (.region [oM 41 0, oM 42 4, Oo 43 (.slL 4 (.t 41) none (some (.t 42))), oM 0 43])
 (.region [Oo 45 (.bslc 4 0 [Zi 0, Zi 0, Zi 0, Zi 0] []), oM 46 0, Oo 47 (.app 4 32 [Zi 0, Zi 0, Zi 0, Zi 0] (.t 45) (.t 46)), Oo 48 (.call 6 [(.t 47)]), oM 44 48, oE 49 44 0, oE 50 44 1, oE 51 44 2, oS 6 3 49, oM 4 50, oM 5 51])))
 .skip))
 (.seq (.seq (.region [oM 52 5, oB 53 .neq 52 0, oM 54 53, Og 54 false 55 (.mov (.t 4)), Og 54 false 56 (.mov (.t 0)), Og 54 false 57 (.lenL (.t 56)), Og 54 false 58 (.bin .neq (.t 55) (.t 57)), Oo 59 (.pick (.t 54) (.k (.bool true)) (.t 58)), oM 60 59, Og 60 false 61 (.addo 3 (.t 3)), Og 60 false 62 (.load false 1 (.t 61)), Og 60 false 63 (.lenL (.t 62)), Og 60 false 64 (.bin .neq (.t 63) (Ki 8)), Oo 65 (.pick (.t 60) (.k (.bool true)) (.t 64)), oM 66 65, Og 66 false 67 (.addo 4 (.t 3)), Og 66 false 68 (.load false 1 (.t 67)), Og 66 false 69 (.lenL (.t 68)), Og 66 false 70 (.bin .neq (.t 69) (Ki 8)), Oo 71 (.pick (.t 66) (.k (.bool true)) (.t 70))])
 (.cond (.t 71) (.seq (.region [Oo 2 (.mov (.k (.bool false)))])
 .ret)
 .skip))
 (.seq (.region [oK 6 0])
 (.seq (.region [Oo 72 (.mk 1 8 [Zi 0] (Ki 8) (Ki 8)), oM 7 72])
 (.seq (.region [Oo 8 (.mov (.k (.slice none 0 0)))])
 (.gh (.nil 8 1) (.seq (.region [Oo 73 (.bslc 1 8 [Zi 0] [(0, (Ki (-1))), (1, (Ki (-1))), (2, (Ki (-1))), (3, (Ki (-1))), (4, (Ki (-1))), (5, (Ki (-1))), (6, (Ki (-1))), (7, (Ki (-1)))]), Oo 74 (.build [(.slice none 0 0), (.slice none 0 0), Zi 0, (.slice none 0 0), (.slice none 0 0), (.slice none 0 0)] [(3, 1, (.t 73))]), Oo 9 (.alloc [(.slice none 0 0), (.slice none 0 0), Zi 0, (.slice none 0 0), (.slice none 0 0), (.slice none 0 0)]), oS 6 9 74])
 (.seq (.seq (.region [oK 10 0])
 (.block 0 (.loop [0, 2, 2, 0, 0, 0, 0] h3l1)))
 (.seq (.region [oA 203 2 3, oL 204 203, oM 18 204])
 (.seq (.seq (.region [oK 19 0])
 (.block 4 (.loop [3, 2, 11, 0] h3l2)))
 (.seq (.region [oM 222 18, oM 223 6, oC 224 .eql 222 223, oM 2 224])
 .ret)))))))))))))))
abbrev h3 : HF := ⟨h3c, [.tmp 2], 225, false⟩
theorem h3_ok : CK Tryd.f3 h3c := by unfold CK; kernel_rfl
theorem r3_ok : RK Tryd.f3 [.tmp 2] := by unfold RK; kernel_rfl
def h5c : HC :=
 (.seq (.region [Oo 0 (.mov (.k (.bool false)))])
 (.seq (.region [Oo 12 (.build [Zi 0, Zi 0, Zi 0] [(0, 1, (Ki 0)), (1, 1, (Ki 1))]), Oo 13 (.build [Zi 0, Zi 0, Zi 0] [(0, 1, (Ki 1)), (1, 1, (Ki 1)), (2, 1, (Ki 3))]), Oo 14 (.build [Zi 0, Zi 0, Zi 0] [(0, 1, (Ki 0)), (1, 1, (Ki 2))]), Oo 15 (.bslc 3 3 [Zi 0, Zi 0, Zi 0] [(0, (.t 12)), (1, (.t 13)), (2, (.t 14))]), Oo 16 (.call 16 [(.t 15)]), oM 11 16, oE 17 11 0, oE 18 11 1, oE 19 11 2, oE 20 11 3, Oo 1 (.alloc [(.slice none 0 0), (.slice none 0 0)]), oS 2 1 17, oM 2 18, oM 3 19, oM 4 20])
 (.seq (.region [oG 22 2 1, Oo 23 (.build [Zi 0, Zi 0, Zi 0] [(0, 1, (Ki 4)), (1, 1, (Ki 1))]), Oo 24 (.call 10 [(.t 22), (.t 23)]), oM 21 24, oE 25 21 0, oE 26 21 1, oE 27 21 2, Oo 5 (.alloc [(.slice none 0 0), (.slice none 0 0)]), Oo 6 (.alloc [(.bool false), (.slice none 0 0), (.slice none 0 0)]), oS 2 5 25, oS 3 6 26, oM 7 27])
 (.seq (.region [Oo 29 (.build [Zi 0, Zi 0, Zi 0] [(0, 1, (Ki 0)), (1, 1, (Ki 1))]), Oo 30 (.build [Zi 0, Zi 0, Zi 0, Zi 0] [(0, 3, (.t 29))]), Oo 31 (.build [Zi 0, Zi 0, Zi 0] [(0, 1, (Ki 1)), (1, 1, (Ki 1)), (2, 1, (Ki 2))]), Oo 32 (.build [Zi 0, Zi 0, Zi 0, Zi 0] [(0, 3, (.t 31))]), Oo 33 (.build [Zi 0, Zi 0, Zi 0] [(0, 1, (Ki 3)), (1, 1, (Ki 1))]), Oo 34 (.build [Zi 0, Zi 0, Zi 0, Zi 0] [(0, 3, (.t 33)), (3, 1, (Ki 5))]), Oo 35 (.build [Zi 0, Zi 0, Zi 0] [(0, 1, (Ki 0)), (1, 1, (Ki 2))]), Oo 36 (.build [Zi 0, Zi 0, Zi 0, Zi 0] [(0, 3, (.t 35))]), Oo 37 (.build [Zi 0, Zi 0, Zi 0] [(0, 1, (Ki 2)), (1, 1, (Ki 2))]), Oo 38 (.build [Zi 0, Zi 0, Zi 0, Zi 0] [(0, 3, (.t 37))]), Oo 39 (.build [Zi 0, Zi 0, Zi 0] [(0, 1, (Ki 4)), (1, 1, (Ki 1))]), Oo 40 (.build [Zi 0, Zi 0, Zi 0, Zi 0] [(0, 3, (.t 39))]), Oo 41 (.bslc 4 6 [Zi 0, Zi 0, Zi 0, Zi 0] [(0, (.t 30)), (1, (.t 32)), (2, (.t 34)), (3, (.t 36)), (4, (.t 38)), (5, (.t 40))]), Oo 42 (.call 6 [(.t 41)]), oM 28 42, oE 43 28 0, oE 44 28 1, oE 45 28 2, Oo 8 (.alloc [(.slice none 0 0), (.slice none 0 0), Zi 0, (.slice none 0 0), (.slice none 0 0), (.slice none 0 0)]), oS 6 8 43, oM 9 44, oM 10 45])
 (.seq (.region [oM 46 4, oB 47 .eql 46 0, oM 48 47, Og 48 true 49 (.mov (.t 3)), Og 48 true 50 (.bin .eql (.t 49) (Ki 3)), Oo 51 (.pick (.t 48) (.t 50) (.k (.bool false))), oM 52 51, Og 52 true 53 (.mov (.t 2)), Og 52 true 54 (.lenL (.t 53)), Og 52 true 55 (.bin .eql (.t 54) (Ki 3)), Oo 56 (.pick (.t 52) (.t 55) (.k (.bool false))), oM 57 56, Og 57 true 58 (.load true 2 (.t 1)), Og 57 true 59 (.call 17 [(.t 58)]), Og 57 true 60 (.bin .eql (.t 59) (.k (.string ⟨#[49, 58, 51, 62, 50, 59, 50, 111]⟩))), Oo 61 (.pick (.t 57) (.t 60) (.k (.bool false))), oM 62 61, Og 62 true 63 (.mov (.t 7)), Og 62 true 64 (.bin .eql (.t 63) (Ki 0)), Oo 65 (.pick (.t 62) (.t 64) (.k (.bool false))), oM 66 65, Og 66 true 67 (.addo 0 (.t 6)), Og 66 true 68 (.load false 1 (.t 67)), Oo 69 (.pick (.t 66) (.t 68) (.k (.bool false))), oM 70 69, Og 70 true 71 (.load true 2 (.t 5)), Og 70 true 72 (.call 17 [(.t 71)]), Og 70 true 73 (.bin .eql (.t 72) (.k (.string ⟨#[49, 58, 50, 62, 50, 44, 50, 58, 48, 62, 48, 59]⟩))), Oo 74 (.pick (.t 70) (.t 73) (.k (.bool false))), oM 75 74, Og 75 true 76 (.mov (.t 10)), Og 75 true 77 (.bin .eql (.t 76) (Ki 0)), Oo 78 (.pick (.t 75) (.t 77) (.k (.bool false))), oM 79 78, Og 79 true 80 (.mov (.t 9)), Og 79 true 81 (.bin .eql (.t 80) (Ki 6)), Oo 82 (.pick (.t 79) (.t 81) (.k (.bool false))), oM 83 82, Og 83 true 84 (.addo 2 (.t 8)), Og 83 true 85 (.load false 1 (.t 84)), Og 83 true 86 (.bin .eql (.t 85) (Ki 5)), Oo 87 (.pick (.t 83) (.t 86) (.k (.bool false))), oM 88 87, Og 88 true 89 (.addo 5 (.t 8)), Og 88 true 90 (.load false 1 (.t 89)), Og 88 true 91 (.bslc 1 1 [Zi 0] [(0, (Ki 5))]), Og 88 true 92 (.call 9 [(.t 90), (.t 91)]), Oo 93 (.pick (.t 88) (.t 92) (.k (.bool false))), oM 0 93])
 .ret)))))
abbrev h5 : HF := ⟨h5c, [.tmp 0], 94, false⟩
theorem h5_ok : CK Tryd.f5 h5c := by unfold CK; kernel_rfl
theorem r5_ok : RK Tryd.f5 [.tmp 0] := by unfold RK; kernel_rfl
def h6l0 : HC :=
 (.seq (.region [oB 18 .lss 17 9])
 (.seq (.cond (.t 18) .skip
 (.exit 0))
 (.seq (.block 1 (.seq (.region [oM 19 17, oM 6 19])
 (.region [oL 20 5, oM 21 6, Oo 22 (.nilc (.t 20)), oA 23 2 22, Oo 24 (.ixA 9 1 (.t 23) (.t 21)), On (.store 1 (.t 24) (Ki (-1)))])))
 (.region [oB 25 .add 17 1, oM 17 25]))))
def h6c : HC :=
 (.seq (.region [Oo 2 (.alloc [(.slice none 0 0), (.slice none 0 0), Zi 0, (.slice none 0 0), (.slice none 0 0), (.slice none 0 0)]), oK 3 0, oK 4 0])
 (.seq (.seq (.region [oM 9 0, oN 10 9, oB 11 .gtr 10 100])
 (.cond (.t 11) (.seq (.region [Oo 12 (.build [(.slice none 0 0), (.slice none 0 0), Zi 0, (.slice none 0 0), (.slice none 0 0), (.slice none 0 0)] []), oS 6 2 12, oK 3 0, oK 4 8])
 .ret)
 .skip))
 (.seq (.region [Oo 13 (.build [(.slice none 0 0), (.slice none 0 0)] []), Oo 14 (.box (.t 13)), Oo 15 (.build [(.pointer none), Zi 0, Zi 0, Zi 0, Zi 0, Zi 0, Zi 0, Zi 0, Zi 0, Zi 0, Zi 0, (.bool false), (.bool false), (.bool false), (.bool false), (.bool false), (.bool false), (.bool false), (.bool false), (.bool false), Zi 0, Zi 0, Zi 0, Zi 0, Zi 0, Zi 0, Zi 0, Zi 0, Zi 0, (.slice none 0 0)] [(0, 1, (.t 14))]), Oo 16 (.box (.t 15)), Oo 5 (.alloc [(.pointer none)]), oS 1 5 16])
 (.gh (.nilB 14 0 3) (.gh (.nilB 14 1 2) (.gh (.nilB 16 29 1) (.seq (.seq (.region [oK 17 0])
 (.block 0 (.loop [0, 1, 2, 11] h6l0)))
 (.seq (.seq (.region [oM 27 0, Oo 28 (.mkfn 19 [(.t 5)]), Oo 29 (.call 18 [(.t 27), (.t 28)]), oM 26 29, oE 30 26 0, oE 31 26 1, oM 7 30, oM 8 31])
 (.seq (.region [oM 32 8, oB 33 .neq 32 0])
 (.cond (.t 33) (.seq (.region [Oo 34 (.build [(.slice none 0 0), (.slice none 0 0), Zi 0, (.slice none 0 0), (.slice none 0 0), (.slice none 0 0)] []), oM 35 7, oM 36 8, oS 6 2 34, oM 3 35, oM 4 36])
 .ret)
 .skip)))
 (.seq (.drawn [Qo (oL 37 5), Qo (Oo 38 (.nilc (.t 37))), Qo (oA 39 0 38), Qo (oL 40 39), Qo (Oo 41 (.nilc (.t 40))), Qo (oA 42 0 41), Qo (oG 43 2 42), Qo (oL 44 5), Qo (Oo 45 (.nilc (.t 44))), Qo (oA 46 1 45), Qo (oL 47 46), Qo (oL 48 5), Qo (Oo 49 (.nilc (.t 48))), Qo (oA 50 2 49), Qo (Oo 51 (.slA 9 1 (.t 50) (some (Ki 1)) none)), Qo (oL 52 5), Qo (Oo 53 (.nilc (.t 52))), Qo (oA 54 11 53), Qo (Oo 55 (.slA 9 1 (.t 54) (some (Ki 1)) none)), Qo (oL 56 5), Qo (Oo 57 (.nilc (.t 56))), Qo (oA 58 29 57), Qo (oL 59 58), Qo (Oo 60 (.build [(.slice none 0 0), (.slice none 0 0), Zi 0, (.slice none 0 0), (.slice none 0 0), (.slice none 0 0)] [(0, 2, (.t 43)), (2, 1, (.t 47)), (3, 1, (.t 51)), (4, 1, (.t 55)), (5, 1, (.t 59))])), Qo (oM 61 0), Qo (oN 62 61), Qe (oS 6 2 60), Qo (oM 3 62), Qo (oK 4 0)])
 .ret)))))))))
abbrev h6 : HF := ⟨h6c, [.cell 2 true 6, .tmp 3, .tmp 4], 63, false⟩
theorem h6_ok : CK Tryd.f6 h6c := by unfold CK; kernel_rfl
theorem r6_ok : RK Tryd.f6 [.cell 2 true 6, .tmp 3, .tmp 4] := by unfold RK; kernel_rfl
def h7c : HC :=
 (.seq (.region [Oo 6 (.mov (.k (.bool false)))])
 (.seq (.region [oM 7 1, oM 8 0, oC 9 .leq 7 8, oM 10 9, Og 10 true 11 (.mov (.t 0)), Og 10 true 12 (.mov (.t 2)), Og 10 true 13 (.bin .leq (.t 11) (.t 12)), Oo 14 (.pick (.t 10) (.t 13) (.k (.bool false))), oM 6 14])
 .ret))
abbrev h7 : HF := ⟨h7c, [.tmp 6], 15, false⟩
theorem h7_ok : CK Tryd.f7 h7c := by unfold CK; kernel_rfl
theorem r7_ok : RK Tryd.f7 [.tmp 6] := by unfold RK; kernel_rfl
def h8l0 : HC :=
 (.seq (.seq (.region [oM 6 5, oA 7 1 2, oL 8 7, oN 9 8, oC 10 .lss 6 9])
 (.cond (.t 10) .skip
 (.exit 0)))
 (.seq (.block 1 (.seq (.region [oA 13 1 2, oL 14 13, oM 15 5, oI 16 2 14 15, oA 17 0 16, oL 18 17, oM 19 1, oC 20 .eql 18 19])
 (.cond (.t 20) (.seq (.region [oM 21 5, oM 4 21])
 .ret)
 .skip)))
 (.region [oM 11 5, oB 12 .add 11 1, oM 5 12])))
def h8c : HC :=
 (.seq (.region [Oo 2 (.box (.t 0)), oK 4 0])
 (.seq (.seq (.region [oK 5 0])
 (.block 0 (.loop [1, 0, 2] h8l0)))
 (.seq (.region [Oo 4 (.mov (Ki (-1)))])
 .ret)))
abbrev h8 : HF := ⟨h8c, [.tmp 4], 22, false⟩
theorem h8_ok : CK Tryd.f8 h8c := by unfold CK; kernel_rfl
theorem r8_ok : RK Tryd.f8 [.tmp 4] := by unfold RK; kernel_rfl
def h9l0 : HC :=
 (.seq (.seq (.region [oM 11 5, oM 12 0, oN 13 12, oC 14 .lss 11 13])
 (.cond (.t 14) .skip
 (.exit 0)))
 (.seq (.block 1 (.seq (.drawn [Qo (oM 17 0), Qo (oM 18 5), Qo (oI 19 1 17 18), Qo (oL 20 19), Qo (oM 21 1), Qo (oM 22 5), Qo (oI 23 1 21 22), Qo (oL 24 23), Qo (oC 25 .neq 20 24)])
 (.cond (.t 25) (.seq (.region [Oo 4 (.mov (.k (.bool false)))])
 .ret)
 .skip)))
 (.region [oM 15 5, oB 16 .add 15 1, oM 5 16])))
def h9c : HC :=
 (.seq (.region [Oo 4 (.mov (.k (.bool false)))])
 (.seq (.seq (.region [oM 6 0, oN 7 6, oM 8 1, oN 9 8, oC 10 .neq 7 9])
 (.cond (.t 10) (.seq (.region [Oo 4 (.mov (.k (.bool false)))])
 .ret)
 .skip))
 (.seq (.seq (.region [oK 5 0])
 (.block 0 (.loop [0, 0, 3] h9l0)))
 (.seq (.region [Oo 4 (.mov (.k (.bool true)))])
 .ret))))
abbrev h9 : HF := ⟨h9c, [.tmp 4], 26, false⟩
theorem h9_ok : CK Tryd.f9 h9c := by unfold CK; kernel_rfl
theorem r9_ok : RK Tryd.f9 [.tmp 4] := by unfold RK; kernel_rfl
def h10c : HC :=
 (.seq (.region [Oo 2 (.box (.t 0)), Oo 3 (.box (.t 1)), Oo 4 (.alloc [(.slice none 0 0), (.slice none 0 0)]), Oo 5 (.alloc [(.bool false), (.slice none 0 0), (.slice none 0 0)]), oK 6 0])
 (.seq (.region [oG 11 2 2, Oo 12 (.call 21 [(.t 11)]), oM 10 12, oE 13 10 0, oE 14 10 1, oM 7 13, oM 8 14])
 (.seq (.seq (.region [oM 15 8, oB 16 .eql 15 0])
 (.cond (.t 16) (.regR [22, 100022] [oM 17 7, oG 18 3 3, Oo 19 (.call 22 [(.t 17), (.t 18)]), oM 8 19])
 .skip))
 (.seq (.seq (.region [oM 20 8, oB 21 .neq 20 0])
 (.cond (.t 21) (.seq (.region [Oo 22 (.build [(.slice none 0 0), (.slice none 0 0)] []), Oo 23 (.build [(.bool false), (.slice none 0 0), (.slice none 0 0)] []), oM 24 8, oS 2 4 22, oS 3 5 23, oM 6 24])
 .ret)
 .skip))
 (.seq (.regR [23] [oM 25 7, oG 26 3 3, Oo 27 (.call 23 [(.t 25), (.t 26)]), Oo 9 (.alloc [(.bool false), (.slice none 0 0), (.slice none 0 0)]), oS 3 9 27])
 (.seq (.drawnF [(4, 5)] [oM 28 7, Oo 29 (.nilc (.t 28)), oA 30 0 29, oG 31 2 30, oG 32 3 9, oS 2 4 31, oS 3 5 32, oK 6 0])
 .ret))))))
abbrev h10 : HF := ⟨h10c, [.cell 4 true 2, .cell 5 true 3, .tmp 6], 33, false⟩
theorem h10_ok : CK Tryd.f10 h10c := by unfold CK; kernel_rfl
theorem r10_ok : RK Tryd.f10 [.cell 4 true 2, .cell 5 true 3, .tmp 6] := by unfold RK; kernel_rfl
def h12c : HC :=
 (.seq (.region [Oo 1 (.box (.t 0)), oK 2 0, oK 3 0])
 (.seq (.seq (.region [oA 10 0 1, oL 11 10, oN 12 11, oB 13 .gtr 12 8, oM 14 13, Og 14 false 15 (.addo 1 (.t 1)), Og 14 false 16 (.load false 1 (.t 15)), Og 14 false 17 (.lenL (.t 16)), Og 14 false 18 (.bin .gtr (.t 17) (Ki 8)), Oo 19 (.pick (.t 14) (.k (.bool true)) (.t 18))])
 (.cond (.t 19) (.seq (.region [oK 2 0, oK 3 8])
 .ret)
 .skip))
 (.seq (.region [oG 20 2 1, Oo 21 (.call 24 [(.t 20)]), Oo 4 (.alloc [(.pointer none)]), oS 1 4 21])
 (.seq (.seq (.regR [25, 100025] [oL 23 4, Oo 24 (.nilc (.t 23)), oA 25 0 24, oA 26 0 25, oL 27 26, Oo 28 (.mkfn 26 [(.t 4)]), Oo 29 (.call 25 [(.t 27), (.t 28)]), oM 22 29, oE 30 22 0, oE 31 22 1, oM 5 30, oM 6 31])
 (.seq (.region [oM 32 6, oB 33 .neq 32 0])
 (.cond (.t 33) (.seq (.region [oM 34 5, oM 35 6, oM 2 34, oM 3 35])
 .ret)
 .skip)))
 (.seq (.seq (.regR [28, 100028] [oL 37 4, Oo 38 (.nilc (.t 37)), oA 39 0 38, oA 40 1 39, oL 41 40, Oo 42 (.mkfn 29 [(.t 4)]), Oo 43 (.call 28 [(.t 41), (.t 42)]), oM 36 43, oE 44 36 0, oE 45 36 1, oM 7 44, oM 8 45])
 (.seq (.region [oM 46 8, oB 47 .neq 46 0])
 (.cond (.t 47) (.seq (.region [oM 48 7, oM 49 8, oM 2 48, oM 3 49])
 .ret)
 .skip)))
 (.seq (.seq (.region [oA 50 1 1, oL 51 50, oN 52 51, oB 53 .eql 52 0])
 (.cond (.t 53) (.seq (.region [oK 2 0, oK 3 0])
 .ret)
 .skip))
 (.seq (.drawnT [31] (.st 0 (.st 1 (.st 2 (.st 3 (.st 4 (.st 5 (.st 6 .nil))))))) [oL 54 4, oA 55 1 1, oL 56 55, Oo 57 (.ixL 2 (.t 56) (Ki 0)), oG 58 2 57, Oo 59 (.call 31 [(.t 54), (.t 58)]), oM 9 59])
 (.seq (.drawn [Qo (oM 60 9), Qo (oN 61 60), Qo (oB 62 .eql 61 0), Qo (oM 63 62), Qo (Og 63 true 64 (.load false 1 (.t 4))), Qo (Og 63 true 65 (.addo 1 (.t 1))), Qo (Og 63 true 66 (.load false 1 (.t 65))), Qo (Og 63 true 67 (.ixL 2 (.t 66) (Ki 0))), Qo (Og 63 true 68 (.load true 2 (.t 67))), Qe (Og 63 true 69 (.call 33 [(.t 64), (.t 68)])), Qo (Oo 70 (.pick (.t 63) (.t 69) (.k (.bool false)))), Qe (Oo 71 (.call 32 [(.t 70), (Ki 20)])), Qo (oK 2 0), Qo (oM 3 71)])
 .ret))))))))
abbrev h12 : HF := ⟨h12c, [.tmp 2, .tmp 3], 72, false⟩
theorem h12_ok : CK Tryd.f12 h12c := by unfold CK; kernel_rfl
theorem r12_ok : RK Tryd.f12 [.tmp 2, .tmp 3] := by unfold RK; kernel_rfl
def h16c : HC :=
 (.seq (.region [Oo 2 (.alloc [(.slice none 0 0), (.slice none 0 0)]), Oo 3 (.mov (.k (.slice none 0 0))), oK 4 0, oK 5 0])
 (.seq (.seq (.region [oM 10 0, oN 11 10, oB 12 .gtr 11 100])
 (.cond (.t 12) (.seq (.region [Oo 13 (.build [(.slice none 0 0), (.slice none 0 0)] []), oS 2 2 13, Oo 3 (.mov (.k (.slice none 0 0))), oK 4 0, oK 5 8])
 .ret)
 .skip))
 (.seq (.region [Oo 14 (.build [(.slice none 0 0), (.slice none 0 0)] []), Oo 15 (.box (.t 14)), Oo 6 (.alloc [(.pointer none)]), oS 1 6 15])
 (.gh (.nilB 15 0 3) (.gh (.nilB 15 1 2) (.seq (.region [Oo 7 (.alloc [(.slice none 0 0)])])
 (.gh (.nilB 7 0 3) (.seq (.seq (.region [oM 17 0, Oo 18 (.mkfn 36 [(.t 6), (.t 7)]), Oo 19 (.call 35 [(.t 17), (.t 18)]), oM 16 19, oE 20 16 0, oE 21 16 1, oM 8 20, oM 9 21])
 (.seq (.region [oM 22 9, oB 23 .neq 22 0])
 (.cond (.t 23) (.seq (.region [Oo 24 (.build [(.slice none 0 0), (.slice none 0 0)] []), oM 25 8, oM 26 9, oS 2 2 24, Oo 3 (.mov (.k (.slice none 0 0))), oM 4 25, oM 5 26])
 .ret)
 .skip)))
 (.seq (.drawnF [(4, 7), (5, 7), (6, 7)] [oL 27 6, Oo 28 (.nilc (.t 27)), oA 29 0 28, oG 30 2 29, oL 31 7, oM 32 0, oN 33 32, oS 2 2 30, oM 3 31, oM 4 33, oK 5 0])
 .ret)))))))))
abbrev h16 : HF := ⟨h16c, [.cell 2 true 2, .tmp 3, .tmp 4, .tmp 5], 34, false⟩
theorem h16_ok : CK Tryd.f16 h16c := by unfold CK; kernel_rfl
theorem r16_ok : RK Tryd.f16 [.cell 2 true 2, .tmp 3, .tmp 4, .tmp 5] := by unfold RK; kernel_rfl
def h17l0 : HC :=
 (.seq (.region [oC 13 .lss 12 11])
 (.seq (.cond (.t 13) .skip
 (.exit 0))
 (.seq (.block 1 (.seq (.region [oI 14 3 10 12, oG 15 3 14, Oo 6 (.alloc [Zi 0, Zi 0, Zi 0]), oS 3 6 15])
 (.drawn [Qo (oM 16 3), Qo (oA 17 0 6), Qo (oL 18 17), Qo (Oo 19 (.call 37 [(.t 18)])), Qo (Oo 20 (.bin .add (.t 19) (.k (.string ⟨#[58]⟩)))), Qo (oA 21 1 6), Qo (oL 22 21), Qo (Oo 23 (.call 37 [(.t 22)])), Qo (oC 24 .add 20 23), Qo (Oo 25 (.bin .add (.t 24) (.k (.string ⟨#[62]⟩)))), Qo (oA 26 2 6), Qo (oL 27 26), Qo (Oo 28 (.call 37 [(.t 27)])), Qo (oC 29 .add 25 28), Qe (Oo 30 (.bslc 1 1 [(.string ⟨#[]⟩)] [(0, (.t 29))])), Qe (Oo 31 (.app 1 16 [(.string ⟨#[]⟩)] (.t 16) (.t 30))), Qo (oM 3 31)])))
 (.region [oB 32 .add 12 1, oM 12 32]))))
def h17l1 : HC :=
 (.seq (.region [oC 37 .lss 36 35])
 (.seq (.cond (.t 37) .skip
 (.exit 2))
 (.seq (.block 3 (.seq (.region [oI 38 2 34 36, oG 39 2 38, Oo 8 (.alloc [Zi 0, Zi 0]), oS 2 8 39])
 (.drawn [Qo (oM 40 4), Qo (oA 41 0 8), Qo (oL 42 41), Qo (Oo 43 (.call 37 [(.t 42)])), Qo (oA 44 1 8), Qo (oL 45 44), Qo (Oo 46 (.call 38 [(.t 45)])), Qo (oC 47 .add 43 46), Qe (Oo 48 (.bslc 1 1 [(.string ⟨#[]⟩)] [(0, (.t 47))])), Qe (Oo 49 (.app 1 16 [(.string ⟨#[]⟩)] (.t 40) (.t 48))), Qo (oM 4 49)])))
 (.region [oB 50 .add 36 1, oM 36 50]))))
def h17c : HC :=
 (.seq (.region [Oo 1 (.box (.t 0)), Oo 2 (.mov (.k (.string ⟨#[]⟩)))])
 (.seq (.region [Oo 3 (.mov (.k (.slice none 0 0))), Oo 4 (.mov (.k (.slice none 0 0)))])
 (.gh (.nil 3 1) (.gh (.nil 4 1) (.seq (.seq (.region [oA 9 0 1, oL 10 9, oN 11 10, oK 12 0])
 (.block 0 (.loop [1, 1, 0, 5, 0, 0] h17l0)))
 (.seq (.seq (.region [oA 33 1 1, oL 34 33, oN 35 34, oK 36 0])
 (.block 2 (.loop [3, 0, 29, 0, 0] h17l1)))
 (.seq (.region [oM 51 3, Oo 52 (.call 39 [(.t 51), (.k (.string ⟨#[44]⟩))]), Oo 53 (.bin .add (.t 52) (.k (.string ⟨#[59]⟩))), oM 54 4, Oo 55 (.call 39 [(.t 54), (.k (.string ⟨#[44]⟩))]), oC 56 .add 53 55, oM 2 56])
 .ret)))))))
abbrev h17 : HF := ⟨h17c, [.tmp 2], 57, false⟩
theorem h17_ok : CK Tryd.f17 h17c := by unfold CK; kernel_rfl
theorem r17_ok : RK Tryd.f17 [.tmp 2] := by unfold RK; kernel_rfl
def h18l0 : HC :=
 (.seq (.region [oC 12 .lss 11 10])
 (.seq (.cond (.t 12) .skip
 (.exit 0))
 (.seq (.block 1 (.seq (.region [oM 13 11, oI 14 4 9 11, oG 15 4 14, Oo 7 (.alloc [Zi 0, Zi 0, Zi 0, Zi 0]), oM 6 13, oS 4 7 15])
 (.seq (.region [oM 16 1, oM 17 6, oG 18 4 7, Oo 19 (.callv (.t 16) [(.t 17), (.t 18)]), oM 8 19])
 (.seq (.region [oM 20 8, oB 21 .neq 20 0])
 (.cond (.t 21) (.seq (.region [oM 22 6, oM 23 8, oM 4 22, oM 5 23])
 .ret)
 .skip)))))
 (.region [oB 24 .add 11 1, oM 11 24]))))
def h18c : HC :=
 (.seq (.region [oK 4 0, oK 5 0])
 (.seq (.seq (.region [oM 9 0, oN 10 9, oK 11 0])
 (.block 0 (.loop [1, 7, 0, 0] h18l0)))
 (.seq (.region [oK 4 0, oK 5 0])
 .ret)))
abbrev h18 : HF := ⟨h18c, [.tmp 4, .tmp 5], 25, false⟩
theorem h18_ok : CK Tryd.f18 h18c := by unfold CK; kernel_rfl
theorem r18_ok : RK Tryd.f18 [.tmp 4, .tmp 5] := by unfold RK; kernel_rfl
def h19c : HC :=
 (.seq (.region [Oo 4 (.box (.t 1)), oK 5 0])
 (.seq (.region [oL 6 2, oG 7 4 4, Oo 8 (.call 20 [(.t 6), (.t 7)]), oM 5 8])
 .ret))
abbrev h19 : HF := ⟨h19c, [.tmp 5], 9, false⟩
theorem h19_ok : CK Tryd.f19 h19c := by unfold CK; kernel_rfl
theorem r19_ok : RK Tryd.f19 [.tmp 5] := by unfold RK; kernel_rfl
def h20l0 : HC :=
 (.seq (.region [oC 111 .lss 110 109])
 (.seq (.cond (.t 111) .skip
 (.exit 0))
 (.seq (.block 1 (.seq (.region [oI 112 2 108 110, oG 113 2 112, Oo 11 (.alloc [Zi 0, Zi 0]), oS 2 11 113])
 (.regR [44] [oM 114 0, oG 115 2 11, Oo 116 (.call 44 [(.t 114), (.t 115)])])))
 (.region [oB 117 .add 110 1, oM 110 117]))))
def h20l1 : HC :=
 (.seq (.region [oB 119 .lss 118 9])
 (.seq (.cond (.t 119) .skip
 (.exit 2))
 (.seq (.block 3 (.seq (.region [oM 120 118, oM 12 120])
 (.seq (.region [oM 122 0, oM 123 12, Oo 124 (.call 45 [(.t 122), (.t 123)]), oM 121 124, oE 125 121 0, oE 126 121 1, oM 13 125, oM 14 126])
 (.seq (.region [oM 127 13, oB 128 .lss 127 1])
 (.cond (.t 128) (.drawnT [] (.st 0 (.st 1 (.st 2 (.st 3 (.st 4 (.st 5 (.st 6 (.st 8 (.st 9 (.st 7 (.st 10 (.st 11 .nil)))))))))))) [oM 129 0, oM 130 12, oM 131 0, oM 132 12, Oo 133 (.nilc (.t 129)), oA 134 2 133, Oo 135 (.ixA 9 1 (.t 134) (.t 130)), On (.store 1 (.t 135) (Ki (-1))), Oo 136 (.nilc (.t 131)), oA 137 11 136, Oo 138 (.ixA 9 1 (.t 137) (.t 132)), On (.store 1 (.t 138) (.k (.bool false)))])
 .skip)))))
 (.region [oB 139 .add 118 1, oM 118 139]))))
def h20c : HC :=
 (.seq (.region [Oo 3 (.box (.t 1)), oK 4 0])
 (.seq (.region [oK 5 0])
 (.seq (.seq (.region [oA 15 0 3, oA 16 0 15, oL 17 16, oB 18 .eql 17 3])
 (.cond (.t 18) (.region [oK 5 999])
 .skip))
 (.seq (.seq (.drawn [Qo (oA 19 3 3), Qo (oL 20 19), Qo (oM 21 5), Qo (Oo 22 (.call 41 [(.t 20), (Ki 0), (.t 21)])), Qo (Oo 23 (.call 32 [(.t 22), (Ki 2)])), Qo (oM 24 0), Qo (Oo 25 (.nilc (.t 24))), Qo (oA 26 0 25), Qo (oL 27 26), Qo (oA 28 0 3), Qo (oG 29 3 28), Qe (Oo 30 (.call 42 [(.t 27), (.t 29)])), Qe (Oo 31 (.bslc 1 2 [Zi 0] [(0, (.t 23)), (1, (.t 30))])), Qe (Oo 32 (.call 40 [(.t 31)])), Qo (oM 6 32)])
 (.seq (.region [oM 33 6, oB 34 .neq 33 0])
 (.cond (.t 34) (.seq (.region [oM 35 6, oM 4 35])
 .ret)
 .skip)))
 (.seq (.seq (.regR [43] [oM 36 0, oG 37 4 3, Oo 38 (.call 43 [(.t 36), (.t 37)])])
 (.cond (.t 38) (.seq (.region [oK 4 0])
 .ret)
 .skip))
 (.seq (.seq (.drawn [Qo (oM 39 0), Qo (Oo 40 (.nilc (.t 39))), Qo (oA 41 0 40), Qo (oL 42 41), Qo (oA 43 0 3), Qo (oG 44 3 43), Qe (Oo 45 (.call 22 [(.t 42), (.t 44)])), Qo (oM 7 45)])
 (.seq (.region [oM 46 7, oB 47 .neq 46 0])
 (.cond (.t 47) (.seq (.region [oM 48 7, oM 4 48])
 .ret)
 .skip)))
 (.seq (.region [oA 49 0 3, oA 50 1 49, oL 51 50, oM 8 51])
 (.seq (.seq (.region [oA 52 0 3, oA 53 0 52, oL 54 53, oB 55 .eql 54 4, oM 56 55, Og 56 false 57 (.addo 0 (.t 3)), Og 56 false 58 (.addo 0 (.t 57)), Og 56 false 59 (.load false 1 (.t 58)), Og 56 false 60 (.bin .eql (.t 59) (Ki 5)), Oo 61 (.pick (.t 56) (.k (.bool true)) (.t 60)), oM 62 61, Og 62 true 63 (.mov (.t 0)), Og 62 true 64 (.mov (.t 8)), Og 62 true 65 (.nilc (.t 63)), Og 62 true 66 (.addo 11 (.t 65)), Og 62 true 67 (.ixA 9 1 (.t 66) (.t 64)), Og 62 true 68 (.load false 1 (.t 67)), Oo 69 (.pick (.t 62) (.t 68) (.k (.bool false)))])
 (.cond (.t 69) (.drawnT [] (.st 0 (.st 1 (.st 2 (.st 3 (.st 4 (.st 5 (.st 6 (.st 7 (.st 8 (.st 9 (.st 10 (.st 12 (.st 13 (.st 11 (.st 14 (.st 15 .nil)))))))))))))))) [oM 70 0, oM 71 0, oM 72 8, oM 73 0, oM 74 8, Oo 75 (.nilc (.t 73)), oA 76 2 75, Oo 77 (.ixA 9 1 (.t 76) (.t 74)), oL 78 77, Oo 79 (.nilc (.t 70)), oA 80 1 79, oS 1 80 78, Oo 81 (.nilc (.t 71)), oA 82 11 81, Oo 83 (.ixA 9 1 (.t 82) (.t 72)), On (.store 1 (.t 83) (.k (.bool false)))])
 .skip))
 (.seq (.drawn [Qo (oM 84 0), Qo (oM 85 8), Qo (oA 86 3 3), Qo (oL 87 86), Qo (Oo 88 (.nilc (.t 84))), Qo (oA 89 20 88), Qo (Oo 90 (.ixA 9 1 (.t 89) (.t 85))), Qe (oS 1 90 87)])
 (.seq (.drawnT [23] (.st 0 (.st 1 (.st 2 (.st 4 (.br 3 (.br 5 (.br 6 (.st 7 (.st 8 .nil)) (.br 7 (.st 6 (.st 8 .nil)) .stop)) (.br 7 (.st 5 (.st 6 (.st 8 .nil))) .stop)) (.br 5 (.br 3 (.br 6 (.st 7 (.st 8 .nil)) (.br 7 (.st 6 (.st 8 .nil)) .stop)) (.br 7 (.st 3 (.st 6 (.st 8 .nil))) .stop)) (.br 7 (.st 3 (.st 5 (.st 6 (.st 8 .nil)))) .stop))))))) [oM 91 0, Oo 92 (.nilc (.t 91)), oA 93 0 92, oL 94 93, oA 95 0 3, oG 96 3 95, Oo 97 (.call 23 [(.t 94), (.t 96)]), Oo 9 (.alloc [(.bool false), (.slice none 0 0), (.slice none 0 0)]), oS 3 9 97])
 (.seq (.seq (.region [oA 98 0 9, oL 99 98])
 (.cond (.t 99) (.regR [44] [oM 100 0, oM 101 8, oA 102 0 3, oA 103 0 102, oL 104 103, Oo 105 (.build [Zi 0, Zi 0] [(0, 1, (.t 101)), (1, 1, (.t 104))]), Oo 106 (.call 44 [(.t 100), (.t 105)])])
 .skip))
 (.seq (.seq (.region [oA 107 2 9, oL 108 107, oN 109 108, oK 110 0])
 (.block 0 (.loop [0, 107, 0, 0] h20l0)))
 (.seq (.seq (.region [oK 118 0])
 (.block 2 (.loop [0, 117] h20l1)))
 (.seq (.region [oK 4 0])
 .ret))))))))))))))
abbrev h20 : HF := ⟨h20c, [.tmp 4], 140, false⟩
theorem h20_ok : CK Tryd.f20 h20c := by unfold CK; kernel_rfl
theorem r20_ok : RK Tryd.f20 [.tmp 4] := by unfold RK; kernel_rfl
def h21c : HC :=
 (.seq (.region [Oo 1 (.box (.t 0)), Oo 2 (.mov (.k (.pointer none))), oK 3 0])
 (.seq (.seq (.region [oG 7 2 1, Oo 8 (.call 12 [(.t 7)]), oM 6 8, oE 9 6 0, oE 10 6 1, oM 4 9, oM 5 10])
 (.seq (.region [oM 11 5, oB 12 .neq 11 0])
 (.cond (.t 12) (.seq (.region [oM 13 5, Oo 2 (.mov (.k (.pointer none))), oM 3 13])
 .ret)
 .skip)))
 (.seq (.region [oG 14 2 1, Oo 15 (.call 24 [(.t 14)]), oM 2 15, oK 3 0])
 .ret)))
abbrev h21 : HF := ⟨h21c, [.tmp 2, .tmp 3], 16, true⟩
theorem h21_ok : CK Tryd.f21 h21c := by unfold CK; kernel_rfl
theorem r21_ok : RK Tryd.f21 [.tmp 2, .tmp 3] := by unfold RK; kernel_rfl
def h22c : HC :=
 (.seq (.region [Oo 3 (.box (.t 1)), oK 4 0])
 (.seq (.seq (.region [oM 9 0, oG 10 3 3, Oo 11 (.call 42 [(.t 9), (.t 10)]), oM 5 11])
 (.seq (.region [oM 12 5, oB 13 .neq 12 0])
 (.cond (.t 13) (.seq (.region [oM 14 5, oM 4 14])
 .ret)
 .skip)))
 (.seq (.seq (.region [oM 15 0, oA 16 1 3, oL 17 16, Oo 18 (.call 46 [(.t 15), (.t 17)]), oM 6 18])
 (.seq (.region [oM 19 6, Oo 20 (.isnil true true (.t 19))])
 (.cond (.t 20) (.seq (.drawn [Qo (oM 21 6), Qo (Oo 22 (.nilc (.t 21))), Qo (oA 23 2 22), Qo (oL 24 23), Qo (oM 25 6), Qo (Oo 26 (.nilc (.t 25))), Qo (oA 27 1 26), Qo (oL 28 27), Qo (oC 29 .neq 24 28), Qo (oM 7 29)])
 (.seq (.region [oM 30 7, oM 8 30])
 (.seq (.seq (.region [oA 31 0 3, oL 32 31])
 (.block 0 (.seq (.region [oB 34 .eql 32 4, oM 33 34])
 (.cond (.t 33) (.region [oM 35 7, Oo 36 (.un .not (.t 35)), oM 8 36])
 (.seq (.region [oB 38 .eql 32 5, oM 37 38])
 (.cond (.t 37) (.region [Oo 8 (.mov (.k (.bool false)))])
 (.seq (.region [oB 40 .eql 32 1, oM 39 40])
 (.cond (.t 39) (.drawn [Qo (oM 41 7), Qo (oM 42 41), Qo (Og 42 false 43 (.addo 2 (.t 3))), Qo (Og 42 false 44 (.load false 1 (.t 43))), Qo (Og 42 false 45 (.mov (.t 6))), Qo (Og 42 false 46 (.nilc (.t 45))), Qo (Og 42 false 47 (.addo 1 (.t 46))), Qo (Og 42 false 48 (.load false 1 (.t 47))), Qo (Og 42 false 49 (.bin .leq (.t 44) (.t 48))), Qo (Oo 50 (.pick (.t 42) (.k (.bool true)) (.t 49))), Qo (oM 8 50)])
 .skip))))))))
 (.seq (.region [oM 51 8])
 (.cond (.t 51) (.seq (.region [oK 4 20])
 .ret)
 .skip)))))
 .skip)))
 (.seq (.seq (.region [oA 52 0 3, oL 53 52, oB 54 .eql 53 1, oM 55 54, Og 55 true 56 (.mov (.t 0)), Og 55 true 57 (.load true 3 (.t 3)), Og 55 true 58 (.call 47 [(.t 56), (.t 57)]), Og 55 true 59 (.un .not (.t 58)), Oo 60 (.pick (.t 55) (.t 59) (.k (.bool false)))])
 (.cond (.t 60) (.seq (.region [oK 4 24])
 .ret)
 .skip))
 (.seq (.seq (.region [oA 61 0 3, oL 62 61, Oo 63 (.call 48 [(.t 62)]), oM 64 63, Og 64 true 65 (.mov (.t 0)), Og 64 true 66 (.nilc (.t 65)), Og 64 true 67 (.addo 0 (.t 66)), Og 64 true 68 (.addo 1 (.t 67)), Og 64 true 69 (.load false 1 (.t 68)), Og 64 true 70 (.lenL (.t 69)), Og 64 true 71 (.bin .eql (.t 70) (Ki 8)), Oo 72 (.pick (.t 64) (.t 71) (.k (.bool false)))])
 (.cond (.t 72) (.seq (.region [oK 4 16])
 .ret)
 .skip))
 (.seq (.region [oK 4 0])
 .ret))))))
abbrev h22 : HF := ⟨h22c, [.tmp 4], 73, false⟩
theorem h22_ok : CK Tryd.f22 h22c := by unfold CK; kernel_rfl
theorem r22_ok : RK Tryd.f22 [.tmp 4] := by unfold RK; kernel_rfl
def h23c : HC :=
 (.seq (.region [Oo 3 (.box (.t 1)), Oo 4 (.alloc [(.bool false), (.slice none 0 0), (.slice none 0 0)])])
 (.seq (.region [Oo 8 (.build [(.bool false), (.slice none 0 0), (.slice none 0 0)] [(0, 1, (.k (.bool true)))]), Oo 5 (.alloc [(.bool false), (.slice none 0 0), (.slice none 0 0)]), oS 3 5 8])
 (.seq (.regR [49, 100049] [oM 10 0, oA 11 1 3, oL 12 11, Oo 13 (.call 49 [(.t 10), (.t 12)]), oM 9 13, oE 14 9 0, oE 15 9 1, oM 6 14, oM 7 15])
 (.seq (.seq (.region [oA 16 0 3, oL 17 16])
 (.block 0 (.seq (.region [oB 31 .eql 17 1, oM 30 31])
 (.cond (.t 30) (.drawnT [] (.st 0 (.st 1 (.st 2 (.st 3 (.st 4 (.st 5 (.st 6 (.st 7 (.st 8 (.st 9 (.st 10 (.st 11 (.st 12 (.st 13 (.st 14 (.st 16 (.st 17 (.br 15 (.st 18 (.st 19 (.st 20 (.st 21 .nil)))) (.br 18 (.st 15 (.st 19 (.st 20 (.st 21 .nil)))) .stop))))))))))))))))))) [oM 32 0, Oo 33 (.nilc (.t 32)), oA 34 0 33, oA 35 0 34, oL 36 35, oM 37 6, oM 38 0, Oo 39 (.nilc (.t 38)), oA 40 0 39, oA 41 0 40, oL 42 41, oM 43 6, oA 44 2 3, oL 45 44, oA 46 2 3, oL 47 46, oI 48 3 36 37, oA 49 1 48, oS 1 49 45, oI 50 3 42 43, oA 51 2 50, oS 1 51 47])
 (.seq (.region [oB 53 .eql 17 4, oM 52 53])
 (.cond (.t 52) (.seq (.drawnT [] (.st 0 (.st 1 (.st 2 (.st 3 (.st 4 (.st 5 (.st 6 (.st 7 (.st 8 (.st 9 (.st 10 (.st 11 (.st 12 (.st 13 (.st 14 (.st 15 (.st 16 (.st 17 .nil)))))))))))))))))) [oM 54 0, Oo 55 (.nilc (.t 54)), oA 56 0 55, oA 57 0 56, oL 58 57, oM 59 6, oM 60 0, Oo 61 (.nilc (.t 60)), oA 62 0 61, oA 63 0 62, oL 64 63, oM 65 6, oI 66 3 64 65, oA 67 2 66, oL 68 67, oI 69 3 58 59, oA 70 1 69, oS 1 70 68])
 (.regR [50] [oM 72 0, Oo 73 (.call 50 [(.t 72)]), oM 71 73, oE 74 71 0, oE 75 71 1, oA 76 1 5, oS 1 76 74, oA 77 2 5, oS 1 77 75]))
 (.seq (.region [oB 79 .eql 17 5, oM 78 79])
 (.cond (.t 78) (.seq (.regR [51] [oM 80 0, oM 81 0, Oo 82 (.nilc (.t 81)), oA 83 0 82, oA 84 0 83, oL 85 84, oM 86 6, oM 87 6, oB 88 .add 87 1, Oo 89 (.call 51 [(.t 85), (.t 86), (.t 88)]), Oo 90 (.nilc (.t 80)), oA 91 0 90, oA 92 0 91, oS 1 92 89])
 (.regR [50] [oM 94 0, Oo 95 (.call 50 [(.t 94)]), oM 93 95, oE 96 93 0, oE 97 93 1, oA 98 1 5, oS 1 98 96, oA 99 2 5, oS 1 99 97]))
 (.regR [52] [oM 19 0, oA 20 1 3, oL 21 20, oA 22 0 3, oL 23 22, Oo 24 (.build [Zi 0, Zi 0] [(0, 1, (.t 21)), (1, 1, (.t 23))]), Oo 25 (.call 52 [(.t 19), (.t 24)]), oM 18 25, oE 26 18 0, oE 27 18 1, oA 28 0 5, oS 1 28 26, oA 29 1 5, oS 1 29 27])))))))))
 (.seq (.region [oG 100 3 5, oS 3 4 100])
 .ret)))))
abbrev h23 : HF := ⟨h23c, [.cell 4 true 3], 101, false⟩
theorem h23_ok : CK Tryd.f23 h23c := by unfold CK; kernel_rfl
theorem r23_ok : RK Tryd.f23 [.cell 4 true 3] := by unfold RK; kernel_rfl
def h24c : HC :=
 (.seq (.region [Oo 1 (.box (.t 0)), Oo 2 (.mov (.k (.pointer none)))])
 (.seq (.drawnT [] (.st 0 (.st 1 (.st 3 (.br 2 (.st 4 (.st 5 (.st 6 (.st 7 (.st 8 (.st 9 .nil)))))) (.br 4 (.st 2 (.st 5 (.st 6 (.st 7 (.st 8 (.st 9 .nil)))))) .stop))))) [oA 3 0 1, oL 4 3, Oo 5 (.call 53 [(.t 4)]), oA 6 1 1, oL 7 6, Oo 8 (.call 54 [(.t 7)]), Oo 9 (.build [(.slice none 0 0), (.slice none 0 0)] [(0, 1, (.t 5)), (1, 1, (.t 8))]), Oo 10 (.build [(.slice none 0 0), (.slice none 0 0)] [(0, 2, (.t 9))]), Oo 11 (.box (.t 10)), oM 2 11])
 .ret))
abbrev h24 : HF := ⟨h24c, [.tmp 2], 12, true⟩
theorem h24_ok : CK Tryd.f24 h24c := by unfold CK; kernel_rfl
theorem r24_ok : RK Tryd.f24 [.tmp 2] := by unfold RK; kernel_rfl
def h25l0 : HC :=
 (.seq (.region [oC 12 .lss 11 10])
 (.seq (.cond (.t 12) .skip
 (.exit 0))
 (.seq (.block 1 (.seq (.region [oM 13 11, oI 14 3 9 11, oG 15 3 14, Oo 7 (.alloc [Zi 0, Zi 0, Zi 0]), oM 6 13, oS 3 7 15])
 (.seq (.region [oM 16 1, oM 17 6, oG 18 3 7, Oo 19 (.callv (.t 16) [(.t 17), (.t 18)]), oM 8 19])
 (.seq (.region [oM 20 8, oB 21 .neq 20 0])
 (.cond (.t 21) (.seq (.region [oM 22 6, oM 23 8, oM 4 22, oM 5 23])
 .ret)
 .skip)))))
 (.region [oB 24 .add 11 1, oM 11 24]))))
def h25c : HC :=
 (.seq (.region [oK 4 0, oK 5 0])
 (.seq (.seq (.region [oM 9 0, oN 10 9, oK 11 0])
 (.block 0 (.loop [1, 7, 0, 0] h25l0)))
 (.seq (.region [oK 4 0, oK 5 0])
 .ret)))
abbrev h25 : HF := ⟨h25c, [.tmp 4, .tmp 5], 25, false⟩
theorem h25_ok : CK Tryd.f25 h25c := by unfold CK; kernel_rfl
theorem r25_ok : RK Tryd.f25 [.tmp 4, .tmp 5] := by unfold RK; kernel_rfl
def h26c : HC :=
 (.seq (.region [Oo 4 (.box (.t 1)), oK 5 0])
 (.seq (.region [oL 6 2, oM 7 0, Oo 8 (.call 27 [(.t 6), (.t 7)]), oM 5 8])
 .ret))
abbrev h26 : HF := ⟨h26c, [.tmp 5], 9, false⟩
theorem h26_ok : CK Tryd.f26 h26c := by unfold CK; kernel_rfl
theorem r26_ok : RK Tryd.f26 [.tmp 5] := by unfold RK; kernel_rfl
def h27c : HC :=
 (.seq (.region [Oo 2 (.box (.t 0)), oK 4 0])
 (.seq (.region [oL 9 2, Oo 10 (.nilc (.t 9)), oA 11 0 10, oA 12 0 11, oL 13 12, oM 14 1, oI 15 3 13 14, oG 16 3 15, Oo 5 (.alloc [Zi 0, Zi 0, Zi 0]), oS 3 5 16])
 (.seq (.region [oA 17 0 5, oL 18 17, Oo 19 (.call 55 [(.t 18)]), oM 20 19, Og 20 true 21 (.addo 1 (.t 5)), Og 20 true 22 (.load false 1 (.t 21)), Og 20 true 23 (.call 41 [(.t 22), (Ki 0), (Ki 3)]), Oo 24 (.pick (.t 20) (.t 23) (.k (.bool false))), oM 25 24, Og 25 true 26 (.addo 2 (.t 5)), Og 25 true 27 (.load false 1 (.t 26)), Og 25 true 28 (.addo 1 (.t 5)), Og 25 true 29 (.load false 1 (.t 28)), Og 25 true 30 (.call 41 [(.t 27), (Ki 0), (.t 29)]), Oo 31 (.pick (.t 25) (.t 30) (.k (.bool false))), oM 6 31])
 (.seq (.region [Oo 32 (.mkfn 56 [(.t 2), (.t 5)]), oM 7 32])
 (.seq (.region [oA 33 1 5, oL 34 33, oB 35 .geq 34 2, oM 36 35, Og 36 true 37 (.mov (.t 7)), Og 36 true 38 (.callv (.t 37) [(Ki 1)]), Oo 39 (.pick (.t 36) (.t 38) (.k (.bool false))), oM 40 39, Og 40 false 41 (.addo 1 (.t 5)), Og 40 false 42 (.load false 1 (.t 41)), Og 40 false 43 (.bin .eql (.t 42) (Ki 3)), Og 40 false 44 (.mov (.t 43)), Og 44 true 45 (.load false 1 (.t 2)), Og 44 true 46 (.nilc (.t 45)), Og 44 true 47 (.addo 0 (.t 46)), Og 44 true 48 (.addo 0 (.t 47)), Og 44 true 49 (.load false 1 (.t 48)), Og 44 true 50 (.mkfn 59 [(.t 5)]), Og 44 true 51 (.call 57 [(.t 49), (.t 50)]), Og 40 false 52 (.pick (.t 44) (.t 51) (.k (.bool false))), Oo 53 (.pick (.t 40) (.k (.bool true)) (.t 52)), oM 8 53])
 (.seq (.drawn [Qo (oM 54 6), Qo (Oo 55 (.call 32 [(.t 54), (Ki 2)])), Qo (oM 56 1), Qo (oB 57 .eql 56 0), Qo (oM 58 57), Qo (Og 58 false 59 (.load false 1 (.t 2))), Qo (Og 58 false 60 (.nilc (.t 59))), Qo (Og 58 false 61 (.addo 0 (.t 60))), Qo (Og 58 false 62 (.addo 0 (.t 61))), Qo (Og 58 false 63 (.load false 1 (.t 62))), Qo (Og 58 false 64 (.mov (.t 1))), Qo (Og 58 false 65 (.bin .sub (.t 64) (Ki 1))), Qo (Og 58 false 66 (.max2 (Ki 0) (.t 65))), Qo (Og 58 false 67 (.ixL 3 (.t 63) (.t 66))), Qo (Og 58 false 68 (.addo 0 (.t 67))), Qo (Og 58 false 69 (.load false 1 (.t 68))), Qo (Og 58 false 70 (.addo 0 (.t 5))), Qo (Og 58 false 71 (.load false 1 (.t 70))), Qo (Og 58 false 72 (.bin .lss (.t 69) (.t 71))), Qo (Oo 73 (.pick (.t 58) (.k (.bool true)) (.t 72))), Qo (Oo 74 (.call 32 [(.t 73), (Ki 9)])), Qo (oA 75 1 5), Qo (oL 76 75), Qo (oB 77 .neq 76 1), Qo (oM 78 77), Qo (Og 78 false 79 (.addo 2 (.t 5))), Qo (Og 78 false 80 (.load false 1 (.t 79))), Qo (Og 78 false 81 (.addo 1 (.t 5))), Qo (Og 78 false 82 (.load false 1 (.t 81))), Qo (Og 78 false 83 (.bin .eql (.t 80) (.t 82))), Qo (Oo 84 (.pick (.t 78) (.k (.bool true)) (.t 83))), Qo (Oo 85 (.call 32 [(.t 84), (Ki 20)])), Qo (oM 86 8), Qo (Oo 87 (.un .not (.t 86))), Qe (Oo 88 (.call 32 [(.t 87), (Ki 13)])), Qe (Oo 89 (.bslc 1 4 [Zi 0] [(0, (.t 55)), (1, (.t 74)), (2, (.t 85)), (3, (.t 88))])), Qe (Oo 90 (.call 40 [(.t 89)])), Qo (oM 4 90)])
 .ret))))))
abbrev h27 : HF := ⟨h27c, [.tmp 4], 91, false⟩
theorem h27_ok : CK Tryd.f27 h27c := by unfold CK; kernel_rfl
theorem r27_ok : RK Tryd.f27 [.tmp 4] := by unfold RK; kernel_rfl
def h28l0 : HC :=
 (.seq (.region [oC 12 .lss 11 10])
 (.seq (.cond (.t 12) .skip
 (.exit 0))
 (.seq (.block 1 (.seq (.region [oM 13 11, oI 14 2 9 11, oG 15 2 14, Oo 7 (.alloc [Zi 0, Zi 0]), oM 6 13, oS 2 7 15])
 (.seq (.region [oM 16 1, oM 17 6, oG 18 2 7, Oo 19 (.callv (.t 16) [(.t 17), (.t 18)]), oM 8 19])
 (.seq (.region [oM 20 8, oB 21 .neq 20 0])
 (.cond (.t 21) (.seq (.region [oM 22 6, oM 23 8, oM 4 22, oM 5 23])
 .ret)
 .skip)))))
 (.region [oB 24 .add 11 1, oM 11 24]))))
def h28c : HC :=
 (.seq (.region [oK 4 0, oK 5 0])
 (.seq (.seq (.region [oM 9 0, oN 10 9, oK 11 0])
 (.block 0 (.loop [1, 7, 0, 0] h28l0)))
 (.seq (.region [oK 4 0, oK 5 0])
 .ret)))
abbrev h28 : HF := ⟨h28c, [.tmp 4, .tmp 5], 25, false⟩
theorem h28_ok : CK Tryd.f28 h28c := by unfold CK; kernel_rfl
theorem r28_ok : RK Tryd.f28 [.tmp 4, .tmp 5] := by unfold RK; kernel_rfl
def h29c : HC :=
 (.seq (.region [Oo 4 (.box (.t 1)), oK 5 0])
 (.seq (.region [oL 6 2, oM 7 0, Oo 8 (.call 30 [(.t 6), (.t 7)]), oM 5 8])
 .ret))
abbrev h29 : HF := ⟨h29c, [.tmp 5], 9, false⟩
theorem h29_ok : CK Tryd.f29 h29c := by unfold CK; kernel_rfl
theorem r29_ok : RK Tryd.f29 [.tmp 5] := by unfold RK; kernel_rfl
def h30c : HC :=
 (.seq (.region [oK 4 0])
 (.seq (.region [oM 8 0, Oo 9 (.nilc (.t 8)), oA 10 0 9, oA 11 1 10, oL 12 11, oM 13 1, oI 14 2 12 13, oG 15 2 14, Oo 5 (.alloc [Zi 0, Zi 0]), oS 2 5 15])
 (.seq (.region [oM 16 0, Oo 17 (.nilc (.t 16)), oA 18 0 17, oA 19 1 18, oL 20 19, oM 21 1, Oo 22 (.slL 2 (.t 20) none (some (.t 21))), Oo 23 (.mkfn 61 [(.t 5)]), Oo 24 (.call 60 [(.t 22), (.t 23)]), oM 6 24])
 (.seq (.region [oM 25 0, oA 26 0 5, oL 27 26, Oo 28 (.call 46 [(.t 25), (.t 27)]), Oo 29 (.isnil true true (.t 28)), oM 7 29])
 (.seq (.drawn [Qo (oA 30 0 5), Qo (oL 31 30), Qo (Oo 32 (.call 55 [(.t 31)])), Qo (Oo 33 (.call 32 [(.t 32), (Ki 2)])), Qo (oA 34 1 5), Qo (oL 35 34), Qo (Oo 36 (.call 48 [(.t 35)])), Qo (Oo 37 (.call 32 [(.t 36), (Ki 15)])), Qo (oM 38 6), Qo (Oo 39 (.un .not (.t 38))), Qo (Oo 40 (.call 32 [(.t 39), (Ki 23)])), Qo (oA 41 1 5), Qo (oL 42 41), Qo (oB 43 .neq 42 0), Qo (oM 44 43), Qo (Og 44 false 45 (.mov (.t 7))), Qo (Og 44 false 46 (.un .not (.t 45))), Qo (Oo 47 (.pick (.t 44) (.k (.bool true)) (.t 46))), Qo (Oo 48 (.call 32 [(.t 47), (Ki 5)])), Qo (oA 49 1 5), Qo (oL 50 49), Qo (oB 51 .eql 50 0), Qo (oM 52 51), Qo (Og 52 false 53 (.mov (.t 7))), Qo (Oo 54 (.pick (.t 52) (.k (.bool true)) (.t 53))), Qe (Oo 55 (.call 32 [(.t 54), (Ki 6)])), Qe (Oo 56 (.bslc 1 5 [Zi 0] [(0, (.t 33)), (1, (.t 37)), (2, (.t 40)), (3, (.t 48)), (4, (.t 55))])), Qe (Oo 57 (.call 40 [(.t 56)])), Qo (oM 4 57)])
 .ret)))))
abbrev h30 : HF := ⟨h30c, [.tmp 4], 58, false⟩
theorem h30_ok : CK Tryd.f30 h30c := by unfold CK; kernel_rfl
theorem r30_ok : RK Tryd.f30 [.tmp 4] := by unfold RK; kernel_rfl
def h31l0 : HC :=
 (.seq (.region [oC 20 .lss 19 18])
 (.seq (.cond (.t 20) .skip
 (.exit 0))
 (.seq (.block 1 (.seq (.region [oM 21 19, oM 7 21])
 (.seq (.region [oM 22 0, Oo 23 (.nilc (.t 22)), oA 24 0 23, oA 25 0 24, oL 26 25, oM 27 7, oI 28 3 26 27, oM 8 28])
 (.seq (.block 2 (.seq (.drawn [Qo (oM 34 8), Qo (Oo 35 (.nilc (.t 34))), Qo (oA 36 0 35), Qo (oL 37 36), Qo (oA 38 0 3), Qo (oL 39 38), Qo (oC 40 .eql 37 39), Qo (oM 41 40), Qo (Og 41 false 42 (.mov (.t 8))), Qo (Og 41 false 43 (.nilc (.t 42))), Qo (Og 41 false 44 (.addo 1 (.t 43))), Qo (Og 41 false 45 (.load false 1 (.t 44))), Qo (Og 41 false 46 (.mov (.t 6))), Qo (Og 41 false 47 (.bin .leq (.t 45) (.t 46))), Qo (Oo 48 (.pick (.t 41) (.k (.bool true)) (.t 47))), Qo (oM 33 48)])
 (.cond (.t 33) (.exit 1)
 (.seq (.region [oM 50 8, Oo 51 (.nilc (.t 50)), oA 52 1 51, oL 53 52, oB 54 .eql 53 1, oM 49 54])
 (.cond (.t 49) (.region [oM 55 8, oM 56 8, Oo 57 (.nilc (.t 55)), oA 58 1 57, On (.store 1 (.t 58) (Ki 0)), Oo 59 (.nilc (.t 56)), oA 60 2 59, On (.store 1 (.t 60) (Ki 0))])
 (.seq (.region [oM 62 8, Oo 63 (.nilc (.t 62)), oA 64 2 63, oL 65 64, oM 66 6, oC 67 .leq 65 66, oM 61 67])
 (.cond (.t 61) (.exit 1)
 (.region [oM 29 8, oM 30 6, Oo 31 (.nilc (.t 29)), oA 32 2 31, oS 1 32 30]))))))))
 (.drawn [Qo (oM 68 5), Qo (oM 69 8), Qo (Oo 70 (.nilc (.t 69))), Qo (oA 71 0 70), Qo (oL 72 71), Qo (oM 73 8), Qo (Oo 74 (.nilc (.t 73))), Qo (oA 75 2 74), Qo (oL 76 75), Qo (Oo 77 (.build [Zi 0, Zi 0] [(0, 1, (.t 72)), (1, 1, (.t 76))])), Qe (Oo 78 (.bslc 2 1 [Zi 0, Zi 0] [(0, (.t 77))])), Qe (Oo 79 (.app 2 16 [Zi 0, Zi 0] (.t 68) (.t 78))), Qo (oM 5 79)])))))
 (.region [oB 80 .add 19 1, oM 19 80]))))
def h31c : HC :=
 (.seq (.region [Oo 3 (.box (.t 1)), Oo 4 (.mov (.k (.slice none 0 0)))])
 (.seq (.region [Oo 5 (.mov (.k (.slice none 0 0)))])
 (.gh (.nil 5 2) (.seq (.region [oA 9 1 3, oL 10 9, Oo 11 (.ixA 4 1 (.g 0) (.t 10)), oL 12 11, oM 6 12])
 (.seq (.seq (.region [oM 13 0, Oo 14 (.nilc (.t 13)), oA 15 0 14, oA 16 0 15, oL 17 16, oN 18 17, oK 19 0])
 (.block 0 (.loop [0, 2, 1, 0, 11, 0] h31l0)))
 (.seq (.region [oM 81 5, oM 4 81])
 .ret))))))
abbrev h31 : HF := ⟨h31c, [.tmp 4], 82, false⟩
theorem h31_ok : CK Tryd.f31 h31c := by unfold CK; kernel_rfl
theorem r31_ok : RK Tryd.f31 [.tmp 4] := by unfold RK; kernel_rfl
def h32c : HC :=
 (.seq (.region [oK 4 0])
 (.seq (.seq (.region [oM 5 0])
 (.cond (.t 5) (.seq (.region [oK 4 0])
 .ret)
 .skip))
 (.seq (.region [oM 6 1, oM 4 6])
 .ret)))
abbrev h32 : HF := ⟨h32c, [.tmp 4], 7, false⟩
theorem h32_ok : CK Tryd.f32 h32c := by unfold CK; kernel_rfl
theorem r32_ok : RK Tryd.f32 [.tmp 4] := by unfold RK; kernel_rfl
def h33c : HC :=
 (.seq (.region [Oo 3 (.box (.t 1)), Oo 4 (.mov (.k (.bool false)))])
 (.seq (.region [oM 5 0, Oo 6 (.nilc (.t 5)), oA 7 0 6, oA 8 0 7, oL 9 8, Oo 10 (.mkfn 62 [(.t 3)]), Oo 11 (.call 57 [(.t 9), (.t 10)]), oM 4 11])
 .ret))
abbrev h33 : HF := ⟨h33c, [.tmp 4], 12, false⟩
theorem h33_ok : CK Tryd.f33 h33c := by unfold CK; kernel_rfl
theorem r33_ok : RK Tryd.f33 [.tmp 4] := by unfold RK; kernel_rfl
def h35l0 : HC :=
 (.seq (.region [oC 12 .lss 11 10])
 (.seq (.cond (.t 12) .skip
 (.exit 0))
 (.seq (.block 1 (.seq (.region [oM 13 11, oI 14 3 9 11, oG 15 3 14, Oo 7 (.alloc [Zi 0, Zi 0, Zi 0]), oM 6 13, oS 3 7 15])
 (.seq (.region [oM 16 1, oM 17 6, oG 18 3 7, Oo 19 (.callv (.t 16) [(.t 17), (.t 18)]), oM 8 19])
 (.seq (.region [oM 20 8, oB 21 .neq 20 0])
 (.cond (.t 21) (.seq (.region [oM 22 6, oM 23 8, oM 4 22, oM 5 23])
 .ret)
 .skip)))))
 (.region [oB 24 .add 11 1, oM 11 24]))))
def h35c : HC :=
 (.seq (.region [oK 4 0, oK 5 0])
 (.seq (.seq (.region [oM 9 0, oN 10 9, oK 11 0])
 (.block 0 (.loop [1, 7, 0, 0] h35l0)))
 (.seq (.region [oK 4 0, oK 5 0])
 .ret)))
abbrev h35 : HF := ⟨h35c, [.tmp 4, .tmp 5], 25, false⟩
theorem h35_ok : CK Tryd.f35 h35c := by unfold CK; kernel_rfl
theorem r35_ok : RK Tryd.f35 [.tmp 4, .tmp 5] := by unfold RK; kernel_rfl
def h36c : HC :=
 (.seq (.region [Oo 5 (.box (.t 1)), oK 6 0])
 (.seq (.regR [22, 100022] [oL 8 2, oG 9 3 5, Oo 10 (.call 22 [(.t 8), (.t 9)]), oM 7 10])
 (.seq (.seq (.region [oM 11 7, oB 12 .eql 11 0])
 (.cond (.t 12) (.drawnT [23] (.st 1 (.st 2 (.br 0 (.st 3 (.st 4 (.st 5 (.st 6 .nil)))) (.br 3 (.br 0 (.st 4 (.st 5 (.st 6 .nil))) (.br 4 (.st 0 (.st 5 (.st 6 .nil))) .stop)) .stop)))) [oL 13 3, oL 14 2, oG 15 3 5, Oo 16 (.call 23 [(.t 14), (.t 15)]), Oo 17 (.bslc 3 1 [(.bool false), (.slice none 0 0), (.slice none 0 0)] [(0, (.t 16))]), Oo 18 (.app 3 56 [(.bool false), (.slice none 0 0), (.slice none 0 0)] (.t 13) (.t 17)), oS 1 3 18])
 .skip))
 (.seq (.region [oM 19 7, oM 6 19])
 .ret))))
abbrev h36 : HF := ⟨h36c, [.tmp 6], 20, false⟩
theorem h36_ok : CK Tryd.f36 h36c := by unfold CK; kernel_rfl
theorem r36_ok : RK Tryd.f36 [.tmp 6] := by unfold RK; kernel_rfl
def h37c : HC :=
 (.seq (.region [Oo 2 (.mov (.k (.string ⟨#[]⟩)))])
 (.seq (.region [oM 3 0, Oo 4 (.call 63 [(.t 3)]), oM 2 4])
 .ret))
abbrev h37 : HF := ⟨h37c, [.tmp 2], 5, false⟩
theorem h37_ok : CK Tryd.f37 h37c := by unfold CK; kernel_rfl
theorem r37_ok : RK Tryd.f37 [.tmp 2] := by unfold RK; kernel_rfl
def h38c : HC :=
 (.seq (.region [Oo 2 (.mov (.k (.string ⟨#[]⟩)))])
 (.seq (.seq (.region [oM 3 0])
 (.block 0 (.seq (.region [oB 5 .eql 3 0, oM 4 5])
 (.cond (.t 4) (.seq (.region [Oo 2 (.mov (.k (.string ⟨#[111]⟩)))])
 .ret)
 (.seq (.region [oB 7 .eql 3 2, oM 6 7])
 (.cond (.t 6) (.seq (.region [Oo 2 (.mov (.k (.string ⟨#[114]⟩)))])
 .ret)
 (.seq (.region [oB 9 .eql 3 3, oM 8 9])
 (.cond (.t 8) (.seq (.region [Oo 2 (.mov (.k (.string ⟨#[119]⟩)))])
 .ret)
 .skip))))))))
 (.seq (.region [Oo 2 (.mov (.k (.string ⟨#[63]⟩)))])
 .ret)))
abbrev h38 : HF := ⟨h38c, [.tmp 2], 10, false⟩
theorem h38_ok : CK Tryd.f38 h38c := by unfold CK; kernel_rfl
theorem r38_ok : RK Tryd.f38 [.tmp 2] := by unfold RK; kernel_rfl
def h39l0 : HC :=
 (.seq (.region [oC 42 .lss 41 40])
 (.seq (.cond (.t 42) .skip
 (.exit 1))
 (.seq (.block 2 (.seq (.region [oI 43 1 39 41, oL 44 43, oM 7 44])
 (.seq (.seq (.region [oM 45 7, Oo 46 (.lenS (.t 45)), oM 47 5, Oo 48 (.bin .sub (Ki 9223372036854775807) (.t 47)), oC 49 .gtr 46 48])
 (.cond (.t 49) .bad
 .skip))
 (.region [oM 51 5, oM 52 7, Oo 53 (.lenS (.t 52)), oC 54 .add 51 53, oM 5 54]))))
 (.region [oB 55 .add 41 1, oM 41 55]))))
def h39l1 : HC :=
 (.seq (.region [oC 66 .lss 65 64])
 (.seq (.cond (.t 66) .skip
 (.exit 3))
 (.seq (.block 4 (.seq (.region [oI 67 1 63 65, oL 68 67, oM 10 68])
 (.seq (.region [oM 69 1, Oo 70 (.call 65 [(.t 8), (.t 69)])])
 (.region [oM 71 10, Oo 72 (.call 65 [(.t 8), (.t 71)])]))))
 (.region [oB 73 .add 65 1, oM 65 73]))))
def h39c : HC :=
 (.seq (.region [Oo 4 (.mov (.k (.string ⟨#[]⟩)))])
 (.seq (.seq (.region [oM 11 0, oN 12 11])
 (.block 0 (.seq (.region [oB 14 .eql 12 0, oM 13 14])
 (.cond (.t 13) (.seq (.region [Oo 4 (.mov (.k (.string ⟨#[]⟩)))])
 .ret)
 (.seq (.region [oB 16 .eql 12 1, oM 15 16])
 (.cond (.t 15) (.seq (.region [oM 17 0, Oo 18 (.ixL 1 (.t 17) (Ki 0)), oL 19 18, oM 4 19])
 .ret)
 .skip))))))
 (.seq (.region [oK 5 0])
 (.seq (.seq (.region [oM 20 1, Oo 21 (.lenS (.t 20)), oB 22 .gtr 21 0])
 (.cond (.t 22) (.seq (.seq (.region [oM 23 1, Oo 24 (.lenS (.t 23)), oM 25 0, oN 26 25, oB 27 .sub 26 1, Oo 28 (.bin .quo (Ki 9223372036854775807) (.t 27)), oC 29 .geq 24 28])
 (.cond (.t 29) .bad
 .skip))
 (.region [oM 31 5, oM 32 1, Oo 33 (.lenS (.t 32)), oM 34 0, oN 35 34, oB 36 .sub 35 1, oC 37 .mul 33 36, oC 38 .add 31 37, oM 5 38]))
 .skip))
 (.seq (.seq (.region [oM 39 0, oN 40 39, oK 41 0])
 (.block 1 (.loop [0, 0, 3, 33, 0, 0] h39l0)))
 (.seq (.region [Oo 8 (.alloc [(.pointer none), (.slice none 0 0)])])
 (.seq (.region [oM 56 5, Oo 57 (.call 64 [(.t 8), (.t 56)])])
 (.seq (.region [oM 58 0, Oo 59 (.ixL 1 (.t 58) (Ki 0)), oL 60 59, Oo 61 (.call 65 [(.t 8), (.t 60)])])
 (.seq (.seq (.region [oM 62 0, Oo 63 (.slL 1 (.t 62) (some (Ki 1)) none), oN 64 63, oK 65 0])
 (.block 3 (.loop [1, 6, 54, 0, 0] h39l1)))
 (.seq (.region [Oo 74 (.call 66 [(.t 8)]), oM 4 74])
 .ret))))))))))
abbrev h39 : HF := ⟨h39c, [.tmp 4], 75, false⟩
theorem h39_ok : CK Tryd.f39 h39c := by unfold CK; kernel_rfl
theorem r39_ok : RK Tryd.f39 [.tmp 4] := by unfold RK; kernel_rfl
def h40l0 : HC :=
 (.seq (.region [oC 8 .lss 7 6])
 (.seq (.cond (.t 8) .skip
 (.exit 0))
 (.seq (.block 1 (.seq (.region [oI 9 1 5 7, oL 10 9, oM 4 10])
 (.seq (.region [oM 11 4, oB 12 .neq 11 0])
 (.cond (.t 12) (.seq (.region [oM 13 4, oM 2 13])
 .ret)
 .skip))))
 (.region [oB 14 .add 7 1, oM 7 14]))))
def h40c : HC :=
 (.seq (.region [oK 2 0])
 (.seq (.seq (.region [oM 5 0, oN 6 5, oK 7 0])
 (.block 0 (.loop [5, 0, 0] h40l0)))
 (.seq (.region [oK 2 0])
 .ret)))
abbrev h40 : HF := ⟨h40c, [.tmp 2], 15, false⟩
theorem h40_ok : CK Tryd.f40 h40c := by unfold CK; kernel_rfl
theorem r40_ok : RK Tryd.f40 [.tmp 2] := by unfold RK; kernel_rfl
def h41c : HC :=
 (.seq (.region [Oo 6 (.mov (.k (.bool false)))])
 (.seq (.region [oM 7 1, oM 8 0, oC 9 .leq 7 8, oM 10 9, Og 10 true 11 (.mov (.t 0)), Og 10 true 12 (.mov (.t 2)), Og 10 true 13 (.bin .leq (.t 11) (.t 12)), Oo 14 (.pick (.t 10) (.t 13) (.k (.bool false))), oM 6 14])
 .ret))
abbrev h41 : HF := ⟨h41c, [.tmp 6], 15, false⟩
theorem h41_ok : CK Tryd.f41 h41c := by unfold CK; kernel_rfl
theorem r41_ok : RK Tryd.f41 [.tmp 6] := by unfold RK; kernel_rfl
def h42c : HC :=
 (.seq (.region [Oo 3 (.box (.t 1)), oK 4 0])
 (.seq (.region [oA 8 2 3, oL 9 8, oB 10 .eql 9 0, oM 5 10])
 (.seq (.seq (.region [oA 11 0 3, oL 12 11, oB 13 .eql 12 1])
 (.cond (.t 13) (.region [oA 14 2 3, oL 15 14, Oo 16 (.call 41 [(.t 15), (Ki 1), (Ki 3)]), oM 5 16])
 .skip))
 (.seq (.region [oM 17 0, Oo 18 (.nilc (.t 17)), oA 19 0 18, oA 20 1 19, oL 21 20, Oo 22 (.mkfn 67 [(.t 3)]), Oo 23 (.call 60 [(.t 21), (.t 22)]), oM 6 23])
 (.seq (.region [oM 24 0, oA 25 1 3, oL 26 25, Oo 27 (.call 46 [(.t 24), (.t 26)]), Oo 28 (.isnil true true (.t 27)), oM 7 28])
 (.seq (.drawn [Qo (oA 29 0 3), Qo (oL 30 29), Qo (Oo 31 (.call 41 [(.t 30), (Ki 0), (Ki 5)])), Qo (Oo 32 (.call 32 [(.t 31), (Ki 15)])), Qo (oA 33 1 3), Qo (oL 34 33), Qo (Oo 35 (.call 55 [(.t 34)])), Qo (oM 36 35), Qo (Og 36 true 37 (.mov (.t 5))), Qo (Oo 38 (.pick (.t 36) (.t 37) (.k (.bool false)))), Qo (Oo 39 (.call 32 [(.t 38), (Ki 2)])), Qo (oM 40 6), Qo (Oo 41 (.un .not (.t 40))), Qo (Oo 42 (.call 32 [(.t 41), (Ki 18)])), Qo (oA 43 0 3), Qo (oL 44 43), Qo (oB 45 .neq 44 0), Qo (oM 46 45), Qo (Og 46 false 47 (.mov (.t 7))), Qo (Og 46 false 48 (.un .not (.t 47))), Qo (Oo 49 (.pick (.t 46) (.k (.bool true)) (.t 48))), Qo (Oo 50 (.call 32 [(.t 49), (Ki 5)])), Qo (oA 51 0 3), Qo (oL 52 51), Qo (oB 53 .eql 52 0), Qo (oM 54 53), Qo (Og 54 false 55 (.mov (.t 7))), Qo (Oo 56 (.pick (.t 54) (.k (.bool true)) (.t 55))), Qe (Oo 57 (.call 32 [(.t 56), (Ki 6)])), Qe (Oo 58 (.bslc 1 5 [Zi 0] [(0, (.t 32)), (1, (.t 39)), (2, (.t 42)), (3, (.t 50)), (4, (.t 57))])), Qe (Oo 59 (.call 40 [(.t 58)])), Qo (oM 4 59)])
 .ret))))))
abbrev h42 : HF := ⟨h42c, [.tmp 4], 60, false⟩
theorem h42_ok : CK Tryd.f42 h42c := by unfold CK; kernel_rfl
theorem r42_ok : RK Tryd.f42 [.tmp 4] := by unfold RK; kernel_rfl
def h43c : HC :=
 (.seq (.region [Oo 3 (.box (.t 1)), Oo 4 (.mov (.k (.bool false)))])
 (.seq (.region [oA 8 0 3, oA 9 1 8, oL 10 9, oM 5 10])
 (.seq (.region [oM 12 0, oM 13 5, Oo 14 (.call 45 [(.t 12), (.t 13)]), oM 11 14, oE 15 11 0, oE 16 11 1, oM 6 15, oM 7 16])
 (.seq (.block 0 (.seq (.region [oA 18 0 3, oA 19 0 18, oL 20 19, oB 21 .eql 20 2, oM 22 21, Og 22 true 23 (.mov (.t 6)), Og 22 true 24 (.bin .geq (.t 23) (Ki 1)), Oo 25 (.pick (.t 22) (.t 24) (.k (.bool false))), oM 26 25, Og 26 true 27 (.mov (.t 0)), Og 26 true 28 (.mov (.t 5)), Og 26 true 29 (.nilc (.t 27)), Og 26 true 30 (.addo 2 (.t 29)), Og 26 true 31 (.ixA 9 1 (.t 30) (.t 28)), Og 26 true 32 (.load false 1 (.t 31)), Og 26 true 33 (.bin .neq (.t 32) (Ki (-1))), Oo 34 (.pick (.t 26) (.t 33) (.k (.bool false))), oM 17 34])
 (.cond (.t 17) (.drawn [Qo (oM 35 0), Qo (oM 36 0), Qo (Oo 37 (.nilc (.t 36))), Qo (oA 38 29 37), Qo (oL 39 38), Qo (oM 40 0), Qo (oM 41 5), Qo (Oo 42 (.nilc (.t 40))), Qo (oA 43 2 42), Qo (Oo 44 (.ixA 9 1 (.t 43) (.t 41))), Qo (oL 45 44), Qe (Oo 46 (.bslc 1 1 [Zi 0] [(0, (.t 45))])), Qe (Oo 47 (.app 1 8 [Zi 0] (.t 39) (.t 46))), Qo (Oo 48 (.nilc (.t 35))), Qo (oA 49 29 48), Qe (oS 1 49 47)])
 (.seq (.region [oA 51 0 3, oA 52 0 51, oL 53 52, oB 54 .eql 53 3, oM 55 54, Og 55 true 56 (.mov (.t 6)), Og 55 true 57 (.bin .geq (.t 56) (Ki 2)), Oo 58 (.pick (.t 55) (.t 57) (.k (.bool false))), oM 59 58, Og 59 true 60 (.mov (.t 7)), Og 59 true 61 (.un .not (.t 60)), Oo 62 (.pick (.t 59) (.t 61) (.k (.bool false))), oM 50 62])
 (.cond (.t 50) (.drawnT [] (.st 0 (.st 1 (.st 2 (.st 3 (.st 4 (.st 5 (.st 6 (.st 7 (.st 8 (.st 10 (.st 11 (.st 9 (.st 12 (.st 13 .nil)))))))))))))) [oM 63 0, oM 64 5, oM 65 0, oM 66 5, oA 67 3 3, oL 68 67, Oo 69 (.nilc (.t 63)), oA 70 2 69, Oo 71 (.ixA 9 1 (.t 70) (.t 64)), oS 1 71 68, Oo 72 (.nilc (.t 65)), oA 73 11 72, Oo 74 (.ixA 9 1 (.t 73) (.t 66)), On (.store 1 (.t 74) (.k (.bool true)))])
 (.seq (.region [Oo 4 (.mov (.k (.bool false)))])
 .ret))))))
 (.seq (.region [Oo 4 (.mov (.k (.bool true)))])
 .ret)))))
abbrev h43 : HF := ⟨h43c, [.tmp 4], 75, false⟩
theorem h43_ok : CK Tryd.f43 h43c := by unfold CK; kernel_rfl
theorem r43_ok : RK Tryd.f43 [.tmp 4] := by unfold RK; kernel_rfl
def h44c : HC :=
 (.seq (.region [Oo 3 (.box (.t 1))])
 (.seq (.seq (.region [oA 6 1 3, oL 7 6])
 (.block 0 (.seq (.region [oB 9 .eql 7 2, oM 8 9])
 (.cond (.t 8) (.drawn [Qo (oM 10 0), Qo (oM 11 0), Qo (Oo 12 (.nilc (.t 11))), Qo (oA 13 29 12), Qo (oL 14 13), Qo (oM 15 0), Qo (Oo 16 (.nilc (.t 15))), Qo (oA 17 1 16), Qo (oL 18 17), Qe (Oo 19 (.bslc 1 1 [Zi 0] [(0, (.t 18))])), Qe (Oo 20 (.app 1 8 [Zi 0] (.t 14) (.t 19))), Qo (Oo 21 (.nilc (.t 10))), Qo (oA 22 29 21), Qe (oS 1 22 20)])
 (.seq (.region [oB 24 .eql 7 3, oM 23 24])
 (.cond (.t 23) (.drawn [Qo (oM 25 0), Qo (oM 26 0), Qo (oA 27 0 3), Qo (oL 28 27), Qo (Oo 29 (.nilc (.t 26))), Qo (oA 30 20 29), Qo (Oo 31 (.ixA 9 1 (.t 30) (.t 28))), Qo (oL 32 31), Qo (Oo 33 (.nilc (.t 25))), Qo (oA 34 1 33), Qe (oS 1 34 32)])
 .ret))))))
 (.seq (.region [oM 36 0, oA 37 0 3, oL 38 37, Oo 39 (.call 45 [(.t 36), (.t 38)]), oM 35 39, oE 40 35 0, oE 41 35 1, oM 4 40, oM 5 41])
 (.seq (.region [oM 42 4, oB 43 .geq 42 1])
 (.cond (.t 43) (.drawnT [] (.st 0 (.st 1 (.st 2 (.st 3 (.st 4 (.st 6 (.st 7 (.st 8 (.st 9 (.st 10 (.st 11 (.st 12 (.st 14 (.st 15 (.br 5 (.st 13 (.st 16 (.st 17 .nil))) (.br 13 (.st 5 (.st 16 (.st 17 .nil))) .stop)))))))))))))))) [oM 44 0, oA 45 0 3, oL 46 45, oM 47 0, oA 48 0 3, oL 49 48, oM 50 0, Oo 51 (.nilc (.t 50)), oA 52 1 51, oL 53 52, Oo 54 (.nilc (.t 44)), oA 55 2 54, Oo 56 (.ixA 9 1 (.t 55) (.t 46)), oS 1 56 53, Oo 57 (.nilc (.t 47)), oA 58 11 57, Oo 59 (.ixA 9 1 (.t 58) (.t 49)), On (.store 1 (.t 59) (.k (.bool false)))])
 .skip)))))
abbrev h44 : HF := ⟨h44c, [], 60, false⟩
theorem h44_ok : CK Tryd.f44 h44c := by unfold CK; kernel_rfl
theorem r44_ok : RK Tryd.f44 [] := by unfold RK; kernel_rfl
def h45c : HC :=
 (.seq (.region [oK 4 0, Oo 5 (.mov (.k (.bool false)))])
 (.seq (.region [oM 7 0, Oo 8 (.nilc (.t 7)), oA 9 0 8, oL 10 9, oM 11 1, Oo 12 (.call 46 [(.t 10), (.t 11)]), oM 6 12])
 (.seq (.seq (.region [oM 13 6, Oo 14 (.isnil true false (.t 13))])
 (.cond (.t 14) (.seq (.region [Oo 4 (.mov (Ki (-1))), Oo 5 (.mov (.k (.bool false)))])
 .ret)
 .skip))
 (.seq (.drawn [Qo (oM 15 6), Qo (Oo 16 (.nilc (.t 15))), Qo (oA 17 1 16), Qo (oL 18 17), Qo (oM 19 6), Qo (Oo 20 (.nilc (.t 19))), Qo (oA 21 2 20), Qo (oL 22 21), Qo (oM 23 6), Qo (Oo 24 (.nilc (.t 23))), Qo (oA 25 1 24), Qo (oL 26 25), Qo (oC 27 .neq 22 26), Qo (oM 4 18), Qo (oM 5 27)])
 .ret))))
abbrev h45 : HF := ⟨h45c, [.tmp 4, .tmp 5], 28, false⟩
theorem h45_ok : CK Tryd.f45 h45c := by unfold CK; kernel_rfl
theorem r45_ok : RK Tryd.f45 [.tmp 4, .tmp 5] := by unfold RK; kernel_rfl
def h46c : HC :=
 (.seq (.region [Oo 4 (.mov (.k (.pointer none)))])
 (.seq (.regR [49, 100049] [oM 8 0, oM 9 1, Oo 10 (.call 49 [(.t 8), (.t 9)]), oM 7 10, oE 11 7 0, oE 12 7 1, oM 5 11, oM 6 12])
 (.seq (.seq (.region [oM 13 6, Oo 14 (.un .not (.t 13))])
 (.cond (.t 14) (.seq (.region [Oo 4 (.mov (.k (.pointer none)))])
 .ret)
 .skip))
 (.seq (.region [oM 15 0, Oo 16 (.nilc (.t 15)), oA 17 0 16, oA 18 0 17, oL 19 18, oM 20 5, oI 21 3 19 20, oM 4 21])
 .ret))))
abbrev h46 : HF := ⟨h46c, [.tmp 4], 22, true⟩
theorem h46_ok : CK Tryd.f46 h46c := by unfold CK; kernel_rfl
theorem r46_ok : RK Tryd.f46 [.tmp 4] := by unfold RK; kernel_rfl
def h47c : HC :=
 (.seq (.region [Oo 3 (.box (.t 1)), Oo 4 (.mov (.k (.bool false)))])
 (.seq (.regR [68] [oM 7 0, Oo 8 (.nilc (.t 7)), oA 9 0 8, oA 10 0 9, oL 11 10, Oo 12 (.call 53 [(.t 11)]), Oo 13 (.mkfn 69 [(.t 3)]), Oo 14 (.call 68 [(.t 12), (.t 13)]), Oo 5 (.alloc [(.slice none 0 0)]), oS 1 5 14])
 (.seq (.region [Oo 15 (.mkfn 70 [(.t 5)]), oM 6 15])
 (.seq (.block 0 (.seq (.region [oM 17 0, Oo 18 (.nilc (.t 17)), oA 19 0 18, oA 20 1 19, oL 21 20, oN 22 21, oB 23 .gtr 22 0, oM 16 23])
 (.cond (.t 16) (.seq (.region [Oo 4 (.mov (.k (.bool false)))])
 .ret)
 (.seq (.region [oA 25 2 3, oL 26 25, oB 27 .eql 26 3, oM 24 27])
 (.cond (.t 24) (.seq (.region [oL 28 5, oN 29 28, oB 30 .eql 29 0, oM 4 30])
 .ret)
 (.seq (.region [oA 32 2 3, oL 33 32, oB 34 .eql 33 2, oM 31 34])
 (.cond (.t 31) (.seq (.region [oM 35 6, Oo 36 (.callv (.t 35) [(Ki 0)]), Oo 37 (.un .not (.t 36)), oM 4 37])
 .ret)
 .skip)))))))
 (.seq (.region [oM 38 6, Oo 39 (.callv (.t 38) [(Ki 1)]), Oo 40 (.un .not (.t 39)), oM 4 40])
 .ret)))))
abbrev h47 : HF := ⟨h47c, [.tmp 4], 41, false⟩
theorem h47_ok : CK Tryd.f47 h47c := by unfold CK; kernel_rfl
theorem r47_ok : RK Tryd.f47 [.tmp 4] := by unfold RK; kernel_rfl
def h48c : HC :=
 (.seq (.region [Oo 2 (.mov (.k (.bool false)))])
 (.seq (.region [oM 3 0, oB 4 .eql 3 0, oM 5 4, Og 5 false 6 (.mov (.t 0)), Og 5 false 7 (.bin .eql (.t 6) (Ki 2)), Oo 8 (.pick (.t 5) (.k (.bool true)) (.t 7)), oM 9 8, Og 9 false 10 (.mov (.t 0)), Og 9 false 11 (.bin .eql (.t 10) (Ki 3)), Oo 12 (.pick (.t 9) (.k (.bool true)) (.t 11)), oM 2 12])
 .ret))
abbrev h48 : HF := ⟨h48c, [.tmp 2], 13, false⟩
theorem h48_ok : CK Tryd.f48 h48c := by unfold CK; kernel_rfl
theorem r48_ok : RK Tryd.f48 [.tmp 2] := by unfold RK; kernel_rfl
def h49c : HC :=
 (.seq (.region [oK 4 0, Oo 5 (.mov (.k (.bool false)))])
 (.seq (.region [oM 6 0, Oo 7 (.nilc (.t 6)), oA 8 0 7, oA 9 0 8, oL 10 9, oM 11 1, Oo 12 (.call 72 [(.t 10), (.t 11), (.f 73)]), oE 13 12 0, oE 14 12 1, oM 4 13, oM 5 14])
 .ret))
abbrev h49 : HF := ⟨h49c, [.tmp 4, .tmp 5], 15, false⟩
theorem h49_ok : CK Tryd.f49 h49c := by unfold CK; kernel_rfl
theorem r49_ok : RK Tryd.f49 [.tmp 4, .tmp 5] := by unfold RK; kernel_rfl
def h50l0 : HC :=
 (.seq (.seq (.region [oM 5 0, Oo 6 (.nilc (.t 5)), oA 7 0 6, oA 8 1 7, oL 9 8, oN 10 9, oB 11 .gtr 10 0])
 (.cond (.t 11) .skip
 (.exit 0)))
 (.block 1 (.seq (.region [oM 12 0, Oo 13 (.nilc (.t 12)), oA 14 0 13, oA 15 1 14, oL 16 15, Oo 17 (.ixL 2 (.t 16) (Ki 0)), oG 18 2 17, Oo 4 (.alloc [Zi 0, Zi 0]), oS 2 4 18])
 (.seq (.regR [31] [oM 19 2, oM 20 0, oG 21 2 4, Oo 22 (.call 31 [(.t 20), (.t 21)]), Oo 23 (.app 2 16 [Zi 0, Zi 0] (.t 19) (.t 22)), oM 2 23])
 (.seq (.seq (.regR [33, 100033] [oM 24 0, oG 25 2 4, Oo 26 (.call 33 [(.t 24), (.t 25)])])
 (.cond (.t 26) (.exit 0)
 .skip))
 (.seq (.regR [75] [oM 27 0, oG 28 2 4, Oo 29 (.call 75 [(.t 27), (.t 28)])])
 (.drawnT [76] (.st 0 (.st 1 (.st 2 (.st 3 (.st 4 (.st 7 (.br 5 (.br 6 (.st 8 (.st 9 (.st 10 (.st 11 (.st 12 (.st 13 (.st 14 (.st 15 .nil)))))))) (.br 8 (.br 6 (.st 9 (.st 10 (.st 11 (.st 12 (.st 13 (.st 14 (.st 15 .nil))))))) (.br 9 (.st 6 (.st 10 (.st 11 (.st 12 (.st 13 (.st 14 (.st 15 .nil))))))) .stop)) .stop)) (.br 8 (.br 5 (.br 6 (.st 9 (.st 10 (.st 11 (.st 12 (.st 13 (.st 14 (.st 15 .nil))))))) (.br 9 (.st 6 (.st 10 (.st 11 (.st 12 (.st 13 (.st 14 (.st 15 .nil))))))) .stop)) (.br 9 (.st 5 (.st 6 (.st 10 (.st 11 (.st 12 (.st 13 (.st 14 (.st 15 .nil)))))))) .stop)) .stop)))))))) [oM 30 0, oM 31 0, Oo 32 (.nilc (.t 31)), oA 33 0 32, oA 34 1 33, oL 35 34, Oo 36 (.call 76 [(.t 35), (Ki 0), (Ki 1)]), oM 37 3, oG 38 2 4, Oo 39 (.bslc 2 1 [Zi 0, Zi 0] [(0, (.t 38))]), Oo 40 (.app 2 16 [Zi 0, Zi 0] (.t 37) (.t 39)), Oo 41 (.nilc (.t 30)), oA 42 0 41, oA 43 1 42, oS 1 43 36, oM 3 40])))))))
def h50c : HC :=
 (.seq (.region [Oo 2 (.mov (.k (.slice none 0 0))), Oo 3 (.mov (.k (.slice none 0 0)))])
 (.gh (.nil 2 2) (.gh (.nil 3 2) (.seq (.block 0 (.loop [0, 1, 0] h50l0))
 (.seq (.region [oM 44 2, oM 45 3, oM 2 44, oM 3 45])
 .ret)))))
abbrev h50 : HF := ⟨h50c, [.tmp 2, .tmp 3], 46, false⟩
theorem h50_ok : CK Tryd.f50 h50c := by unfold CK; kernel_rfl
theorem r50_ok : RK Tryd.f50 [.tmp 2, .tmp 3] := by unfold RK; kernel_rfl
def h51c : HC :=
 (.seq (.region [Oo 6 (.mov (.k (.slice none 0 0)))])
 (.seq .bad
 (.seq (.seq (.region [oM 14 1, oM 15 2, oC 16 .eql 14 15])
 (.cond (.t 16) (.seq (.region [oM 17 0, oM 6 17])
 .ret)
 .skip))
 (.seq (.region [oM 18 0, oN 19 18, oM 7 19])
 (.seq (.drawn [Qo (oM 20 0), Qo (oM 21 1), Qo (Oo 22 (.slL 3 (.t 20) none (some (.t 21)))), Qo (oM 23 0), Qo (oM 24 2), Qo (Oo 25 (.slL 3 (.t 23) (some (.t 24)) none)), Qe (Oo 26 (.app 3 24 [Zi 0, Zi 0, Zi 0] (.t 22) (.t 25))), Qo (oM 0 26)])
 (.seq (.region [oM 27 0, oM 28 0, oN 29 28, oM 30 7, Oo 31 (.slL 3 (.t 27) (some (.t 29)) (some (.t 30))), On (.clr 3 [Zi 0, Zi 0, Zi 0] (.t 31))])
 (.seq (.region [oM 32 0, oM 6 32])
 .ret)))))))
abbrev h51 : HF := ⟨h51c, [.tmp 6], 33, true⟩
theorem h51_ok : CK Tryd.f51 h51c := by unfold CK; kernel_rfl
theorem r51_ok : RK Tryd.f51 [.tmp 6] := by unfold RK; kernel_rfl
def h52c : HC :=
 (.seq (.region [Oo 3 (.box (.t 1)), Oo 4 (.mov (.k (.bool false))), Oo 5 (.mov (.k (.slice none 0 0)))])
 (.seq (.region [Oo 6 (.mov (.k (.slice none 0 0)))])
 (.seq (.seq (.region [oM 7 0, Oo 8 (.nilc (.t 7)), oA 9 0 8, oA 10 1 9, oL 11 10, oN 12 11, oB 13 .eql 12 0])
 (.cond (.t 13) (.seq (.regR [31] [oM 14 0, oG 15 2 3, Oo 16 (.call 31 [(.t 14), (.t 15)]), oM 6 16])
 (.seq (.regR [33, 100033] [oM 17 0, oG 18 2 3, Oo 19 (.call 33 [(.t 17), (.t 18)]), Oo 20 (.un .not (.t 19))])
 (.cond (.t 20) (.seq (.regR [75] [oM 21 0, oG 22 2 3, Oo 23 (.call 75 [(.t 21), (.t 22)])])
 (.seq (.region [oM 24 6, Oo 4 (.mov (.k (.bool true))), oM 5 24])
 .ret))
 .skip)))
 .skip))
 (.seq (.drawn [Qo (oM 25 0), Qo (oM 26 0), Qo (Oo 27 (.nilc (.t 26))), Qo (oA 28 0 27), Qo (oA 29 1 28), Qo (oL 30 29), Qo (oG 31 2 3), Qe (Oo 32 (.bslc 2 1 [Zi 0, Zi 0] [(0, (.t 31))])), Qe (Oo 33 (.app 2 16 [Zi 0, Zi 0] (.t 30) (.t 32))), Qo (Oo 34 (.nilc (.t 25))), Qo (oA 35 0 34), Qo (oA 36 1 35), Qe (oS 1 36 33)])
 (.seq (.region [oM 37 6, Oo 4 (.mov (.k (.bool false))), oM 5 37])
 .ret)))))
abbrev h52 : HF := ⟨h52c, [.tmp 4, .tmp 5], 38, false⟩
theorem h52_ok : CK Tryd.f52 h52c := by unfold CK; kernel_rfl
theorem r52_ok : RK Tryd.f52 [.tmp 4, .tmp 5] := by unfold RK; kernel_rfl
def h53c : HC :=
 (.seq (.region [Oo 2 (.mov (.k (.slice none 0 0)))])
 (.seq (.seq (.region [oM 3 0, Oo 4 (.isnil false false (.t 3))])
 (.cond (.t 4) (.seq (.region [Oo 2 (.mov (.k (.slice none 0 0)))])
 .ret)
 .skip))
 (.seq (.region [Oo 5 (.bslc 3 0 [Zi 0, Zi 0, Zi 0] []), oM 6 0, Oo 7 (.app 3 24 [Zi 0, Zi 0, Zi 0] (.t 5) (.t 6)), oM 2 7])
 .ret)))
abbrev h53 : HF := ⟨h53c, [.tmp 2], 8, true⟩
theorem h53_ok : CK Tryd.f53 h53c := by unfold CK; kernel_rfl
theorem r53_ok : RK Tryd.f53 [.tmp 2] := by unfold RK; kernel_rfl
def h54c : HC :=
 (.seq (.region [Oo 2 (.mov (.k (.slice none 0 0)))])
 (.seq (.seq (.region [oM 3 0, Oo 4 (.isnil false false (.t 3))])
 (.cond (.t 4) (.seq (.region [Oo 2 (.mov (.k (.slice none 0 0)))])
 .ret)
 .skip))
 (.seq (.region [Oo 5 (.bslc 2 0 [Zi 0, Zi 0] []), oM 6 0, Oo 7 (.app 2 16 [Zi 0, Zi 0] (.t 5) (.t 6)), oM 2 7])
 .ret)))
abbrev h54 : HF := ⟨h54c, [.tmp 2], 8, true⟩
theorem h54_ok : CK Tryd.f54 h54c := by unfold CK; kernel_rfl
theorem r54_ok : RK Tryd.f54 [.tmp 2] := by unfold RK; kernel_rfl
def h55c : HC :=
 (.seq (.region [Oo 2 (.mov (.k (.bool false)))])
 (.seq (.region [oM 3 0, Oo 4 (.call 41 [(.t 3), (Ki 1), (Ki 8)]), oM 2 4])
 .ret))
abbrev h55 : HF := ⟨h55c, [.tmp 2], 5, false⟩
theorem h55_ok : CK Tryd.f55 h55c := by unfold CK; kernel_rfl
theorem r55_ok : RK Tryd.f55 [.tmp 2] := by unfold RK; kernel_rfl
def h56c : HC :=
 (.seq (.region [Oo 3 (.box (.t 0)), Oo 4 (.mov (.k (.bool false)))])
 (.seq (.region [oL 5 1, Oo 6 (.nilc (.t 5)), oA 7 0 6, oA 8 0 7, oL 9 8, Oo 10 (.mkfn 58 [(.t 2), (.t 3)]), Oo 11 (.call 57 [(.t 9), (.t 10)]), oM 4 11])
 .ret))
abbrev h56 : HF := ⟨h56c, [.tmp 4], 12, false⟩
theorem h56_ok : CK Tryd.f56 h56c := by unfold CK; kernel_rfl
theorem r56_ok : RK Tryd.f56 [.tmp 4] := by unfold RK; kernel_rfl
def h57c : HC :=
 (.seq (.region [Oo 4 (.mov (.k (.bool false)))])
 (.seq (.region [oM 5 0, oM 6 1, Oo 7 (.call 77 [(.t 5), (.t 6)]), oB 8 .geq 7 0, oM 4 8])
 .ret))
abbrev h57 : HF := ⟨h57c, [.tmp 4], 9, false⟩
theorem h57_ok : CK Tryd.f57 h57c := by unfold CK; kernel_rfl
theorem r57_ok : RK Tryd.f57 [.tmp 4] := by unfold RK; kernel_rfl
def h58c : HC :=
 (.seq (.region [Oo 3 (.box (.t 0)), Oo 4 (.mov (.k (.bool false)))])
 (.seq (.region [oA 5 0 3, oL 6 5, oA 7 0 1, oL 8 7, oC 9 .neq 6 8, oM 10 9, Og 10 true 11 (.addo 1 (.t 3)), Og 10 true 12 (.load false 1 (.t 11)), Og 10 true 13 (.load false 1 (.t 2)), Og 10 true 14 (.bin .geq (.t 12) (.t 13)), Oo 15 (.pick (.t 10) (.t 14) (.k (.bool false))), oM 4 15])
 .ret))
abbrev h58 : HF := ⟨h58c, [.tmp 4], 16, false⟩
theorem h58_ok : CK Tryd.f58 h58c := by unfold CK; kernel_rfl
theorem r58_ok : RK Tryd.f58 [.tmp 4] := by unfold RK; kernel_rfl
def h59c : HC :=
 (.seq (.region [Oo 2 (.box (.t 0)), Oo 3 (.mov (.k (.bool false)))])
 (.seq (.region [oA 4 0 2, oL 5 4, oA 6 0 1, oL 7 6, oC 8 .neq 5 7, oM 3 8])
 .ret))
abbrev h59 : HF := ⟨h59c, [.tmp 3], 9, false⟩
theorem h59_ok : CK Tryd.f59 h59c := by unfold CK; kernel_rfl
theorem r59_ok : RK Tryd.f59 [.tmp 3] := by unfold RK; kernel_rfl
def h60c : HC :=
 (.seq (.region [Oo 4 (.mov (.k (.bool false)))])
 (.seq (.region [oM 5 0, oM 6 1, Oo 7 (.call 78 [(.t 5), (.t 6)]), oB 8 .geq 7 0, oM 4 8])
 .ret))
abbrev h60 : HF := ⟨h60c, [.tmp 4], 9, false⟩
theorem h60_ok : CK Tryd.f60 h60c := by unfold CK; kernel_rfl
theorem r60_ok : RK Tryd.f60 [.tmp 4] := by unfold RK; kernel_rfl
def h61c : HC :=
 (.seq (.region [Oo 2 (.box (.t 0)), Oo 3 (.mov (.k (.bool false)))])
 (.seq (.region [oA 4 0 2, oL 5 4, oA 6 0 1, oL 7 6, oC 8 .eql 5 7, oM 3 8])
 .ret))
abbrev h61 : HF := ⟨h61c, [.tmp 3], 9, false⟩
theorem h61_ok : CK Tryd.f61 h61c := by unfold CK; kernel_rfl
theorem r61_ok : RK Tryd.f61 [.tmp 3] := by unfold RK; kernel_rfl
def h62c : HC :=
 (.seq (.region [Oo 2 (.box (.t 0)), Oo 3 (.mov (.k (.bool false)))])
 (.seq (.drawn [Qo (oA 4 0 2), Qo (oL 5 4), Qo (oA 6 0 1), Qo (oL 7 6), Qo (oC 8 .neq 5 7), Qo (oM 9 8), Qo (Og 9 true 10 (.addo 1 (.t 2))), Qo (Og 9 true 11 (.load false 1 (.t 10))), Qo (Og 9 true 12 (.addo 1 (.t 1))), Qo (Og 9 true 13 (.load false 1 (.t 12))), Qo (Og 9 true 14 (.ixA 4 1 (.g 0) (.t 13))), Qo (Og 9 true 15 (.load false 1 (.t 14))), Qo (Og 9 true 16 (.bin .gtr (.t 11) (.t 15))), Qo (Oo 17 (.pick (.t 9) (.t 16) (.k (.bool false)))), Qo (oM 3 17)])
 .ret))
abbrev h62 : HF := ⟨h62c, [.tmp 3], 18, false⟩
theorem h62_ok : CK Tryd.f62 h62c := by unfold CK; kernel_rfl
theorem r62_ok : RK Tryd.f62 [.tmp 3] := by unfold RK; kernel_rfl
def h67c : HC :=
 (.seq (.region [Oo 2 (.box (.t 0)), Oo 3 (.mov (.k (.bool false)))])
 (.seq (.region [oA 4 0 2, oL 5 4, oA 6 1 1, oL 7 6, oC 8 .eql 5 7, oM 3 8])
 .ret))
abbrev h67 : HF := ⟨h67c, [.tmp 3], 9, false⟩
theorem h67_ok : CK Tryd.f67 h67c := by unfold CK; kernel_rfl
theorem r67_ok : RK Tryd.f67 [.tmp 3] := by unfold RK; kernel_rfl
def h68l0 : HC :=
 (.seq (.seq (.region [oM 16 6, oM 17 0, oN 18 17, oC 19 .lss 16 18])
 (.cond (.t 19) .skip
 (.exit 0)))
 (.seq (.block 1 (.seq (.region [oM 22 0, oM 23 6, oI 24 3 22 23, oG 25 3 24, Oo 7 (.alloc [Zi 0, Zi 0, Zi 0]), oS 3 7 25])
 (.seq (.region [oM 26 1, oG 27 3 7, Oo 28 (.callv (.t 26) [(.t 27)]), Oo 29 (.un .not (.t 28))])
 (.cond (.t 29) (.seq (.region [oM 30 0, oM 31 5, oG 32 3 7, oI 33 3 30 31, oS 3 33 32])
 (.region [oM 34 5, oB 35 .add 34 1, oM 5 35]))
 .skip))))
 (.region [oM 20 6, oB 21 .add 20 1, oM 6 21])))
def h68c : HC :=
 (.seq (.region [Oo 4 (.mov (.k (.slice none 0 0)))])
 (.seq (.regR [77, 100077] [oM 8 0, oM 9 1, Oo 10 (.call 77 [(.t 8), (.t 9)]), oM 5 10])
 (.seq (.seq (.region [oM 11 5, Oo 12 (.bin .eql (.t 11) (Ki (-1)))])
 (.cond (.t 12) (.seq (.region [oM 13 0, oM 4 13])
 .ret)
 .skip))
 (.seq (.seq (.region [oM 14 5, oB 15 .add 14 1, oM 6 15])
 (.block 0 (.loop [0, 0, 3, 0] h68l0)))
 (.seq (.region [oM 36 0, oM 37 5, Oo 38 (.slL 3 (.t 36) (some (.t 37)) none), On (.clr 3 [Zi 0, Zi 0, Zi 0] (.t 38))])
 (.seq (.region [oM 39 0, oM 40 5, Oo 41 (.slL 3 (.t 39) none (some (.t 40))), oM 4 41])
 .ret))))))
abbrev h68 : HF := ⟨h68c, [.tmp 4], 42, true⟩
theorem h68_ok : CK Tryd.f68 h68c := by unfold CK; kernel_rfl
theorem r68_ok : RK Tryd.f68 [.tmp 4] := by unfold RK; kernel_rfl
def h69c : HC :=
 (.seq (.region [Oo 2 (.box (.t 0)), Oo 3 (.mov (.k (.bool false)))])
 (.seq (.region [oA 4 0 2, oL 5 4, oA 6 1 1, oL 7 6, oC 8 .eql 5 7, oM 3 8])
 .ret))
abbrev h69 : HF := ⟨h69c, [.tmp 3], 9, false⟩
theorem h69_ok : CK Tryd.f69 h69c := by unfold CK; kernel_rfl
theorem r69_ok : RK Tryd.f69 [.tmp 3] := by unfold RK; kernel_rfl
def h70c : HC :=
 (.seq (.region [Oo 2 (.box (.t 0)), Oo 3 (.mov (.k (.bool false)))])
 (.seq (.region [oL 4 1, Oo 5 (.mkfn 71 [(.t 2)]), Oo 6 (.call 57 [(.t 4), (.t 5)]), oM 3 6])
 .ret))
abbrev h70 : HF := ⟨h70c, [.tmp 3], 7, false⟩
theorem h70_ok : CK Tryd.f70 h70c := by unfold CK; kernel_rfl
theorem r70_ok : RK Tryd.f70 [.tmp 3] := by unfold RK; kernel_rfl
def h71c : HC :=
 (.seq (.region [Oo 2 (.box (.t 0)), Oo 3 (.mov (.k (.bool false)))])
 (.seq (.region [oA 4 1 2, oL 5 4, oL 6 1, oC 7 .gtr 5 6, oM 3 7])
 .ret))
abbrev h71 : HF := ⟨h71c, [.tmp 3], 8, false⟩
theorem h71_ok : CK Tryd.f71 h71c := by unfold CK; kernel_rfl
theorem r71_ok : RK Tryd.f71 [.tmp 3] := by unfold RK; kernel_rfl
def h72l0 : HC :=
 (.seq (.seq (.region [oM 15 9, oM 16 10, oC 17 .lss 15 16])
 (.cond (.t 17) .skip
 (.exit 0)))
 (.block 1 (.seq (.region [oM 18 9, oM 19 10, oC 20 .add 18 19, Oo 21 (.conv .u64 (.t 20)), Oo 22 (.bin .shr (.t 21) (.k (.int .u64 1))), Oo 23 (.conv .i64 (.t 22)), oM 11 23])
 (.seq (.region [oM 24 2, oM 25 0, oM 26 11, oI 27 3 25 26, oG 28 3 27, oM 29 1, Oo 30 (.callv (.t 24) [(.t 28), (.t 29)]), oB 31 .lss 30 0])
 (.cond (.t 31) (.region [oM 32 11, oB 33 .add 32 1, oM 9 33])
 (.region [oM 34 11, oM 10 34]))))))
def h72c : HC :=
 (.seq (.region [oK 6 0, Oo 7 (.mov (.k (.bool false)))])
 (.seq (.region [oM 12 0, oN 13 12, oM 8 13])
 (.seq (.region [oM 14 8, oK 9 0, oM 10 14])
 (.seq (.block 0 (.loop [0, 0, 0, 5, 0, 0] h72l0))
 (.seq (.region [oM 35 9, oM 36 9, oM 37 8, oC 38 .lss 36 37, oM 39 38, Og 39 true 40 (.mov (.t 2)), Og 39 true 41 (.mov (.t 0)), Og 39 true 42 (.mov (.t 9)), Og 39 true 43 (.ixL 3 (.t 41) (.t 42)), Og 39 true 44 (.load true 3 (.t 43)), Og 39 true 45 (.mov (.t 1)), Og 39 true 46 (.callv (.t 40) [(.t 44), (.t 45)]), Og 39 true 47 (.bin .eql (.t 46) (Ki 0)), Oo 48 (.pick (.t 39) (.t 47) (.k (.bool false))), oM 6 35, oM 7 48])
 .ret)))))
abbrev h72 : HF := ⟨h72c, [.tmp 6, .tmp 7], 49, false⟩
theorem h72_ok : CK Tryd.f72 h72c := by unfold CK; kernel_rfl
theorem r72_ok : RK Tryd.f72 [.tmp 6, .tmp 7] := by unfold RK; kernel_rfl
def h73c : HC :=
 (.seq (.region [Oo 2 (.box (.t 0)), oK 4 0])
 (.seq (.region [oA 5 0 2, oL 6 5, oM 7 1, Oo 8 (.call 74 [(.t 6), (.t 7)]), oM 4 8])
 .ret))
abbrev h73 : HF := ⟨h73c, [.tmp 4], 9, false⟩
theorem h73_ok : CK Tryd.f73 h73c := by unfold CK; kernel_rfl
theorem r73_ok : RK Tryd.f73 [.tmp 4] := by unfold RK; kernel_rfl
def h74c : HC :=
 (.seq (.region [oK 4 0])
 (.seq (.region [oM 7 0, Oo 8 (.call 82 [(.t 7)]), oM 5 8])
 (.seq (.region [oM 9 1, Oo 10 (.call 82 [(.t 9)]), oM 6 10])
 (.seq (.seq (.region [oM 11 5])
 (.cond (.t 11) (.seq (.seq (.region [oM 12 6])
 (.cond (.t 12) (.seq (.region [oK 4 0])
 .ret)
 .skip))
 (.seq (.region [Oo 4 (.mov (Ki (-1)))])
 .ret))
 .skip))
 (.seq (.seq (.region [oM 13 6])
 (.cond (.t 13) (.seq (.region [oK 4 1])
 .ret)
 .skip))
 (.seq (.seq (.region [oM 14 0, oM 15 1, oC 16 .lss 14 15])
 (.cond (.t 16) (.seq (.region [Oo 4 (.mov (Ki (-1)))])
 .ret)
 .skip))
 (.seq (.seq (.region [oM 17 0, oM 18 1, oC 19 .gtr 17 18])
 (.cond (.t 19) (.seq (.region [oK 4 1])
 .ret)
 .skip))
 (.seq (.region [oK 4 0])
 .ret))))))))
abbrev h74 : HF := ⟨h74c, [.tmp 4], 20, false⟩
theorem h74_ok : CK Tryd.f74 h74c := by unfold CK; kernel_rfl
theorem r74_ok : RK Tryd.f74 [.tmp 4] := by unfold RK; kernel_rfl
def h75c : HC :=
 (.seq (.region [Oo 3 (.box (.t 1))])
 (.seq (.regR [49, 100049] [oM 7 0, oA 8 0 3, oL 9 8, Oo 10 (.call 49 [(.t 7), (.t 9)]), oM 6 10, oE 11 6 0, oE 12 6 1, oM 4 11, oM 5 12])
 (.seq (.region [oA 13 1 3, oL 14 13, oB 15 .eql 14 0, oM 16 15, Og 16 true 17 (.mov (.t 5)), Og 16 true 18 (.un .not (.t 17)), Oo 19 (.pick (.t 16) (.t 18) (.k (.bool false)))])
 (.cond (.t 19) (.drawnT [83] (.st 0 (.st 1 (.st 2 (.st 3 (.st 4 (.st 6 (.st 7 (.st 8 (.st 9 (.br 5 (.st 10 (.st 11 (.st 12 (.st 13 (.st 14 (.st 15 .nil)))))) (.br 10 (.st 5 (.st 11 (.st 12 (.st 13 (.st 14 (.st 15 .nil)))))) .stop))))))))))) [oM 20 0, oM 21 0, Oo 22 (.nilc (.t 21)), oA 23 0 22, oA 24 0 23, oL 25 24, oM 26 4, oA 27 0 3, oL 28 27, Oo 29 (.build [Zi 0, Zi 0, Zi 0] [(0, 1, (.t 28))]), Oo 30 (.bslc 3 1 [Zi 0, Zi 0, Zi 0] [(0, (.t 29))]), Oo 31 (.call 83 [(.t 25), (.t 26), (.t 30)]), Oo 32 (.nilc (.t 20)), oA 33 0 32, oA 34 0 33, oS 1 34 31])
 .skip))))
abbrev h75 : HF := ⟨h75c, [], 35, false⟩
theorem h75_ok : CK Tryd.f75 h75c := by unfold CK; kernel_rfl
theorem r75_ok : RK Tryd.f75 [] := by unfold RK; kernel_rfl
def h76c : HC :=
 (.seq (.region [Oo 6 (.mov (.k (.slice none 0 0)))])
 (.seq .bad
 (.seq (.seq (.region [oM 14 1, oM 15 2, oC 16 .eql 14 15])
 (.cond (.t 16) (.seq (.region [oM 17 0, oM 6 17])
 .ret)
 .skip))
 (.seq (.region [oM 18 0, oN 19 18, oM 7 19])
 (.seq (.drawn [Qo (oM 20 0), Qo (oM 21 1), Qo (Oo 22 (.slL 2 (.t 20) none (some (.t 21)))), Qo (oM 23 0), Qo (oM 24 2), Qo (Oo 25 (.slL 2 (.t 23) (some (.t 24)) none)), Qe (Oo 26 (.app 2 16 [Zi 0, Zi 0] (.t 22) (.t 25))), Qo (oM 0 26)])
 (.seq (.region [oM 27 0, oM 28 0, oN 29 28, oM 30 7, Oo 31 (.slL 2 (.t 27) (some (.t 29)) (some (.t 30))), On (.clr 2 [Zi 0, Zi 0] (.t 31))])
 (.seq (.region [oM 32 0, oM 6 32])
 .ret)))))))
abbrev h76 : HF := ⟨h76c, [.tmp 6], 33, true⟩
theorem h76_ok : CK Tryd.f76 h76c := by unfold CK; kernel_rfl
theorem r76_ok : RK Tryd.f76 [.tmp 6] := by unfold RK; kernel_rfl
def h77l0 : HC :=
 (.seq (.region [oC 9 .lss 8 7])
 (.seq (.cond (.t 9) .skip
 (.exit 0))
 (.seq (.block 1 (.seq (.region [oM 10 8, oM 5 10])
 (.seq (.region [oM 11 1, oM 12 0, oM 13 5, oI 14 3 12 13, oG 15 3 14, Oo 16 (.callv (.t 11) [(.t 15)])])
 (.cond (.t 16) (.seq (.region [oM 17 5, oM 4 17])
 .ret)
 .skip))))
 (.region [oB 18 .add 8 1, oM 8 18]))))
def h77c : HC :=
 (.seq (.region [oK 4 0])
 (.seq (.seq (.region [oM 6 0, oN 7 6, oK 8 0])
 (.block 0 (.loop [0, 0, 5, 0] h77l0)))
 (.seq (.region [Oo 4 (.mov (Ki (-1)))])
 .ret)))
abbrev h77 : HF := ⟨h77c, [.tmp 4], 19, false⟩
theorem h77_ok : CK Tryd.f77 h77c := by unfold CK; kernel_rfl
theorem r77_ok : RK Tryd.f77 [.tmp 4] := by unfold RK; kernel_rfl
def h78l0 : HC :=
 (.seq (.region [oC 9 .lss 8 7])
 (.seq (.cond (.t 9) .skip
 (.exit 0))
 (.seq (.block 1 (.seq (.region [oM 10 8, oM 5 10])
 (.seq (.region [oM 11 1, oM 12 0, oM 13 5, oI 14 2 12 13, oG 15 2 14, Oo 16 (.callv (.t 11) [(.t 15)])])
 (.cond (.t 16) (.seq (.region [oM 17 5, oM 4 17])
 .ret)
 .skip))))
 (.region [oB 18 .add 8 1, oM 8 18]))))
def h78c : HC :=
 (.seq (.region [oK 4 0])
 (.seq (.seq (.region [oM 6 0, oN 7 6, oK 8 0])
 (.block 0 (.loop [0, 0, 5, 0] h78l0)))
 (.seq (.region [Oo 4 (.mov (Ki (-1)))])
 .ret)))
abbrev h78 : HF := ⟨h78c, [.tmp 4], 19, false⟩
theorem h78_ok : CK Tryd.f78 h78c := by unfold CK; kernel_rfl
theorem r78_ok : RK Tryd.f78 [.tmp 4] := by unfold RK; kernel_rfl
def h82c : HC :=
 (.seq (.region [Oo 2 (.mov (.k (.bool false)))])
 (.seq (.region [oM 3 0, oM 4 0, oC 5 .neq 3 4, oM 2 5])
 .ret))
abbrev h82 : HF := ⟨h82c, [.tmp 2], 6, false⟩
theorem h82_ok : CK Tryd.f82 h82c := by unfold CK; kernel_rfl
theorem r82_ok : RK Tryd.f82 [.tmp 2] := by unfold RK; kernel_rfl
def h83c : HC :=
 (.seq (.region [Oo 6 (.mov (.k (.slice none 0 0)))])
 (.seq (.region [oM 10 0, oM 11 1, Oo 12 (.slL 3 (.t 10) (some (.t 11)) none)])
 (.seq (.region [oM 13 2, oN 14 13, oM 7 14])
 (.seq (.seq (.region [oM 15 7, oB 16 .eql 15 0])
 (.cond (.t 16) (.seq (.region [oM 17 0, oM 6 17])
 .ret)
 .skip))
 (.seq (.region [oM 18 0, oN 19 18, oM 8 19])
 (.seq (.seq (.region [oM 20 1, oM 21 8, oC 22 .eql 20 21])
 (.cond (.t 22) (.seq (.region [oM 23 0, oM 24 2, Oo 25 (.app 3 24 [Zi 0, Zi 0, Zi 0] (.t 23) (.t 24)), oM 6 25])
 .ret)
 .skip))
 (.seq (.seq .bad
 (.cond (.t 31) (.seq .bad
 (.seq .bad
 (.seq .bad
 (.seq (.region [oM 55 9, oM 6 55])
 .ret))))
 .skip))
 (.seq (.region [oM 56 0, oM 57 8, oM 58 7, oC 59 .add 57 58, Oo 60 (.slL 3 (.t 56) none (some (.t 59))), oM 0 60])
 (.seq (.seq .bad
 (.cond (.t 68) (.seq .bad
 (.seq .bad
 (.seq (.region [oM 83 0, oM 6 83])
 .ret)))
 .skip))
 (.seq .bad
 (.seq (.region [oM 89 0, oM 90 1, Oo 91 (.slL 3 (.t 89) (some (.t 90)) none), oM 92 7, Oo 93 (.call 91 [(.t 91), (.t 92)])])
 (.seq (.region [oM 94 0, oM 6 94])
 .ret))))))))))))
abbrev h83 : HF := ⟨h83c, [.tmp 6], 95, true⟩
theorem h83_ok : CK Tryd.f83 h83c := by unfold CK; kernel_rfl
theorem r83_ok : RK Tryd.f83 [.tmp 6] := by unfold RK; kernel_rfl
def Tbt : FuncId → Option HF
  | 3 => some h3
  | 6 => some h6
  | 7 => some h7
  | 8 => some h8
  | 9 => some h9
  | 10 => some h10
  | 12 => some h12
  | 16 => some h16
  | 17 => some h17
  | 18 => some h18
  | 19 => some h19
  | 20 => some h20
  | 21 => some h21
  | 22 => some h22
  | 23 => some h23
  | 24 => some h24
  | 25 => some h25
  | 26 => some h26
  | 27 => some h27
  | 28 => some h28
  | 29 => some h29
  | 30 => some h30
  | 31 => some h31
  | 32 => some h32
  | 33 => some h33
  | 35 => some h35
  | 36 => some h36
  | 38 => some h38
  | 40 => some h40
  | 41 => some h41
  | 42 => some h42
  | 43 => some h43
  | 44 => some h44
  | 45 => some h45
  | 46 => some h46
  | 47 => some h47
  | 48 => some h48
  | 49 => some h49
  | 50 => some h50
  | 52 => some h52
  | 55 => some h55
  | 56 => some h56
  | 57 => some h57
  | 58 => some h58
  | 59 => some h59
  | 60 => some h60
  | 61 => some h61
  | 62 => some h62
  | 67 => some h67
  | 68 => some h68
  | 69 => some h69
  | 70 => some h70
  | 71 => some h71
  | 72 => some h72
  | 73 => some h73
  | 74 => some h74
  | 75 => some h75
  | 77 => some h77
  | 78 => some h78
  | 82 => some h82
  | _ => none
def Tb (B : CallT) : HT := ⟨Tbt, B⟩
theorem Tb_ok (B : CallT) : HTOK Tryd.prog (Tb B) := by
  intro f h hf
  change Tbt f = some h at hf
  unfold Tbt at hf
  split at hf
  · exact tk hf (by kernel_rfl) Tryd.func3 Tryd.ntmps3 h3_ok r3_ok
  · exact tk hf (by kernel_rfl) Tryd.func6 Tryd.ntmps6 h6_ok r6_ok
  · exact tk hf (by kernel_rfl) Tryd.func7 Tryd.ntmps7 h7_ok r7_ok
  · exact tk hf (by kernel_rfl) Tryd.func8 Tryd.ntmps8 h8_ok r8_ok
  · exact tk hf (by kernel_rfl) Tryd.func9 Tryd.ntmps9 h9_ok r9_ok
  · exact tk hf (by kernel_rfl) Tryd.func10 Tryd.ntmps10 h10_ok r10_ok
  · exact tk hf (by kernel_rfl) Tryd.func12 Tryd.ntmps12 h12_ok r12_ok
  · exact tk hf (by kernel_rfl) Tryd.func16 Tryd.ntmps16 h16_ok r16_ok
  · exact tk hf (by kernel_rfl) Tryd.func17 Tryd.ntmps17 h17_ok r17_ok
  · exact tk hf (by kernel_rfl) Tryd.func18 Tryd.ntmps18 h18_ok r18_ok
  · exact tk hf (by kernel_rfl) Tryd.func19 Tryd.ntmps19 h19_ok r19_ok
  · exact tk hf (by kernel_rfl) Tryd.func20 Tryd.ntmps20 h20_ok r20_ok
  · exact tk hf (by kernel_rfl) Tryd.func21 Tryd.ntmps21 h21_ok r21_ok
  · exact tk hf (by kernel_rfl) Tryd.func22 Tryd.ntmps22 h22_ok r22_ok
  · exact tk hf (by kernel_rfl) Tryd.func23 Tryd.ntmps23 h23_ok r23_ok
  · exact tk hf (by kernel_rfl) Tryd.func24 Tryd.ntmps24 h24_ok r24_ok
  · exact tk hf (by kernel_rfl) Tryd.func25 Tryd.ntmps25 h25_ok r25_ok
  · exact tk hf (by kernel_rfl) Tryd.func26 Tryd.ntmps26 h26_ok r26_ok
  · exact tk hf (by kernel_rfl) Tryd.func27 Tryd.ntmps27 h27_ok r27_ok
  · exact tk hf (by kernel_rfl) Tryd.func28 Tryd.ntmps28 h28_ok r28_ok
  · exact tk hf (by kernel_rfl) Tryd.func29 Tryd.ntmps29 h29_ok r29_ok
  · exact tk hf (by kernel_rfl) Tryd.func30 Tryd.ntmps30 h30_ok r30_ok
  · exact tk hf (by kernel_rfl) Tryd.func31 Tryd.ntmps31 h31_ok r31_ok
  · exact tk hf (by kernel_rfl) Tryd.func32 Tryd.ntmps32 h32_ok r32_ok
  · exact tk hf (by kernel_rfl) Tryd.func33 Tryd.ntmps33 h33_ok r33_ok
  · exact tk hf (by kernel_rfl) Tryd.func35 Tryd.ntmps35 h35_ok r35_ok
  · exact tk hf (by kernel_rfl) Tryd.func36 Tryd.ntmps36 h36_ok r36_ok
  · exact tk hf (by kernel_rfl) Tryd.func38 Tryd.ntmps38 h38_ok r38_ok
  · exact tk hf (by kernel_rfl) Tryd.func40 Tryd.ntmps40 h40_ok r40_ok
  · exact tk hf (by kernel_rfl) Tryd.func41 Tryd.ntmps41 h41_ok r41_ok
  · exact tk hf (by kernel_rfl) Tryd.func42 Tryd.ntmps42 h42_ok r42_ok
  · exact tk hf (by kernel_rfl) Tryd.func43 Tryd.ntmps43 h43_ok r43_ok
  · exact tk hf (by kernel_rfl) Tryd.func44 Tryd.ntmps44 h44_ok r44_ok
  · exact tk hf (by kernel_rfl) Tryd.func45 Tryd.ntmps45 h45_ok r45_ok
  · exact tk hf (by kernel_rfl) Tryd.func46 Tryd.ntmps46 h46_ok r46_ok
  · exact tk hf (by kernel_rfl) Tryd.func47 Tryd.ntmps47 h47_ok r47_ok
  · exact tk hf (by kernel_rfl) Tryd.func48 Tryd.ntmps48 h48_ok r48_ok
  · exact tk hf (by kernel_rfl) Tryd.func49 Tryd.ntmps49 h49_ok r49_ok
  · exact tk hf (by kernel_rfl) Tryd.func50 Tryd.ntmps50 h50_ok r50_ok
  · exact tk hf (by kernel_rfl) Tryd.func52 Tryd.ntmps52 h52_ok r52_ok
  · exact tk hf (by kernel_rfl) Tryd.func55 Tryd.ntmps55 h55_ok r55_ok
  · exact tk hf (by kernel_rfl) Tryd.func56 Tryd.ntmps56 h56_ok r56_ok
  · exact tk hf (by kernel_rfl) Tryd.func57 Tryd.ntmps57 h57_ok r57_ok
  · exact tk hf (by kernel_rfl) Tryd.func58 Tryd.ntmps58 h58_ok r58_ok
  · exact tk hf (by kernel_rfl) Tryd.func59 Tryd.ntmps59 h59_ok r59_ok
  · exact tk hf (by kernel_rfl) Tryd.func60 Tryd.ntmps60 h60_ok r60_ok
  · exact tk hf (by kernel_rfl) Tryd.func61 Tryd.ntmps61 h61_ok r61_ok
  · exact tk hf (by kernel_rfl) Tryd.func62 Tryd.ntmps62 h62_ok r62_ok
  · exact tk hf (by kernel_rfl) Tryd.func67 Tryd.ntmps67 h67_ok r67_ok
  · exact tk hf (by kernel_rfl) Tryd.func68 Tryd.ntmps68 h68_ok r68_ok
  · exact tk hf (by kernel_rfl) Tryd.func69 Tryd.ntmps69 h69_ok r69_ok
  · exact tk hf (by kernel_rfl) Tryd.func70 Tryd.ntmps70 h70_ok r70_ok
  · exact tk hf (by kernel_rfl) Tryd.func71 Tryd.ntmps71 h71_ok r71_ok
  · exact tk hf (by kernel_rfl) Tryd.func72 Tryd.ntmps72 h72_ok r72_ok
  · exact tk hf (by kernel_rfl) Tryd.func73 Tryd.ntmps73 h73_ok r73_ok
  · exact tk hf (by kernel_rfl) Tryd.func74 Tryd.ntmps74 h74_ok r74_ok
  · exact tk hf (by kernel_rfl) Tryd.func75 Tryd.ntmps75 h75_ok r75_ok
  · exact tk hf (by kernel_rfl) Tryd.func77 Tryd.ntmps77 h77_ok r77_ok
  · exact tk hf (by kernel_rfl) Tryd.func78 Tryd.ntmps78 h78_ok r78_ok
  · exact tk hf (by kernel_rfl) Tryd.func82 Tryd.ntmps82 h82_ok r82_ok
  · cases hf
end Go.Proofs.YtinageiefahjfaaDoor
