/- The functions of the translation as codes with hints: printed by a program, held by the kernel against the translation. Conditions: none. -/
import Derived.Test.YtginjcpblgpcoaaNd
import Derived.Test.YtginjcpblgpcoaaChecked
import Derived.KernelRfl
namespace Go.Proofs.Ytginjcpblgpcoaa

/-- depository/depositorylaw03.RunsPlaces -/
def h3c : HC :=
  (.seq (.region [Oo 4 (.mov (.k (.bool false)))])
  (.seq (.seq (.region [Oo 8 (.call 9 []), Oo 9 (.un .not (.t 8))])
  (.cond (.t 9) (.seq (.region [Oo 4 (.mov (.k (.bool false)))])
  .ret)
  .skip))
  (.seq (.seq (.region [Oo 10 (.mov (.t 0)), Oo 11 (.call 10 [(.t 10)]), Oo 12 (.un .not (.t 11))])
  (.cond (.t 12) (.seq (.region [Oo 4 (.mov (.k (.bool true)))])
  .ret)
  .skip))
  (.seq (.region [Oo 14 (.mov (.t 0)), Oo 15 (.call 12 [(.t 14)]), Oo 16 (.mov (.t 1)), Oo 17 (.call 11 [(.t 15), (.t 16)]), Oo 13 (.mov (.t 17)), Oo 18 (.ext (.t 13) 0), Oo 19 (.ext (.t 13) 1), Oo 5 (.alloc [Zi 0, Zi 0]), On (.store 2 (.t 5) (.t 18)), Oo 6 (.mov (.t 19))])
  (.seq (.region [Oo 20 (.mov (.t 0)), Oo 21 (.call 13 [(.t 20)]), Oo 7 (.mov (.t 21))])
  (.seq (.seq (.region [Oo 22 (.mov (.t 7)), Oo 23 (.bin .eql (.t 22) (Ki 0)), Oo 24 (.mov (.t 23)), Og 24 true 25 (.mov (.t 1)), Og 24 true 26 (.bin .lss (.t 25) (Ki 0)), Oo 27 (.pick (.t 24) (.t 26) (.k (.bool false)))])
  (.cond (.t 27) (.region [Oo 7 (.mov (Ki 2))])
  .skip))
  (.seq (.seq (.region [Oo 28 (.mov (.t 7)), Oo 29 (.bin .eql (.t 28) (Ki 0)), Oo 30 (.mov (.t 29)), Og 30 true 31 (.mov (.t 1)), Og 30 true 32 (.mov (.t 0)), Og 30 true 33 (.call 14 [(.t 32)]), Og 30 true 34 (.bin .geq (.t 31) (.t 33)), Oo 35 (.pick (.t 30) (.t 34) (.k (.bool false)))])
  (.cond (.t 35) (.region [Oo 7 (.mov (Ki 37))])
  .skip))
  (.seq (.seq (.region [Oo 36 (.mov (.t 7)), Oo 37 (.bin .neq (.t 36) (Ki 0))])
  (.cond (.t 37) (.seq (.region [Oo 38 (.mov (.t 6)), Oo 39 (.mov (.t 7)), Oo 40 (.bin .eql (.t 38) (.t 39)), Oo 41 (.mov (.t 40)), Og 41 true 42 (.load true 2 (.t 5)), Og 41 true 43 (.build [Zi 0, Zi 0] []), Og 41 true 44 (.eqs false [.i, .i] (.t 42) (.t 43)), Oo 45 (.pick (.t 41) (.t 44) (.k (.bool false))), Oo 4 (.mov (.t 45))])
  .ret)
  .skip))
  (.seq (.drawn [Qo (Oo 46 (.mov (.t 6))), Qo (Oo 47 (.bin .eql (.t 46) (Ki 0))), Qo (Oo 48 (.mov (.t 47))), Qo (Og 48 true 49 (.load true 2 (.t 5))), Qo (Og 48 true 50 (.mov (.t 0))), Qo (Og 48 true 51 (.mov (.t 1))), Qo (Og 48 true 52 (.call 15 [(.t 50), (.t 51)])), Qo (Og 48 true 53 (.eqs false [.i, .i] (.t 49) (.t 52))), Qo (Oo 54 (.pick (.t 48) (.t 53) (.k (.bool false)))), Qo (Oo 4 (.mov (.t 54)))])
  .ret)))))))))
abbrev h3 : HF := ⟨h3c, [.tmp 4], 55, false⟩
theorem h3_ok : (Try.f3.body).bind (compileC Try.prog) = some h3c.er := by kernel_rfl
theorem r3_ok : Try.f3.results.toList.mapM (retOf Try.prog) = some [.tmp 4] := by kernel_rfl

/-- depository/depositorylaw03.RunsChanges -/
def h4c : HC :=
  (.seq (.region [Oo 6 (.mov (.k (.bool false)))])
  (.seq (.seq (.region [Oo 20 (.call 9 []), Oo 21 (.un .not (.t 20))])
  (.cond (.t 21) (.seq (.region [Oo 6 (.mov (.k (.bool false)))])
  .ret)
  .skip))
  (.seq (.seq (.region [Oo 22 (.mov (.t 0)), Oo 23 (.call 10 [(.t 22)]), Oo 24 (.un .not (.t 23)), Oo 25 (.mov (.t 24)), Og 25 false 26 (.mov (.t 1)), Og 25 false 27 (.call 10 [(.t 26)]), Og 25 false 28 (.un .not (.t 27)), Oo 29 (.pick (.t 25) (.k (.bool true)) (.t 28))])
  (.cond (.t 29) (.seq (.region [Oo 6 (.mov (.k (.bool true)))])
  .ret)
  .skip))
  (.seq (.region [Oo 31 (.mov (.t 0)), Oo 32 (.call 12 [(.t 31)]), Oo 33 (.mov (.t 2)), Oo 34 (.mov (.t 1)), Oo 35 (.call 12 [(.t 34)]), Oo 36 (.call 16 [(.t 32), (.t 33), (.t 35)]), Oo 30 (.mov (.t 36)), Oo 37 (.ext (.t 30) 0), Oo 38 (.ext (.t 30) 1), Oo 7 (.mov (.t 37)), Oo 8 (.mov (.t 38))])
  (.seq (.region [Oo 40 (.mov (.t 0)), Oo 41 (.call 12 [(.t 40)]), Oo 42 (.mov (.t 2)), Oo 43 (.mov (.t 1)), Oo 44 (.call 12 [(.t 43)]), Oo 45 (.call 17 [(.t 41), (.t 42), (.t 44)]), Oo 39 (.mov (.t 45)), Oo 46 (.ext (.t 39) 0), Oo 47 (.ext (.t 39) 1), Oo 9 (.mov (.t 46)), Oo 10 (.mov (.t 47))])
  (.seq (.region [Oo 49 (.mov (.t 0)), Oo 50 (.call 12 [(.t 49)]), Oo 51 (.mov (.t 1)), Oo 52 (.call 12 [(.t 51)]), Oo 53 (.call 18 [(.t 50), (.t 52)]), Oo 48 (.mov (.t 53)), Oo 54 (.ext (.t 48) 0), Oo 55 (.ext (.t 48) 1), Oo 11 (.mov (.t 54)), Oo 12 (.mov (.t 55))])
  (.seq (.region [Oo 56 (.mov (.t 0)), Oo 57 (.call 13 [(.t 56)]), Oo 13 (.mov (.t 57))])
  (.seq (.seq (.region [Oo 58 (.mov (.t 13)), Oo 59 (.bin .eql (.t 58) (Ki 0))])
  (.cond (.t 59) (.region [Oo 60 (.mov (.t 1)), Oo 61 (.call 13 [(.t 60)]), Oo 13 (.mov (.t 61))])
  .skip))
  (.seq (.seq (.region [Oo 62 (.mov (.t 13)), Oo 63 (.bin .eql (.t 62) (Ki 0)), Oo 64 (.mov (.t 63)), Og 64 true 65 (.mov (.t 11)), Og 64 true 66 (.mov (.t 12)), Og 64 true 67 (.mov (.t 0)), Og 64 true 68 (.mov (.t 1)), Og 64 true 69 (.call 20 [(.t 67), (.t 68)]), Og 64 true 70 (.call 19 [(.t 65), (.t 66), (.t 69), (Ki 0)]), Og 64 true 71 (.un .not (.t 70)), Oo 72 (.pick (.t 64) (.t 71) (.k (.bool false))), Oo 73 (.mov (.t 72)), Og 73 false 74 (.mov (.t 13)), Og 73 false 75 (.bin .neq (.t 74) (Ki 0)), Og 73 false 76 (.mov (.t 75)), Og 76 true 77 (.mov (.t 11)), Og 76 true 78 (.mov (.t 12)), Og 76 true 79 (.mov (.t 13)), Og 76 true 80 (.call 19 [(.t 77), (.t 78), (.k (.slice none 0 0)), (.t 79)]), Og 76 true 81 (.un .not (.t 80)), Og 73 false 82 (.pick (.t 76) (.t 81) (.k (.bool false))), Oo 83 (.pick (.t 73) (.k (.bool true)) (.t 82))])
  (.cond (.t 83) (.seq (.region [Oo 6 (.mov (.k (.bool false)))])
  .ret)
  .skip))
  (.seq (.seq (.region [Oo 84 (.mov (.t 13)), Oo 85 (.bin .eql (.t 84) (Ki 0)), Oo 86 (.mov (.t 85)), Og 86 true 87 (.mov (.t 2)), Og 86 true 88 (.call 21 [(.t 87), (Ki 0), (Ki 4096)]), Og 86 true 89 (.un .not (.t 88)), Oo 90 (.pick (.t 86) (.t 89) (.k (.bool false)))])
  (.cond (.t 90) (.region [Oo 13 (.mov (Ki 2))])
  .skip))
  (.seq (.seq (.region [Oo 91 (.mov (.t 13)), Oo 92 (.bin .neq (.t 91) (Ki 0))])
  (.cond (.t 92) (.seq (.region [Oo 93 (.mov (.t 7)), Oo 94 (.mov (.t 8)), Oo 95 (.mov (.t 13)), Oo 96 (.call 19 [(.t 93), (.t 94), (.k (.slice none 0 0)), (.t 95)]), Oo 97 (.mov (.t 96)), Og 97 true 98 (.mov (.t 9)), Og 97 true 99 (.mov (.t 10)), Og 97 true 100 (.mov (.t 13)), Og 97 true 101 (.call 19 [(.t 98), (.t 99), (.k (.slice none 0 0)), (.t 100)]), Oo 102 (.pick (.t 97) (.t 101) (.k (.bool false))), Oo 6 (.mov (.t 102))])
  .ret)
  .skip))
  (.seq (.region [Oo 103 (.mov (.t 0)), Oo 104 (.call 22 [(.t 103)]), Oo 105 (.mov (.t 1)), Oo 106 (.call 22 [(.t 105)]), Oo 14 (.mov (.t 104)), Oo 15 (.mov (.t 106))])
  (.seq (.seq (.region [Oo 107 (.mov (.t 2)), Oo 108 (.mov (.t 14)), Oo 109 (.lenL (.t 108)), Oo 110 (.bin .gtr (.t 107) (.t 109))])
  (.cond (.t 110) (.seq (.region [Oo 111 (.mov (.t 7)), Oo 112 (.mov (.t 8)), Oo 113 (.call 19 [(.t 111), (.t 112), (.k (.slice none 0 0)), (Ki 37)]), Oo 114 (.mov (.t 113)), Og 114 true 115 (.mov (.t 9)), Og 114 true 116 (.mov (.t 10)), Og 114 true 117 (.call 19 [(.t 115), (.t 116), (.k (.slice none 0 0)), (Ki 37)]), Oo 118 (.pick (.t 114) (.t 117) (.k (.bool false))), Oo 6 (.mov (.t 118))])
  .ret)
  .skip))
  (.seq (.drawn [Qo (Oo 119 (.mov (.t 14))), Qo (Oo 120 (.mov (.t 2))), Qo (Oo 121 (.slL 1 (.t 119) none (some (.t 120)))), Qo (Oo 123 (.mov (.t 15))), Qo (Oo 125 (.mov (.t 14))), Qo (Oo 126 (.mov (.t 2))), Qo (Oo 127 (.slL 1 (.t 125) (some (.t 126)) none)), Qe (Oo 122 (.call 23 [(.t 121)])), Qe (Oo 124 (.app 1 8 [Zi 0] (.t 122) (.t 123))), Qe (Oo 128 (.app 1 8 [Zi 0] (.t 124) (.t 127))), Qo (Oo 16 (.mov (.t 128)))])
  (.seq (.seq (.region [Oo 129 (.mov (.t 16)), Oo 130 (.call 25 [(.t 129)]), Oo 131 (.call 24 [(.t 130)]), Oo 17 (.mov (.t 131))])
  (.seq (.region [Oo 132 (.mov (.t 17)), Oo 133 (.bin .eql (.t 132) (Ki 0)), Oo 134 (.mov (.t 133)), Og 134 true 135 (.mov (.t 9)), Og 134 true 136 (.mov (.t 10)), Og 134 true 137 (.mov (.t 16)), Og 134 true 138 (.call 25 [(.t 137)]), Og 134 true 139 (.call 19 [(.t 135), (.t 136), (.t 138), (Ki 0)]), Og 134 true 140 (.un .not (.t 139)), Oo 141 (.pick (.t 134) (.t 140) (.k (.bool false))), Oo 142 (.mov (.t 141)), Og 142 false 143 (.mov (.t 17)), Og 142 false 144 (.bin .neq (.t 143) (Ki 0)), Og 142 false 145 (.mov (.t 144)), Og 145 true 146 (.mov (.t 9)), Og 145 true 147 (.mov (.t 10)), Og 145 true 148 (.mov (.t 17)), Og 145 true 149 (.call 19 [(.t 146), (.t 147), (.k (.slice none 0 0)), (.t 148)]), Og 145 true 150 (.un .not (.t 149)), Og 142 false 151 (.pick (.t 145) (.t 150) (.k (.bool false))), Oo 152 (.pick (.t 142) (.k (.bool true)) (.t 151))])
  (.cond (.t 152) (.seq (.region [Oo 6 (.mov (.k (.bool false)))])
  .ret)
  .skip)))
  (.seq (.seq (.region [Oo 153 (.mov (.t 2)), Oo 154 (.mov (.t 15)), Oo 155 (.lenL (.t 154)), Oo 156 (.bin .add (.t 153) (.t 155)), Oo 157 (.mov (.t 14)), Oo 158 (.lenL (.t 157)), Oo 159 (.bin .gtr (.t 156) (.t 158))])
  (.cond (.t 159) (.seq (.region [Oo 160 (.mov (.t 7)), Oo 161 (.mov (.t 8)), Oo 162 (.call 19 [(.t 160), (.t 161), (.k (.slice none 0 0)), (Ki 37)]), Oo 6 (.mov (.t 162))])
  .ret)
  .skip))
  (.seq (.drawn [Qo (Oo 163 (.mov (.t 14))), Qo (Oo 164 (.mov (.t 2))), Qo (Oo 167 (.mov (.t 15))), Qo (Oo 169 (.mov (.t 14))), Qo (Oo 170 (.mov (.t 2))), Qo (Oo 171 (.mov (.t 15))), Qo (Oo 165 (.slL 1 (.t 163) none (some (.t 164)))), Qe (Oo 166 (.call 23 [(.t 165)])), Qe (Oo 168 (.app 1 8 [Zi 0] (.t 166) (.t 167))), Qo (Oo 172 (.lenL (.t 171))), Qo (Oo 173 (.bin .add (.t 170) (.t 172))), Qo (Oo 174 (.slL 1 (.t 169) (some (.t 173)) none)), Qe (Oo 175 (.app 1 8 [Zi 0] (.t 168) (.t 174))), Qo (Oo 18 (.mov (.t 175)))])
  (.seq (.seq (.region [Oo 176 (.mov (.t 18)), Oo 177 (.call 25 [(.t 176)]), Oo 178 (.call 24 [(.t 177)]), Oo 19 (.mov (.t 178))])
  (.seq (.region [Oo 179 (.mov (.t 19)), Oo 180 (.bin .neq (.t 179) (Ki 0))])
  (.cond (.t 180) (.seq (.region [Oo 181 (.mov (.t 7)), Oo 182 (.mov (.t 8)), Oo 183 (.mov (.t 19)), Oo 184 (.call 19 [(.t 181), (.t 182), (.k (.slice none 0 0)), (.t 183)]), Oo 6 (.mov (.t 184))])
  .ret)
  .skip)))
  (.seq (.region [Oo 185 (.mov (.t 7)), Oo 186 (.mov (.t 8)), Oo 187 (.mov (.t 18)), Oo 188 (.call 25 [(.t 187)]), Oo 189 (.call 19 [(.t 185), (.t 186), (.t 188), (Ki 0)]), Oo 6 (.mov (.t 189))])
  .ret)))))))))))))))))))
abbrev h4 : HF := ⟨h4c, [.tmp 6], 190, false⟩
theorem h4_ok : (Try.f4.body).bind (compileC Try.prog) = some h4c.er := by kernel_rfl
theorem r4_ok : Try.f4.results.toList.mapM (retOf Try.prog) = some [.tmp 6] := by kernel_rfl

/-- depository/depositorylaw03.RunsParts -/
def h5c : HC :=
  (.seq (.region [Oo 5 (.box (.t 2)), Oo 6 (.mov (.k (.bool false)))])
  (.seq (.seq (.region [Oo 17 (.call 9 []), Oo 18 (.un .not (.t 17))])
  (.cond (.t 18) (.seq (.region [Oo 6 (.mov (.k (.bool false)))])
  .ret)
  .skip))
  (.seq (.seq (.region [Oo 19 (.mov (.t 0)), Oo 20 (.call 10 [(.t 19)]), Oo 21 (.un .not (.t 20)), Oo 22 (.mov (.t 21)), Og 22 false 23 (.mov (.t 1)), Og 22 false 24 (.call 10 [(.t 23)]), Og 22 false 25 (.un .not (.t 24)), Oo 26 (.pick (.t 22) (.k (.bool true)) (.t 25))])
  (.cond (.t 26) (.seq (.region [Oo 6 (.mov (.k (.bool true)))])
  .ret)
  .skip))
  (.seq (.drawn [Qo (Oo 28 (.mov (.t 0))), Qo (Oo 29 (.call 12 [(.t 28)])), Qo (Oo 30 (.ixA 2 1 (.t 5) (Ki 0))), Qo (Oo 31 (.load false 1 (.t 30))), Qo (Oo 32 (.ixA 2 1 (.t 5) (Ki 1))), Qo (Oo 33 (.load false 1 (.t 32))), Qe (Oo 34 (.call 26 [(.t 29), (.t 31), (.t 33)])), Qo (Oo 27 (.mov (.t 34))), Qo (Oo 35 (.ext (.t 27) 0)), Qo (Oo 36 (.ext (.t 27) 1)), Qo (Oo 7 (.mov (.t 35))), Qo (Oo 8 (.mov (.t 36)))])
  (.seq (.drawn [Qo (Oo 38 (.mov (.t 0))), Qo (Oo 39 (.call 12 [(.t 38)])), Qo (Oo 40 (.ixA 2 1 (.t 5) (Ki 0))), Qo (Oo 41 (.load false 1 (.t 40))), Qo (Oo 42 (.ixA 2 1 (.t 5) (Ki 1))), Qo (Oo 43 (.load false 1 (.t 42))), Qe (Oo 44 (.call 27 [(.t 39), (.t 41), (.t 43)])), Qo (Oo 37 (.mov (.t 44))), Qo (Oo 45 (.ext (.t 37) 0)), Qo (Oo 46 (.ext (.t 37) 1)), Qo (Oo 9 (.mov (.t 45))), Qo (Oo 10 (.mov (.t 46)))])
  (.seq (.region [Oo 48 (.mov (.t 0)), Oo 49 (.call 12 [(.t 48)]), Oo 50 (.mov (.t 1)), Oo 51 (.call 12 [(.t 50)]), Oo 52 (.call 28 [(.t 49), (.t 51)]), Oo 47 (.mov (.t 52)), Oo 53 (.ext (.t 47) 0), Oo 54 (.ext (.t 47) 1), Oo 11 (.mov (.t 53)), Oo 12 (.mov (.t 54))])
  (.seq (.region [Oo 55 (.mov (.t 0)), Oo 56 (.call 13 [(.t 55)]), Oo 13 (.mov (.t 56))])
  (.seq (.region [Oo 57 (.mov (.t 13)), Oo 14 (.mov (.t 57))])
  (.seq (.seq (.region [Oo 58 (.mov (.t 14)), Oo 59 (.bin .eql (.t 58) (Ki 0))])
  (.cond (.t 59) (.region [Oo 60 (.mov (.t 1)), Oo 61 (.call 13 [(.t 60)]), Oo 14 (.mov (.t 61))])
  .skip))
  (.seq (.seq (.region [Oo 62 (.mov (.t 14)), Oo 63 (.bin .eql (.t 62) (Ki 0))])
  (.cond (.t 63) (.region [Oo 64 (.mov (.t 0)), Oo 65 (.call 12 [(.t 64)]), Oo 66 (.mov (.t 1)), Oo 67 (.app 2 16 [Zi 0, Zi 0] (.t 65) (.t 66)), Oo 68 (.call 24 [(.t 67)]), Oo 14 (.mov (.t 68))])
  .skip))
  (.seq (.seq (.region [Oo 69 (.mov (.t 14)), Oo 70 (.bin .eql (.t 69) (Ki 0)), Oo 71 (.mov (.t 70)), Og 71 true 72 (.mov (.t 11)), Og 71 true 73 (.mov (.t 12)), Og 71 true 74 (.mov (.t 0)), Og 71 true 75 (.call 12 [(.t 74)]), Og 71 true 76 (.mov (.t 1)), Og 71 true 77 (.app 2 16 [Zi 0, Zi 0] (.t 75) (.t 76)), Og 71 true 78 (.call 29 [(.t 77)]), Og 71 true 79 (.call 19 [(.t 72), (.t 73), (.t 78), (Ki 0)]), Og 71 true 80 (.un .not (.t 79)), Oo 81 (.pick (.t 71) (.t 80) (.k (.bool false))), Oo 82 (.mov (.t 81)), Og 82 false 83 (.mov (.t 14)), Og 82 false 84 (.bin .neq (.t 83) (Ki 0)), Og 82 false 85 (.mov (.t 84)), Og 85 true 86 (.mov (.t 11)), Og 85 true 87 (.mov (.t 12)), Og 85 true 88 (.mov (.t 14)), Og 85 true 89 (.call 19 [(.t 86), (.t 87), (.k (.slice none 0 0)), (.t 88)]), Og 85 true 90 (.un .not (.t 89)), Og 82 false 91 (.pick (.t 85) (.t 90) (.k (.bool false))), Oo 92 (.pick (.t 82) (.k (.bool true)) (.t 91))])
  (.cond (.t 92) (.seq (.region [Oo 6 (.mov (.k (.bool false)))])
  .ret)
  .skip))
  (.seq (.seq (.region [Oo 93 (.mov (.t 13)), Oo 94 (.bin .eql (.t 93) (Ki 0)), Oo 95 (.mov (.t 94)), Og 95 true 96 (.ixA 2 1 (.t 5) (Ki 0)), Og 95 true 97 (.load false 1 (.t 96)), Og 95 true 98 (.call 21 [(.t 97), (Ki 0), (Ki 4096)]), Og 95 true 99 (.un .not (.t 98)), Og 95 true 100 (.mov (.t 99)), Og 100 false 101 (.ixA 2 1 (.t 5) (Ki 1)), Og 100 false 102 (.load false 1 (.t 101)), Og 100 false 103 (.call 21 [(.t 102), (Ki 0), (Ki 4096)]), Og 100 false 104 (.un .not (.t 103)), Og 95 true 105 (.pick (.t 100) (.k (.bool true)) (.t 104)), Oo 106 (.pick (.t 95) (.t 105) (.k (.bool false)))])
  (.cond (.t 106) (.region [Oo 13 (.mov (Ki 2))])
  .skip))
  (.seq (.seq (.drawn [Qo (Oo 107 (.mov (.t 13))), Qo (Oo 108 (.bin .eql (.t 107) (Ki 0))), Qo (Oo 109 (.mov (.t 108))), Qo (Og 109 true 110 (.ixA 2 1 (.t 5) (Ki 0))), Qo (Og 109 true 111 (.load false 1 (.t 110))), Qo (Og 109 true 112 (.ixA 2 1 (.t 5) (Ki 1))), Qo (Og 109 true 113 (.load false 1 (.t 112))), Qo (Og 109 true 114 (.bin .add (.t 111) (.t 113))), Qo (Og 109 true 115 (.mov (.t 0))), Qo (Og 109 true 116 (.call 14 [(.t 115)])), Qo (Og 109 true 117 (.bin .gtr (.t 114) (.t 116))), Qo (Oo 118 (.pick (.t 109) (.t 117) (.k (.bool false))))])
  (.cond (.t 118) (.region [Oo 13 (.mov (Ki 37))])
  .skip))
  (.seq (.seq (.region [Oo 119 (.mov (.t 13)), Oo 120 (.bin .neq (.t 119) (Ki 0))])
  (.cond (.t 120) (.seq (.region [Oo 121 (.mov (.t 7)), Oo 122 (.mov (.t 8)), Oo 123 (.mov (.t 13)), Oo 124 (.call 19 [(.t 121), (.t 122), (.k (.slice none 0 0)), (.t 123)]), Oo 125 (.mov (.t 124)), Og 125 true 126 (.mov (.t 9)), Og 125 true 127 (.mov (.t 10)), Og 125 true 128 (.mov (.t 13)), Og 125 true 129 (.call 19 [(.t 126), (.t 127), (.k (.slice none 0 0)), (.t 128)]), Oo 130 (.pick (.t 125) (.t 129) (.k (.bool false))), Oo 6 (.mov (.t 130))])
  .ret)
  .skip))
  (.seq (.region [Oo 131 (.mov (.t 0)), Oo 132 (.call 22 [(.t 131)]), Oo 15 (.mov (.t 132))])
  (.seq (.drawn [Qo (Oo 133 (.mov (.t 15))), Qo (Oo 134 (.ixA 2 1 (.t 5) (Ki 0))), Qo (Oo 135 (.load false 1 (.t 134))), Qo (Oo 136 (.slL 1 (.t 133) none (some (.t 135)))), Qo (Oo 138 (.mov (.t 15))), Qo (Oo 139 (.ixA 2 1 (.t 5) (Ki 0))), Qo (Oo 140 (.load false 1 (.t 139))), Qo (Oo 141 (.ixA 2 1 (.t 5) (Ki 1))), Qo (Oo 142 (.load false 1 (.t 141))), Qo (Oo 143 (.bin .add (.t 140) (.t 142))), Qo (Oo 144 (.slL 1 (.t 138) (some (.t 143)) none)), Qe (Oo 137 (.call 23 [(.t 136)])), Qe (Oo 145 (.app 1 8 [Zi 0] (.t 137) (.t 144))), Qo (Oo 16 (.mov (.t 145)))])
  (.seq (.region [Oo 146 (.mov (.t 7)), Oo 147 (.mov (.t 8)), Oo 148 (.mov (.t 15)), Oo 149 (.ixA 2 1 (.t 5) (Ki 0)), Oo 150 (.load false 1 (.t 149)), Oo 151 (.ixA 2 1 (.t 5) (Ki 0)), Oo 152 (.load false 1 (.t 151)), Oo 153 (.ixA 2 1 (.t 5) (Ki 1)), Oo 154 (.load false 1 (.t 153)), Oo 155 (.bin .add (.t 152) (.t 154)), Oo 156 (.slL 1 (.t 148) (some (.t 150)) (some (.t 155))), Oo 157 (.call 25 [(.t 156)]), Oo 158 (.call 19 [(.t 146), (.t 147), (.t 157), (Ki 0)]), Oo 159 (.mov (.t 158)), Og 159 true 160 (.mov (.t 9)), Og 159 true 161 (.mov (.t 10)), Og 159 true 162 (.mov (.t 16)), Og 159 true 163 (.call 25 [(.t 162)]), Og 159 true 164 (.call 19 [(.t 160), (.t 161), (.t 163), (Ki 0)]), Oo 165 (.pick (.t 159) (.t 164) (.k (.bool false))), Oo 6 (.mov (.t 165))])
  .ret)))))))))))))))))
abbrev h5 : HF := ⟨h5c, [.tmp 6], 166, false⟩
theorem h5_ok : (Try.f5.body).bind (compileC Try.prog) = some h5c.er := by kernel_rfl
theorem r5_ok : Try.f5.results.toList.mapM (retOf Try.prog) = some [.tmp 6] := by kernel_rfl

/-- depository/depositorylaw03.RunsBytes -/
def h6c : HC :=
  (.seq (.region [Oo 4 (.mov (.k (.bool false)))])
  (.seq (.seq (.region [Oo 12 (.call 9 []), Oo 13 (.un .not (.t 12))])
  (.cond (.t 13) (.seq (.region [Oo 4 (.mov (.k (.bool false)))])
  .ret)
  .skip))
  (.seq (.seq (.region [Oo 14 (.mov (.t 0)), Oo 15 (.call 10 [(.t 14)]), Oo 16 (.un .not (.t 15)), Oo 17 (.mov (.t 16)), Og 17 false 18 (.mov (.t 1)), Og 17 false 19 (.lenS (.t 18)), Og 17 false 20 (.bin .gtr (.t 19) (Ki 420)), Oo 21 (.pick (.t 17) (.k (.bool true)) (.t 20))])
  (.cond (.t 21) (.seq (.region [Oo 4 (.mov (.k (.bool true)))])
  .ret)
  .skip))
  (.seq (.region [Oo 23 (.mov (.t 0)), Oo 24 (.call 12 [(.t 23)]), Oo 25 (.call 30 [(.t 24)]), Oo 22 (.mov (.t 25)), Oo 26 (.ext (.t 22) 0), Oo 27 (.ext (.t 22) 1), Oo 5 (.mov (.t 26)), Oo 6 (.mov (.t 27))])
  (.seq (.region [Oo 29 (.mov (.t 1)), Oo 30 (.call 31 [(.t 29)]), Oo 28 (.mov (.t 30)), Oo 31 (.ext (.t 28) 0), Oo 32 (.ext (.t 28) 1), Oo 7 (.mov (.t 31)), Oo 8 (.mov (.t 32))])
  (.seq (.region [Oo 34 (.mov (.t 1)), Oo 35 (.call 32 [(.t 34)]), Oo 33 (.mov (.t 35)), Oo 36 (.ext (.t 33) 0), Oo 37 (.ext (.t 33) 1), Oo 9 (.mov (.t 36)), Oo 10 (.mov (.t 37))])
  (.seq (.seq (.region [Oo 38 (.mov (.t 7)), Oo 39 (.mov (.t 8)), Oo 40 (.mov (.t 9)), Oo 41 (.mov (.t 10)), Oo 42 (.call 19 [(.t 38), (.t 39), (.t 40), (.t 41)]), Oo 43 (.un .not (.t 42))])
  (.cond (.t 43) (.seq (.region [Oo 4 (.mov (.k (.bool false)))])
  .ret)
  .skip))
  (.seq (.seq (.region [Oo 44 (.mov (.t 0)), Oo 45 (.call 13 [(.t 44)]), Oo 11 (.mov (.t 45))])
  (.seq (.region [Oo 46 (.mov (.t 11)), Oo 47 (.bin .neq (.t 46) (Ki 0))])
  (.cond (.t 47) (.seq (.region [Oo 48 (.mov (.t 6)), Oo 49 (.mov (.t 11)), Oo 50 (.bin .eql (.t 48) (.t 49)), Oo 51 (.mov (.t 50)), Og 51 true 52 (.mov (.t 5)), Og 51 true 53 (.bin .eql (.t 52) (.k (.string ⟨#[]⟩))), Oo 54 (.pick (.t 51) (.t 53) (.k (.bool false))), Oo 4 (.mov (.t 54))])
  .ret)
  .skip)))
  (.seq (.region [Oo 55 (.mov (.t 6)), Oo 56 (.bin .eql (.t 55) (Ki 0)), Oo 57 (.mov (.t 56)), Og 57 true 58 (.mov (.t 5)), Og 57 true 59 (.mov (.t 0)), Og 57 true 60 (.call 33 [(.t 59)]), Og 57 true 61 (.bin .eql (.t 58) (.t 60)), Oo 62 (.pick (.t 57) (.t 61) (.k (.bool false))), Oo 4 (.mov (.t 62))])
  .ret)))))))))
abbrev h6 : HF := ⟨h6c, [.tmp 4], 63, false⟩
theorem h6_ok : (Try.f6.body).bind (compileC Try.prog) = some h6c.er := by kernel_rfl
theorem r6_ok : Try.f6.results.toList.mapM (retOf Try.prog) = some [.tmp 4] := by kernel_rfl

/-- depository/depositorylaw03.RunsChecks -/
def h7c : HC :=
  (.seq (.region [Oo 2 (.mov (.k (.bool false)))])
  (.seq (.seq (.region [Oo 16 (.call 9 []), Oo 17 (.un .not (.t 16))])
  (.cond (.t 17) (.seq (.region [Oo 2 (.mov (.k (.bool false)))])
  .ret)
  .skip))
  (.seq (.seq (.region [Oo 18 (.mov (.t 0)), Oo 19 (.call 10 [(.t 18)]), Oo 20 (.un .not (.t 19))])
  (.cond (.t 20) (.seq (.region [Oo 2 (.mov (.k (.bool true)))])
  .ret)
  .skip))
  (.seq (.region [Oo 22 (.mov (.t 0)), Oo 23 (.call 12 [(.t 22)]), Oo 24 (.call 34 [(.t 23)]), Oo 21 (.mov (.t 24)), Oo 25 (.ext (.t 21) 0), Oo 26 (.ext (.t 21) 1), Oo 3 (.mov (.t 25)), Oo 4 (.mov (.t 26))])
  (.seq (.region [Oo 28 (.mov (.t 0)), Oo 29 (.call 12 [(.t 28)]), Oo 30 (.call 35 [(.t 29)]), Oo 27 (.mov (.t 30)), Oo 31 (.ext (.t 27) 0), Oo 32 (.ext (.t 27) 1), Oo 5 (.mov (.t 31)), Oo 6 (.mov (.t 32))])
  (.seq (.region [Oo 34 (.mov (.t 0)), Oo 35 (.call 12 [(.t 34)]), Oo 36 (.call 36 [(.t 35)]), Oo 33 (.mov (.t 36)), Oo 37 (.ext (.t 33) 0), Oo 38 (.ext (.t 33) 1), Oo 7 (.mov (.t 37)), Oo 8 (.mov (.t 38))])
  (.seq (.region [Oo 40 (.mov (.t 0)), Oo 41 (.call 12 [(.t 40)]), Oo 42 (.call 37 [(.t 41)]), Oo 39 (.mov (.t 42)), Oo 43 (.ext (.t 39) 0), Oo 44 (.ext (.t 39) 1), Oo 9 (.mov (.t 43)), Oo 10 (.mov (.t 44))])
  (.seq (.region [Oo 46 (.mov (.t 0)), Oo 47 (.call 12 [(.t 46)]), Oo 48 (.call 38 [(.t 47)]), Oo 45 (.mov (.t 48)), Oo 49 (.ext (.t 45) 0), Oo 50 (.ext (.t 45) 1), Oo 11 (.mov (.t 49)), Oo 12 (.mov (.t 50))])
  (.seq (.region [Oo 52 (.mov (.t 0)), Oo 53 (.call 39 [(.t 52)]), Oo 51 (.mov (.t 53)), Oo 54 (.ext (.t 51) 0), Oo 55 (.ext (.t 51) 1), Oo 13 (.mov (.t 54)), Oo 14 (.mov (.t 55))])
  (.seq (.seq (.region [Oo 56 (.mov (.t 4)), Oo 57 (.mov (.t 14)), Oo 58 (.bin .neq (.t 56) (.t 57)), Oo 59 (.mov (.t 58)), Og 59 false 60 (.mov (.t 3)), Og 59 false 61 (.mov (.t 13)), Og 59 false 62 (.bin .neq (.t 60) (.t 61)), Oo 63 (.pick (.t 59) (.k (.bool true)) (.t 62))])
  (.cond (.t 63) (.seq (.region [Oo 2 (.mov (.k (.bool false)))])
  .ret)
  .skip))
  (.seq (.region [Oo 64 (.mov (.t 0)), Oo 65 (.call 40 [(.t 64)]), Oo 15 (.mov (.t 65))])
  (.seq (.seq (.region [Oo 66 (.mov (.t 15)), Oo 67 (.bin .eql (.t 66) (Ki 0)), Oo 68 (.mov (.t 67)), Og 68 true 69 (.mov (.t 5)), Og 68 true 70 (.mov (.t 6)), Og 68 true 71 (.mov (.t 0)), Og 68 true 72 (.call 29 [(.t 71)]), Og 68 true 73 (.call 19 [(.t 69), (.t 70), (.t 72), (Ki 0)]), Og 68 true 74 (.un .not (.t 73)), Oo 75 (.pick (.t 68) (.t 74) (.k (.bool false))), Oo 76 (.mov (.t 75)), Og 76 false 77 (.mov (.t 15)), Og 76 false 78 (.bin .neq (.t 77) (Ki 0)), Og 76 false 79 (.mov (.t 78)), Og 79 true 80 (.mov (.t 5)), Og 79 true 81 (.mov (.t 6)), Og 79 true 82 (.mov (.t 15)), Og 79 true 83 (.call 19 [(.t 80), (.t 81), (.k (.slice none 0 0)), (.t 82)]), Og 79 true 84 (.un .not (.t 83)), Og 76 false 85 (.pick (.t 79) (.t 84) (.k (.bool false))), Oo 86 (.pick (.t 76) (.k (.bool true)) (.t 85))])
  (.cond (.t 86) (.seq (.region [Oo 2 (.mov (.k (.bool false)))])
  .ret)
  .skip))
  (.seq (.seq (.region [Oo 87 (.mov (.t 14)), Oo 88 (.bin .neq (.t 87) (Ki 0))])
  (.cond (.t 88) (.seq (.region [Oo 89 (.mov (.t 8)), Oo 90 (.mov (.t 14)), Oo 91 (.bin .eql (.t 89) (.t 90)), Oo 92 (.mov (.t 91)), Og 92 true 93 (.mov (.t 10)), Og 92 true 94 (.mov (.t 14)), Og 92 true 95 (.bin .eql (.t 93) (.t 94)), Oo 96 (.pick (.t 92) (.t 95) (.k (.bool false))), Oo 97 (.mov (.t 96)), Og 97 true 98 (.mov (.t 7)), Og 97 true 99 (.bin .eql (.t 98) (Ki 0)), Oo 100 (.pick (.t 97) (.t 99) (.k (.bool false))), Oo 101 (.mov (.t 100)), Og 101 true 102 (.mov (.t 9)), Og 101 true 103 (.bin .eql (.t 102) (Ki 0)), Oo 104 (.pick (.t 101) (.t 103) (.k (.bool false))), Oo 105 (.mov (.t 104)), Og 105 true 106 (.mov (.t 11)), Og 105 true 107 (.mov (.t 12)), Og 105 true 108 (.mov (.t 14)), Og 105 true 109 (.call 19 [(.t 106), (.t 107), (.k (.slice none 0 0)), (.t 108)]), Oo 110 (.pick (.t 105) (.t 109) (.k (.bool false))), Oo 2 (.mov (.t 110))])
  .ret)
  .skip))
  (.seq (.region [Oo 111 (.mov (.t 8)), Oo 112 (.bin .eql (.t 111) (Ki 0)), Oo 113 (.mov (.t 112)), Og 113 true 114 (.mov (.t 7)), Og 113 true 115 (.mov (.t 0)), Og 113 true 116 (.call 14 [(.t 115)]), Og 113 true 117 (.bin .eql (.t 114) (.t 116)), Oo 118 (.pick (.t 113) (.t 117) (.k (.bool false))), Oo 119 (.mov (.t 118)), Og 119 true 120 (.mov (.t 10)), Og 119 true 121 (.bin .eql (.t 120) (Ki 0)), Oo 122 (.pick (.t 119) (.t 121) (.k (.bool false))), Oo 123 (.mov (.t 122)), Og 123 true 124 (.mov (.t 9)), Og 123 true 125 (.mov (.t 0)), Og 123 true 126 (.call 41 [(.t 125)]), Og 123 true 127 (.bin .eql (.t 124) (.t 126)), Oo 128 (.pick (.t 123) (.t 127) (.k (.bool false))), Oo 129 (.mov (.t 128)), Og 129 true 130 (.mov (.t 11)), Og 129 true 131 (.mov (.t 12)), Og 129 true 132 (.mov (.t 0)), Og 129 true 133 (.call 20 [(.t 132), (.k (.slice none 0 0))]), Og 129 true 134 (.call 19 [(.t 130), (.t 131), (.t 133), (Ki 0)]), Oo 135 (.pick (.t 129) (.t 134) (.k (.bool false))), Oo 2 (.mov (.t 135))])
  .ret))))))))))))))
abbrev h7 : HF := ⟨h7c, [.tmp 2], 136, false⟩
theorem h7_ok : (Try.f7.body).bind (compileC Try.prog) = some h7c.er := by kernel_rfl
theorem r7_ok : Try.f7.results.toList.mapM (retOf Try.prog) = some [.tmp 2] := by kernel_rfl

/-- depository/depositorylaw03.RunsHalves -/
def h8c : HC :=
  (.seq (.region [Oo 6 (.mov (.k (.bool false)))])
  (.seq (.seq (.region [Oo 28 (.call 9 []), Oo 29 (.un .not (.t 28))])
  (.cond (.t 29) (.seq (.region [Oo 6 (.mov (.k (.bool false)))])
  .ret)
  .skip))
  (.seq (.seq (.region [Oo 30 (.mov (.t 0)), Oo 31 (.call 10 [(.t 30)]), Oo 32 (.un .not (.t 31)), Oo 33 (.mov (.t 32)), Og 33 false 34 (.mov (.t 0)), Og 33 false 35 (.call 13 [(.t 34)]), Og 33 false 36 (.bin .neq (.t 35) (Ki 0)), Oo 37 (.pick (.t 33) (.k (.bool true)) (.t 36))])
  (.cond (.t 37) (.seq (.region [Oo 6 (.mov (.k (.bool true)))])
  .ret)
  .skip))
  (.seq (.region [Oo 39 (.mov (.t 0)), Oo 40 (.call 12 [(.t 39)]), Oo 41 (.call 36 [(.t 40)]), Oo 38 (.mov (.t 41)), Oo 42 (.ext (.t 38) 0), Oo 43 (.ext (.t 38) 1), Oo 7 (.mov (.t 42)), Oo 8 (.mov (.t 43))])
  (.seq (.seq (.region [Oo 44 (.mov (.t 8)), Oo 45 (.bin .neq (.t 44) (Ki 0)), Oo 46 (.mov (.t 45)), Og 46 false 47 (.mov (.t 7)), Og 46 false 48 (.call 21 [(.t 47), (Ki 0), (Ki 4096)]), Og 46 false 49 (.un .not (.t 48)), Oo 50 (.pick (.t 46) (.k (.bool true)) (.t 49))])
  (.cond (.t 50) (.seq (.region [Oo 6 (.mov (.k (.bool false)))])
  .ret)
  .skip))
  (.seq (.region [Oo 51 (.mov (.t 2)), Oo 52 (.mov (.t 7)), Oo 53 (.bin .add (.t 52) (Ki 1)), Oo 54 (.call 42 [(.t 51), (.t 53)]), Oo 9 (.mov (.t 54))])
  (.seq (.region [Oo 56 (.mov (.t 0)), Oo 57 (.call 12 [(.t 56)]), Oo 58 (.mov (.t 9)), Oo 59 (.call 26 [(.t 57), (Ki 0), (.t 58)]), Oo 55 (.mov (.t 59)), Oo 60 (.ext (.t 55) 0), Oo 61 (.ext (.t 55) 1), Oo 10 (.mov (.t 60)), Oo 11 (.mov (.t 61))])
  (.seq (.region [Oo 63 (.mov (.t 0)), Oo 64 (.call 12 [(.t 63)]), Oo 65 (.mov (.t 9)), Oo 66 (.mov (.t 7)), Oo 67 (.mov (.t 9)), Oo 68 (.bin .sub (.t 66) (.t 67)), Oo 69 (.call 26 [(.t 64), (.t 65), (.t 68)]), Oo 62 (.mov (.t 69)), Oo 70 (.ext (.t 62) 0), Oo 71 (.ext (.t 62) 1), Oo 12 (.mov (.t 70)), Oo 13 (.mov (.t 71))])
  (.seq (.region [Oo 73 (.mov (.t 10)), Oo 74 (.call 12 [(.t 73)]), Oo 75 (.mov (.t 12)), Oo 76 (.call 12 [(.t 75)]), Oo 77 (.call 28 [(.t 74), (.t 76)]), Oo 72 (.mov (.t 77)), Oo 78 (.ext (.t 72) 0), Oo 79 (.ext (.t 72) 1), Oo 14 (.mov (.t 78)), Oo 15 (.mov (.t 79))])
  (.seq (.seq (.region [Oo 80 (.mov (.t 11)), Oo 81 (.bin .neq (.t 80) (Ki 0)), Oo 82 (.mov (.t 81)), Og 82 false 83 (.mov (.t 13)), Og 82 false 84 (.bin .neq (.t 83) (Ki 0)), Oo 85 (.pick (.t 82) (.k (.bool true)) (.t 84)), Oo 86 (.mov (.t 85)), Og 86 false 87 (.mov (.t 15)), Og 86 false 88 (.bin .neq (.t 87) (Ki 0)), Oo 89 (.pick (.t 86) (.k (.bool true)) (.t 88)), Oo 90 (.mov (.t 89)), Og 90 false 91 (.mov (.t 14)), Og 90 false 92 (.mov (.t 0)), Og 90 false 93 (.call 43 [(.t 91), (.t 92)]), Og 90 false 94 (.un .not (.t 93)), Oo 95 (.pick (.t 90) (.k (.bool true)) (.t 94))])
  (.cond (.t 95) (.seq (.region [Oo 6 (.mov (.k (.bool false)))])
  .ret)
  .skip))
  (.seq (.seq (.region [Oo 96 (.mov (.t 9)), Oo 97 (.mov (.t 7)), Oo 98 (.bin .lss (.t 96) (.t 97))])
  (.cond (.t 98) (.seq (.region [Oo 100 (.mov (.t 0)), Oo 101 (.call 12 [(.t 100)]), Oo 102 (.mov (.t 9)), Oo 103 (.call 11 [(.t 101), (.t 102)]), Oo 99 (.mov (.t 103)), Oo 104 (.ext (.t 99) 0), Oo 105 (.ext (.t 99) 1), Oo 16 (.alloc [Zi 0, Zi 0]), On (.store 2 (.t 16) (.t 104)), Oo 17 (.mov (.t 105))])
  (.seq (.region [Oo 107 (.mov (.t 12)), Oo 108 (.call 11 [(.t 107), (Ki 0)]), Oo 106 (.mov (.t 108)), Oo 109 (.ext (.t 106) 0), Oo 110 (.ext (.t 106) 1), Oo 18 (.alloc [Zi 0, Zi 0]), On (.store 2 (.t 18) (.t 109)), Oo 19 (.mov (.t 110))])
  (.seq (.region [Oo 111 (.mov (.t 17)), Oo 112 (.bin .neq (.t 111) (Ki 0)), Oo 113 (.mov (.t 112)), Og 113 false 114 (.mov (.t 19)), Og 113 false 115 (.bin .neq (.t 114) (Ki 0)), Oo 116 (.pick (.t 113) (.k (.bool true)) (.t 115)), Oo 117 (.mov (.t 116)), Og 117 false 118 (.addo 0 (.t 16)), Og 117 false 119 (.load false 1 (.t 118)), Og 117 false 120 (.addo 0 (.t 18)), Og 117 false 121 (.load false 1 (.t 120)), Og 117 false 122 (.bin .neq (.t 119) (.t 121)), Oo 123 (.pick (.t 117) (.k (.bool true)) (.t 122)), Oo 124 (.mov (.t 123)), Og 124 false 125 (.addo 1 (.t 18)), Og 124 false 126 (.load false 1 (.t 125)), Og 124 false 127 (.addo 1 (.t 16)), Og 124 false 128 (.load false 1 (.t 127)), Og 124 false 129 (.bin .neq (.t 126) (.t 128)), Oo 130 (.pick (.t 124) (.k (.bool true)) (.t 129))])
  (.cond (.t 130) (.seq (.region [Oo 6 (.mov (.k (.bool false)))])
  .ret)
  .skip))))
  .skip))
  (.seq (.region [Oo 132 (.mov (.t 0)), Oo 133 (.call 12 [(.t 132)]), Oo 134 (.call 38 [(.t 133)]), Oo 131 (.mov (.t 134)), Oo 135 (.ext (.t 131) 0), Oo 136 (.ext (.t 131) 1), Oo 20 (.mov (.t 135)), Oo 21 (.mov (.t 136))])
  (.seq (.region [Oo 138 (.mov (.t 0)), Oo 139 (.call 12 [(.t 138)]), Oo 140 (.call 37 [(.t 139)]), Oo 137 (.mov (.t 140)), Oo 141 (.ext (.t 137) 0), Oo 142 (.ext (.t 137) 1), Oo 22 (.mov (.t 141)), Oo 23 (.mov (.t 142))])
  (.seq (.seq (.region [Oo 143 (.mov (.t 21)), Oo 144 (.bin .neq (.t 143) (Ki 0)), Oo 145 (.mov (.t 144)), Og 145 false 146 (.mov (.t 23)), Og 145 false 147 (.bin .neq (.t 146) (Ki 0)), Oo 148 (.pick (.t 145) (.k (.bool true)) (.t 147)), Oo 149 (.mov (.t 148)), Og 149 false 150 (.mov (.t 20)), Og 149 false 151 (.lenL (.t 150)), Og 149 false 152 (.bin .gtr (.t 151) (Ki 512)), Oo 153 (.pick (.t 149) (.k (.bool true)) (.t 152)), Oo 154 (.mov (.t 153)), Og 154 false 155 (.mov (.t 20)), Og 154 false 156 (.call 13 [(.t 155)]), Og 154 false 157 (.bin .neq (.t 156) (Ki 0)), Oo 158 (.pick (.t 154) (.k (.bool true)) (.t 157)), Oo 159 (.mov (.t 158)), Og 159 false 160 (.mov (.t 20)), Og 159 false 161 (.call 14 [(.t 160)]), Og 159 false 162 (.mov (.t 22)), Og 159 false 163 (.bin .neq (.t 161) (.t 162)), Oo 164 (.pick (.t 159) (.k (.bool true)) (.t 163))])
  (.cond (.t 164) (.seq (.region [Oo 6 (.mov (.k (.bool false)))])
  .ret)
  .skip))
  (.seq (.seq (.region [Oo 165 (.mov (.t 1)), Oo 166 (.call 10 [(.t 165)]), Oo 167 (.un .not (.t 166)), Oo 168 (.mov (.t 167)), Og 168 false 169 (.mov (.t 1)), Og 168 false 170 (.call 13 [(.t 169)]), Og 168 false 171 (.bin .neq (.t 170) (Ki 0)), Oo 172 (.pick (.t 168) (.k (.bool true)) (.t 171))])
  (.cond (.t 172) (.seq (.region [Oo 6 (.mov (.k (.bool true)))])
  .ret)
  .skip))
  (.seq (.region [Oo 174 (.mov (.t 0)), Oo 175 (.call 12 [(.t 174)]), Oo 176 (.mov (.t 9)), Oo 177 (.mov (.t 1)), Oo 178 (.call 12 [(.t 177)]), Oo 179 (.call 17 [(.t 175), (.t 176), (.t 178)]), Oo 173 (.mov (.t 179)), Oo 180 (.ext (.t 173) 0), Oo 181 (.ext (.t 173) 1), Oo 24 (.mov (.t 180)), Oo 25 (.mov (.t 181))])
  (.seq (.seq (.region [Oo 182 (.mov (.t 25)), Oo 183 (.bin .neq (.t 182) (Ki 0))])
  (.cond (.t 183) (.seq (.region [Oo 184 (.mov (.t 25)), Oo 185 (.bin .eql (.t 184) (Ki 23)), Oo 186 (.mov (.t 185)), Og 186 false 187 (.mov (.t 25)), Og 186 false 188 (.bin .eql (.t 187) (Ki 8)), Oo 189 (.pick (.t 186) (.k (.bool true)) (.t 188)), Oo 6 (.mov (.t 189))])
  .ret)
  .skip))
  (.seq (.region [Oo 191 (.mov (.t 24)), Oo 192 (.mov (.t 9)), Oo 193 (.mov (.t 1)), Oo 194 (.call 14 [(.t 193)]), Oo 195 (.call 27 [(.t 191), (.t 192), (.t 194)]), Oo 190 (.mov (.t 195)), Oo 196 (.ext (.t 190) 0), Oo 197 (.ext (.t 190) 1), Oo 26 (.mov (.t 196)), Oo 27 (.mov (.t 197))])
  (.seq (.region [Oo 198 (.mov (.t 27)), Oo 199 (.bin .eql (.t 198) (Ki 0)), Oo 200 (.mov (.t 199)), Og 200 true 201 (.mov (.t 26)), Og 200 true 202 (.mov (.t 0)), Og 200 true 203 (.call 43 [(.t 201), (.t 202)]), Oo 204 (.pick (.t 200) (.t 203) (.k (.bool false))), Oo 6 (.mov (.t 204))])
  .ret)))))))))))))))))))
abbrev h8 : HF := ⟨h8c, [.tmp 6], 205, false⟩
theorem h8_ok : (Try.f8.body).bind (compileC Try.prog) = some h8c.er := by kernel_rfl
theorem r8_ok : Try.f8.results.toList.mapM (retOf Try.prog) = some [.tmp 6] := by kernel_rfl

/-- depository/depositorylaw03.few -/
def h10c : HC :=
  (.seq (.region [Oo 2 (.mov (.k (.bool false)))])
  (.seq (.region [Oo 3 (.mov (.t 0)), Oo 4 (.lenL (.t 3)), Oo 5 (.bin .leq (.t 4) (Ki 80)), Oo 2 (.mov (.t 5))])
  .ret))
abbrev h10 : HF := ⟨h10c, [.tmp 2], 6, false⟩
theorem h10_ok : (Try.f10.body).bind (compileC Try.prog) = some h10c.er := by kernel_rfl
theorem r10_ok : Try.f10.results.toList.mapM (retOf Try.prog) = some [.tmp 2] := by kernel_rfl

/-- depository/runs.PlaceOf -/
def h11l0 : HC :=
  (.seq (.region [Oo 25 (.bin .lss (.t 24) (.t 23))])
  (.seq (.cond (.t 25) .skip
  (.exit 0))
  (.seq (.block 1 (.seq (.region [Oo 26 (.ixL 2 (.t 22) (.t 24)), Oo 27 (.load true 2 (.t 26)), Oo 8 (.alloc [Zi 0, Zi 0]), On (.store 2 (.t 8) (.t 27))])
  (.seq (.seq (.region [Oo 28 (.mov (.t 1)), Oo 29 (.addo 1 (.t 8)), Oo 30 (.load false 1 (.t 29)), Oo 31 (.bin .lss (.t 28) (.t 30))])
  (.cond (.t 31) (.seq (.region [Oo 32 (.addo 1 (.t 8)), Oo 33 (.load false 1 (.t 32)), Oo 34 (.mov (.t 1)), Oo 35 (.bin .sub (.t 33) (.t 34)), Oo 36 (.build [Zi 0, Zi 0] [(0, 1, (Ki (-1))), (1, 1, (.t 35))]), Oo 9 (.alloc [Zi 0, Zi 0]), On (.store 2 (.t 9) (.t 36))])
  (.seq (.seq (.region [Oo 37 (.load true 2 (.t 8)), Oo 38 (.call 49 [(.t 37)]), Oo 39 (.un .not (.t 38))])
  (.cond (.t 39) (.region [Oo 40 (.addo 0 (.t 8)), Oo 41 (.load false 1 (.t 40)), Oo 42 (.mov (.t 1)), Oo 43 (.bin .add (.t 41) (.t 42)), Oo 44 (.addo 0 (.t 9)), On (.store 1 (.t 44) (.t 43))])
  .skip))
  (.seq (.region [Oo 45 (.load true 2 (.t 9)), On (.store 2 (.t 4) (.t 45)), Oo 5 (.mov (Ki 0))])
  .ret)))
  .skip))
  (.region [Oo 46 (.mov (.t 1)), Oo 47 (.addo 1 (.t 8)), Oo 48 (.load false 1 (.t 47)), Oo 49 (.bin .sub (.t 46) (.t 48)), Oo 1 (.mov (.t 49))]))))
  (.region [Oo 50 (.bin .add (.t 24) (Ki 1)), Oo 24 (.mov (.t 50))]))))
def h11c : HC :=
  (.seq (.region [Oo 4 (.alloc [Zi 0, Zi 0]), Oo 5 (.mov (Ki 0))])
  (.seq (.seq (.region [Oo 10 (.mov (.t 0)), Oo 11 (.bslc 1 1 [(.slice none 0 0)] [(0, (.t 10))]), Oo 12 (.call 47 [(.t 11)]), Oo 13 (.mov (.t 1)), Oo 14 (.bin .geq (.t 13) (Ki 0)), Oo 15 (.call 48 [(.t 14), (Ki 2)]), Oo 16 (.bslc 1 2 [Zi 0] [(0, (.t 12)), (1, (.t 15))]), Oo 17 (.call 46 [(.t 16)]), Oo 6 (.mov (.t 17))])
  (.seq (.region [Oo 18 (.mov (.t 6)), Oo 19 (.bin .neq (.t 18) (Ki 0))])
  (.cond (.t 19) (.seq (.region [Oo 20 (.build [Zi 0, Zi 0] []), Oo 21 (.mov (.t 6)), On (.store 2 (.t 4) (.t 20)), Oo 5 (.mov (.t 21))])
  .ret)
  .skip)))
  (.seq (.seq (.region [Oo 22 (.mov (.t 0)), Oo 23 (.lenL (.t 22)), Oo 24 (.mov (Ki 0))])
  (.block 0 (.loop [1, 2, 17, 0, 0] h11l0)))
  (.seq (.region [Oo 51 (.build [Zi 0, Zi 0] []), On (.store 2 (.t 4) (.t 51)), Oo 5 (.mov (Ki 37))])
  .ret))))
abbrev h11 : HF := ⟨h11c, [.cell 4 true 2, .tmp 5], 52, false⟩
theorem h11_ok : (Try.f11.body).bind (compileC Try.prog) = some h11c.er := by kernel_rfl
theorem r11_ok : Try.f11.results.toList.mapM (retOf Try.prog) = some [.cell 4 true 2, .tmp 5] := by kernel_rfl

/-- depository/depositorybase.CopyRuns -/
def h12c : HC :=
  (.seq (.region [Oo 2 (.mov (.k (.slice none 0 0)))])
  (.seq (.region [Oo 3 (.bslc 2 0 [Zi 0, Zi 0] []), Oo 4 (.mov (.t 0)), Oo 5 (.app 2 16 [Zi 0, Zi 0] (.t 3) (.t 4)), Oo 2 (.mov (.t 5))])
  .ret))
abbrev h12 : HF := ⟨h12c, [.tmp 2], 6, true⟩
theorem h12_ok : (Try.f12.body).bind (compileC Try.prog) = some h12c.er := by kernel_rfl
theorem r12_ok : Try.f12.results.toList.mapM (retOf Try.prog) = some [.tmp 2] := by kernel_rfl

/-- depository/depositoryref03.Err -/
def h13c : HC :=
  (.seq (.region [Oo 2 (.mov (Ki 0))])
  (.seq (.region [Oo 6 (.mov (.t 0)), Oo 7 (.call 39 [(.t 6)]), Oo 5 (.mov (.t 7)), Oo 8 (.ext (.t 5) 0), Oo 9 (.ext (.t 5) 1), Oo 3 (.mov (.t 8)), Oo 4 (.mov (.t 9))])
  (.seq (.region [Oo 10 (.mov (.t 4)), Oo 2 (.mov (.t 10))])
  .ret)))
abbrev h13 : HF := ⟨h13c, [.tmp 2], 11, false⟩
theorem h13_ok : (Try.f13.body).bind (compileC Try.prog) = some h13c.er := by kernel_rfl
theorem r13_ok : Try.f13.results.toList.mapM (retOf Try.prog) = some [.tmp 2] := by kernel_rfl

/-- depository/depositoryref03.Length -/
def h14l0 : HC :=
  (.seq (.seq (.region [Oo 5 (.mov (.t 4)), Oo 6 (.mov (.t 0)), Oo 7 (.lenL (.t 6)), Oo 8 (.bin .lss (.t 5) (.t 7))])
  (.cond (.t 8) .skip
  (.exit 0)))
  (.seq (.block 1 (.region [Oo 11 (.mov (.t 3)), Oo 12 (.mov (.t 0)), Oo 13 (.mov (.t 4)), Oo 14 (.ixL 2 (.t 12) (.t 13)), Oo 15 (.addo 1 (.t 14)), Oo 16 (.load false 1 (.t 15)), Oo 17 (.bin .add (.t 11) (.t 16)), Oo 3 (.mov (.t 17))]))
  (.region [Oo 9 (.mov (.t 4)), Oo 10 (.bin .add (.t 9) (Ki 1)), Oo 4 (.mov (.t 10))])))
def h14c : HC :=
  (.seq (.region [Oo 2 (.mov (Ki 0))])
  (.seq (.region [Oo 3 (.mov (Ki 0))])
  (.seq (.seq (.region [Oo 4 (.mov (Ki 0))])
  (.block 0 (.loop [0, 2, 0] h14l0)))
  (.seq (.region [Oo 18 (.mov (.t 3)), Oo 2 (.mov (.t 18))])
  .ret))))
abbrev h14 : HF := ⟨h14c, [.tmp 2], 19, false⟩
theorem h14_ok : (Try.f14.body).bind (compileC Try.prog) = some h14c.er := by kernel_rfl
theorem r14_ok : Try.f14.results.toList.mapM (retOf Try.prog) = some [.tmp 2] := by kernel_rfl

/-- depository/depositoryref03.Place -/
def h15l0 : HC :=
  (.seq (.seq (.region [Oo 8 (.mov (.t 5)), Oo 9 (.mov (.t 0)), Oo 10 (.mov (.t 6)), Oo 11 (.ixL 2 (.t 9) (.t 10)), Oo 12 (.addo 1 (.t 11)), Oo 13 (.load false 1 (.t 12)), Oo 14 (.bin .geq (.t 8) (.t 13))])
  (.cond (.t 14) .skip
  (.exit 0)))
  (.block 1 (.seq (.region [Oo 15 (.mov (.t 5)), Oo 16 (.mov (.t 0)), Oo 17 (.mov (.t 6)), Oo 18 (.ixL 2 (.t 16) (.t 17)), Oo 19 (.addo 1 (.t 18)), Oo 20 (.load false 1 (.t 19)), Oo 21 (.bin .sub (.t 15) (.t 20)), Oo 5 (.mov (.t 21))])
  (.region [Oo 22 (.mov (.t 6)), Oo 23 (.bin .add (.t 22) (Ki 1)), Oo 6 (.mov (.t 23))]))))
def h15c : HC :=
  (.seq (.region [Oo 4 (.alloc [Zi 0, Zi 0])])
  (.seq (.region [Oo 7 (.mov (.t 1)), Oo 5 (.mov (.t 7)), Oo 6 (.mov (Ki 0))])
  (.seq (.block 0 (.loop [0, 0, 2, 0, 0] h15l0))
  (.seq (.drawn [Qo (Oo 24 (.mov (.t 0))), Qo (Oo 25 (.mov (.t 1))), Qo (Oo 26 (.call 50 [(.t 24), (.t 25)])), Qo (Oo 27 (.mov (.t 0))), Qo (Oo 28 (.mov (.t 6))), Qo (Oo 29 (.ixL 2 (.t 27) (.t 28))), Qo (Oo 30 (.addo 1 (.t 29))), Qo (Oo 31 (.load false 1 (.t 30))), Qo (Oo 32 (.mov (.t 5))), Qo (Oo 33 (.bin .sub (.t 31) (.t 32))), Qo (Oo 34 (.build [Zi 0, Zi 0] [(0, 1, (.t 26)), (1, 1, (.t 33))])), Qe (On (.store 2 (.t 4) (.t 34)))])
  .ret))))
abbrev h15 : HF := ⟨h15c, [.cell 4 true 2], 35, false⟩
theorem h15_ok : (Try.f15.body).bind (compileC Try.prog) = some h15c.er := by kernel_rfl
theorem r15_ok : Try.f15.results.toList.mapM (retOf Try.prog) = some [.cell 4 true 2] := by kernel_rfl

/-- depository/runs.Replaced -/
def h16c : HC :=
  (.seq (.region [Oo 6 (.mov (.k (.slice none 0 0))), Oo 7 (.mov (Ki 0))])
  (.seq (.region [Oo 8 (.mov (Ki 0))])
  (.seq (.seq (.region [Oo 10 (.mov (.t 2)), Oo 11 (.bslc 1 1 [(.slice none 0 0)] [(0, (.t 10))]), Oo 12 (.call 47 [(.t 11)]), Oo 13 (.bin .eql (.t 12) (Ki 0))])
  (.cond (.t 13) (.region [Oo 14 (.mov (.t 2)), Oo 15 (.call 51 [(.t 14)]), Oo 8 (.mov (.t 15))])
  .skip))
  (.seq (.seq (.region [Oo 16 (.mov (.t 0)), Oo 17 (.mov (.t 1)), Oo 18 (.mov (.t 2)), Oo 19 (.mov (.t 8)), Oo 20 (.call 52 [(.t 16), (.t 17), (.t 18), (.t 19)]), Oo 9 (.mov (.t 20))])
  (.seq (.region [Oo 21 (.mov (.t 9)), Oo 22 (.bin .neq (.t 21) (Ki 0))])
  (.cond (.t 22) (.seq (.region [Oo 23 (.mov (.t 9)), Oo 6 (.mov (.k (.slice none 0 0))), Oo 7 (.mov (.t 23))])
  .ret)
  .skip)))
  (.seq (.region [Oo 24 (.mov (.t 0)), Oo 25 (.mov (.t 1)), Oo 26 (.call 54 [(.t 24), (Ki 0), (.t 25)]), Oo 27 (.mov (.t 2)), Oo 28 (.mov (.t 0)), Oo 29 (.mov (.t 1)), Oo 30 (.mov (.t 8)), Oo 31 (.bin .add (.t 29) (.t 30)), Oo 32 (.mov (.t 0)), Oo 33 (.call 51 [(.t 32)]), Oo 34 (.call 54 [(.t 28), (.t 31), (.t 33)]), Oo 35 (.bslc 1 3 [(.slice none 0 0)] [(0, (.t 26)), (1, (.t 27)), (2, (.t 34))]), Oo 36 (.call 53 [(.t 35)]), Oo 37 (.ext (.t 36) 0), Oo 38 (.ext (.t 36) 1), Oo 6 (.mov (.t 37)), Oo 7 (.mov (.t 38))])
  .ret)))))
abbrev h16 : HF := ⟨h16c, [.tmp 6, .tmp 7], 39, false⟩
theorem h16_ok : (Try.f16.body).bind (compileC Try.prog) = some h16c.er := by kernel_rfl
theorem r16_ok : Try.f16.results.toList.mapM (retOf Try.prog) = some [.tmp 6, .tmp 7] := by kernel_rfl

/-- depository/runs.Inserted -/
def h17c : HC :=
  (.seq (.region [Oo 6 (.mov (.k (.slice none 0 0))), Oo 7 (.mov (Ki 0))])
  (.seq (.seq (.region [Oo 9 (.mov (.t 0)), Oo 10 (.mov (.t 1)), Oo 11 (.mov (.t 2)), Oo 12 (.call 52 [(.t 9), (.t 10), (.t 11), (Ki 0)]), Oo 8 (.mov (.t 12))])
  (.seq (.region [Oo 13 (.mov (.t 8)), Oo 14 (.bin .neq (.t 13) (Ki 0))])
  (.cond (.t 14) (.seq (.region [Oo 15 (.mov (.t 8)), Oo 6 (.mov (.k (.slice none 0 0))), Oo 7 (.mov (.t 15))])
  .ret)
  .skip)))
  (.seq (.region [Oo 16 (.mov (.t 0)), Oo 17 (.mov (.t 1)), Oo 18 (.call 54 [(.t 16), (Ki 0), (.t 17)]), Oo 19 (.mov (.t 2)), Oo 20 (.mov (.t 0)), Oo 21 (.mov (.t 1)), Oo 22 (.mov (.t 0)), Oo 23 (.call 51 [(.t 22)]), Oo 24 (.call 54 [(.t 20), (.t 21), (.t 23)]), Oo 25 (.bslc 1 3 [(.slice none 0 0)] [(0, (.t 18)), (1, (.t 19)), (2, (.t 24))]), Oo 26 (.call 53 [(.t 25)]), Oo 27 (.ext (.t 26) 0), Oo 28 (.ext (.t 26) 1), Oo 6 (.mov (.t 27)), Oo 7 (.mov (.t 28))])
  .ret)))
abbrev h17 : HF := ⟨h17c, [.tmp 6, .tmp 7], 29, false⟩
theorem h17_ok : (Try.f17.body).bind (compileC Try.prog) = some h17c.er := by kernel_rfl
theorem r17_ok : Try.f17.results.toList.mapM (retOf Try.prog) = some [.tmp 6, .tmp 7] := by kernel_rfl

/-- depository/runs.FreedBy -/
def h18l0 : HC :=
  (.seq (.region [Oo 22 (.bin .lss (.t 21) (Ki 512))])
  (.seq (.cond (.t 22) .skip
  (.exit 0))
  (.seq (.block 1 (.seq (.region [Oo 23 (.mov (.t 21)), Oo 9 (.mov (.t 23))])
  (.region [Oo 24 (.mov (.t 9)), Oo 25 (.mov (.t 9)), Oo 26 (.ixA 512 1 (.t 7) (.t 25)), Oo 27 (.load false 1 (.t 26)), Oo 28 (.mov (.t 27)), Og 28 true 29 (.mov (.t 9)), Og 28 true 30 (.ixA 512 1 (.t 8) (.t 29)), Og 28 true 31 (.load false 1 (.t 30)), Og 28 true 32 (.un .not (.t 31)), Oo 33 (.pick (.t 28) (.t 32) (.k (.bool false))), Oo 34 (.ixA 512 1 (.t 7) (.t 24)), On (.store 1 (.t 34) (.t 33))])))
  (.region [Oo 35 (.bin .add (.t 21) (Ki 1)), Oo 21 (.mov (.t 35))]))))
def h18c : HC :=
  (.seq (.region [Oo 4 (.mov (.k (.slice none 0 0))), Oo 5 (.mov (Ki 0))])
  (.seq (.seq (.region [Oo 10 (.mov (.t 0)), Oo 11 (.mov (.t 1)), Oo 12 (.bslc 1 2 [(.slice none 0 0)] [(0, (.t 10)), (1, (.t 11))]), Oo 13 (.call 47 [(.t 12)]), Oo 6 (.mov (.t 13))])
  (.seq (.region [Oo 14 (.mov (.t 6)), Oo 15 (.bin .neq (.t 14) (Ki 0))])
  (.cond (.t 15) (.seq (.region [Oo 16 (.mov (.t 6)), Oo 4 (.mov (.k (.slice none 0 0))), Oo 5 (.mov (.t 16))])
  .ret)
  .skip)))
  (.seq (.region [Oo 7 (.alloc (List.replicate 512 (.bool false))), Oo 8 (.alloc (List.replicate 512 (.bool false)))])
  (.seq (.region [Oo 17 (.mov (.t 0)), Oo 18 (.call 55 [(.t 7), (.t 17)])])
  (.seq (.region [Oo 19 (.mov (.t 1)), Oo 20 (.call 55 [(.t 8), (.t 19)])])
  (.seq (.seq (.region [Oo 21 (.mov (Ki 0))])
  (.block 0 (.loop [7, 0, 12] h18l0)))
  (.seq (.region [Oo 36 (.call 56 [(.t 7)]), Oo 4 (.mov (.t 36)), Oo 5 (.mov (Ki 0))])
  .ret)))))))
abbrev h18 : HF := ⟨h18c, [.tmp 4, .tmp 5], 37, false⟩
theorem h18_ok : (Try.f18.body).bind (compileC Try.prog) = some h18c.er := by kernel_rfl
theorem r18_ok : Try.f18.results.toList.mapM (retOf Try.prog) = some [.tmp 4, .tmp 5] := by kernel_rfl

/-- depository/depositorylaw03.same -/
def h19c : HC :=
  (.seq (.region [Oo 8 (.mov (.k (.bool false)))])
  (.seq (.region [Oo 9 (.mov (.t 1)), Oo 10 (.mov (.t 3)), Oo 11 (.bin .eql (.t 9) (.t 10)), Oo 12 (.mov (.t 11)), Og 12 true 13 (.mov (.t 3)), Og 12 true 14 (.bin .neq (.t 13) (Ki 0)), Og 12 true 15 (.mov (.t 14)), Og 15 true 16 (.mov (.t 0)), Og 15 true 17 (.lenL (.t 16)), Og 15 true 18 (.bin .eql (.t 17) (Ki 0)), Og 12 true 19 (.pick (.t 15) (.t 18) (.k (.bool false))), Og 12 true 20 (.mov (.t 19)), Og 20 false 21 (.mov (.t 3)), Og 20 false 22 (.bin .eql (.t 21) (Ki 0)), Og 20 false 23 (.mov (.t 22)), Og 23 true 24 (.mov (.t 0)), Og 23 true 25 (.mov (.t 2)), Og 23 true 26 (.call 43 [(.t 24), (.t 25)]), Og 20 false 27 (.pick (.t 23) (.t 26) (.k (.bool false))), Og 12 true 28 (.pick (.t 20) (.k (.bool true)) (.t 27)), Oo 29 (.pick (.t 12) (.t 28) (.k (.bool false))), Oo 8 (.mov (.t 29))])
  .ret))
abbrev h19 : HF := ⟨h19c, [.tmp 8], 30, false⟩
theorem h19_ok : (Try.f19.body).bind (compileC Try.prog) = some h19c.er := by kernel_rfl
theorem r19_ok : Try.f19.results.toList.mapM (retOf Try.prog) = some [.tmp 8] := by kernel_rfl

/-- depository/depositoryref03.Extents -/
def h20l0 : HC :=
  (.seq (.seq (.region [Oo 13 (.mov (.t 8)), Oo 14 (.bin .lss (.t 13) (Ki 512))])
  (.cond (.t 14) .skip
  (.exit 0)))
  (.seq (.block 1 (.seq (.region [Oo 17 (.mov (.t 5)), Oo 18 (.mov (.t 8)), Oo 19 (.call 57 [(.t 17), (.t 18)]), Oo 20 (.mov (.t 19)), Og 20 true 21 (.mov (.t 6)), Og 20 true 22 (.mov (.t 8)), Og 20 true 23 (.call 57 [(.t 21), (.t 22)]), Og 20 true 24 (.un .not (.t 23)), Oo 25 (.pick (.t 20) (.t 24) (.k (.bool false)))])
  (.cond (.t 25) (.region [Oo 26 (.mov (.t 7)), Oo 27 (.mov (.t 8)), Oo 28 (.bslc 1 1 [Zi 0] [(0, (.t 27))]), Oo 29 (.app 1 8 [Zi 0] (.t 26) (.t 28)), Oo 7 (.mov (.t 29))])
  .skip)))
  (.region [Oo 15 (.mov (.t 8)), Oo 16 (.bin .add (.t 15) (Ki 1)), Oo 8 (.mov (.t 16))])))
def h20c : HC :=
  (.seq (.region [Oo 4 (.mov (.k (.slice none 0 0)))])
  (.seq (.region [Oo 9 (.mov (.t 0)), Oo 10 (.call 22 [(.t 9)]), Oo 11 (.mov (.t 1)), Oo 12 (.call 22 [(.t 11)]), Oo 5 (.mov (.t 10)), Oo 6 (.mov (.t 12))])
  (.seq (.region [Oo 7 (.mov (.k (.slice none 0 0)))])
  (.gh (.nil 7 1) (.seq (.seq (.region [Oo 8 (.mov (Ki 0))])
  (.block 0 (.loop [5, 0, 0, 0] h20l0)))
  (.seq (.region [Oo 30 (.mov (.t 7)), Oo 31 (.call 25 [(.t 30)]), Oo 4 (.mov (.t 31))])
  .ret))))))
abbrev h20 : HF := ⟨h20c, [.tmp 4], 32, false⟩
theorem h20_ok : (Try.f20.body).bind (compileC Try.prog) = some h20c.er := by kernel_rfl
theorem r20_ok : Try.f20.results.toList.mapM (retOf Try.prog) = some [.tmp 4] := by kernel_rfl

/-- depository/depositorybase.Within -/
def h21c : HC :=
  (.seq (.region [Oo 6 (.mov (.k (.bool false)))])
  (.seq (.region [Oo 7 (.mov (.t 1)), Oo 8 (.mov (.t 0)), Oo 9 (.bin .leq (.t 7) (.t 8)), Oo 10 (.mov (.t 9)), Og 10 true 11 (.mov (.t 0)), Og 10 true 12 (.mov (.t 2)), Og 10 true 13 (.bin .leq (.t 11) (.t 12)), Oo 14 (.pick (.t 10) (.t 13) (.k (.bool false))), Oo 6 (.mov (.t 14))])
  .ret))
abbrev h21 : HF := ⟨h21c, [.tmp 6], 15, false⟩
theorem h21_ok : (Try.f21.body).bind (compileC Try.prog) = some h21c.er := by kernel_rfl
theorem r21_ok : Try.f21.results.toList.mapM (retOf Try.prog) = some [.tmp 6] := by kernel_rfl

/-- depository/depositoryref03.Clusters -/
def h22l0 : HC :=
  (.seq (.seq (.region [Oo 12 (.mov (.t 5)), Oo 13 (.mov (.t 0)), Oo 14 (.mov (.t 4)), Oo 15 (.ixL 2 (.t 13) (.t 14)), Oo 16 (.addo 1 (.t 15)), Oo 17 (.load false 1 (.t 16)), Oo 18 (.bin .lss (.t 12) (.t 17))])
  (.cond (.t 18) .skip
  (.exit 2)))
  (.seq (.block 3 (.seq (.region [Oo 21 (.mov (.t 0)), Oo 22 (.mov (.t 4)), Oo 23 (.ixL 2 (.t 21) (.t 22)), Oo 24 (.addo 0 (.t 23)), Oo 25 (.load false 1 (.t 24)), Oo 26 (.bin .eql (.t 25) (Ki (-1)))])
  (.cond (.t 26) (.region [Oo 27 (.mov (.t 3)), Oo 28 (.bslc 1 1 [Zi 0] [(0, (Ki (-1)))]), Oo 29 (.app 1 8 [Zi 0] (.t 27) (.t 28)), Oo 3 (.mov (.t 29))])
  (.region [Oo 30 (.mov (.t 3)), Oo 31 (.mov (.t 0)), Oo 32 (.mov (.t 4)), Oo 33 (.ixL 2 (.t 31) (.t 32)), Oo 34 (.addo 0 (.t 33)), Oo 35 (.load false 1 (.t 34)), Oo 36 (.mov (.t 5)), Oo 37 (.bin .add (.t 35) (.t 36)), Oo 38 (.bslc 1 1 [Zi 0] [(0, (.t 37))]), Oo 39 (.app 1 8 [Zi 0] (.t 30) (.t 38)), Oo 3 (.mov (.t 39))]))))
  (.region [Oo 19 (.mov (.t 5)), Oo 20 (.bin .add (.t 19) (Ki 1)), Oo 5 (.mov (.t 20))])))
def h22l1 : HC :=
  (.seq (.seq (.region [Oo 6 (.mov (.t 4)), Oo 7 (.mov (.t 0)), Oo 8 (.lenL (.t 7)), Oo 9 (.bin .lss (.t 6) (.t 8))])
  (.cond (.t 9) .skip
  (.exit 0)))
  (.seq (.block 1 (.seq (.region [Oo 5 (.mov (Ki 0))])
  (.block 2 (.loop [0, 2, 0, 0] h22l0))))
  (.region [Oo 10 (.mov (.t 4)), Oo 11 (.bin .add (.t 10) (Ki 1)), Oo 4 (.mov (.t 11))])))
def h22c : HC :=
  (.seq (.region [Oo 2 (.mov (.k (.slice none 0 0)))])
  (.seq (.region [Oo 3 (.mov (.k (.slice none 0 0)))])
  (.gh (.nil 3 1) (.seq (.seq (.region [Oo 4 (.mov (Ki 0))])
  (.block 0 (.loop [0, 2, 0] h22l1)))
  (.seq (.region [Oo 40 (.mov (.t 3)), Oo 2 (.mov (.t 40))])
  .ret)))))
abbrev h22 : HF := ⟨h22c, [.tmp 2], 41, false⟩
theorem h22_ok : (Try.f22.body).bind (compileC Try.prog) = some h22c.er := by kernel_rfl
theorem r22_ok : Try.f22.results.toList.mapM (retOf Try.prog) = some [.tmp 2] := by kernel_rfl

/-- depository/depositorybase.CopyInts -/
def h23c : HC :=
  (.seq (.region [Oo 2 (.mov (.k (.slice none 0 0)))])
  (.seq (.region [Oo 3 (.bslc 1 0 [Zi 0] []), Oo 4 (.mov (.t 0)), Oo 5 (.app 1 8 [Zi 0] (.t 3) (.t 4)), Oo 2 (.mov (.t 5))])
  .ret))
abbrev h23 : HF := ⟨h23c, [.tmp 2], 6, true⟩
theorem h23_ok : (Try.f23.body).bind (compileC Try.prog) = some h23c.er := by kernel_rfl
theorem r23_ok : Try.f23.results.toList.mapM (retOf Try.prog) = some [.tmp 2] := by kernel_rfl

/-- depository/depositoryref03.ResultErr -/
def h24l0 : HC :=
  (.seq (.seq (.region [Oo 4 (.mov (.t 3)), Oo 5 (.mov (.t 0)), Oo 6 (.lenL (.t 5)), Oo 7 (.bin .lss (.t 4) (.t 6))])
  (.cond (.t 7) .skip
  (.exit 0)))
  (.seq (.block 1 (.seq (.region [Oo 10 (.mov (.t 0)), Oo 11 (.mov (.t 3)), Oo 12 (.call 58 [(.t 10), (.t 11)])])
  (.cond (.t 12) (.seq (.region [Oo 2 (.mov (Ki 23))])
  .ret)
  .skip)))
  (.region [Oo 8 (.mov (.t 3)), Oo 9 (.bin .add (.t 8) (Ki 1)), Oo 3 (.mov (.t 9))])))
def h24c : HC :=
  (.seq (.region [Oo 2 (.mov (Ki 0))])
  (.seq (.seq (.region [Oo 3 (.mov (Ki 0))])
  (.block 0 (.loop [0, 2] h24l0)))
  (.seq (.seq (.region [Oo 13 (.mov (.t 0)), Oo 14 (.call 14 [(.t 13)]), Oo 15 (.bin .gtr (.t 14) (Ki 4096)), Oo 16 (.mov (.t 15)), Og 16 false 17 (.mov (.t 0)), Og 16 false 18 (.call 29 [(.t 17)]), Og 16 false 19 (.lenL (.t 18)), Og 16 false 20 (.bin .gtr (.t 19) (Ki 64)), Oo 21 (.pick (.t 16) (.k (.bool true)) (.t 20))])
  (.cond (.t 21) (.seq (.region [Oo 2 (.mov (Ki 8))])
  .ret)
  .skip))
  (.seq (.region [Oo 2 (.mov (Ki 0))])
  .ret))))
abbrev h24 : HF := ⟨h24c, [.tmp 2], 22, false⟩
theorem h24_ok : (Try.f24.body).bind (compileC Try.prog) = some h24c.er := by kernel_rfl
theorem r24_ok : Try.f24.results.toList.mapM (retOf Try.prog) = some [.tmp 2] := by kernel_rfl

/-- depository/depositoryref03.From -/
def h25l0 : HC :=
  (.seq (.seq (.region [Oo 5 (.mov (.t 4)), Oo 6 (.mov (.t 0)), Oo 7 (.lenL (.t 6)), Oo 8 (.bin .lss (.t 5) (.t 7))])
  (.cond (.t 8) .skip
  (.exit 0)))
  (.seq (.block 1 (.region [Oo 11 (.mov (.t 3)), Oo 12 (.mov (.t 0)), Oo 13 (.mov (.t 4)), Oo 14 (.ixL 1 (.t 12) (.t 13)), Oo 15 (.load false 1 (.t 14)), Oo 16 (.build [Zi 0, Zi 0] [(0, 1, (.t 15)), (1, 1, (Ki 1))]), Oo 17 (.bslc 2 1 [Zi 0, Zi 0] [(0, (.t 16))]), Oo 18 (.app 2 16 [Zi 0, Zi 0] (.t 11) (.t 17)), Oo 3 (.mov (.t 18))]))
  (.region [Oo 9 (.mov (.t 4)), Oo 10 (.bin .add (.t 9) (Ki 1)), Oo 4 (.mov (.t 10))])))
def h25c : HC :=
  (.seq (.region [Oo 2 (.mov (.k (.slice none 0 0)))])
  (.seq (.region [Oo 3 (.mov (.k (.slice none 0 0)))])
  (.gh (.nil 3 2) (.seq (.seq (.region [Oo 4 (.mov (Ki 0))])
  (.block 0 (.loop [0, 2, 0] h25l0)))
  (.seq (.region [Oo 19 (.mov (.t 3)), Oo 20 (.call 29 [(.t 19)]), Oo 2 (.mov (.t 20))])
  .ret)))))
abbrev h25 : HF := ⟨h25c, [.tmp 2], 21, false⟩
theorem h25_ok : (Try.f25.body).bind (compileC Try.prog) = some h25c.er := by kernel_rfl
theorem r25_ok : Try.f25.results.toList.mapM (retOf Try.prog) = some [.tmp 2] := by kernel_rfl

/-- depository/runs.Cut -/
def h26c : HC :=
  (.seq (.region [Oo 6 (.mov (.k (.slice none 0 0))), Oo 7 (.mov (Ki 0))])
  (.seq (.seq (.region [Oo 9 (.mov (.t 0)), Oo 10 (.mov (.t 1)), Oo 11 (.mov (.t 2)), Oo 12 (.call 59 [(.t 9), (.t 10), (.t 11)]), Oo 8 (.mov (.t 12))])
  (.seq (.region [Oo 13 (.mov (.t 8)), Oo 14 (.bin .neq (.t 13) (Ki 0))])
  (.cond (.t 14) (.seq (.region [Oo 15 (.mov (.t 8)), Oo 6 (.mov (.k (.slice none 0 0))), Oo 7 (.mov (.t 15))])
  .ret)
  .skip)))
  (.seq (.region [Oo 16 (.mov (.t 0)), Oo 17 (.mov (.t 1)), Oo 18 (.mov (.t 2)), Oo 19 (.call 54 [(.t 16), (.t 17), (.t 18)]), Oo 20 (.bslc 1 1 [(.slice none 0 0)] [(0, (.t 19))]), Oo 21 (.call 53 [(.t 20)]), Oo 22 (.ext (.t 21) 0), Oo 23 (.ext (.t 21) 1), Oo 6 (.mov (.t 22)), Oo 7 (.mov (.t 23))])
  .ret)))
abbrev h26 : HF := ⟨h26c, [.tmp 6, .tmp 7], 24, false⟩
theorem h26_ok : (Try.f26.body).bind (compileC Try.prog) = some h26c.er := by kernel_rfl
theorem r26_ok : Try.f26.results.toList.mapM (retOf Try.prog) = some [.tmp 6, .tmp 7] := by kernel_rfl

/-- depository/runs.Removed -/
def h27c : HC :=
  (.seq (.region [Oo 6 (.mov (.k (.slice none 0 0))), Oo 7 (.mov (Ki 0))])
  (.seq (.seq (.region [Oo 10 (.mov (.t 0)), Oo 11 (.mov (.t 1)), Oo 12 (.mov (.t 2)), Oo 13 (.call 59 [(.t 10), (.t 11), (.t 12)]), Oo 8 (.mov (.t 13))])
  (.seq (.region [Oo 14 (.mov (.t 8)), Oo 15 (.bin .neq (.t 14) (Ki 0))])
  (.cond (.t 15) (.seq (.region [Oo 16 (.mov (.t 8)), Oo 6 (.mov (.k (.slice none 0 0))), Oo 7 (.mov (.t 16))])
  .ret)
  .skip)))
  (.seq (.region [Oo 9 (.alloc [(.slice none 0 0)])])
  (.gh (.nilB 9 0 2) (.seq (.region [Oo 17 (.mov (.t 0)), Oo 18 (.mov (.t 1)), Oo 19 (.call 54 [(.t 17), (Ki 0), (.t 18)]), Oo 20 (.call 60 [(.t 9), (.t 19)])])
  (.seq (.region [Oo 21 (.mov (.t 0)), Oo 22 (.mov (.t 1)), Oo 23 (.mov (.t 2)), Oo 24 (.bin .add (.t 22) (.t 23)), Oo 25 (.mov (.t 0)), Oo 26 (.call 51 [(.t 25)]), Oo 27 (.call 54 [(.t 21), (.t 24), (.t 26)]), Oo 28 (.call 60 [(.t 9), (.t 27)])])
  (.seq (.region [Oo 29 (.addo 0 (.t 9)), Oo 30 (.load false 1 (.t 29)), Oo 6 (.mov (.t 30)), Oo 7 (.mov (Ki 0))])
  .ret)))))))
abbrev h27 : HF := ⟨h27c, [.tmp 6, .tmp 7], 31, false⟩
theorem h27_ok : (Try.f27.body).bind (compileC Try.prog) = some h27c.er := by kernel_rfl
theorem r27_ok : Try.f27.results.toList.mapM (retOf Try.prog) = some [.tmp 6, .tmp 7] := by kernel_rfl

/-- depository/runs.Joined -/
def h28c : HC :=
  (.seq (.region [Oo 4 (.mov (.k (.slice none 0 0))), Oo 5 (.mov (Ki 0))])
  (.seq (.seq (.region [Oo 7 (.mov (.t 0)), Oo 8 (.mov (.t 1)), Oo 9 (.bslc 1 2 [(.slice none 0 0)] [(0, (.t 7)), (1, (.t 8))]), Oo 10 (.call 47 [(.t 9)]), Oo 6 (.mov (.t 10))])
  (.seq (.region [Oo 11 (.mov (.t 6)), Oo 12 (.bin .neq (.t 11) (Ki 0))])
  (.cond (.t 12) (.seq (.region [Oo 13 (.mov (.t 6)), Oo 4 (.mov (.k (.slice none 0 0))), Oo 5 (.mov (.t 13))])
  .ret)
  .skip)))
  (.seq (.region [Oo 14 (.mov (.t 0)), Oo 15 (.mov (.t 1)), Oo 16 (.bslc 1 2 [(.slice none 0 0)] [(0, (.t 14)), (1, (.t 15))]), Oo 17 (.call 53 [(.t 16)]), Oo 18 (.ext (.t 17) 0), Oo 19 (.ext (.t 17) 1), Oo 4 (.mov (.t 18)), Oo 5 (.mov (.t 19))])
  .ret)))
abbrev h28 : HF := ⟨h28c, [.tmp 4, .tmp 5], 20, false⟩
theorem h28_ok : (Try.f28.body).bind (compileC Try.prog) = some h28c.er := by kernel_rfl
theorem r28_ok : Try.f28.results.toList.mapM (retOf Try.prog) = some [.tmp 4, .tmp 5] := by kernel_rfl

/-- depository/depositoryref03.Join -/
def h29l0 : HC :=
  (.seq (.seq (.region [Oo 6 (.mov (.t 4)), Oo 7 (.mov (.t 0)), Oo 8 (.lenL (.t 7)), Oo 9 (.bin .lss (.t 6) (.t 8))])
  (.cond (.t 9) .skip
  (.exit 0)))
  (.seq (.block 1 (.seq (.region [Oo 12 (.mov (.t 3)), Oo 13 (.lenL (.t 12)), Oo 5 (.mov (.t 13))])
  (.seq (.drawn [Qo (Oo 14 (.mov (.t 5))), Qo (Oo 15 (.bin .gtr (.t 14) (Ki 0))), Qo (Oo 16 (.mov (.t 15))), Qo (Og 16 true 17 (.mov (.t 3))), Qo (Og 16 true 18 (.mov (.t 5))), Qo (Og 16 true 19 (.bin .sub (.t 18) (Ki 1))), Qo (Og 16 true 20 (.ixL 2 (.t 17) (.t 19))), Qo (Og 16 true 21 (.load true 2 (.t 20))), Qo (Og 16 true 22 (.mov (.t 0))), Qo (Og 16 true 23 (.mov (.t 4))), Qo (Og 16 true 24 (.ixL 2 (.t 22) (.t 23))), Qo (Og 16 true 25 (.load true 2 (.t 24))), Qe (Og 16 true 26 (.call 61 [(.t 21), (.t 25)])), Qo (Oo 27 (.pick (.t 16) (.t 26) (.k (.bool false))))])
  (.cond (.t 27) (.drawn [Qo (Oo 28 (.mov (.t 3))), Qo (Oo 29 (.mov (.t 5))), Qo (Oo 30 (.bin .sub (.t 29) (Ki 1))), Qo (Oo 31 (.mov (.t 3))), Qo (Oo 32 (.mov (.t 5))), Qo (Oo 33 (.bin .sub (.t 32) (Ki 1))), Qo (Oo 34 (.ixL 2 (.t 31) (.t 33))), Qo (Oo 35 (.addo 1 (.t 34))), Qo (Oo 36 (.load false 1 (.t 35))), Qo (Oo 37 (.mov (.t 0))), Qo (Oo 38 (.mov (.t 4))), Qo (Oo 39 (.ixL 2 (.t 37) (.t 38))), Qo (Oo 40 (.addo 1 (.t 39))), Qo (Oo 41 (.load false 1 (.t 40))), Qo (Oo 42 (.bin .add (.t 36) (.t 41))), Qo (Oo 43 (.ixL 2 (.t 28) (.t 30))), Qo (Oo 44 (.addo 1 (.t 43))), Qe (On (.store 1 (.t 44) (.t 42)))])
  (.region [Oo 45 (.mov (.t 3)), Oo 46 (.mov (.t 0)), Oo 47 (.mov (.t 4)), Oo 48 (.ixL 2 (.t 46) (.t 47)), Oo 49 (.load true 2 (.t 48)), Oo 50 (.bslc 2 1 [Zi 0, Zi 0] [(0, (.t 49))]), Oo 51 (.app 2 16 [Zi 0, Zi 0] (.t 45) (.t 50)), Oo 3 (.mov (.t 51))])))))
  (.region [Oo 10 (.mov (.t 4)), Oo 11 (.bin .add (.t 10) (Ki 1)), Oo 4 (.mov (.t 11))])))
def h29c : HC :=
  (.seq (.region [Oo 2 (.mov (.k (.slice none 0 0)))])
  (.seq (.region [Oo 3 (.mov (.k (.slice none 0 0)))])
  (.gh (.nil 3 2) (.seq (.seq (.region [Oo 4 (.mov (Ki 0))])
  (.block 0 (.loop [0, 2, 0] h29l0)))
  (.seq (.region [Oo 52 (.mov (.t 3)), Oo 2 (.mov (.t 52))])
  .ret)))))
abbrev h29 : HF := ⟨h29c, [.tmp 2], 53, false⟩
theorem h29_ok : (Try.f29.body).bind (compileC Try.prog) = some h29c.er := by kernel_rfl
theorem r29_ok : Try.f29.results.toList.mapM (retOf Try.prog) = some [.tmp 2] := by kernel_rfl

/-- depository/runs.EncodeRuns -/
def h30l0 : HC :=
  (.seq (.region [Oo 20 (.bin .lss (.t 19) (.t 18))])
  (.seq (.cond (.t 20) .skip
  (.exit 0))
  (.seq (.block 1 (.seq (.region [Oo 21 (.ixL 2 (.t 17) (.t 19)), Oo 22 (.load true 2 (.t 21)), Oo 8 (.alloc [Zi 0, Zi 0]), On (.store 2 (.t 8) (.t 22))])
  (.seq (.region [Oo 23 (.addo 1 (.t 8)), Oo 24 (.load false 1 (.t 23)), Oo 25 (.call 62 [(.t 24)]), Oo 9 (.mov (.t 25))])
  (.seq (.region [Oo 10 (.mov (Ki 0))])
  (.seq (.seq (.region [Oo 26 (.load true 2 (.t 8)), Oo 27 (.call 49 [(.t 26)]), Oo 28 (.un .not (.t 27))])
  (.cond (.t 28) (.region [Oo 29 (.addo 0 (.t 8)), Oo 30 (.load false 1 (.t 29)), Oo 31 (.mov (.t 6)), Oo 32 (.bin .sub (.t 30) (.t 31)), Oo 33 (.call 62 [(.t 32)]), Oo 10 (.mov (.t 33))])
  .skip))
  (.seq (.region [Oo 34 (.mov (.t 5)), Oo 35 (.mov (.t 10)), Oo 36 (.bin .shl (.t 35) (.k (.int .u64 4))), Oo 37 (.mov (.t 9)), Oo 38 (.bin .or (.t 36) (.t 37)), Oo 39 (.conv .u8 (.t 38)), Oo 40 (.bslc 1 1 [(.int .u8 0)] [(0, (.t 39))]), Oo 41 (.app 1 1 [(.int .u8 0)] (.t 34) (.t 40)), Oo 5 (.mov (.t 41))])
  (.seq (.region [Oo 42 (.mov (.t 5)), Oo 43 (.addo 1 (.t 8)), Oo 44 (.load false 1 (.t 43)), Oo 45 (.mov (.t 9)), Oo 46 (.call 63 [(.t 44), (.t 45)]), Oo 47 (.app 1 1 [(.int .u8 0)] (.t 42) (.t 46)), Oo 5 (.mov (.t 47))])
  (.seq (.region [Oo 48 (.load true 2 (.t 8)), Oo 49 (.call 49 [(.t 48)]), Oo 50 (.un .not (.t 49))])
  (.cond (.t 50) (.seq (.region [Oo 51 (.mov (.t 5)), Oo 52 (.addo 0 (.t 8)), Oo 53 (.load false 1 (.t 52)), Oo 54 (.mov (.t 6)), Oo 55 (.bin .sub (.t 53) (.t 54)), Oo 56 (.mov (.t 10)), Oo 57 (.call 63 [(.t 55), (.t 56)]), Oo 58 (.app 1 1 [(.int .u8 0)] (.t 51) (.t 57)), Oo 5 (.mov (.t 58))])
  (.region [Oo 59 (.addo 0 (.t 8)), Oo 60 (.load false 1 (.t 59)), Oo 6 (.mov (.t 60))]))
  .skip)))))))))
  (.region [Oo 61 (.bin .add (.t 19) (Ki 1)), Oo 19 (.mov (.t 61))]))))
def h30c : HC :=
  (.seq (.region [Oo 2 (.mov (.k (.string ⟨#[]⟩))), Oo 3 (.mov (Ki 0))])
  (.seq (.seq (.region [Oo 11 (.mov (.t 0)), Oo 12 (.bslc 1 1 [(.slice none 0 0)] [(0, (.t 11))]), Oo 13 (.call 47 [(.t 12)]), Oo 4 (.mov (.t 13))])
  (.seq (.region [Oo 14 (.mov (.t 4)), Oo 15 (.bin .neq (.t 14) (Ki 0))])
  (.cond (.t 15) (.seq (.region [Oo 16 (.mov (.t 4)), Oo 2 (.mov (.k (.string ⟨#[]⟩))), Oo 3 (.mov (.t 16))])
  .ret)
  .skip)))
  (.seq (.region [Oo 5 (.mov (.k (.slice none 0 0)))])
  (.gh (.nil 5 1) (.seq (.region [Oo 6 (.mov (Ki 0))])
  (.seq (.seq (.region [Oo 17 (.mov (.t 0)), Oo 18 (.lenL (.t 17)), Oo 19 (.mov (Ki 0))])
  (.block 0 (.loop [5, 0, 10, 0, 0] h30l0)))
  (.seq (.region [Oo 62 (.mov (.t 5)), Oo 63 (.bslc 1 1 [(.int .u8 0)] [(0, (.k (.int .u8 0)))]), Oo 64 (.app 1 1 [(.int .u8 0)] (.t 62) (.t 63)), Oo 65 (.cvbs (.t 64)), Oo 2 (.mov (.t 65)), Oo 3 (.mov (Ki 0))])
  .ret)))))))
abbrev h30 : HF := ⟨h30c, [.tmp 2, .tmp 3], 66, false⟩
theorem h30_ok : (Try.f30.body).bind (compileC Try.prog) = some h30c.er := by kernel_rfl
theorem r30_ok : Try.f30.results.toList.mapM (retOf Try.prog) = some [.tmp 2, .tmp 3] := by kernel_rfl

/-- depository/runs.DecodeRuns -/
def h31l0 : HC :=
  (.seq (.seq (.region [Oo 12 (.load false 1 (.t 1)), Oo 13 (.bin .neq (.t 12) (.k (.string ⟨#[]⟩))), Oo 14 (.mov (.t 13)), Og 14 true 15 (.load false 1 (.t 1)), Og 14 true 16 (.ixS (.t 15) (Ki 0)), Og 14 true 17 (.bin .neq (.t 16) (.k (.int .u8 0))), Oo 18 (.pick (.t 14) (.t 17) (.k (.bool false)))])
  (.cond (.t 18) .skip
  (.exit 0)))
  (.block 1 (.seq (.region [Oo 20 (.mov (.t 5)), Oo 21 (.call 64 [(.t 1), (.t 20)]), Oo 19 (.mov (.t 21)), Oo 22 (.ext (.t 19) 0), Oo 23 (.ext (.t 19) 1), Oo 6 (.alloc [Zi 0, Zi 0]), On (.store 2 (.t 6) (.t 22)), Oo 7 (.mov (.t 23))])
  (.seq (.seq (.region [Oo 24 (.mov (.t 7)), Oo 25 (.un .not (.t 24))])
  (.cond (.t 25) (.seq (.region [Oo 2 (.mov (.k (.slice none 0 0))), Oo 3 (.mov (Ki 3))])
  .ret)
  .skip))
  (.seq (.seq (.region [Oo 26 (.load true 2 (.t 6)), Oo 27 (.call 49 [(.t 26)]), Oo 28 (.un .not (.t 27))])
  (.cond (.t 28) (.region [Oo 29 (.addo 0 (.t 6)), Oo 30 (.load false 1 (.t 29)), Oo 5 (.mov (.t 30))])
  .skip))
  (.region [Oo 31 (.mov (.t 4)), Oo 32 (.load true 2 (.t 6)), Oo 33 (.bslc 2 1 [Zi 0, Zi 0] [(0, (.t 32))]), Oo 34 (.app 2 16 [Zi 0, Zi 0] (.t 31) (.t 33)), Oo 4 (.mov (.t 34))]))))))
def h31c : HC :=
  (.seq (.region [Oo 1 (.box (.t 0)), Oo 2 (.mov (.k (.slice none 0 0))), Oo 3 (.mov (Ki 0))])
  (.seq (.seq (.region [Oo 9 (.load false 1 (.t 1)), Oo 10 (.lenS (.t 9)), Oo 11 (.bin .gtr (.t 10) (Ki 400))])
  (.cond (.t 11) (.seq (.region [Oo 2 (.mov (.k (.slice none 0 0))), Oo 3 (.mov (Ki 8))])
  .ret)
  .skip))
  (.seq (.region [Oo 4 (.mov (.k (.slice none 0 0)))])
  (.gh (.nil 4 2) (.seq (.region [Oo 5 (.mov (Ki 0))])
  (.seq (.block 0 (.loop [1, 2, 0] h31l0))
  (.seq (.seq (.region [Oo 35 (.load false 1 (.t 1)), Oo 36 (.lenS (.t 35)), Oo 37 (.bin .neq (.t 36) (Ki 1))])
  (.cond (.t 37) (.seq (.region [Oo 2 (.mov (.k (.slice none 0 0))), Oo 3 (.mov (Ki 3))])
  .ret)
  .skip))
  (.seq (.seq (.region [Oo 38 (.mov (.t 4)), Oo 39 (.bslc 1 1 [(.slice none 0 0)] [(0, (.t 38))]), Oo 40 (.call 47 [(.t 39)]), Oo 8 (.mov (.t 40))])
  (.seq (.region [Oo 41 (.mov (.t 8)), Oo 42 (.bin .neq (.t 41) (Ki 0))])
  (.cond (.t 42) (.seq (.region [Oo 43 (.mov (.t 8)), Oo 2 (.mov (.k (.slice none 0 0))), Oo 3 (.mov (.t 43))])
  .ret)
  .skip)))
  (.seq (.region [Oo 44 (.mov (.t 4)), Oo 2 (.mov (.t 44)), Oo 3 (.mov (Ki 0))])
  .ret)))))))))
abbrev h31 : HF := ⟨h31c, [.tmp 2, .tmp 3], 45, false⟩
theorem h31_ok : (Try.f31.body).bind (compileC Try.prog) = some h31c.er := by kernel_rfl
theorem r31_ok : Try.f31.results.toList.mapM (retOf Try.prog) = some [.tmp 2, .tmp 3] := by kernel_rfl

/-- depository/depositoryref03.Decode -/
def h32l0 : HC :=
  (.seq (.seq (.region [Oo 18 (.mov (.t 5)), Oo 19 (.mov (.t 0)), Oo 20 (.lenS (.t 19)), Oo 21 (.bin .lss (.t 18) (.t 20)), Oo 22 (.mov (.t 21)), Og 22 true 23 (.mov (.t 0)), Og 22 true 24 (.mov (.t 5)), Og 22 true 25 (.ixS (.t 23) (.t 24)), Og 22 true 26 (.bin .neq (.t 25) (.k (.int .u8 0))), Oo 27 (.pick (.t 22) (.t 26) (.k (.bool false)))])
  (.cond (.t 27) .skip
  (.exit 0)))
  (.block 1 (.seq (.drawn [Qo (Oo 28 (.mov (.t 0))), Qo (Oo 29 (.mov (.t 5))), Qo (Oo 30 (.ixS (.t 28) (.t 29))), Qo (Oo 31 (.conv .i64 (.t 30))), Qo (Oo 32 (.bin .rem (.t 31) (Ki 16))), Qo (Oo 33 (.mov (.t 0))), Qo (Oo 34 (.mov (.t 5))), Qo (Oo 35 (.ixS (.t 33) (.t 34))), Qo (Oo 36 (.conv .i64 (.t 35))), Qo (Oo 37 (.bin .quo (.t 36) (Ki 16))), Qo (Oo 7 (.mov (.t 32))), Qo (Oo 8 (.mov (.t 37)))])
  (.seq (.seq (.region [Oo 38 (.mov (.t 7)), Oo 39 (.call 21 [(.t 38), (Ki 1), (Ki 2)]), Oo 40 (.un .not (.t 39)), Oo 41 (.mov (.t 40)), Og 41 false 42 (.mov (.t 8)), Og 41 false 43 (.call 21 [(.t 42), (Ki 0), (Ki 2)]), Og 41 false 44 (.un .not (.t 43)), Oo 45 (.pick (.t 41) (.k (.bool true)) (.t 44)), Oo 46 (.mov (.t 45)), Og 46 false 47 (.mov (.t 5)), Og 46 false 48 (.bin .add (.t 47) (Ki 1)), Og 46 false 49 (.mov (.t 7)), Og 46 false 50 (.bin .add (.t 48) (.t 49)), Og 46 false 51 (.mov (.t 8)), Og 46 false 52 (.bin .add (.t 50) (.t 51)), Og 46 false 53 (.mov (.t 0)), Og 46 false 54 (.lenS (.t 53)), Og 46 false 55 (.bin .gtr (.t 52) (.t 54)), Oo 56 (.pick (.t 46) (.k (.bool true)) (.t 55))])
  (.cond (.t 56) (.seq (.region [Oo 2 (.mov (.k (.slice none 0 0))), Oo 3 (.mov (Ki 3))])
  .ret)
  .skip))
  (.seq (.region [Oo 58 (.mov (.t 0)), Oo 59 (.mov (.t 5)), Oo 60 (.bin .add (.t 59) (Ki 1)), Oo 61 (.mov (.t 7)), Oo 62 (.call 65 [(.t 58), (.t 60), (.t 61)]), Oo 57 (.mov (.t 62)), Oo 63 (.ext (.t 57) 0), Oo 64 (.ext (.t 57) 1), Oo 9 (.mov (.t 63)), Oo 10 (.mov (.t 64))])
  (.seq (.seq (.region [Oo 65 (.mov (.t 10)), Oo 66 (.un .not (.t 65))])
  (.cond (.t 66) (.seq (.region [Oo 2 (.mov (.k (.slice none 0 0))), Oo 3 (.mov (Ki 3))])
  .ret)
  .skip))
  (.seq (.region [Oo 67 (.mov (.t 9)), Oo 68 (.build [Zi 0, Zi 0] [(0, 1, (Ki (-1))), (1, 1, (.t 67))]), Oo 11 (.alloc [Zi 0, Zi 0]), On (.store 2 (.t 11) (.t 68))])
  (.seq (.seq (.region [Oo 69 (.mov (.t 8)), Oo 70 (.bin .gtr (.t 69) (Ki 0))])
  (.cond (.t 70) (.seq (.region [Oo 72 (.mov (.t 0)), Oo 73 (.mov (.t 5)), Oo 74 (.bin .add (.t 73) (Ki 1)), Oo 75 (.mov (.t 7)), Oo 76 (.bin .add (.t 74) (.t 75)), Oo 77 (.mov (.t 8)), Oo 78 (.call 65 [(.t 72), (.t 76), (.t 77)]), Oo 71 (.mov (.t 78)), Oo 79 (.ext (.t 71) 0), Oo 80 (.ext (.t 71) 1), Oo 12 (.mov (.t 79)), Oo 13 (.mov (.t 80))])
  (.seq (.region [Oo 81 (.mov (.t 6)), Oo 82 (.mov (.t 12)), Oo 83 (.bin .add (.t 81) (.t 82)), Oo 6 (.mov (.t 83))])
  (.seq (.seq (.region [Oo 84 (.mov (.t 13)), Oo 85 (.un .not (.t 84)), Oo 86 (.mov (.t 85)), Og 86 false 87 (.mov (.t 6)), Og 86 false 88 (.bin .eql (.t 87) (Ki (-1))), Oo 89 (.pick (.t 86) (.k (.bool true)) (.t 88))])
  (.cond (.t 89) (.seq (.region [Oo 2 (.mov (.k (.slice none 0 0))), Oo 3 (.mov (Ki 3))])
  .ret)
  .skip))
  (.region [Oo 90 (.mov (.t 6)), Oo 91 (.addo 0 (.t 11)), On (.store 1 (.t 91) (.t 90))]))))
  .skip))
  (.seq (.region [Oo 92 (.mov (.t 4)), Oo 93 (.load true 2 (.t 11)), Oo 94 (.bslc 2 1 [Zi 0, Zi 0] [(0, (.t 93))]), Oo 95 (.app 2 16 [Zi 0, Zi 0] (.t 92) (.t 94)), Oo 4 (.mov (.t 95))])
  (.region [Oo 96 (.mov (.t 5)), Oo 97 (.bin .add (.t 96) (Ki 1)), Oo 98 (.mov (.t 7)), Oo 99 (.bin .add (.t 97) (.t 98)), Oo 100 (.mov (.t 8)), Oo 101 (.bin .add (.t 99) (.t 100)), Oo 5 (.mov (.t 101))]))))))))))
def h32c : HC :=
  (.seq (.region [Oo 2 (.mov (.k (.slice none 0 0))), Oo 3 (.mov (Ki 0))])
  (.seq (.seq (.region [Oo 15 (.mov (.t 0)), Oo 16 (.lenS (.t 15)), Oo 17 (.bin .gtr (.t 16) (Ki 400))])
  (.cond (.t 17) (.seq (.region [Oo 2 (.mov (.k (.slice none 0 0))), Oo 3 (.mov (Ki 8))])
  .ret)
  .skip))
  (.seq (.region [Oo 4 (.mov (.k (.slice none 0 0)))])
  (.gh (.nil 4 2) (.seq (.region [Oo 5 (.mov (Ki 0)), Oo 6 (.mov (Ki 0))])
  (.seq (.block 0 (.loop [0, 3, 0, 0] h32l0))
  (.seq (.seq (.region [Oo 102 (.mov (.t 5)), Oo 103 (.mov (.t 0)), Oo 104 (.lenS (.t 103)), Oo 105 (.bin .sub (.t 104) (Ki 1)), Oo 106 (.bin .neq (.t 102) (.t 105))])
  (.cond (.t 106) (.seq (.region [Oo 2 (.mov (.k (.slice none 0 0))), Oo 3 (.mov (Ki 3))])
  .ret)
  .skip))
  (.seq (.seq (.region [Oo 107 (.mov (.t 4)), Oo 108 (.call 13 [(.t 107)]), Oo 14 (.mov (.t 108))])
  (.seq (.region [Oo 109 (.mov (.t 14)), Oo 110 (.bin .neq (.t 109) (Ki 0))])
  (.cond (.t 110) (.seq (.region [Oo 111 (.mov (.t 14)), Oo 2 (.mov (.k (.slice none 0 0))), Oo 3 (.mov (.t 111))])
  .ret)
  .skip)))
  (.seq (.region [Oo 112 (.mov (.t 4)), Oo 2 (.mov (.t 112)), Oo 3 (.mov (Ki 0))])
  .ret)))))))))
abbrev h32 : HF := ⟨h32c, [.tmp 2, .tmp 3], 113, false⟩
theorem h32_ok : (Try.f32.body).bind (compileC Try.prog) = some h32c.er := by kernel_rfl
theorem r32_ok : Try.f32.results.toList.mapM (retOf Try.prog) = some [.tmp 2, .tmp 3] := by kernel_rfl

/-- depository/depositoryref03.Encode -/
def h33l0 : HC :=
  (.seq (.seq (.region [Oo 8 (.mov (.t 5)), Oo 9 (.mov (.t 0)), Oo 10 (.lenL (.t 9)), Oo 11 (.bin .lss (.t 8) (.t 10))])
  (.cond (.t 11) .skip
  (.exit 0)))
  (.seq (.block 1 (.seq (.region [Oo 14 (.mov (.t 0)), Oo 15 (.mov (.t 5)), Oo 16 (.ixL 2 (.t 14) (.t 15)), Oo 17 (.addo 1 (.t 16)), Oo 18 (.load false 1 (.t 17)), Oo 19 (.call 66 [(.t 18)]), Oo 6 (.mov (.t 19))])
  (.seq (.seq (.region [Oo 20 (.mov (.t 0)), Oo 21 (.mov (.t 5)), Oo 22 (.ixL 2 (.t 20) (.t 21)), Oo 23 (.addo 0 (.t 22)), Oo 24 (.load false 1 (.t 23)), Oo 25 (.bin .eql (.t 24) (Ki (-1)))])
  (.cond (.t 25) (.seq (.region [Oo 26 (.mov (.t 3)), Oo 27 (.mov (.t 6)), Oo 28 (.lenS (.t 27)), Oo 29 (.call 67 [(.t 28), (Ki 1)]), Oo 30 (.bin .add (.t 26) (.t 29)), Oo 31 (.mov (.t 6)), Oo 32 (.bin .add (.t 30) (.t 31)), Oo 3 (.mov (.t 32))])
  (.exit 1))
  .skip))
  (.seq (.region [Oo 33 (.mov (.t 0)), Oo 34 (.mov (.t 5)), Oo 35 (.ixL 2 (.t 33) (.t 34)), Oo 36 (.addo 0 (.t 35)), Oo 37 (.load false 1 (.t 36)), Oo 38 (.mov (.t 4)), Oo 39 (.bin .sub (.t 37) (.t 38)), Oo 40 (.call 66 [(.t 39)]), Oo 7 (.mov (.t 40))])
  (.seq (.region [Oo 41 (.mov (.t 0)), Oo 42 (.mov (.t 5)), Oo 43 (.ixL 2 (.t 41) (.t 42)), Oo 44 (.addo 0 (.t 43)), Oo 45 (.load false 1 (.t 44)), Oo 4 (.mov (.t 45))])
  (.region [Oo 46 (.mov (.t 3)), Oo 47 (.mov (.t 6)), Oo 48 (.lenS (.t 47)), Oo 49 (.mov (.t 7)), Oo 50 (.lenS (.t 49)), Oo 51 (.bin .mul (Ki 16) (.t 50)), Oo 52 (.bin .add (.t 48) (.t 51)), Oo 53 (.call 67 [(.t 52), (Ki 1)]), Oo 54 (.bin .add (.t 46) (.t 53)), Oo 55 (.mov (.t 6)), Oo 56 (.bin .add (.t 54) (.t 55)), Oo 57 (.mov (.t 7)), Oo 58 (.bin .add (.t 56) (.t 57)), Oo 3 (.mov (.t 58))]))))))
  (.region [Oo 12 (.mov (.t 5)), Oo 13 (.bin .add (.t 12) (Ki 1)), Oo 5 (.mov (.t 13))])))
def h33c : HC :=
  (.seq (.region [Oo 2 (.mov (.k (.string ⟨#[]⟩)))])
  (.seq (.region [Oo 3 (.mov (.k (.string ⟨#[]⟩))), Oo 4 (.mov (Ki 0))])
  (.seq (.seq (.region [Oo 5 (.mov (Ki 0))])
  (.block 0 (.loop [0, 2, 0, 0] h33l0)))
  (.seq (.region [Oo 59 (.mov (.t 3)), Oo 60 (.call 68 [(Ki 1)]), Oo 61 (.bin .add (.t 59) (.t 60)), Oo 2 (.mov (.t 61))])
  .ret))))
abbrev h33 : HF := ⟨h33c, [.tmp 2], 62, false⟩
theorem h33_ok : (Try.f33.body).bind (compileC Try.prog) = some h33c.er := by kernel_rfl
theorem r33_ok : Try.f33.results.toList.mapM (retOf Try.prog) = some [.tmp 2] := by kernel_rfl

/-- depository/runs.CheckRuns -/
def h34l0 : HC :=
  (.seq (.region [Oo 14 (.bin .lss (.t 13) (.t 12))])
  (.seq (.cond (.t 14) .skip
  (.exit 0))
  (.seq (.block 1 (.seq (.region [Oo 15 (.mov (.t 13)), Oo 16 (.ixL 2 (.t 11) (.t 13)), Oo 17 (.load true 2 (.t 16)), Oo 6 (.alloc [Zi 0, Zi 0]), Oo 5 (.mov (.t 15)), On (.store 2 (.t 6) (.t 17))])
  (.seq (.seq (.region [Oo 18 (.load true 2 (.t 6)), Oo 19 (.call 69 [(.t 18)]), Oo 7 (.mov (.t 19))])
  (.seq (.region [Oo 20 (.mov (.t 7)), Oo 21 (.bin .neq (.t 20) (Ki 0))])
  (.cond (.t 21) (.seq (.region [Oo 22 (.mov (.t 5)), Oo 23 (.mov (.t 7)), Oo 2 (.mov (.t 22)), Oo 3 (.mov (.t 23))])
  .ret)
  .skip)))
  (.seq (.seq (.drawn [Qo (Oo 24 (.mov (.t 5))), Qo (Oo 25 (.bin .gtr (.t 24) (Ki 0))), Qo (Oo 26 (.mov (.t 25))), Qo (Og 26 true 27 (.mov (.t 0))), Qo (Og 26 true 28 (.mov (.t 5))), Qo (Og 26 true 29 (.bin .sub (.t 28) (Ki 1))), Qo (Og 26 true 30 (.ixL 2 (.t 27) (.t 29))), Qo (Og 26 true 31 (.load true 2 (.t 30))), Qo (Og 26 true 32 (.load true 2 (.t 6))), Qe (Og 26 true 33 (.call 70 [(.t 31), (.t 32)])), Qo (Oo 34 (.pick (.t 26) (.t 33) (.k (.bool false))))])
  (.cond (.t 34) (.seq (.region [Oo 35 (.mov (.t 5)), Oo 2 (.mov (.t 35)), Oo 3 (.mov (Ki 3))])
  .ret)
  .skip))
  (.seq (.region [Oo 36 (.load true 2 (.t 6)), Oo 37 (.call 71 [(.t 4), (.t 36)]), Oo 38 (.un .not (.t 37))])
  (.cond (.t 38) (.seq (.region [Oo 39 (.mov (.t 5)), Oo 2 (.mov (.t 39)), Oo 3 (.mov (Ki 23))])
  .ret)
  .skip))))))
  (.region [Oo 40 (.bin .add (.t 13) (Ki 1)), Oo 13 (.mov (.t 40))]))))
def h34c : HC :=
  (.seq (.region [Oo 2 (.mov (Ki 0)), Oo 3 (.mov (Ki 0))])
  (.seq (.seq (.region [Oo 8 (.mov (.t 0)), Oo 9 (.lenL (.t 8)), Oo 10 (.bin .gtr (.t 9) (Ki 64))])
  (.cond (.t 10) (.seq (.region [Oo 2 (.mov (Ki 0)), Oo 3 (.mov (Ki 8))])
  .ret)
  .skip))
  (.seq (.region [Oo 4 (.alloc (List.replicate 512 (.bool false)))])
  (.seq (.seq (.region [Oo 11 (.mov (.t 0)), Oo 12 (.lenL (.t 11)), Oo 13 (.mov (Ki 0))])
  (.block 0 (.loop [0, 3, 6, 0, 0] h34l0)))
  (.seq (.region [Oo 41 (.mov (.t 0)), Oo 42 (.call 51 [(.t 41)]), Oo 43 (.bin .leq (.t 42) (Ki 4096)), Oo 44 (.call 48 [(.t 43), (Ki 8)]), Oo 2 (.mov (Ki 0)), Oo 3 (.mov (.t 44))])
  .ret)))))
abbrev h34 : HF := ⟨h34c, [.tmp 2, .tmp 3], 45, false⟩
theorem h34_ok : (Try.f34.body).bind (compileC Try.prog) = some h34c.er := by kernel_rfl
theorem r34_ok : Try.f34.results.toList.mapM (retOf Try.prog) = some [.tmp 2, .tmp 3] := by kernel_rfl

/-- depository/runs.Canonical -/
def h35l0 : HC :=
  (.seq (.region [Oo 14 (.bin .lss (.t 13) (.t 12))])
  (.seq (.cond (.t 14) .skip
  (.exit 0))
  (.seq (.block 1 (.seq (.region [Oo 15 (.ixL 2 (.t 11) (.t 13)), Oo 16 (.load true 2 (.t 15)), Oo 5 (.alloc [Zi 0, Zi 0]), On (.store 2 (.t 5) (.t 16))])
  (.seq (.region [Oo 17 (.load true 2 (.t 5)), Oo 18 (.call 69 [(.t 17)]), Oo 6 (.mov (.t 18))])
  (.seq (.region [Oo 19 (.mov (.t 6)), Oo 20 (.bin .neq (.t 19) (Ki 0))])
  (.cond (.t 20) (.seq (.region [Oo 21 (.mov (.t 6)), Oo 2 (.mov (.k (.slice none 0 0))), Oo 3 (.mov (.t 21))])
  .ret)
  .skip)))))
  (.region [Oo 22 (.bin .add (.t 13) (Ki 1)), Oo 13 (.mov (.t 22))]))))
def h35c : HC :=
  (.seq (.region [Oo 2 (.mov (.k (.slice none 0 0))), Oo 3 (.mov (Ki 0))])
  (.seq (.seq (.region [Oo 8 (.mov (.t 0)), Oo 9 (.lenL (.t 8)), Oo 10 (.bin .gtr (.t 9) (Ki 64))])
  (.cond (.t 10) (.seq (.region [Oo 2 (.mov (.k (.slice none 0 0))), Oo 3 (.mov (Ki 8))])
  .ret)
  .skip))
  (.seq (.seq (.region [Oo 11 (.mov (.t 0)), Oo 12 (.lenL (.t 11)), Oo 13 (.mov (Ki 0))])
  (.block 0 (.loop [0, 10, 0, 0] h35l0)))
  (.seq (.region [Oo 7 (.alloc [(.slice none 0 0)])])
  (.gh (.nilB 7 0 2) (.seq (.region [Oo 23 (.mov (.t 0)), Oo 24 (.call 60 [(.t 7), (.t 23)])])
  (.seq (.region [Oo 25 (.call 72 [(.t 7)]), Oo 26 (.ext (.t 25) 0), Oo 27 (.ext (.t 25) 1), Oo 2 (.mov (.t 26)), Oo 3 (.mov (.t 27))])
  .ret)))))))
abbrev h35 : HF := ⟨h35c, [.tmp 2, .tmp 3], 28, false⟩
theorem h35_ok : (Try.f35.body).bind (compileC Try.prog) = some h35c.er := by kernel_rfl
theorem r35_ok : Try.f35.results.toList.mapM (retOf Try.prog) = some [.tmp 2, .tmp 3] := by kernel_rfl

/-- depository/runs.LengthOf -/
def h36c : HC :=
  (.seq (.region [Oo 2 (.mov (Ki 0)), Oo 3 (.mov (Ki 0))])
  (.seq (.seq (.region [Oo 5 (.mov (.t 0)), Oo 6 (.bslc 1 1 [(.slice none 0 0)] [(0, (.t 5))]), Oo 7 (.call 47 [(.t 6)]), Oo 4 (.mov (.t 7))])
  (.seq (.region [Oo 8 (.mov (.t 4)), Oo 9 (.bin .neq (.t 8) (Ki 0))])
  (.cond (.t 9) (.seq (.region [Oo 10 (.mov (.t 4)), Oo 2 (.mov (Ki 0)), Oo 3 (.mov (.t 10))])
  .ret)
  .skip)))
  (.seq (.region [Oo 11 (.mov (.t 0)), Oo 12 (.call 51 [(.t 11)]), Oo 2 (.mov (.t 12)), Oo 3 (.mov (Ki 0))])
  .ret)))
abbrev h36 : HF := ⟨h36c, [.tmp 2, .tmp 3], 13, false⟩
theorem h36_ok : (Try.f36.body).bind (compileC Try.prog) = some h36c.er := by kernel_rfl
theorem r36_ok : Try.f36.results.toList.mapM (retOf Try.prog) = some [.tmp 2, .tmp 3] := by kernel_rfl

/-- depository/runs.AllocatedIn -/
def h37c : HC :=
  (.seq (.region [Oo 2 (.mov (Ki 0)), Oo 3 (.mov (Ki 0))])
  (.seq (.seq (.region [Oo 5 (.mov (.t 0)), Oo 6 (.bslc 1 1 [(.slice none 0 0)] [(0, (.t 5))]), Oo 7 (.call 47 [(.t 6)]), Oo 4 (.mov (.t 7))])
  (.seq (.region [Oo 8 (.mov (.t 4)), Oo 9 (.bin .neq (.t 8) (Ki 0))])
  (.cond (.t 9) (.seq (.region [Oo 10 (.mov (.t 4)), Oo 2 (.mov (Ki 0)), Oo 3 (.mov (.t 10))])
  .ret)
  .skip)))
  (.seq (.regR [73] [Oo 11 (.mov (.t 0)), Oo 12 (.call 74 [(.t 11)]), Oo 13 (.call 73 [(.t 12), (.f 49)]), Oo 14 (.call 51 [(.t 13)]), Oo 2 (.mov (.t 14)), Oo 3 (.mov (Ki 0))])
  .ret)))
abbrev h37 : HF := ⟨h37c, [.tmp 2, .tmp 3], 15, false⟩
theorem h37_ok : (Try.f37.body).bind (compileC Try.prog) = some h37c.er := by kernel_rfl
theorem r37_ok : Try.f37.results.toList.mapM (retOf Try.prog) = some [.tmp 2, .tmp 3] := by kernel_rfl

/-- depository/runs.ExtentsOf -/
def h38c : HC :=
  (.seq (.region [Oo 2 (.mov (.k (.slice none 0 0))), Oo 3 (.mov (Ki 0))])
  (.seq (.seq (.region [Oo 6 (.mov (.t 0)), Oo 7 (.bslc 1 1 [(.slice none 0 0)] [(0, (.t 6))]), Oo 8 (.call 47 [(.t 7)]), Oo 4 (.mov (.t 8))])
  (.seq (.region [Oo 9 (.mov (.t 4)), Oo 10 (.bin .neq (.t 9) (Ki 0))])
  (.cond (.t 10) (.seq (.region [Oo 11 (.mov (.t 4)), Oo 2 (.mov (.k (.slice none 0 0))), Oo 3 (.mov (.t 11))])
  .ret)
  .skip)))
  (.seq (.region [Oo 5 (.alloc (List.replicate 512 (.bool false)))])
  (.seq (.region [Oo 12 (.mov (.t 0)), Oo 13 (.call 55 [(.t 5), (.t 12)])])
  (.seq (.region [Oo 14 (.call 56 [(.t 5)]), Oo 2 (.mov (.t 14)), Oo 3 (.mov (Ki 0))])
  .ret)))))
abbrev h38 : HF := ⟨h38c, [.tmp 2, .tmp 3], 15, false⟩
theorem h38_ok : (Try.f38.body).bind (compileC Try.prog) = some h38c.er := by kernel_rfl
theorem r38_ok : Try.f38.results.toList.mapM (retOf Try.prog) = some [.tmp 2, .tmp 3] := by kernel_rfl

/-- depository/depositoryref03.Check -/
def h39l0 : HC :=
  (.seq (.seq (.region [Oo 8 (.mov (.t 4)), Oo 9 (.mov (.t 0)), Oo 10 (.lenL (.t 9)), Oo 11 (.bin .lss (.t 8) (.t 10))])
  (.cond (.t 11) .skip
  (.exit 0)))
  (.seq (.block 1 (.seq (.seq (.region [Oo 14 (.mov (.t 0)), Oo 15 (.mov (.t 4)), Oo 16 (.ixL 2 (.t 14) (.t 15)), Oo 17 (.load true 2 (.t 16)), Oo 18 (.call 75 [(.t 17)]), Oo 19 (.un .not (.t 18))])
  (.cond (.t 19) (.seq (.region [Oo 20 (.mov (.t 4)), Oo 2 (.mov (.t 20)), Oo 3 (.mov (Ki 2))])
  .ret)
  .skip))
  (.seq (.seq (.drawn [Qo (Oo 21 (.mov (.t 4))), Qo (Oo 22 (.bin .gtr (.t 21) (Ki 0))), Qo (Oo 23 (.mov (.t 22))), Qo (Og 23 true 24 (.mov (.t 0))), Qo (Og 23 true 25 (.mov (.t 4))), Qo (Og 23 true 26 (.bin .sub (.t 25) (Ki 1))), Qo (Og 23 true 27 (.ixL 2 (.t 24) (.t 26))), Qo (Og 23 true 28 (.load true 2 (.t 27))), Qo (Og 23 true 29 (.mov (.t 0))), Qo (Og 23 true 30 (.mov (.t 4))), Qo (Og 23 true 31 (.ixL 2 (.t 29) (.t 30))), Qo (Og 23 true 32 (.load true 2 (.t 31))), Qe (Og 23 true 33 (.call 61 [(.t 28), (.t 32)])), Qo (Oo 34 (.pick (.t 23) (.t 33) (.k (.bool false))))])
  (.cond (.t 34) (.seq (.region [Oo 35 (.mov (.t 4)), Oo 2 (.mov (.t 35)), Oo 3 (.mov (Ki 3))])
  .ret)
  .skip))
  (.seq (.region [Oo 36 (.mov (.t 0)), Oo 37 (.mov (.t 4)), Oo 38 (.call 58 [(.t 36), (.t 37)])])
  (.cond (.t 38) (.seq (.region [Oo 39 (.mov (.t 4)), Oo 2 (.mov (.t 39)), Oo 3 (.mov (Ki 23))])
  .ret)
  .skip)))))
  (.region [Oo 12 (.mov (.t 4)), Oo 13 (.bin .add (.t 12) (Ki 1)), Oo 4 (.mov (.t 13))])))
def h39c : HC :=
  (.seq (.region [Oo 2 (.mov (Ki 0)), Oo 3 (.mov (Ki 0))])
  (.seq (.seq (.region [Oo 5 (.mov (.t 0)), Oo 6 (.lenL (.t 5)), Oo 7 (.bin .gtr (.t 6) (Ki 64))])
  (.cond (.t 7) (.seq (.region [Oo 2 (.mov (Ki 0)), Oo 3 (.mov (Ki 8))])
  .ret)
  .skip))
  (.seq (.seq (.region [Oo 4 (.mov (Ki 0))])
  (.block 0 (.loop [0, 3] h39l0)))
  (.seq (.seq (.region [Oo 40 (.mov (.t 0)), Oo 41 (.call 14 [(.t 40)]), Oo 42 (.bin .gtr (.t 41) (Ki 4096))])
  (.cond (.t 42) (.seq (.region [Oo 2 (.mov (Ki 0)), Oo 3 (.mov (Ki 8))])
  .ret)
  .skip))
  (.seq (.region [Oo 2 (.mov (Ki 0)), Oo 3 (.mov (Ki 0))])
  .ret)))))
abbrev h39 : HF := ⟨h39c, [.tmp 2, .tmp 3], 43, false⟩
theorem h39_ok : (Try.f39.body).bind (compileC Try.prog) = some h39c.er := by kernel_rfl
theorem r39_ok : Try.f39.results.toList.mapM (retOf Try.prog) = some [.tmp 2, .tmp 3] := by kernel_rfl

/-- depository/depositoryref03.CanonicalErr -/
def h40l0 : HC :=
  (.seq (.seq (.region [Oo 7 (.mov (.t 3)), Oo 8 (.mov (.t 0)), Oo 9 (.lenL (.t 8)), Oo 10 (.bin .lss (.t 7) (.t 9))])
  (.cond (.t 10) .skip
  (.exit 0)))
  (.seq (.block 1 (.seq (.region [Oo 13 (.mov (.t 0)), Oo 14 (.mov (.t 3)), Oo 15 (.ixL 2 (.t 13) (.t 14)), Oo 16 (.load true 2 (.t 15)), Oo 17 (.call 75 [(.t 16)]), Oo 18 (.un .not (.t 17))])
  (.cond (.t 18) (.seq (.region [Oo 2 (.mov (Ki 2))])
  .ret)
  .skip)))
  (.region [Oo 11 (.mov (.t 3)), Oo 12 (.bin .add (.t 11) (Ki 1)), Oo 3 (.mov (.t 12))])))
def h40c : HC :=
  (.seq (.region [Oo 2 (.mov (Ki 0))])
  (.seq (.seq (.region [Oo 4 (.mov (.t 0)), Oo 5 (.lenL (.t 4)), Oo 6 (.bin .gtr (.t 5) (Ki 64))])
  (.cond (.t 6) (.seq (.region [Oo 2 (.mov (Ki 8))])
  .ret)
  .skip))
  (.seq (.seq (.region [Oo 3 (.mov (Ki 0))])
  (.block 0 (.loop [0, 2] h40l0)))
  (.seq (.region [Oo 19 (.mov (.t 0)), Oo 20 (.call 24 [(.t 19)]), Oo 2 (.mov (.t 20))])
  .ret))))
abbrev h40 : HF := ⟨h40c, [.tmp 2], 21, false⟩
theorem h40_ok : (Try.f40.body).bind (compileC Try.prog) = some h40c.er := by kernel_rfl
theorem r40_ok : Try.f40.results.toList.mapM (retOf Try.prog) = some [.tmp 2] := by kernel_rfl

/-- depository/depositoryref03.Allocated -/
def h41l0 : HC :=
  (.seq (.seq (.region [Oo 5 (.mov (.t 4)), Oo 6 (.mov (.t 0)), Oo 7 (.lenL (.t 6)), Oo 8 (.bin .lss (.t 5) (.t 7))])
  (.cond (.t 8) .skip
  (.exit 0)))
  (.seq (.block 1 (.seq (.region [Oo 11 (.mov (.t 0)), Oo 12 (.mov (.t 4)), Oo 13 (.ixL 2 (.t 11) (.t 12)), Oo 14 (.addo 0 (.t 13)), Oo 15 (.load false 1 (.t 14)), Oo 16 (.bin .neq (.t 15) (Ki (-1)))])
  (.cond (.t 16) (.region [Oo 17 (.mov (.t 3)), Oo 18 (.mov (.t 0)), Oo 19 (.mov (.t 4)), Oo 20 (.ixL 2 (.t 18) (.t 19)), Oo 21 (.addo 1 (.t 20)), Oo 22 (.load false 1 (.t 21)), Oo 23 (.bin .add (.t 17) (.t 22)), Oo 3 (.mov (.t 23))])
  .skip)))
  (.region [Oo 9 (.mov (.t 4)), Oo 10 (.bin .add (.t 9) (Ki 1)), Oo 4 (.mov (.t 10))])))
def h41c : HC :=
  (.seq (.region [Oo 2 (.mov (Ki 0))])
  (.seq (.region [Oo 3 (.mov (Ki 0))])
  (.seq (.seq (.region [Oo 4 (.mov (Ki 0))])
  (.block 0 (.loop [0, 2, 0] h41l0)))
  (.seq (.region [Oo 24 (.mov (.t 3)), Oo 2 (.mov (.t 24))])
  .ret))))
abbrev h41 : HF := ⟨h41c, [.tmp 2], 25, false⟩
theorem h41_ok : (Try.f41.body).bind (compileC Try.prog) = some h41c.er := by kernel_rfl
theorem r41_ok : Try.f41.results.toList.mapM (retOf Try.prog) = some [.tmp 2] := by kernel_rfl

/-- depository/depositorybase.Mod -/
def h42c : HC :=
  (.seq (.region [Oo 4 (.mov (Ki 0))])
  (.seq (.region [Oo 5 (.mov (.t 0)), Oo 6 (.mov (.t 1)), Oo 7 (.bin .rem (.t 5) (.t 6)), Oo 0 (.mov (.t 7))])
  (.seq (.seq (.region [Oo 8 (.mov (.t 0)), Oo 9 (.bin .lss (.t 8) (Ki 0))])
  (.cond (.t 9) (.region [Oo 10 (.mov (.t 0)), Oo 11 (.mov (.t 1)), Oo 12 (.bin .add (.t 10) (.t 11)), Oo 0 (.mov (.t 12))])
  .skip))
  (.seq (.region [Oo 13 (.mov (.t 0)), Oo 4 (.mov (.t 13))])
  .ret))))
abbrev h42 : HF := ⟨h42c, [.tmp 4], 14, false⟩
theorem h42_ok : (Try.f42.body).bind (compileC Try.prog) = some h42c.er := by kernel_rfl
theorem r42_ok : Try.f42.results.toList.mapM (retOf Try.prog) = some [.tmp 4] := by kernel_rfl

/-- depository/depositorybase.SameRuns -/
def h43l0 : HC :=
  (.seq (.seq (.region [Oo 11 (.mov (.t 5)), Oo 12 (.mov (.t 0)), Oo 13 (.lenL (.t 12)), Oo 14 (.bin .lss (.t 11) (.t 13))])
  (.cond (.t 14) .skip
  (.exit 0)))
  (.seq (.block 1 (.seq (.drawn [Qo (Oo 17 (.mov (.t 0))), Qo (Oo 18 (.mov (.t 5))), Qo (Oo 19 (.ixL 2 (.t 17) (.t 18))), Qo (Oo 20 (.load true 2 (.t 19))), Qo (Oo 21 (.mov (.t 1))), Qo (Oo 22 (.mov (.t 5))), Qo (Oo 23 (.ixL 2 (.t 21) (.t 22))), Qo (Oo 24 (.load true 2 (.t 23))), Qo (Oo 25 (.eqs true [.i, .i] (.t 20) (.t 24)))])
  (.cond (.t 25) (.seq (.region [Oo 4 (.mov (.k (.bool false)))])
  .ret)
  .skip)))
  (.region [Oo 15 (.mov (.t 5)), Oo 16 (.bin .add (.t 15) (Ki 1)), Oo 5 (.mov (.t 16))])))
def h43c : HC :=
  (.seq (.region [Oo 4 (.mov (.k (.bool false)))])
  (.seq (.seq (.region [Oo 6 (.mov (.t 0)), Oo 7 (.lenL (.t 6)), Oo 8 (.mov (.t 1)), Oo 9 (.lenL (.t 8)), Oo 10 (.bin .neq (.t 7) (.t 9))])
  (.cond (.t 10) (.seq (.region [Oo 4 (.mov (.k (.bool false)))])
  .ret)
  .skip))
  (.seq (.seq (.region [Oo 5 (.mov (Ki 0))])
  (.block 0 (.loop [0, 0, 3] h43l0)))
  (.seq (.region [Oo 4 (.mov (.k (.bool true)))])
  .ret))))
abbrev h43 : HF := ⟨h43c, [.tmp 4], 26, false⟩
theorem h43_ok : (Try.f43.body).bind (compileC Try.prog) = some h43c.er := by kernel_rfl
theorem r43_ok : Try.f43.results.toList.mapM (retOf Try.prog) = some [.tmp 4] := by kernel_rfl

/-- depository/depositorylaw03.Three -/
def h44c : HC :=
  (.seq (.region [Oo 0 (.mov (.k (.slice none 0 0)))])
  (.seq (.region [Oo 1 (.build [Zi 0, Zi 0] [(0, 1, (Ki 5)), (1, 1, (Ki 3))]), Oo 2 (.build [Zi 0, Zi 0] [(0, 1, (Ki (-1))), (1, 1, (Ki 2))]), Oo 3 (.build [Zi 0, Zi 0] [(0, 1, (Ki 4)), (1, 1, (Ki 1))]), Oo 4 (.bslc 2 3 [Zi 0, Zi 0] [(0, (.t 1)), (1, (.t 2)), (2, (.t 3))]), Oo 0 (.mov (.t 4))])
  .ret))
abbrev h44 : HF := ⟨h44c, [.tmp 0], 5, false⟩
theorem h44_ok : (Try.f44.body).bind (compileC Try.prog) = some h44c.er := by kernel_rfl
theorem r44_ok : Try.f44.results.toList.mapM (retOf Try.prog) = some [.tmp 0] := by kernel_rfl

/-- depository/depositoryref03.Format -/
def h45l0 : HC :=
  (.seq (.seq (.region [Oo 6 (.mov (.t 4)), Oo 7 (.mov (.t 0)), Oo 8 (.lenL (.t 7)), Oo 9 (.bin .lss (.t 6) (.t 8))])
  (.cond (.t 9) .skip
  (.exit 0)))
  (.seq (.block 1 (.seq (.seq (.region [Oo 12 (.mov (.t 4)), Oo 13 (.bin .gtr (.t 12) (Ki 0))])
  (.cond (.t 13) (.region [Oo 14 (.mov (.t 3)), Oo 15 (.bin .add (.t 14) (.k (.string ⟨#[32]⟩))), Oo 3 (.mov (.t 15))])
  .skip))
  (.seq (.region [Oo 16 (.mov (.t 0)), Oo 17 (.mov (.t 4)), Oo 18 (.ixL 2 (.t 16) (.t 17)), Oo 19 (.addo 0 (.t 18)), Oo 20 (.load false 1 (.t 19)), Oo 21 (.call 76 [(.t 20)]), Oo 5 (.mov (.t 21))])
  (.seq (.seq (.region [Oo 22 (.mov (.t 0)), Oo 23 (.mov (.t 4)), Oo 24 (.ixL 2 (.t 22) (.t 23)), Oo 25 (.addo 0 (.t 24)), Oo 26 (.load false 1 (.t 25)), Oo 27 (.bin .eql (.t 26) (Ki (-1)))])
  (.cond (.t 27) (.region [Oo 5 (.mov (.k (.string ⟨#[45]⟩)))])
  .skip))
  (.region [Oo 28 (.mov (.t 3)), Oo 29 (.mov (.t 5)), Oo 30 (.bin .add (.t 28) (.t 29)), Oo 31 (.bin .add (.t 30) (.k (.string ⟨#[43]⟩))), Oo 32 (.mov (.t 0)), Oo 33 (.mov (.t 4)), Oo 34 (.ixL 2 (.t 32) (.t 33)), Oo 35 (.addo 1 (.t 34)), Oo 36 (.load false 1 (.t 35)), Oo 37 (.call 76 [(.t 36)]), Oo 38 (.bin .add (.t 31) (.t 37)), Oo 3 (.mov (.t 38))])))))
  (.region [Oo 10 (.mov (.t 4)), Oo 11 (.bin .add (.t 10) (Ki 1)), Oo 4 (.mov (.t 11))])))
def h45c : HC :=
  (.seq (.region [Oo 2 (.mov (.k (.string ⟨#[]⟩)))])
  (.seq (.region [Oo 3 (.mov (.k (.string ⟨#[]⟩)))])
  (.seq (.seq (.region [Oo 4 (.mov (Ki 0))])
  (.block 0 (.loop [0, 2, 0] h45l0)))
  (.seq (.region [Oo 39 (.mov (.t 3)), Oo 2 (.mov (.t 39))])
  .ret))))
abbrev h45 : HF := ⟨h45c, [.tmp 2], 40, false⟩
theorem h45_ok : (Try.f45.body).bind (compileC Try.prog) = some h45c.er := by kernel_rfl
theorem r45_ok : Try.f45.results.toList.mapM (retOf Try.prog) = some [.tmp 2] := by kernel_rfl

/-- depository/runs.first -/
def h46l0 : HC :=
  (.seq (.region [Oo 8 (.bin .lss (.t 7) (.t 6))])
  (.seq (.cond (.t 8) .skip
  (.exit 0))
  (.seq (.block 1 (.seq (.region [Oo 9 (.ixL 1 (.t 5) (.t 7)), Oo 10 (.load false 1 (.t 9)), Oo 4 (.mov (.t 10))])
  (.seq (.region [Oo 11 (.mov (.t 4)), Oo 12 (.bin .neq (.t 11) (Ki 0))])
  (.cond (.t 12) (.seq (.region [Oo 13 (.mov (.t 4)), Oo 2 (.mov (.t 13))])
  .ret)
  .skip))))
  (.region [Oo 14 (.bin .add (.t 7) (Ki 1)), Oo 7 (.mov (.t 14))]))))
def h46c : HC :=
  (.seq (.region [Oo 2 (.mov (Ki 0))])
  (.seq (.seq (.region [Oo 5 (.mov (.t 0)), Oo 6 (.lenL (.t 5)), Oo 7 (.mov (Ki 0))])
  (.block 0 (.loop [5, 0, 0] h46l0)))
  (.seq (.region [Oo 2 (.mov (Ki 0))])
  .ret)))
abbrev h46 : HF := ⟨h46c, [.tmp 2], 15, false⟩
theorem h46_ok : (Try.f46.body).bind (compileC Try.prog) = some h46c.er := by kernel_rfl
theorem r46_ok : Try.f46.results.toList.mapM (retOf Try.prog) = some [.tmp 2] := by kernel_rfl

/-- depository/runs.runsErr -/
def h47l0 : HC :=
  (.seq (.region [Oo 10 (.bin .lss (.t 9) (.t 8))])
  (.seq (.cond (.t 10) .skip
  (.exit 0))
  (.seq (.block 1 (.seq (.region [Oo 11 (.ixL 1 (.t 7) (.t 9)), Oo 12 (.load false 1 (.t 11)), Oo 4 (.mov (.t 12))])
  (.seq (.region [Oo 14 (.mov (.t 4)), Oo 15 (.call 34 [(.t 14)]), Oo 13 (.mov (.t 15)), Oo 16 (.ext (.t 13) 0), Oo 17 (.ext (.t 13) 1), Oo 5 (.mov (.t 16)), Oo 6 (.mov (.t 17))])
  (.seq (.region [Oo 18 (.mov (.t 6)), Oo 19 (.bin .neq (.t 18) (Ki 0))])
  (.cond (.t 19) (.seq (.region [Oo 20 (.mov (.t 6)), Oo 2 (.mov (.t 20))])
  .ret)
  .skip)))))
  (.region [Oo 21 (.bin .add (.t 9) (Ki 1)), Oo 9 (.mov (.t 21))]))))
def h47c : HC :=
  (.seq (.region [Oo 2 (.mov (Ki 0))])
  (.seq (.seq (.region [Oo 7 (.mov (.t 0)), Oo 8 (.lenL (.t 7)), Oo 9 (.mov (Ki 0))])
  (.block 0 (.loop [7, 0, 0] h47l0)))
  (.seq (.region [Oo 2 (.mov (Ki 0))])
  .ret)))
abbrev h47 : HF := ⟨h47c, [.tmp 2], 22, false⟩
theorem h47_ok : (Try.f47.body).bind (compileC Try.prog) = some h47c.er := by kernel_rfl
theorem r47_ok : Try.f47.results.toList.mapM (retOf Try.prog) = some [.tmp 2] := by kernel_rfl

/-- depository/runs.unless -/
def h48c : HC :=
  (.seq (.region [Oo 4 (.mov (Ki 0))])
  (.seq (.seq (.region [Oo 5 (.mov (.t 0))])
  (.cond (.t 5) (.seq (.region [Oo 4 (.mov (Ki 0))])
  .ret)
  .skip))
  (.seq (.region [Oo 6 (.mov (.t 1)), Oo 4 (.mov (.t 6))])
  .ret)))
abbrev h48 : HF := ⟨h48c, [.tmp 4], 7, false⟩
theorem h48_ok : (Try.f48.body).bind (compileC Try.prog) = some h48c.er := by kernel_rfl
theorem r48_ok : Try.f48.results.toList.mapM (retOf Try.prog) = some [.tmp 4] := by kernel_rfl

/-- depository/runs.isHole -/
def h49c : HC :=
  (.seq (.region [Oo 1 (.box (.t 0)), Oo 2 (.mov (.k (.bool false)))])
  (.seq (.region [Oo 3 (.addo 0 (.t 1)), Oo 4 (.load false 1 (.t 3)), Oo 5 (.bin .eql (.t 4) (Ki (-1))), Oo 2 (.mov (.t 5))])
  .ret))
abbrev h49 : HF := ⟨h49c, [.tmp 2], 6, false⟩
theorem h49_ok : (Try.f49.body).bind (compileC Try.prog) = some h49c.er := by kernel_rfl
theorem r49_ok : Try.f49.results.toList.mapM (retOf Try.prog) = some [.tmp 2] := by kernel_rfl

/-- depository/depositoryref03.At -/
def h50l0 : HC :=
  (.seq (.seq (.region [Oo 6 (.mov (.t 5)), Oo 7 (.mov (.t 0)), Oo 8 (.lenL (.t 7)), Oo 9 (.bin .lss (.t 6) (.t 8))])
  (.cond (.t 9) .skip
  (.exit 0)))
  (.seq (.block 1 (.seq (.seq (.region [Oo 12 (.mov (.t 1)), Oo 13 (.mov (.t 0)), Oo 14 (.mov (.t 5)), Oo 15 (.ixL 2 (.t 13) (.t 14)), Oo 16 (.addo 1 (.t 15)), Oo 17 (.load false 1 (.t 16)), Oo 18 (.bin .lss (.t 12) (.t 17))])
  (.cond (.t 18) (.seq (.seq (.region [Oo 19 (.mov (.t 0)), Oo 20 (.mov (.t 5)), Oo 21 (.ixL 2 (.t 19) (.t 20)), Oo 22 (.addo 0 (.t 21)), Oo 23 (.load false 1 (.t 22)), Oo 24 (.bin .eql (.t 23) (Ki (-1)))])
  (.cond (.t 24) (.seq (.region [Oo 4 (.mov (Ki (-1)))])
  .ret)
  .skip))
  (.seq (.region [Oo 25 (.mov (.t 0)), Oo 26 (.mov (.t 5)), Oo 27 (.ixL 2 (.t 25) (.t 26)), Oo 28 (.addo 0 (.t 27)), Oo 29 (.load false 1 (.t 28)), Oo 30 (.mov (.t 1)), Oo 31 (.bin .add (.t 29) (.t 30)), Oo 4 (.mov (.t 31))])
  .ret))
  .skip))
  (.region [Oo 32 (.mov (.t 1)), Oo 33 (.mov (.t 0)), Oo 34 (.mov (.t 5)), Oo 35 (.ixL 2 (.t 33) (.t 34)), Oo 36 (.addo 1 (.t 35)), Oo 37 (.load false 1 (.t 36)), Oo 38 (.bin .sub (.t 32) (.t 37)), Oo 1 (.mov (.t 38))])))
  (.region [Oo 10 (.mov (.t 5)), Oo 11 (.bin .add (.t 10) (Ki 1)), Oo 5 (.mov (.t 11))])))
def h50c : HC :=
  (.seq (.region [Oo 4 (.mov (Ki 0))])
  (.seq (.seq (.region [Oo 5 (.mov (Ki 0))])
  (.block 0 (.loop [0, 0, 3] h50l0)))
  (.seq (.region [Oo 4 (.mov (Ki (-1)))])
  .ret)))
abbrev h50 : HF := ⟨h50c, [.tmp 4], 39, false⟩
theorem h50_ok : (Try.f50.body).bind (compileC Try.prog) = some h50c.er := by kernel_rfl
theorem r50_ok : Try.f50.results.toList.mapM (retOf Try.prog) = some [.tmp 4] := by kernel_rfl

/-- depository/runs.length -/
def h51l0 : HC :=
  (.seq (.region [Oo 9 (.bin .lss (.t 8) (.t 7))])
  (.seq (.cond (.t 9) .skip
  (.exit 0))
  (.seq (.block 1 (.seq (.region [Oo 10 (.ixL 2 (.t 6) (.t 8)), Oo 11 (.load true 2 (.t 10)), Oo 5 (.alloc [Zi 0, Zi 0]), On (.store 2 (.t 5) (.t 11))])
  (.region [Oo 12 (.mov (.t 3)), Oo 13 (.addo 1 (.t 5)), Oo 14 (.load false 1 (.t 13)), Oo 15 (.bin .add (.t 12) (.t 14)), Oo 3 (.mov (.t 15))])))
  (.region [Oo 16 (.bin .add (.t 8) (Ki 1)), Oo 8 (.mov (.t 16))]))))
def h51c : HC :=
  (.seq (.region [Oo 2 (.mov (Ki 0))])
  (.seq (.region [Oo 3 (.mov (Ki 0))])
  (.seq (.seq (.region [Oo 6 (.mov (.t 0)), Oo 7 (.lenL (.t 6)), Oo 8 (.mov (Ki 0))])
  (.block 0 (.loop [3, 2, 0, 0] h51l0)))
  (.seq (.region [Oo 17 (.mov (.t 3)), Oo 2 (.mov (.t 17))])
  .ret))))
abbrev h51 : HF := ⟨h51c, [.tmp 2], 18, false⟩
theorem h51_ok : (Try.f51.body).bind (compileC Try.prog) = some h51c.er := by kernel_rfl
theorem r51_ok : Try.f51.results.toList.mapM (retOf Try.prog) = some [.tmp 2] := by kernel_rfl

/-- depository/runs.changeErr -/
def h52c : HC :=
  (.seq (.region [Oo 8 (.mov (Ki 0))])
  (.seq (.region [Oo 9 (.mov (.t 0)), Oo 10 (.mov (.t 2)), Oo 11 (.bslc 1 2 [(.slice none 0 0)] [(0, (.t 9)), (1, (.t 10))]), Oo 12 (.call 47 [(.t 11)]), Oo 13 (.mov (.t 1)), Oo 14 (.call 77 [(.t 13), (Ki 0), (Ki 4096)]), Oo 15 (.call 48 [(.t 14), (Ki 2)]), Oo 16 (.mov (.t 1)), Oo 17 (.mov (.t 0)), Oo 18 (.call 51 [(.t 17)]), Oo 19 (.mov (.t 3)), Oo 20 (.bin .sub (.t 18) (.t 19)), Oo 21 (.bin .leq (.t 16) (.t 20)), Oo 22 (.call 48 [(.t 21), (Ki 37)]), Oo 23 (.bslc 1 3 [Zi 0] [(0, (.t 12)), (1, (.t 15)), (2, (.t 22))]), Oo 24 (.call 46 [(.t 23)]), Oo 8 (.mov (.t 24))])
  .ret))
abbrev h52 : HF := ⟨h52c, [.tmp 8], 25, false⟩
theorem h52_ok : (Try.f52.body).bind (compileC Try.prog) = some h52c.er := by kernel_rfl
theorem r52_ok : Try.f52.results.toList.mapM (retOf Try.prog) = some [.tmp 8] := by kernel_rfl

/-- depository/runs.made -/
def h53l0 : HC :=
  (.seq (.region [Oo 10 (.bin .lss (.t 9) (.t 8))])
  (.seq (.cond (.t 10) .skip
  (.exit 0))
  (.seq (.block 1 (.seq (.region [Oo 11 (.ixL 1 (.t 7) (.t 9)), Oo 12 (.load false 1 (.t 11)), Oo 6 (.mov (.t 12))])
  (.region [Oo 13 (.mov (.t 6)), Oo 14 (.call 60 [(.t 4), (.t 13)])])))
  (.region [Oo 15 (.bin .add (.t 9) (Ki 1)), Oo 9 (.mov (.t 15))]))))
def h53c : HC :=
  (.seq (.region [Oo 2 (.mov (.k (.slice none 0 0))), Oo 3 (.mov (Ki 0))])
  (.seq (.region [Oo 4 (.alloc [(.slice none 0 0)])])
  (.gh (.nilB 4 0 2) (.seq (.seq (.region [Oo 7 (.mov (.t 0)), Oo 8 (.lenL (.t 7)), Oo 9 (.mov (Ki 0))])
  (.block 0 (.loop [4, 2, 0, 0] h53l0)))
  (.seq (.region [Oo 16 (.call 72 [(.t 4)]), Oo 17 (.ext (.t 16) 0), Oo 18 (.ext (.t 16) 1), Oo 2 (.mov (.t 17)), Oo 3 (.mov (.t 18))])
  .ret)))))
abbrev h53 : HF := ⟨h53c, [.tmp 2, .tmp 3], 19, false⟩
theorem h53_ok : (Try.f53.body).bind (compileC Try.prog) = some h53c.er := by kernel_rfl
theorem r53_ok : Try.f53.results.toList.mapM (retOf Try.prog) = some [.tmp 2, .tmp 3] := by kernel_rfl

/-- depository/runs.part -/
def h54l0 : HC :=
  (.seq (.region [Oo 16 (.bin .lss (.t 15) (.t 14))])
  (.seq (.cond (.t 16) .skip
  (.exit 0))
  (.seq (.block 1 (.seq (.region [Oo 17 (.ixL 2 (.t 13) (.t 15)), Oo 18 (.load true 2 (.t 17)), Oo 9 (.alloc [Zi 0, Zi 0]), On (.store 2 (.t 9) (.t 18))])
  (.seq (.region [Oo 19 (.mov (.t 1)), Oo 20 (.addo 1 (.t 9)), Oo 21 (.load false 1 (.t 20)), Oo 22 (.min2 (.t 19) (.t 21)), Oo 10 (.mov (.t 22))])
  (.seq (.region [Oo 23 (.mov (.t 1)), Oo 24 (.mov (.t 10)), Oo 25 (.bin .sub (.t 23) (.t 24)), Oo 1 (.mov (.t 25))])
  (.seq (.region [Oo 26 (.mov (.t 2)), Oo 27 (.addo 1 (.t 9)), Oo 28 (.load false 1 (.t 27)), Oo 29 (.mov (.t 10)), Oo 30 (.bin .sub (.t 28) (.t 29)), Oo 31 (.min2 (.t 26) (.t 30)), Oo 11 (.mov (.t 31))])
  (.seq (.region [Oo 32 (.mov (.t 2)), Oo 33 (.mov (.t 11)), Oo 34 (.bin .sub (.t 32) (.t 33)), Oo 2 (.mov (.t 34))])
  (.seq (.seq (.region [Oo 35 (.mov (.t 11)), Oo 36 (.bin .eql (.t 35) (Ki 0))])
  (.cond (.t 36) (.exit 1)
  .skip))
  (.seq (.region [Oo 37 (.mov (.t 11)), Oo 38 (.build [Zi 0, Zi 0] [(0, 1, (Ki (-1))), (1, 1, (.t 37))]), Oo 12 (.alloc [Zi 0, Zi 0]), On (.store 2 (.t 12) (.t 38))])
  (.seq (.seq (.region [Oo 39 (.load true 2 (.t 9)), Oo 40 (.call 49 [(.t 39)]), Oo 41 (.un .not (.t 40))])
  (.cond (.t 41) (.region [Oo 42 (.addo 0 (.t 9)), Oo 43 (.load false 1 (.t 42)), Oo 44 (.mov (.t 10)), Oo 45 (.bin .add (.t 43) (.t 44)), Oo 46 (.addo 0 (.t 12)), On (.store 1 (.t 46) (.t 45))])
  .skip))
  (.region [Oo 47 (.mov (.t 7)), Oo 48 (.load true 2 (.t 12)), Oo 49 (.bslc 2 1 [Zi 0, Zi 0] [(0, (.t 48))]), Oo 50 (.app 2 16 [Zi 0, Zi 0] (.t 47) (.t 49)), Oo 7 (.mov (.t 50))]))))))))))
  (.region [Oo 51 (.bin .add (.t 15) (Ki 1)), Oo 15 (.mov (.t 51))]))))
def h54c : HC :=
  (.seq (.region [Oo 6 (.mov (.k (.slice none 0 0)))])
  (.seq (.region [Oo 7 (.mov (.k (.slice none 0 0)))])
  (.gh (.nil 7 2) (.seq (.seq (.region [Oo 13 (.mov (.t 0)), Oo 14 (.lenL (.t 13)), Oo 15 (.mov (Ki 0))])
  (.block 0 (.loop [1, 0, 4, 5, 0, 0] h54l0)))
  (.seq (.region [Oo 52 (.mov (.t 7)), Oo 6 (.mov (.t 52))])
  .ret)))))
abbrev h54 : HF := ⟨h54c, [.tmp 6], 53, false⟩
theorem h54_ok : (Try.f54.body).bind (compileC Try.prog) = some h54c.er := by kernel_rfl
theorem r54_ok : Try.f54.results.toList.mapM (retOf Try.prog) = some [.tmp 6] := by kernel_rfl

/-- (*depository/runs.used).takeAll -/
def h55l0 : HC :=
  (.seq (.region [Oo 9 (.bin .lss (.t 8) (.t 7))])
  (.seq (.cond (.t 9) .skip
  (.exit 0))
  (.seq (.block 1 (.seq (.region [Oo 10 (.ixL 2 (.t 6) (.t 8)), Oo 11 (.load true 2 (.t 10)), Oo 5 (.alloc [Zi 0, Zi 0]), On (.store 2 (.t 5) (.t 11))])
  (.region [Oo 12 (.mov (.t 0)), Oo 13 (.load true 2 (.t 5)), Oo 14 (.call 71 [(.t 12), (.t 13)])])))
  (.region [Oo 15 (.bin .add (.t 8) (Ki 1)), Oo 8 (.mov (.t 15))]))))
def h55c : HC :=
  (.seq (.region [Oo 6 (.mov (.t 1)), Oo 7 (.lenL (.t 6)), Oo 8 (.mov (Ki 0))])
  (.block 0 (.loop [0, 5, 0, 0] h55l0)))
abbrev h55 : HF := ⟨h55c, [], 16, false⟩
theorem h55_ok : (Try.f55.body).bind (compileC Try.prog) = some h55c.er := by kernel_rfl
theorem r55_ok : Try.f55.results.toList.mapM (retOf Try.prog) = some [] := by kernel_rfl

/-- (*depository/runs.used).extents -/
def h56l0 : HC :=
  (.seq (.region [Oo 8 (.bin .lss (.t 7) (Ki 512))])
  (.seq (.cond (.t 8) .skip
  (.exit 0))
  (.seq (.block 1 (.seq (.drawn [Qo (Oo 9 (.mov (.t 7))), Qo (Oo 10 (.nilc (.t 6))), Qo (Oo 11 (.ixA 512 1 (.t 10) (.t 7))), Qo (Oo 12 (.load false 1 (.t 11))), Qo (Oo 4 (.mov (.t 9))), Qo (Oo 5 (.mov (.t 12)))])
  (.seq (.region [Oo 13 (.mov (.t 5))])
  (.cond (.t 13) (.region [Oo 14 (.mov (.t 4)), Oo 15 (.build [Zi 0, Zi 0] [(0, 1, (.t 14)), (1, 1, (Ki 1))]), Oo 16 (.call 78 [(.t 3), (.t 15)])])
  .skip))))
  (.region [Oo 17 (.bin .add (.t 7) (Ki 1)), Oo 7 (.mov (.t 17))]))))
def h56c : HC :=
  (.seq (.region [Oo 2 (.mov (.k (.slice none 0 0)))])
  (.seq (.region [Oo 3 (.alloc [(.slice none 0 0)])])
  (.gh (.nilB 3 0 2) (.seq (.seq (.region [Oo 6 (.mov (.t 0)), Oo 7 (.mov (Ki 0))])
  (.block 0 (.loop [3, 2, 0] h56l0)))
  (.seq (.region [Oo 18 (.addo 0 (.t 3)), Oo 19 (.load false 1 (.t 18)), Oo 2 (.mov (.t 19))])
  .ret)))))
abbrev h56 : HF := ⟨h56c, [.tmp 2], 20, false⟩
theorem h56_ok : (Try.f56.body).bind (compileC Try.prog) = some h56c.er := by kernel_rfl
theorem r56_ok : Try.f56.results.toList.mapM (retOf Try.prog) = some [.tmp 2] := by kernel_rfl

/-- depository/depositorybase.Has -/
def h57l0 : HC :=
  (.seq (.seq (.region [Oo 6 (.mov (.t 5)), Oo 7 (.mov (.t 0)), Oo 8 (.lenL (.t 7)), Oo 9 (.bin .lss (.t 6) (.t 8))])
  (.cond (.t 9) .skip
  (.exit 0)))
  (.seq (.block 1 (.seq (.region [Oo 12 (.mov (.t 0)), Oo 13 (.mov (.t 5)), Oo 14 (.ixL 1 (.t 12) (.t 13)), Oo 15 (.load false 1 (.t 14)), Oo 16 (.mov (.t 1)), Oo 17 (.bin .eql (.t 15) (.t 16))])
  (.cond (.t 17) (.seq (.region [Oo 4 (.mov (.k (.bool true)))])
  .ret)
  .skip)))
  (.region [Oo 10 (.mov (.t 5)), Oo 11 (.bin .add (.t 10) (Ki 1)), Oo 5 (.mov (.t 11))])))
def h57c : HC :=
  (.seq (.region [Oo 4 (.mov (.k (.bool false)))])
  (.seq (.seq (.region [Oo 5 (.mov (Ki 0))])
  (.block 0 (.loop [0, 0, 3] h57l0)))
  (.seq (.region [Oo 4 (.mov (.k (.bool false)))])
  .ret)))
abbrev h57 : HF := ⟨h57c, [.tmp 4], 18, false⟩
theorem h57_ok : (Try.f57.body).bind (compileC Try.prog) = some h57c.er := by kernel_rfl
theorem r57_ok : Try.f57.results.toList.mapM (retOf Try.prog) = some [.tmp 4] := by kernel_rfl

/-- depository/depositoryref03.doubled -/
def h58l0 : HC :=
  (.seq (.seq (.region [Oo 6 (.mov (.t 5)), Oo 7 (.mov (.t 1)), Oo 8 (.bin .lss (.t 6) (.t 7))])
  (.cond (.t 8) .skip
  (.exit 0)))
  (.seq (.block 1 (.seq (.drawn [Qo (Oo 11 (.mov (.t 0))), Qo (Oo 12 (.mov (.t 5))), Qo (Oo 13 (.ixL 2 (.t 11) (.t 12))), Qo (Oo 14 (.load true 2 (.t 13))), Qo (Oo 15 (.mov (.t 0))), Qo (Oo 16 (.mov (.t 1))), Qo (Oo 17 (.ixL 2 (.t 15) (.t 16))), Qo (Oo 18 (.load true 2 (.t 17))), Qe (Oo 19 (.call 79 [(.t 14), (.t 18)]))])
  (.cond (.t 19) (.seq (.region [Oo 4 (.mov (.k (.bool true)))])
  .ret)
  .skip)))
  (.region [Oo 9 (.mov (.t 5)), Oo 10 (.bin .add (.t 9) (Ki 1)), Oo 5 (.mov (.t 10))])))
def h58c : HC :=
  (.seq (.region [Oo 4 (.mov (.k (.bool false)))])
  (.seq (.seq (.region [Oo 5 (.mov (Ki 0))])
  (.block 0 (.loop [0, 0, 3] h58l0)))
  (.seq (.region [Oo 4 (.mov (.k (.bool false)))])
  .ret)))
abbrev h58 : HF := ⟨h58c, [.tmp 4], 20, false⟩
theorem h58_ok : (Try.f58.body).bind (compileC Try.prog) = some h58c.er := by kernel_rfl
theorem r58_ok : Try.f58.results.toList.mapM (retOf Try.prog) = some [.tmp 4] := by kernel_rfl

/-- depository/runs.cutErr -/
def h59c : HC :=
  (.seq (.region [Oo 6 (.mov (Ki 0))])
  (.seq (.region [Oo 7 (.mov (.t 0)), Oo 8 (.bslc 1 1 [(.slice none 0 0)] [(0, (.t 7))]), Oo 9 (.call 47 [(.t 8)]), Oo 10 (.mov (.t 1)), Oo 11 (.call 77 [(.t 10), (Ki 0), (Ki 4096)]), Oo 12 (.mov (.t 11)), Og 12 true 13 (.mov (.t 2)), Og 12 true 14 (.call 77 [(.t 13), (Ki 0), (Ki 4096)]), Oo 15 (.pick (.t 12) (.t 14) (.k (.bool false))), Oo 16 (.call 48 [(.t 15), (Ki 2)]), Oo 17 (.mov (.t 1)), Oo 18 (.mov (.t 0)), Oo 19 (.call 51 [(.t 18)]), Oo 20 (.mov (.t 2)), Oo 21 (.bin .sub (.t 19) (.t 20)), Oo 22 (.bin .leq (.t 17) (.t 21)), Oo 23 (.call 48 [(.t 22), (Ki 37)]), Oo 24 (.bslc 1 3 [Zi 0] [(0, (.t 9)), (1, (.t 16)), (2, (.t 23))]), Oo 25 (.call 46 [(.t 24)]), Oo 6 (.mov (.t 25))])
  .ret))
abbrev h59 : HF := ⟨h59c, [.tmp 6], 26, false⟩
theorem h59_ok : (Try.f59.body).bind (compileC Try.prog) = some h59c.er := by kernel_rfl
theorem r59_ok : Try.f59.results.toList.mapM (retOf Try.prog) = some [.tmp 6] := by kernel_rfl

/-- (*depository/runs.list).addAll -/
def h60l0 : HC :=
  (.seq (.region [Oo 9 (.bin .lss (.t 8) (.t 7))])
  (.seq (.cond (.t 9) .skip
  (.exit 0))
  (.seq (.block 1 (.seq (.region [Oo 10 (.ixL 2 (.t 6) (.t 8)), Oo 11 (.load true 2 (.t 10)), Oo 5 (.alloc [Zi 0, Zi 0]), On (.store 2 (.t 5) (.t 11))])
  (.region [Oo 12 (.mov (.t 0)), Oo 13 (.load true 2 (.t 5)), Oo 14 (.call 78 [(.t 12), (.t 13)])])))
  (.region [Oo 15 (.bin .add (.t 8) (Ki 1)), Oo 8 (.mov (.t 15))]))))
def h60c : HC :=
  (.seq (.region [Oo 6 (.mov (.t 1)), Oo 7 (.lenL (.t 6)), Oo 8 (.mov (Ki 0))])
  (.block 0 (.loop [0, 5, 0, 0] h60l0)))
abbrev h60 : HF := ⟨h60c, [], 16, false⟩
theorem h60_ok : (Try.f60.body).bind (compileC Try.prog) = some h60c.er := by kernel_rfl
theorem r60_ok : Try.f60.results.toList.mapM (retOf Try.prog) = some [] := by kernel_rfl

/-- depository/depositoryref03.Joins -/
def h61c : HC :=
  (.seq (.region [Oo 2 (.box (.t 0)), Oo 3 (.box (.t 1)), Oo 4 (.mov (.k (.bool false)))])
  (.seq (.seq (.region [Oo 5 (.addo 0 (.t 2)), Oo 6 (.load false 1 (.t 5)), Oo 7 (.bin .eql (.t 6) (Ki (-1))), Oo 8 (.mov (.t 7)), Og 8 false 9 (.addo 0 (.t 3)), Og 8 false 10 (.load false 1 (.t 9)), Og 8 false 11 (.bin .eql (.t 10) (Ki (-1))), Oo 12 (.pick (.t 8) (.k (.bool true)) (.t 11))])
  (.cond (.t 12) (.seq (.region [Oo 13 (.addo 0 (.t 2)), Oo 14 (.load false 1 (.t 13)), Oo 15 (.addo 0 (.t 3)), Oo 16 (.load false 1 (.t 15)), Oo 17 (.bin .eql (.t 14) (.t 16)), Oo 4 (.mov (.t 17))])
  .ret)
  .skip))
  (.seq (.region [Oo 18 (.addo 0 (.t 3)), Oo 19 (.load false 1 (.t 18)), Oo 20 (.addo 0 (.t 2)), Oo 21 (.load false 1 (.t 20)), Oo 22 (.addo 1 (.t 2)), Oo 23 (.load false 1 (.t 22)), Oo 24 (.bin .add (.t 21) (.t 23)), Oo 25 (.bin .eql (.t 19) (.t 24)), Oo 4 (.mov (.t 25))])
  .ret)))
abbrev h61 : HF := ⟨h61c, [.tmp 4], 26, false⟩
theorem h61_ok : (Try.f61.body).bind (compileC Try.prog) = some h61c.er := by kernel_rfl
theorem r61_ok : Try.f61.results.toList.mapM (retOf Try.prog) = some [.tmp 4] := by kernel_rfl

/-- depository/runs.sizeOf -/
def h62l0 : HC :=
  (.seq (.seq (.drawn [Qo (Oo 4 (.mov (.t 0))), Qo (Oo 5 (.mov (.t 3))), Qo (Oo 6 (.bin .mul (Ki 8) (.t 5))), Qo (Oo 7 (.bin .sub (.t 6) (Ki 1))), Qo (Oo 8 (.bin .shl (Ki (-1)) (.t 7))), Qo (Oo 9 (.mov (.t 3))), Qo (Oo 10 (.bin .mul (Ki 8) (.t 9))), Qo (Oo 11 (.bin .sub (.t 10) (Ki 1))), Qo (Oo 12 (.bin .shl (Ki 1) (.t 11))), Qo (Oo 13 (.bin .sub (.t 12) (Ki 1))), Qe (Oo 14 (.call 77 [(.t 4), (.t 8), (.t 13)])), Qo (Oo 15 (.un .not (.t 14)))])
  (.cond (.t 15) .skip
  (.exit 0)))
  (.block 1 (.region [Oo 16 (.mov (.t 3)), Oo 17 (.bin .add (.t 16) (Ki 1)), Oo 3 (.mov (.t 17))])))
def h62c : HC :=
  (.seq (.region [Oo 2 (.mov (Ki 0))])
  (.seq (.region [Oo 3 (.mov (Ki 1))])
  (.seq (.block 0 (.loop [0, 2] h62l0))
  (.seq (.region [Oo 18 (.mov (.t 3)), Oo 2 (.mov (.t 18))])
  .ret))))
abbrev h62 : HF := ⟨h62c, [.tmp 2], 19, false⟩
theorem h62_ok : (Try.f62.body).bind (compileC Try.prog) = some h62c.er := by kernel_rfl
theorem r62_ok : Try.f62.results.toList.mapM (retOf Try.prog) = some [.tmp 2] := by kernel_rfl

/-- depository/runs.signed -/
def h63l0 : HC :=
  (.seq (.region [Oo 8 (.bin .lss (.t 7) (.t 6))])
  (.seq (.cond (.t 8) .skip
  (.exit 0))
  (.seq (.block 1 (.seq (.region [Oo 9 (.mov (.t 5)), Oo 10 (.mov (.t 0)), Oo 11 (.conv .u8 (.t 10)), Oo 12 (.bslc 1 1 [(.int .u8 0)] [(0, (.t 11))]), Oo 13 (.app 1 1 [(.int .u8 0)] (.t 9) (.t 12)), Oo 5 (.mov (.t 13))])
  (.region [Oo 14 (.mov (.t 0)), Oo 15 (.bin .shr (.t 14) (.k (.int .u64 8))), Oo 0 (.mov (.t 15))])))
  (.region [Oo 16 (.bin .add (.t 7) (Ki 1)), Oo 7 (.mov (.t 16))]))))
def h63c : HC :=
  (.seq (.region [Oo 4 (.mov (.k (.slice none 0 0)))])
  (.seq (.region [Oo 5 (.mov (.k (.slice none 0 0)))])
  (.gh (.nil 5 1) (.seq (.seq (.region [Oo 6 (.mov (.t 1)), Oo 7 (.mov (Ki 0))])
  (.block 0 (.loop [0, 4, 0, 0] h63l0)))
  (.seq (.region [Oo 17 (.mov (.t 5)), Oo 4 (.mov (.t 17))])
  .ret)))))
abbrev h63 : HF := ⟨h63c, [.tmp 4], 18, false⟩
theorem h63_ok : (Try.f63.body).bind (compileC Try.prog) = some h63c.er := by kernel_rfl
theorem r63_ok : Try.f63.results.toList.mapM (retOf Try.prog) = some [.tmp 4] := by kernel_rfl

/-- depository/runs.run -/
def h64c : HC :=
  (.seq (.region [Oo 4 (.alloc [Zi 0, Zi 0]), Oo 5 (.mov (.k (.bool false)))])
  (.seq (.region [Oo 13 (.mov (.t 0)), Oo 14 (.nilc (.t 13)), Oo 15 (.load false 1 (.t 14)), Oo 16 (.ixS (.t 15) (Ki 0)), Oo 17 (.conv .i64 (.t 16)), Oo 6 (.mov (.t 17))])
  (.seq (.region [Oo 18 (.mov (.t 0)), Oo 19 (.mov (.t 0)), Oo 20 (.nilc (.t 19)), Oo 21 (.load false 1 (.t 20)), Oo 22 (.slS (.t 21) (some (Ki 1)) none), Oo 23 (.nilc (.t 18)), On (.store 1 (.t 23) (.t 22))])
  (.seq (.region [Oo 24 (.mov (.t 6)), Oo 25 (.bin .and (.t 24) (Ki 15)), Oo 26 (.mov (.t 6)), Oo 27 (.bin .shr (.t 26) (.k (.int .u64 4))), Oo 7 (.mov (.t 25)), Oo 8 (.mov (.t 27))])
  (.seq (.seq (.region [Oo 28 (.mov (.t 7)), Oo 29 (.call 77 [(.t 28), (Ki 1), (Ki 2)]), Oo 30 (.un .not (.t 29)), Oo 31 (.mov (.t 30)), Og 31 false 32 (.mov (.t 8)), Og 31 false 33 (.bin .gtr (.t 32) (Ki 2)), Oo 34 (.pick (.t 31) (.k (.bool true)) (.t 33))])
  (.cond (.t 34) (.seq (.region [Oo 35 (.build [Zi 0, Zi 0] []), On (.store 2 (.t 4) (.t 35)), Oo 5 (.mov (.k (.bool false)))])
  .ret)
  .skip))
  (.seq (.region [Oo 37 (.mov (.t 0)), Oo 38 (.mov (.t 7)), Oo 39 (.call 80 [(.t 37), (.t 38)]), Oo 36 (.mov (.t 39)), Oo 40 (.ext (.t 36) 0), Oo 41 (.ext (.t 36) 1), Oo 9 (.mov (.t 40)), Oo 10 (.mov (.t 41))])
  (.seq (.seq (.region [Oo 42 (.mov (.t 10)), Oo 43 (.un .not (.t 42)), Oo 44 (.mov (.t 43)), Og 44 false 45 (.mov (.t 8)), Og 44 false 46 (.bin .eql (.t 45) (Ki 0)), Oo 47 (.pick (.t 44) (.k (.bool true)) (.t 46))])
  (.cond (.t 47) (.seq (.region [Oo 48 (.mov (.t 9)), Oo 49 (.build [Zi 0, Zi 0] [(0, 1, (Ki (-1))), (1, 1, (.t 48))]), Oo 50 (.mov (.t 10)), On (.store 2 (.t 4) (.t 49)), Oo 5 (.mov (.t 50))])
  .ret)
  .skip))
  (.seq (.region [Oo 52 (.mov (.t 0)), Oo 53 (.mov (.t 8)), Oo 54 (.call 80 [(.t 52), (.t 53)]), Oo 51 (.mov (.t 54)), Oo 55 (.ext (.t 51) 0), Oo 56 (.ext (.t 51) 1), Oo 11 (.mov (.t 55)), Oo 10 (.mov (.t 56))])
  (.seq (.region [Oo 57 (.mov (.t 1)), Oo 58 (.mov (.t 11)), Oo 59 (.bin .add (.t 57) (.t 58)), Oo 60 (.mov (.t 9)), Oo 61 (.build [Zi 0, Zi 0] [(0, 1, (.t 59)), (1, 1, (.t 60))]), Oo 12 (.alloc [Zi 0, Zi 0]), On (.store 2 (.t 12) (.t 61))])
  (.seq (.drawn [Qo (Oo 62 (.load true 2 (.t 12))), Qo (Oo 63 (.mov (.t 10))), Qo (Oo 64 (.mov (.t 63))), Qo (Og 64 true 65 (.load true 2 (.t 12))), Qo (Og 64 true 66 (.call 49 [(.t 65)])), Qo (Og 64 true 67 (.un .not (.t 66))), Qo (Oo 68 (.pick (.t 64) (.t 67) (.k (.bool false)))), Qe (On (.store 2 (.t 4) (.t 62))), Qo (Oo 5 (.mov (.t 68)))])
  .ret))))))))))
abbrev h64 : HF := ⟨h64c, [.cell 4 true 2, .tmp 5], 69, false⟩
theorem h64_ok : (Try.f64.body).bind (compileC Try.prog) = some h64c.er := by kernel_rfl
theorem r64_ok : Try.f64.results.toList.mapM (retOf Try.prog) = some [.cell 4 true 2, .tmp 5] := by kernel_rfl

/-- depository/depositoryref03.signedAt -/
def h65c : HC :=
  (.seq (.region [Oo 6 (.mov (Ki 0)), Oo 7 (.mov (.k (.bool false)))])
  (.seq (.region [Oo 9 (.mov (.t 0)), Oo 10 (.mov (.t 1)), Oo 11 (.mov (.t 2)), Oo 12 (.call 81 [(.t 9), (.t 10), (.t 11)]), Oo 8 (.mov (.t 12))])
  (.seq (.seq (.region [Oo 13 (.mov (.t 8)), Oo 14 (.mov (.t 2)), Oo 15 (.bin .mul (Ki 8) (.t 14)), Oo 16 (.bin .sub (.t 15) (Ki 1)), Oo 17 (.call 82 [(.t 16)]), Oo 18 (.bin .geq (.t 13) (.t 17))])
  (.cond (.t 18) (.region [Oo 19 (.mov (.t 8)), Oo 20 (.mov (.t 2)), Oo 21 (.bin .mul (Ki 8) (.t 20)), Oo 22 (.call 82 [(.t 21)]), Oo 23 (.bin .sub (.t 19) (.t 22)), Oo 8 (.mov (.t 23))])
  .skip))
  (.seq (.region [Oo 24 (.mov (.t 8)), Oo 25 (.mov (.t 8)), Oo 26 (.call 66 [(.t 25)]), Oo 27 (.lenS (.t 26)), Oo 28 (.mov (.t 2)), Oo 29 (.bin .eql (.t 27) (.t 28)), Oo 6 (.mov (.t 24)), Oo 7 (.mov (.t 29))])
  .ret))))
abbrev h65 : HF := ⟨h65c, [.tmp 6, .tmp 7], 30, false⟩
theorem h65_ok : (Try.f65.body).bind (compileC Try.prog) = some h65c.er := by kernel_rfl
theorem r65_ok : Try.f65.results.toList.mapM (retOf Try.prog) = some [.tmp 6, .tmp 7] := by kernel_rfl

/-- depository/depositoryref03.signed -/
def h66c : HC :=
  (.seq (.region [Oo 2 (.mov (.k (.string ⟨#[]⟩)))])
  (.seq (.seq (.region [Oo 3 (.mov (.t 0)), Oo 4 (.call 21 [(.t 3), (Ki (-128)), (Ki 127)])])
  (.cond (.t 4) (.seq (.region [Oo 5 (.mov (.t 0)), Oo 6 (.call 42 [(.t 5), (Ki 256)]), Oo 7 (.call 67 [(.t 6), (Ki 1)]), Oo 2 (.mov (.t 7))])
  .ret)
  .skip))
  (.seq (.region [Oo 8 (.mov (.t 0)), Oo 9 (.call 42 [(.t 8), (Ki 65536)]), Oo 10 (.call 67 [(.t 9), (Ki 2)]), Oo 2 (.mov (.t 10))])
  .ret)))
abbrev h66 : HF := ⟨h66c, [.tmp 2], 11, false⟩
theorem h66_ok : (Try.f66.body).bind (compileC Try.prog) = some h66c.er := by kernel_rfl
theorem r66_ok : Try.f66.results.toList.mapM (retOf Try.prog) = some [.tmp 2] := by kernel_rfl

/-- depository/depositorybase.Little -/
def h67l0 : HC :=
  (.seq (.seq (.region [Oo 7 (.mov (.t 6)), Oo 8 (.mov (.t 1)), Oo 9 (.bin .lss (.t 7) (.t 8))])
  (.cond (.t 9) .skip
  (.exit 0)))
  (.seq (.block 1 (.seq (.region [Oo 12 (.mov (.t 5)), Oo 13 (.mov (.t 0)), Oo 14 (.bin .rem (.t 13) (Ki 256)), Oo 15 (.conv .u8 (.t 14)), Oo 16 (.bslc 1 1 [(.int .u8 0)] [(0, (.t 15))]), Oo 17 (.app 1 1 [(.int .u8 0)] (.t 12) (.t 16)), Oo 5 (.mov (.t 17))])
  (.region [Oo 18 (.mov (.t 0)), Oo 19 (.bin .quo (.t 18) (Ki 256)), Oo 0 (.mov (.t 19))])))
  (.region [Oo 10 (.mov (.t 6)), Oo 11 (.bin .add (.t 10) (Ki 1)), Oo 6 (.mov (.t 11))])))
def h67c : HC :=
  (.seq (.region [Oo 4 (.mov (.k (.string ⟨#[]⟩)))])
  (.seq (.region [Oo 5 (.mov (.k (.slice none 0 0)))])
  (.gh (.nil 5 1) (.seq (.seq (.region [Oo 6 (.mov (Ki 0))])
  (.block 0 (.loop [0, 0, 3, 0] h67l0)))
  (.seq (.region [Oo 20 (.mov (.t 5)), Oo 21 (.cvbs (.t 20)), Oo 4 (.mov (.t 21))])
  .ret)))))
abbrev h67 : HF := ⟨h67c, [.tmp 4], 22, false⟩
theorem h67_ok : (Try.f67.body).bind (compileC Try.prog) = some h67c.er := by kernel_rfl
theorem r67_ok : Try.f67.results.toList.mapM (retOf Try.prog) = some [.tmp 4] := by kernel_rfl

/-- depository/depositorybase.Zeros -/
def h68c : HC :=
  (.seq (.region [Oo 2 (.mov (.k (.string ⟨#[]⟩)))])
  (.seq (.region [Oo 3 (.mov (.t 0)), Oo 4 (.min2 (.t 3) (Ki 200000)), Oo 5 (.max2 (Ki 0) (.t 4)), Oo 6 (.mk 1 1 [(.int .u8 0)] (.t 5) (.t 5)), Oo 7 (.cvbs (.t 6)), Oo 2 (.mov (.t 7))])
  .ret))
abbrev h68 : HF := ⟨h68c, [.tmp 2], 8, false⟩
theorem h68_ok : (Try.f68.body).bind (compileC Try.prog) = some h68c.er := by kernel_rfl
theorem r68_ok : Try.f68.results.toList.mapM (retOf Try.prog) = some [.tmp 2] := by kernel_rfl

/-- depository/runs.rangeErr -/
def h69c : HC :=
  (.seq (.region [Oo 1 (.box (.t 0)), Oo 2 (.mov (Ki 0))])
  (.seq (.seq (.region [Oo 3 (.load true 2 (.t 1)), Oo 4 (.call 49 [(.t 3)])])
  (.cond (.t 4) (.seq (.region [Oo 5 (.addo 1 (.t 1)), Oo 6 (.load false 1 (.t 5)), Oo 7 (.call 77 [(.t 6), (Ki 1), (Ki 4096)]), Oo 8 (.call 48 [(.t 7), (Ki 2)]), Oo 2 (.mov (.t 8))])
  .ret)
  .skip))
  (.seq (.seq (.region [Oo 9 (.addo 0 (.t 1)), Oo 10 (.load false 1 (.t 9)), Oo 11 (.call 77 [(.t 10), (Ki 0), (Ki 511)]), Oo 12 (.un .not (.t 11))])
  (.cond (.t 12) (.seq (.region [Oo 2 (.mov (Ki 2))])
  .ret)
  .skip))
  (.seq (.region [Oo 13 (.addo 1 (.t 1)), Oo 14 (.load false 1 (.t 13)), Oo 15 (.addo 0 (.t 1)), Oo 16 (.load false 1 (.t 15)), Oo 17 (.bin .sub (Ki 512) (.t 16)), Oo 18 (.call 77 [(.t 14), (Ki 1), (.t 17)]), Oo 19 (.call 48 [(.t 18), (Ki 2)]), Oo 2 (.mov (.t 19))])
  .ret))))
abbrev h69 : HF := ⟨h69c, [.tmp 2], 20, false⟩
theorem h69_ok : (Try.f69.body).bind (compileC Try.prog) = some h69c.er := by kernel_rfl
theorem r69_ok : Try.f69.results.toList.mapM (retOf Try.prog) = some [.tmp 2] := by kernel_rfl

/-- depository/runs.joins -/
def h70c : HC :=
  (.seq (.region [Oo 2 (.box (.t 0)), Oo 3 (.box (.t 1)), Oo 4 (.mov (.k (.bool false)))])
  (.seq (.drawn [Qo (Oo 5 (.load true 2 (.t 2))), Qo (Oo 6 (.call 49 [(.t 5)])), Qo (Oo 7 (.load true 2 (.t 3))), Qe (Oo 8 (.call 49 [(.t 7)])), Qo (Oo 9 (.binb false (.t 6) (.t 8))), Qo (Oo 10 (.mov (.t 9))), Qo (Og 10 true 11 (.load true 2 (.t 2))), Qe (Og 10 true 12 (.call 49 [(.t 11)])), Qo (Og 10 true 13 (.mov (.t 12))), Qo (Og 13 false 14 (.addo 0 (.t 2))), Qo (Og 13 false 15 (.load false 1 (.t 14))), Qo (Og 13 false 16 (.addo 1 (.t 2))), Qo (Og 13 false 17 (.load false 1 (.t 16))), Qo (Og 13 false 18 (.bin .add (.t 15) (.t 17))), Qo (Og 13 false 19 (.addo 0 (.t 3))), Qo (Og 13 false 20 (.load false 1 (.t 19))), Qo (Og 13 false 21 (.bin .eql (.t 18) (.t 20))), Qo (Og 10 true 22 (.pick (.t 13) (.k (.bool true)) (.t 21))), Qo (Oo 23 (.pick (.t 10) (.t 22) (.k (.bool false)))), Qo (Oo 4 (.mov (.t 23)))])
  .ret))
abbrev h70 : HF := ⟨h70c, [.tmp 4], 24, false⟩
theorem h70_ok : (Try.f70.body).bind (compileC Try.prog) = some h70c.er := by kernel_rfl
theorem r70_ok : Try.f70.results.toList.mapM (retOf Try.prog) = some [.tmp 4] := by kernel_rfl

/-- (*depository/runs.used).take -/
def h71l0 : HC :=
  (.seq (.seq (.region [Oo 11 (.mov (.t 6)), Oo 12 (.addo 0 (.t 3)), Oo 13 (.load false 1 (.t 12)), Oo 14 (.addo 1 (.t 3)), Oo 15 (.load false 1 (.t 14)), Oo 16 (.bin .add (.t 13) (.t 15)), Oo 17 (.bin .lss (.t 11) (.t 16))])
  (.cond (.t 17) .skip
  (.exit 0)))
  (.seq (.block 1 (.seq (.region [Oo 20 (.mov (.t 5)), Oo 21 (.mov (.t 20)), Og 21 true 22 (.mov (.t 0)), Og 21 true 23 (.mov (.t 6)), Og 21 true 24 (.nilc (.t 22)), Og 21 true 25 (.ixA 512 1 (.t 24) (.t 23)), Og 21 true 26 (.load false 1 (.t 25)), Og 21 true 27 (.un .not (.t 26)), Oo 28 (.pick (.t 21) (.t 27) (.k (.bool false))), Oo 5 (.mov (.t 28))])
  (.region [Oo 29 (.mov (.t 0)), Oo 30 (.mov (.t 6)), Oo 31 (.nilc (.t 29)), Oo 32 (.ixA 512 1 (.t 31) (.t 30)), On (.store 1 (.t 32) (.k (.bool true)))])))
  (.region [Oo 18 (.mov (.t 6)), Oo 19 (.bin .add (.t 18) (Ki 1)), Oo 6 (.mov (.t 19))])))
def h71c : HC :=
  (.seq (.region [Oo 3 (.box (.t 1)), Oo 4 (.mov (.k (.bool false)))])
  (.seq (.seq (.region [Oo 7 (.load true 2 (.t 3)), Oo 8 (.call 49 [(.t 7)])])
  (.cond (.t 8) (.seq (.region [Oo 4 (.mov (.k (.bool true)))])
  .ret)
  .skip))
  (.seq (.region [Oo 5 (.mov (.k (.bool true)))])
  (.seq (.seq (.region [Oo 9 (.addo 0 (.t 3)), Oo 10 (.load false 1 (.t 9)), Oo 6 (.mov (.t 10))])
  (.block 0 (.loop [0, 2, 1, 0] h71l0)))
  (.seq (.region [Oo 33 (.mov (.t 5)), Oo 4 (.mov (.t 33))])
  .ret)))))
abbrev h71 : HF := ⟨h71c, [.tmp 4], 34, false⟩
theorem h71_ok : (Try.f71.body).bind (compileC Try.prog) = some h71c.er := by kernel_rfl
theorem r71_ok : Try.f71.results.toList.mapM (retOf Try.prog) = some [.tmp 4] := by kernel_rfl

/-- (*depository/runs.list).done -/
def h72l0 : HC :=
  (.seq (.region [Oo 15 (.bin .lss (.t 14) (.t 13))])
  (.seq (.cond (.t 15) .skip
  (.exit 0))
  (.seq (.block 1 (.seq (.region [Oo 16 (.ixL 2 (.t 12) (.t 14)), Oo 17 (.load true 2 (.t 16)), Oo 7 (.alloc [Zi 0, Zi 0]), On (.store 2 (.t 7) (.t 17))])
  (.region [Oo 18 (.load true 2 (.t 7)), Oo 19 (.call 71 [(.t 4), (.t 18)]), Oo 20 (.mov (.t 19)), Og 20 true 21 (.mov (.t 5)), Oo 22 (.pick (.t 20) (.t 21) (.k (.bool false))), Oo 5 (.mov (.t 22))])))
  (.region [Oo 23 (.bin .add (.t 14) (Ki 1)), Oo 14 (.mov (.t 23))]))))
def h72c : HC :=
  (.seq (.region [Oo 2 (.mov (.k (.slice none 0 0))), Oo 3 (.mov (Ki 0))])
  (.seq (.region [Oo 4 (.alloc (List.replicate 512 (.bool false)))])
  (.seq (.region [Oo 5 (.mov (.k (.bool true)))])
  (.seq (.seq (.region [Oo 9 (.mov (.t 0)), Oo 10 (.nilc (.t 9)), Oo 11 (.addo 0 (.t 10)), Oo 12 (.load false 1 (.t 11)), Oo 13 (.lenL (.t 12)), Oo 14 (.mov (Ki 0))])
  (.block 0 (.loop [0, 3, 0, 6, 0, 0] h72l0)))
  (.seq (.seq (.drawn [Qo (Oo 24 (.mov (.t 5))), Qo (Oo 25 (.call 48 [(.t 24), (Ki 23)])), Qo (Oo 26 (.mov (.t 0))), Qo (Oo 27 (.nilc (.t 26))), Qo (Oo 28 (.addo 0 (.t 27))), Qo (Oo 29 (.load false 1 (.t 28))), Qe (Oo 30 (.call 51 [(.t 29)])), Qo (Oo 31 (.bin .leq (.t 30) (Ki 4096))), Qo (Oo 32 (.mov (.t 31))), Qo (Og 32 true 33 (.mov (.t 0))), Qo (Og 32 true 34 (.nilc (.t 33))), Qo (Og 32 true 35 (.addo 0 (.t 34))), Qo (Og 32 true 36 (.load false 1 (.t 35))), Qo (Og 32 true 37 (.lenL (.t 36))), Qo (Og 32 true 38 (.bin .leq (.t 37) (Ki 64))), Qo (Oo 39 (.pick (.t 32) (.t 38) (.k (.bool false)))), Qe (Oo 40 (.call 48 [(.t 39), (Ki 8)])), Qe (Oo 41 (.bslc 1 2 [Zi 0] [(0, (.t 25)), (1, (.t 40))])), Qe (Oo 42 (.call 46 [(.t 41)])), Qo (Oo 8 (.mov (.t 42)))])
  (.seq (.region [Oo 43 (.mov (.t 8)), Oo 44 (.bin .neq (.t 43) (Ki 0))])
  (.cond (.t 44) (.seq (.region [Oo 45 (.mov (.t 8)), Oo 2 (.mov (.k (.slice none 0 0))), Oo 3 (.mov (.t 45))])
  .ret)
  .skip)))
  (.seq (.region [Oo 46 (.mov (.t 0)), Oo 47 (.nilc (.t 46)), Oo 48 (.addo 0 (.t 47)), Oo 49 (.load false 1 (.t 48)), Oo 2 (.mov (.t 49)), Oo 3 (.mov (Ki 0))])
  .ret))))))
abbrev h72 : HF := ⟨h72c, [.tmp 2, .tmp 3], 50, false⟩
theorem h72_ok : (Try.f72.body).bind (compileC Try.prog) = some h72c.er := by kernel_rfl
theorem r72_ok : Try.f72.results.toList.mapM (retOf Try.prog) = some [.tmp 2, .tmp 3] := by kernel_rfl

/-- slices.DeleteFunc[[]depository/api.Run,depository/api.Run] -/
def h73l0 : HC :=
  (.seq (.seq (.region [Oo 16 (.mov (.t 6)), Oo 17 (.mov (.t 0)), Oo 18 (.lenL (.t 17)), Oo 19 (.bin .lss (.t 16) (.t 18))])
  (.cond (.t 19) .skip
  (.exit 0)))
  (.seq (.block 1 (.seq (.region [Oo 22 (.mov (.t 0)), Oo 23 (.mov (.t 6)), Oo 24 (.ixL 2 (.t 22) (.t 23)), Oo 25 (.load true 2 (.t 24)), Oo 7 (.alloc [Zi 0, Zi 0]), On (.store 2 (.t 7) (.t 25))])
  (.seq (.region [Oo 26 (.mov (.t 1)), Oo 27 (.load true 2 (.t 7)), Oo 28 (.callv (.t 26) [(.t 27)]), Oo 29 (.un .not (.t 28))])
  (.cond (.t 29) (.seq (.region [Oo 30 (.mov (.t 0)), Oo 31 (.mov (.t 5)), Oo 32 (.load true 2 (.t 7)), Oo 33 (.ixL 2 (.t 30) (.t 31)), On (.store 2 (.t 33) (.t 32))])
  (.region [Oo 34 (.mov (.t 5)), Oo 35 (.bin .add (.t 34) (Ki 1)), Oo 5 (.mov (.t 35))]))
  .skip))))
  (.region [Oo 20 (.mov (.t 6)), Oo 21 (.bin .add (.t 20) (Ki 1)), Oo 6 (.mov (.t 21))])))
def h73c : HC :=
  (.seq (.region [Oo 4 (.mov (.k (.slice none 0 0)))])
  (.seq (.region [Oo 8 (.mov (.t 0)), Oo 9 (.mov (.t 1)), Oo 10 (.call 83 [(.t 8), (.t 9)]), Oo 5 (.mov (.t 10))])
  (.seq (.seq (.region [Oo 11 (.mov (.t 5)), Oo 12 (.bin .eql (.t 11) (Ki (-1)))])
  (.cond (.t 12) (.seq (.region [Oo 13 (.mov (.t 0)), Oo 4 (.mov (.t 13))])
  .ret)
  .skip))
  (.seq (.seq (.region [Oo 14 (.mov (.t 5)), Oo 15 (.bin .add (.t 14) (Ki 1)), Oo 6 (.mov (.t 15))])
  (.block 0 (.loop [0, 0, 3, 0] h73l0)))
  (.seq (.region [Oo 36 (.mov (.t 0)), Oo 37 (.mov (.t 5)), Oo 38 (.slL 2 (.t 36) (some (.t 37)) none), On (.clr 2 [Zi 0, Zi 0] (.t 38))])
  (.seq (.region [Oo 39 (.mov (.t 0)), Oo 40 (.mov (.t 5)), Oo 41 (.slL 2 (.t 39) none (some (.t 40))), Oo 4 (.mov (.t 41))])
  .ret))))))
abbrev h73 : HF := ⟨h73c, [.tmp 4], 42, true⟩
theorem h73_ok : (Try.f73.body).bind (compileC Try.prog) = some h73c.er := by kernel_rfl
theorem r73_ok : Try.f73.results.toList.mapM (retOf Try.prog) = some [.tmp 4] := by kernel_rfl

/-- slices.Clone[[]depository/api.Run,depository/api.Run] -/
def h74c : HC :=
  (.seq (.region [Oo 2 (.mov (.k (.slice none 0 0)))])
  (.seq (.seq (.region [Oo 3 (.mov (.t 0)), Oo 4 (.isnil false false (.t 3))])
  (.cond (.t 4) (.seq (.region [Oo 2 (.mov (.k (.slice none 0 0)))])
  .ret)
  .skip))
  (.seq (.region [Oo 5 (.bslc 2 0 [Zi 0, Zi 0] []), Oo 6 (.mov (.t 0)), Oo 7 (.app 2 16 [Zi 0, Zi 0] (.t 5) (.t 6)), Oo 2 (.mov (.t 7))])
  .ret)))
abbrev h74 : HF := ⟨h74c, [.tmp 2], 8, true⟩
theorem h74_ok : (Try.f74.body).bind (compileC Try.prog) = some h74c.er := by kernel_rfl
theorem r74_ok : Try.f74.results.toList.mapM (retOf Try.prog) = some [.tmp 2] := by kernel_rfl

/-- depository/depositoryref03.isRun -/
def h75c : HC :=
  (.seq (.region [Oo 1 (.box (.t 0)), Oo 2 (.mov (.k (.bool false)))])
  (.seq (.seq (.region [Oo 3 (.addo 0 (.t 1)), Oo 4 (.load false 1 (.t 3)), Oo 5 (.bin .eql (.t 4) (Ki (-1)))])
  (.cond (.t 5) (.seq (.region [Oo 6 (.addo 1 (.t 1)), Oo 7 (.load false 1 (.t 6)), Oo 8 (.call 21 [(.t 7), (Ki 1), (Ki 4096)]), Oo 2 (.mov (.t 8))])
  .ret)
  .skip))
  (.seq (.region [Oo 9 (.addo 0 (.t 1)), Oo 10 (.load false 1 (.t 9)), Oo 11 (.call 21 [(.t 10), (Ki 0), (Ki 511)]), Oo 12 (.mov (.t 11)), Og 12 true 13 (.addo 1 (.t 1)), Og 12 true 14 (.load false 1 (.t 13)), Og 12 true 15 (.addo 0 (.t 1)), Og 12 true 16 (.load false 1 (.t 15)), Og 12 true 17 (.bin .sub (Ki 512) (.t 16)), Og 12 true 18 (.call 21 [(.t 14), (Ki 1), (.t 17)]), Oo 19 (.pick (.t 12) (.t 18) (.k (.bool false))), Oo 2 (.mov (.t 19))])
  .ret)))
abbrev h75 : HF := ⟨h75c, [.tmp 2], 20, false⟩
theorem h75_ok : (Try.f75.body).bind (compileC Try.prog) = some h75c.er := by kernel_rfl
theorem r75_ok : Try.f75.results.toList.mapM (retOf Try.prog) = some [.tmp 2] := by kernel_rfl

/-- depository/depositorybase.Decimal -/
def h76l0 : HC :=
  (.seq (.seq (.region [Oo 10 (.mov (.t 0)), Oo 11 (.bin .neq (.t 10) (Ki 0))])
  (.cond (.t 11) .skip
  (.exit 0)))
  (.block 1 (.seq (.region [Oo 12 (.mov (.t 0)), Oo 13 (.bin .rem (.t 12) (Ki 10)), Oo 5 (.mov (.t 13))])
  (.seq (.region [Oo 14 (.mov (.t 5)), Oo 15 (.call 84 [(.t 14)]), Oo 16 (.bin .add (Ki 48) (.t 15)), Oo 17 (.conv .u8 (.t 16)), Oo 18 (.bslc 1 1 [(.int .u8 0)] [(0, (.t 17))]), Oo 19 (.cvbs (.t 18)), Oo 20 (.mov (.t 3)), Oo 21 (.bin .add (.t 19) (.t 20)), Oo 3 (.mov (.t 21))])
  (.region [Oo 22 (.mov (.t 0)), Oo 23 (.bin .quo (.t 22) (Ki 10)), Oo 0 (.mov (.t 23))])))))
def h76c : HC :=
  (.seq (.region [Oo 2 (.mov (.k (.string ⟨#[]⟩)))])
  (.seq (.seq (.region [Oo 6 (.mov (.t 0)), Oo 7 (.bin .eql (.t 6) (Ki 0))])
  (.cond (.t 7) (.seq (.region [Oo 2 (.mov (.k (.string ⟨#[48]⟩)))])
  .ret)
  .skip))
  (.seq (.region [Oo 3 (.mov (.k (.string ⟨#[]⟩))), Oo 4 (.mov (.k (.string ⟨#[]⟩)))])
  (.seq (.seq (.region [Oo 8 (.mov (.t 0)), Oo 9 (.bin .lss (.t 8) (Ki 0))])
  (.cond (.t 9) (.region [Oo 4 (.mov (.k (.string ⟨#[45]⟩)))])
  .skip))
  (.seq (.block 0 (.loop [0, 2, 0] h76l0))
  (.seq (.region [Oo 24 (.mov (.t 4)), Oo 25 (.mov (.t 3)), Oo 26 (.bin .add (.t 24) (.t 25)), Oo 2 (.mov (.t 26))])
  .ret))))))
abbrev h76 : HF := ⟨h76c, [.tmp 2], 27, false⟩
theorem h76_ok : (Try.f76.body).bind (compileC Try.prog) = some h76c.er := by kernel_rfl
theorem r76_ok : Try.f76.results.toList.mapM (retOf Try.prog) = some [.tmp 2] := by kernel_rfl

/-- depository/runs.within -/
def h77c : HC :=
  (.seq (.region [Oo 6 (.mov (.k (.bool false)))])
  (.seq (.region [Oo 7 (.mov (.t 1)), Oo 8 (.mov (.t 0)), Oo 9 (.bin .leq (.t 7) (.t 8)), Oo 10 (.mov (.t 9)), Og 10 true 11 (.mov (.t 0)), Og 10 true 12 (.mov (.t 2)), Og 10 true 13 (.bin .leq (.t 11) (.t 12)), Oo 14 (.pick (.t 10) (.t 13) (.k (.bool false))), Oo 6 (.mov (.t 14))])
  .ret))
abbrev h77 : HF := ⟨h77c, [.tmp 6], 15, false⟩
theorem h77_ok : (Try.f77.body).bind (compileC Try.prog) = some h77c.er := by kernel_rfl
theorem r77_ok : Try.f77.results.toList.mapM (retOf Try.prog) = some [.tmp 6] := by kernel_rfl

/-- (*depository/runs.list).add -/
def h78c : HC :=
  (.seq (.region [Oo 3 (.box (.t 1))])
  (.seq (.seq (.region [Oo 5 (.mov (.t 0)), Oo 6 (.nilc (.t 5)), Oo 7 (.addo 0 (.t 6)), Oo 8 (.load false 1 (.t 7)), Oo 9 (.lenL (.t 8)), Oo 4 (.mov (.t 9))])
  (.seq (.drawn [Qo (Oo 10 (.mov (.t 4))), Qo (Oo 11 (.bin .gtr (.t 10) (Ki 0))), Qo (Oo 12 (.mov (.t 11))), Qo (Og 12 true 13 (.mov (.t 0))), Qo (Og 12 true 14 (.nilc (.t 13))), Qo (Og 12 true 15 (.addo 0 (.t 14))), Qo (Og 12 true 16 (.load false 1 (.t 15))), Qo (Og 12 true 17 (.mov (.t 4))), Qo (Og 12 true 18 (.bin .sub (.t 17) (Ki 1))), Qo (Og 12 true 19 (.ixL 2 (.t 16) (.t 18))), Qo (Og 12 true 20 (.load true 2 (.t 19))), Qo (Og 12 true 21 (.load true 2 (.t 3))), Qe (Og 12 true 22 (.call 70 [(.t 20), (.t 21)])), Qo (Oo 23 (.pick (.t 12) (.t 22) (.k (.bool false))))])
  (.cond (.t 23) (.seq (.drawn [Qo (Oo 24 (.mov (.t 0))), Qo (Oo 25 (.nilc (.t 24))), Qo (Oo 26 (.addo 0 (.t 25))), Qo (Oo 27 (.load false 1 (.t 26))), Qo (Oo 28 (.mov (.t 4))), Qo (Oo 29 (.bin .sub (.t 28) (Ki 1))), Qo (Oo 30 (.ixL 2 (.t 27) (.t 29))), Qo (Oo 31 (.addo 1 (.t 30))), Qo (Oo 32 (.load false 1 (.t 31))), Qo (Oo 33 (.addo 1 (.t 3))), Qo (Oo 34 (.load false 1 (.t 33))), Qo (Oo 35 (.bin .add (.t 32) (.t 34))), Qo (Oo 36 (.ixL 2 (.t 27) (.t 29))), Qo (Oo 37 (.addo 1 (.t 36))), Qe (On (.store 1 (.t 37) (.t 35)))])
  .ret)
  .skip)))
  (.drawn [Qo (Oo 38 (.mov (.t 0))), Qo (Oo 39 (.mov (.t 0))), Qo (Oo 40 (.nilc (.t 39))), Qo (Oo 41 (.addo 0 (.t 40))), Qo (Oo 42 (.load false 1 (.t 41))), Qo (Oo 43 (.load true 2 (.t 3))), Qe (Oo 44 (.bslc 2 1 [Zi 0, Zi 0] [(0, (.t 43))])), Qe (Oo 45 (.app 2 16 [Zi 0, Zi 0] (.t 42) (.t 44))), Qo (Oo 46 (.nilc (.t 38))), Qo (Oo 47 (.addo 0 (.t 46))), Qe (On (.store 1 (.t 47) (.t 45)))])))
abbrev h78 : HF := ⟨h78c, [], 48, false⟩
theorem h78_ok : (Try.f78.body).bind (compileC Try.prog) = some h78c.er := by kernel_rfl
theorem r78_ok : Try.f78.results.toList.mapM (retOf Try.prog) = some [] := by kernel_rfl

/-- depository/depositoryref03.shares -/
def h79c : HC :=
  (.seq (.region [Oo 2 (.box (.t 0)), Oo 3 (.box (.t 1)), Oo 4 (.mov (.k (.bool false)))])
  (.seq (.region [Oo 5 (.addo 0 (.t 2)), Oo 6 (.load false 1 (.t 5)), Oo 7 (.bin .neq (.t 6) (Ki (-1))), Oo 8 (.mov (.t 7)), Og 8 true 9 (.addo 0 (.t 3)), Og 8 true 10 (.load false 1 (.t 9)), Og 8 true 11 (.bin .neq (.t 10) (Ki (-1))), Oo 12 (.pick (.t 8) (.t 11) (.k (.bool false))), Oo 13 (.mov (.t 12)), Og 13 true 14 (.addo 0 (.t 2)), Og 13 true 15 (.load false 1 (.t 14)), Og 13 true 16 (.addo 0 (.t 3)), Og 13 true 17 (.load false 1 (.t 16)), Og 13 true 18 (.addo 1 (.t 3)), Og 13 true 19 (.load false 1 (.t 18)), Og 13 true 20 (.bin .add (.t 17) (.t 19)), Og 13 true 21 (.bin .lss (.t 15) (.t 20)), Oo 22 (.pick (.t 13) (.t 21) (.k (.bool false))), Oo 23 (.mov (.t 22)), Og 23 true 24 (.addo 0 (.t 3)), Og 23 true 25 (.load false 1 (.t 24)), Og 23 true 26 (.addo 0 (.t 2)), Og 23 true 27 (.load false 1 (.t 26)), Og 23 true 28 (.addo 1 (.t 2)), Og 23 true 29 (.load false 1 (.t 28)), Og 23 true 30 (.bin .add (.t 27) (.t 29)), Og 23 true 31 (.bin .lss (.t 25) (.t 30)), Oo 32 (.pick (.t 23) (.t 31) (.k (.bool false))), Oo 4 (.mov (.t 32))])
  .ret))
abbrev h79 : HF := ⟨h79c, [.tmp 4], 33, false⟩
theorem h79_ok : (Try.f79.body).bind (compileC Try.prog) = some h79c.er := by kernel_rfl
theorem r79_ok : Try.f79.results.toList.mapM (retOf Try.prog) = some [.tmp 4] := by kernel_rfl

/-- depository/runs.number -/
def h80l0 : HC :=
  (.seq (.seq (.region [Oo 16 (.mov (.t 7)), Oo 17 (.bin .geq (.t 16) (Ki 0))])
  (.cond (.t 17) .skip
  (.exit 0)))
  (.seq (.block 1 (.region [Oo 20 (.mov (.t 6)), Oo 21 (.bin .shl (.t 20) (.k (.int .u64 8))), Oo 22 (.mov (.t 0)), Oo 23 (.nilc (.t 22)), Oo 24 (.load false 1 (.t 23)), Oo 25 (.mov (.t 7)), Oo 26 (.ixS (.t 24) (.t 25)), Oo 27 (.conv .i64 (.t 26)), Oo 28 (.bin .or (.t 21) (.t 27)), Oo 6 (.mov (.t 28))]))
  (.region [Oo 18 (.mov (.t 7)), Oo 19 (.bin .sub (.t 18) (Ki 1)), Oo 7 (.mov (.t 19))])))
def h80c : HC :=
  (.seq (.region [Oo 4 (.mov (Ki 0)), Oo 5 (.mov (.k (.bool false)))])
  (.seq (.seq (.region [Oo 8 (.mov (.t 1)), Oo 9 (.mov (.t 0)), Oo 10 (.nilc (.t 9)), Oo 11 (.load false 1 (.t 10)), Oo 12 (.lenS (.t 11)), Oo 13 (.bin .gtr (.t 8) (.t 12))])
  (.cond (.t 13) (.seq (.region [Oo 4 (.mov (Ki 0)), Oo 5 (.mov (.k (.bool false)))])
  .ret)
  .skip))
  (.seq (.region [Oo 6 (.mov (Ki 0))])
  (.seq (.seq (.region [Oo 14 (.mov (.t 1)), Oo 15 (.bin .sub (.t 14) (Ki 1)), Oo 7 (.mov (.t 15))])
  (.block 0 (.loop [0, 0, 4, 0] h80l0)))
  (.seq (.region [Oo 29 (.mov (.t 0)), Oo 30 (.mov (.t 0)), Oo 31 (.nilc (.t 30)), Oo 32 (.load false 1 (.t 31)), Oo 33 (.mov (.t 1)), Oo 34 (.slS (.t 32) (some (.t 33)) none), Oo 35 (.nilc (.t 29)), On (.store 1 (.t 35) (.t 34))])
  (.seq (.seq (.region [Oo 36 (.mov (.t 6)), Oo 37 (.mov (.t 1)), Oo 38 (.bin .mul (Ki 8) (.t 37)), Oo 39 (.bin .sub (.t 38) (Ki 1)), Oo 40 (.bin .shl (Ki 1) (.t 39)), Oo 41 (.bin .geq (.t 36) (.t 40))])
  (.cond (.t 41) (.region [Oo 42 (.mov (.t 6)), Oo 43 (.mov (.t 1)), Oo 44 (.bin .mul (Ki 8) (.t 43)), Oo 45 (.bin .shl (Ki 1) (.t 44)), Oo 46 (.bin .sub (.t 42) (.t 45)), Oo 6 (.mov (.t 46))])
  .skip))
  (.seq (.region [Oo 47 (.mov (.t 6)), Oo 48 (.mov (.t 6)), Oo 49 (.call 62 [(.t 48)]), Oo 50 (.mov (.t 1)), Oo 51 (.bin .eql (.t 49) (.t 50)), Oo 4 (.mov (.t 47)), Oo 5 (.mov (.t 51))])
  .ret)))))))
abbrev h80 : HF := ⟨h80c, [.tmp 4, .tmp 5], 52, false⟩
theorem h80_ok : (Try.f80.body).bind (compileC Try.prog) = some h80c.er := by kernel_rfl
theorem r80_ok : Try.f80.results.toList.mapM (retOf Try.prog) = some [.tmp 4, .tmp 5] := by kernel_rfl

/-- depository/depositorybase.LittleAt -/
def h81l0 : HC :=
  (.seq (.seq (.region [Oo 11 (.mov (.t 8)), Oo 12 (.bin .geq (.t 11) (Ki 0))])
  (.cond (.t 12) .skip
  (.exit 0)))
  (.seq (.block 1 (.region [Oo 15 (.mov (.t 7)), Oo 16 (.bin .mul (.t 15) (Ki 256)), Oo 17 (.mov (.t 0)), Oo 18 (.mov (.t 1)), Oo 19 (.mov (.t 8)), Oo 20 (.bin .add (.t 18) (.t 19)), Oo 21 (.ixS (.t 17) (.t 20)), Oo 22 (.conv .i64 (.t 21)), Oo 23 (.bin .add (.t 16) (.t 22)), Oo 7 (.mov (.t 23))]))
  (.region [Oo 13 (.mov (.t 8)), Oo 14 (.bin .sub (.t 13) (Ki 1)), Oo 8 (.mov (.t 14))])))
def h81c : HC :=
  (.seq (.region [Oo 6 (.mov (Ki 0))])
  (.seq (.region [Oo 7 (.mov (Ki 0))])
  (.seq (.seq (.region [Oo 9 (.mov (.t 2)), Oo 10 (.bin .sub (.t 9) (Ki 1)), Oo 8 (.mov (.t 10))])
  (.block 0 (.loop [0, 0, 5, 0] h81l0)))
  (.seq (.region [Oo 24 (.mov (.t 7)), Oo 6 (.mov (.t 24))])
  .ret))))
abbrev h81 : HF := ⟨h81c, [.tmp 6], 25, false⟩
theorem h81_ok : (Try.f81.body).bind (compileC Try.prog) = some h81c.er := by kernel_rfl
theorem r81_ok : Try.f81.results.toList.mapM (retOf Try.prog) = some [.tmp 6] := by kernel_rfl

/-- depository/depositorybase.Power -/
def h82c : HC :=
  (.seq (.region [Oo 2 (.mov (Ki 0))])
  (.seq (.region [Oo 3 (.mov (.t 0)), Oo 4 (.bin .shl (Ki 1) (.t 3)), Oo 2 (.mov (.t 4))])
  .ret))
abbrev h82 : HF := ⟨h82c, [.tmp 2], 5, false⟩
theorem h82_ok : (Try.f82.body).bind (compileC Try.prog) = some h82c.er := by kernel_rfl
theorem r82_ok : Try.f82.results.toList.mapM (retOf Try.prog) = some [.tmp 2] := by kernel_rfl

/-- slices.IndexFunc[[]depository/api.Run,depository/api.Run] -/
def h83l0 : HC :=
  (.seq (.region [Oo 9 (.bin .lss (.t 8) (.t 7))])
  (.seq (.cond (.t 9) .skip
  (.exit 0))
  (.seq (.block 1 (.seq (.region [Oo 10 (.mov (.t 8)), Oo 5 (.mov (.t 10))])
  (.seq (.region [Oo 11 (.mov (.t 1)), Oo 12 (.mov (.t 0)), Oo 13 (.mov (.t 5)), Oo 14 (.ixL 2 (.t 12) (.t 13)), Oo 15 (.load true 2 (.t 14)), Oo 16 (.callv (.t 11) [(.t 15)])])
  (.cond (.t 16) (.seq (.region [Oo 17 (.mov (.t 5)), Oo 4 (.mov (.t 17))])
  .ret)
  .skip))))
  (.region [Oo 18 (.bin .add (.t 8) (Ki 1)), Oo 8 (.mov (.t 18))]))))
def h83c : HC :=
  (.seq (.region [Oo 4 (.mov (Ki 0))])
  (.seq (.seq (.region [Oo 6 (.mov (.t 0)), Oo 7 (.lenL (.t 6)), Oo 8 (.mov (Ki 0))])
  (.block 0 (.loop [0, 0, 5, 0] h83l0)))
  (.seq (.region [Oo 4 (.mov (Ki (-1)))])
  .ret)))
abbrev h83 : HF := ⟨h83c, [.tmp 4], 19, false⟩
theorem h83_ok : (Try.f83.body).bind (compileC Try.prog) = some h83c.er := by kernel_rfl
theorem r83_ok : Try.f83.results.toList.mapM (retOf Try.prog) = some [.tmp 4] := by kernel_rfl

/-- depository/depositorybase.Size -/
def h84c : HC :=
  (.seq (.region [Oo 2 (.mov (Ki 0))])
  (.seq (.region [Oo 3 (.mov (.t 0)), Oo 4 (.mov (.t 0)), Oo 5 (.un .neg (.t 4)), Oo 6 (.max2 (.t 3) (.t 5)), Oo 2 (.mov (.t 6))])
  .ret))
abbrev h84 : HF := ⟨h84c, [.tmp 2], 7, false⟩
theorem h84_ok : (Try.f84.body).bind (compileC Try.prog) = some h84c.er := by kernel_rfl
theorem r84_ok : Try.f84.results.toList.mapM (retOf Try.prog) = some [.tmp 2] := by kernel_rfl


def Tbt : FuncId → Option HF
  | 3 => some h3
  | 4 => some h4
  | 5 => some h5
  | 6 => some h6
  | 7 => some h7
  | 8 => some h8
  | 10 => some h10
  | 11 => some h11
  | 12 => some h12
  | 13 => some h13
  | 14 => some h14
  | 15 => some h15
  | 16 => some h16
  | 17 => some h17
  | 18 => some h18
  | 19 => some h19
  | 20 => some h20
  | 21 => some h21
  | 22 => some h22
  | 23 => some h23
  | 24 => some h24
  | 25 => some h25
  | 26 => some h26
  | 27 => some h27
  | 28 => some h28
  | 29 => some h29
  | 30 => some h30
  | 31 => some h31
  | 32 => some h32
  | 33 => some h33
  | 34 => some h34
  | 35 => some h35
  | 36 => some h36
  | 37 => some h37
  | 38 => some h38
  | 39 => some h39
  | 40 => some h40
  | 41 => some h41
  | 42 => some h42
  | 43 => some h43
  | 44 => some h44
  | 45 => some h45
  | 46 => some h46
  | 47 => some h47
  | 48 => some h48
  | 49 => some h49
  | 50 => some h50
  | 51 => some h51
  | 52 => some h52
  | 53 => some h53
  | 54 => some h54
  | 55 => some h55
  | 56 => some h56
  | 57 => some h57
  | 58 => some h58
  | 59 => some h59
  | 60 => some h60
  | 61 => some h61
  | 62 => some h62
  | 63 => some h63
  | 64 => some h64
  | 65 => some h65
  | 66 => some h66
  | 67 => some h67
  | 68 => some h68
  | 69 => some h69
  | 70 => some h70
  | 71 => some h71
  | 72 => some h72
  | 73 => some h73
  | 75 => some h75
  | 76 => some h76
  | 77 => some h77
  | 78 => some h78
  | 79 => some h79
  | 80 => some h80
  | 81 => some h81
  | 82 => some h82
  | 83 => some h83
  | 84 => some h84
  | _ => none
def Tb (B : CallT) : HT := ⟨Tbt, B⟩

theorem Tb_ok (B : CallT) : HTOK Try.prog (Tb B) := by
  intro f h hf
  change Tbt f = some h at hf
  unfold Tbt at hf
  split at hf
  · injection hf with hf; subst hf; exact ⟨by kernel_rfl, _, Try.func3, Try.ntmps3, h3_ok, r3_ok⟩
  · injection hf with hf; subst hf; exact ⟨by kernel_rfl, _, Try.func4, Try.ntmps4, h4_ok, r4_ok⟩
  · injection hf with hf; subst hf; exact ⟨by kernel_rfl, _, Try.func5, Try.ntmps5, h5_ok, r5_ok⟩
  · injection hf with hf; subst hf; exact ⟨by kernel_rfl, _, Try.func6, Try.ntmps6, h6_ok, r6_ok⟩
  · injection hf with hf; subst hf; exact ⟨by kernel_rfl, _, Try.func7, Try.ntmps7, h7_ok, r7_ok⟩
  · injection hf with hf; subst hf; exact ⟨by kernel_rfl, _, Try.func8, Try.ntmps8, h8_ok, r8_ok⟩
  · injection hf with hf; subst hf; exact ⟨by kernel_rfl, _, Try.func10, Try.ntmps10, h10_ok, r10_ok⟩
  · injection hf with hf; subst hf; exact ⟨by kernel_rfl, _, Try.func11, Try.ntmps11, h11_ok, r11_ok⟩
  · injection hf with hf; subst hf; exact ⟨by kernel_rfl, _, Try.func12, Try.ntmps12, h12_ok, r12_ok⟩
  · injection hf with hf; subst hf; exact ⟨by kernel_rfl, _, Try.func13, Try.ntmps13, h13_ok, r13_ok⟩
  · injection hf with hf; subst hf; exact ⟨by kernel_rfl, _, Try.func14, Try.ntmps14, h14_ok, r14_ok⟩
  · injection hf with hf; subst hf; exact ⟨by kernel_rfl, _, Try.func15, Try.ntmps15, h15_ok, r15_ok⟩
  · injection hf with hf; subst hf; exact ⟨by kernel_rfl, _, Try.func16, Try.ntmps16, h16_ok, r16_ok⟩
  · injection hf with hf; subst hf; exact ⟨by kernel_rfl, _, Try.func17, Try.ntmps17, h17_ok, r17_ok⟩
  · injection hf with hf; subst hf; exact ⟨by kernel_rfl, _, Try.func18, Try.ntmps18, h18_ok, r18_ok⟩
  · injection hf with hf; subst hf; exact ⟨by kernel_rfl, _, Try.func19, Try.ntmps19, h19_ok, r19_ok⟩
  · injection hf with hf; subst hf; exact ⟨by kernel_rfl, _, Try.func20, Try.ntmps20, h20_ok, r20_ok⟩
  · injection hf with hf; subst hf; exact ⟨by kernel_rfl, _, Try.func21, Try.ntmps21, h21_ok, r21_ok⟩
  · injection hf with hf; subst hf; exact ⟨by kernel_rfl, _, Try.func22, Try.ntmps22, h22_ok, r22_ok⟩
  · injection hf with hf; subst hf; exact ⟨by kernel_rfl, _, Try.func23, Try.ntmps23, h23_ok, r23_ok⟩
  · injection hf with hf; subst hf; exact ⟨by kernel_rfl, _, Try.func24, Try.ntmps24, h24_ok, r24_ok⟩
  · injection hf with hf; subst hf; exact ⟨by kernel_rfl, _, Try.func25, Try.ntmps25, h25_ok, r25_ok⟩
  · injection hf with hf; subst hf; exact ⟨by kernel_rfl, _, Try.func26, Try.ntmps26, h26_ok, r26_ok⟩
  · injection hf with hf; subst hf; exact ⟨by kernel_rfl, _, Try.func27, Try.ntmps27, h27_ok, r27_ok⟩
  · injection hf with hf; subst hf; exact ⟨by kernel_rfl, _, Try.func28, Try.ntmps28, h28_ok, r28_ok⟩
  · injection hf with hf; subst hf; exact ⟨by kernel_rfl, _, Try.func29, Try.ntmps29, h29_ok, r29_ok⟩
  · injection hf with hf; subst hf; exact ⟨by kernel_rfl, _, Try.func30, Try.ntmps30, h30_ok, r30_ok⟩
  · injection hf with hf; subst hf; exact ⟨by kernel_rfl, _, Try.func31, Try.ntmps31, h31_ok, r31_ok⟩
  · injection hf with hf; subst hf; exact ⟨by kernel_rfl, _, Try.func32, Try.ntmps32, h32_ok, r32_ok⟩
  · injection hf with hf; subst hf; exact ⟨by kernel_rfl, _, Try.func33, Try.ntmps33, h33_ok, r33_ok⟩
  · injection hf with hf; subst hf; exact ⟨by kernel_rfl, _, Try.func34, Try.ntmps34, h34_ok, r34_ok⟩
  · injection hf with hf; subst hf; exact ⟨by kernel_rfl, _, Try.func35, Try.ntmps35, h35_ok, r35_ok⟩
  · injection hf with hf; subst hf; exact ⟨by kernel_rfl, _, Try.func36, Try.ntmps36, h36_ok, r36_ok⟩
  · injection hf with hf; subst hf; exact ⟨by kernel_rfl, _, Try.func37, Try.ntmps37, h37_ok, r37_ok⟩
  · injection hf with hf; subst hf; exact ⟨by kernel_rfl, _, Try.func38, Try.ntmps38, h38_ok, r38_ok⟩
  · injection hf with hf; subst hf; exact ⟨by kernel_rfl, _, Try.func39, Try.ntmps39, h39_ok, r39_ok⟩
  · injection hf with hf; subst hf; exact ⟨by kernel_rfl, _, Try.func40, Try.ntmps40, h40_ok, r40_ok⟩
  · injection hf with hf; subst hf; exact ⟨by kernel_rfl, _, Try.func41, Try.ntmps41, h41_ok, r41_ok⟩
  · injection hf with hf; subst hf; exact ⟨by kernel_rfl, _, Try.func42, Try.ntmps42, h42_ok, r42_ok⟩
  · injection hf with hf; subst hf; exact ⟨by kernel_rfl, _, Try.func43, Try.ntmps43, h43_ok, r43_ok⟩
  · injection hf with hf; subst hf; exact ⟨by kernel_rfl, _, Try.func44, Try.ntmps44, h44_ok, r44_ok⟩
  · injection hf with hf; subst hf; exact ⟨by kernel_rfl, _, Try.func45, Try.ntmps45, h45_ok, r45_ok⟩
  · injection hf with hf; subst hf; exact ⟨by kernel_rfl, _, Try.func46, Try.ntmps46, h46_ok, r46_ok⟩
  · injection hf with hf; subst hf; exact ⟨by kernel_rfl, _, Try.func47, Try.ntmps47, h47_ok, r47_ok⟩
  · injection hf with hf; subst hf; exact ⟨by kernel_rfl, _, Try.func48, Try.ntmps48, h48_ok, r48_ok⟩
  · injection hf with hf; subst hf; exact ⟨by kernel_rfl, _, Try.func49, Try.ntmps49, h49_ok, r49_ok⟩
  · injection hf with hf; subst hf; exact ⟨by kernel_rfl, _, Try.func50, Try.ntmps50, h50_ok, r50_ok⟩
  · injection hf with hf; subst hf; exact ⟨by kernel_rfl, _, Try.func51, Try.ntmps51, h51_ok, r51_ok⟩
  · injection hf with hf; subst hf; exact ⟨by kernel_rfl, _, Try.func52, Try.ntmps52, h52_ok, r52_ok⟩
  · injection hf with hf; subst hf; exact ⟨by kernel_rfl, _, Try.func53, Try.ntmps53, h53_ok, r53_ok⟩
  · injection hf with hf; subst hf; exact ⟨by kernel_rfl, _, Try.func54, Try.ntmps54, h54_ok, r54_ok⟩
  · injection hf with hf; subst hf; exact ⟨by kernel_rfl, _, Try.func55, Try.ntmps55, h55_ok, r55_ok⟩
  · injection hf with hf; subst hf; exact ⟨by kernel_rfl, _, Try.func56, Try.ntmps56, h56_ok, r56_ok⟩
  · injection hf with hf; subst hf; exact ⟨by kernel_rfl, _, Try.func57, Try.ntmps57, h57_ok, r57_ok⟩
  · injection hf with hf; subst hf; exact ⟨by kernel_rfl, _, Try.func58, Try.ntmps58, h58_ok, r58_ok⟩
  · injection hf with hf; subst hf; exact ⟨by kernel_rfl, _, Try.func59, Try.ntmps59, h59_ok, r59_ok⟩
  · injection hf with hf; subst hf; exact ⟨by kernel_rfl, _, Try.func60, Try.ntmps60, h60_ok, r60_ok⟩
  · injection hf with hf; subst hf; exact ⟨by kernel_rfl, _, Try.func61, Try.ntmps61, h61_ok, r61_ok⟩
  · injection hf with hf; subst hf; exact ⟨by kernel_rfl, _, Try.func62, Try.ntmps62, h62_ok, r62_ok⟩
  · injection hf with hf; subst hf; exact ⟨by kernel_rfl, _, Try.func63, Try.ntmps63, h63_ok, r63_ok⟩
  · injection hf with hf; subst hf; exact ⟨by kernel_rfl, _, Try.func64, Try.ntmps64, h64_ok, r64_ok⟩
  · injection hf with hf; subst hf; exact ⟨by kernel_rfl, _, Try.func65, Try.ntmps65, h65_ok, r65_ok⟩
  · injection hf with hf; subst hf; exact ⟨by kernel_rfl, _, Try.func66, Try.ntmps66, h66_ok, r66_ok⟩
  · injection hf with hf; subst hf; exact ⟨by kernel_rfl, _, Try.func67, Try.ntmps67, h67_ok, r67_ok⟩
  · injection hf with hf; subst hf; exact ⟨by kernel_rfl, _, Try.func68, Try.ntmps68, h68_ok, r68_ok⟩
  · injection hf with hf; subst hf; exact ⟨by kernel_rfl, _, Try.func69, Try.ntmps69, h69_ok, r69_ok⟩
  · injection hf with hf; subst hf; exact ⟨by kernel_rfl, _, Try.func70, Try.ntmps70, h70_ok, r70_ok⟩
  · injection hf with hf; subst hf; exact ⟨by kernel_rfl, _, Try.func71, Try.ntmps71, h71_ok, r71_ok⟩
  · injection hf with hf; subst hf; exact ⟨by kernel_rfl, _, Try.func72, Try.ntmps72, h72_ok, r72_ok⟩
  · injection hf with hf; subst hf; exact ⟨by kernel_rfl, _, Try.func73, Try.ntmps73, h73_ok, r73_ok⟩
  · injection hf with hf; subst hf; exact ⟨by kernel_rfl, _, Try.func75, Try.ntmps75, h75_ok, r75_ok⟩
  · injection hf with hf; subst hf; exact ⟨by kernel_rfl, _, Try.func76, Try.ntmps76, h76_ok, r76_ok⟩
  · injection hf with hf; subst hf; exact ⟨by kernel_rfl, _, Try.func77, Try.ntmps77, h77_ok, r77_ok⟩
  · injection hf with hf; subst hf; exact ⟨by kernel_rfl, _, Try.func78, Try.ntmps78, h78_ok, r78_ok⟩
  · injection hf with hf; subst hf; exact ⟨by kernel_rfl, _, Try.func79, Try.ntmps79, h79_ok, r79_ok⟩
  · injection hf with hf; subst hf; exact ⟨by kernel_rfl, _, Try.func80, Try.ntmps80, h80_ok, r80_ok⟩
  · injection hf with hf; subst hf; exact ⟨by kernel_rfl, _, Try.func81, Try.ntmps81, h81_ok, r81_ok⟩
  · injection hf with hf; subst hf; exact ⟨by kernel_rfl, _, Try.func82, Try.ntmps82, h82_ok, r82_ok⟩
  · injection hf with hf; subst hf; exact ⟨by kernel_rfl, _, Try.func83, Try.ntmps83, h83_ok, r83_ok⟩
  · injection hf with hf; subst hf; exact ⟨by kernel_rfl, _, Try.func84, Try.ntmps84, h84_ok, r84_ok⟩
  · cases hf

end Go.Proofs.Ytginjcpblgpcoaa
