/- The functions of the translation as codes with hints: printed by a program, held by the kernel against the translation. Conditions: none. -/
import Derived.Test.YtmognenhkecngaaGreatDoorNd
import Derived.Test.YtmognenhkecngaaGreatDoorChecked
import Derived.KernelRfl
namespace Go.Proofs.YtmognenhkecngaaGreatDoor

/-- depository/depositorylaw08.AttributeBytes -/
def h7c : HC :=
  (.seq (.region [Oo 2 (.box (.t 0)), Oo 4 (.mov (.k (.bool false)))])
  (.seq (.seq (.region [Oo 15 (.call 11 []), Oo 16 (.un .not (.t 15))])
  (.cond (.t 16) (.seq (.region [Oo 4 (.mov (.k (.bool false)))])
  .ret)
  .skip))
  (.seq (.seq (.region [Oo 17 (.load true 11 (.t 2)), Oo 18 (.call 12 [(.t 17)]), Oo 19 (.un .not (.t 18)), Oo 20 (.mov (.t 19)), Og 20 false 21 (.mov (.t 1)), Og 20 false 22 (.lenS (.t 21)), Og 20 false 23 (.bin .gtr (.t 22) (Ki 600)), Oo 24 (.pick (.t 20) (.k (.bool true)) (.t 23))])
  (.cond (.t 24) (.seq (.region [Oo 4 (.mov (.k (.bool true)))])
  .ret)
  .skip))
  (.seq (.region [Oo 25 (.load true 11 (.t 2)), Oo 26 (.call 14 [(.t 25)]), Oo 27 (.call 34 [(.t 26)]), Oo 5 (.mov (.t 27))])
  (.seq (.region [Oo 29 (.load true 11 (.t 2)), Oo 30 (.call 14 [(.t 29)]), Oo 31 (.call 35 [(.t 30)]), Oo 28 (.mov (.t 31)), Oo 32 (.ext (.t 28) 0), Oo 33 (.ext (.t 28) 1), Oo 6 (.mov (.t 32)), Oo 7 (.mov (.t 33))])
  (.seq (.region [Oo 35 (.load true 11 (.t 2)), Oo 36 (.call 14 [(.t 35)]), Oo 37 (.call 36 [(.t 36)]), Oo 34 (.mov (.t 37)), Oo 38 (.ext (.t 34) 0), Oo 39 (.ext (.t 34) 1), Oo 8 (.mov (.t 38)), Oo 9 (.mov (.t 39))])
  (.seq (.region [Oo 41 (.mov (.t 1)), Oo 42 (.call 37 [(.t 41)]), Oo 40 (.mov (.t 42)), Oo 43 (.ext (.t 40) 0), Oo 44 (.ext (.t 40) 1), Oo 10 (.alloc [Zi 0, (.string ⟨#[]⟩), Zi 0, Zi 0, (.bool false), (.string ⟨#[]⟩), Zi 0, (.slice none 0 0), Zi 0, Zi 0, Zi 0]), On (.store 11 (.t 10) (.t 43)), Oo 11 (.mov (.t 44))])
  (.seq (.region [Oo 46 (.mov (.t 1)), Oo 47 (.call 38 [(.t 46)]), Oo 45 (.mov (.t 47)), Oo 48 (.ext (.t 45) 0), Oo 49 (.ext (.t 45) 1), Oo 12 (.alloc [Zi 0, (.string ⟨#[]⟩), Zi 0, Zi 0, (.bool false), (.string ⟨#[]⟩), Zi 0, (.slice none 0 0), Zi 0, Zi 0, Zi 0]), On (.store 11 (.t 12) (.t 48)), Oo 13 (.mov (.t 49))])
  (.seq (.seq (.region [Oo 50 (.load true 11 (.t 10)), Oo 51 (.mov (.t 11)), Oo 52 (.load true 11 (.t 12)), Oo 53 (.mov (.t 13)), Oo 54 (.call 18 [(.t 50), (.t 51), (.t 52), (.t 53)]), Oo 55 (.un .not (.t 54))])
  (.cond (.t 55) (.seq (.region [Oo 4 (.mov (.k (.bool false)))])
  .ret)
  .skip))
  (.seq (.region [Oo 56 (.load true 11 (.t 2)), Oo 57 (.call 17 [(.t 56)]), Oo 14 (.mov (.t 57))])
  (.seq (.seq (.region [Oo 58 (.mov (.t 14)), Oo 59 (.bin .neq (.t 58) (Ki 0))])
  (.cond (.t 59) (.seq (.region [Oo 60 (.mov (.t 5)), Oo 61 (.mov (.t 14)), Oo 62 (.bin .eql (.t 60) (.t 61)), Oo 63 (.mov (.t 62)), Og 63 true 64 (.mov (.t 7)), Og 63 true 65 (.mov (.t 14)), Og 63 true 66 (.bin .eql (.t 64) (.t 65)), Oo 67 (.pick (.t 63) (.t 66) (.k (.bool false))), Oo 68 (.mov (.t 67)), Og 68 true 69 (.mov (.t 9)), Og 68 true 70 (.mov (.t 14)), Og 68 true 71 (.bin .eql (.t 69) (.t 70)), Oo 72 (.pick (.t 68) (.t 71) (.k (.bool false))), Oo 73 (.mov (.t 72)), Og 73 true 74 (.mov (.t 6)), Og 73 true 75 (.bin .eql (.t 74) (.k (.string ⟨#[]⟩))), Oo 76 (.pick (.t 73) (.t 75) (.k (.bool false))), Oo 77 (.mov (.t 76)), Og 77 true 78 (.mov (.t 8)), Og 77 true 79 (.bin .eql (.t 78) (Ki 0)), Oo 80 (.pick (.t 77) (.t 79) (.k (.bool false))), Oo 4 (.mov (.t 80))])
  .ret)
  .skip))
  (.seq (.region [Oo 81 (.mov (.t 5)), Oo 82 (.bin .eql (.t 81) (Ki 0)), Oo 83 (.mov (.t 82)), Og 83 true 84 (.mov (.t 7)), Og 83 true 85 (.bin .eql (.t 84) (Ki 0)), Oo 86 (.pick (.t 83) (.t 85) (.k (.bool false))), Oo 87 (.mov (.t 86)), Og 87 true 88 (.mov (.t 6)), Og 87 true 89 (.load true 11 (.t 2)), Og 87 true 90 (.call 39 [(.t 89)]), Og 87 true 91 (.bin .eql (.t 88) (.t 90)), Oo 92 (.pick (.t 87) (.t 91) (.k (.bool false))), Oo 93 (.mov (.t 92)), Og 93 true 94 (.mov (.t 9)), Og 93 true 95 (.bin .eql (.t 94) (Ki 0)), Oo 96 (.pick (.t 93) (.t 95) (.k (.bool false))), Oo 97 (.mov (.t 96)), Og 97 true 98 (.mov (.t 8)), Og 97 true 99 (.mov (.t 6)), Og 97 true 100 (.lenS (.t 99)), Og 97 true 101 (.bin .eql (.t 98) (.t 100)), Oo 102 (.pick (.t 97) (.t 101) (.k (.bool false))), Oo 4 (.mov (.t 102))])
  .ret))))))))))))
abbrev h7 : HF := ⟨h7c, [.tmp 4], 103, false⟩
theorem h7_ok : (Tryz.f7.body).bind (compileC Tryz.prog) = some h7c.er := by kernel_rfl
theorem r7_ok : Tryz.f7.results.toList.mapM (retOf Tryz.prog) = some [.tmp 4] := by kernel_rfl

/-- depository/depositorylaw08.AttributeBack -/
def h8c : HC :=
  (.seq (.region [Oo 2 (.box (.t 0)), Oo 4 (.mov (.k (.bool false)))])
  (.seq (.seq (.region [Oo 13 (.call 11 []), Oo 14 (.un .not (.t 13))])
  (.cond (.t 14) (.seq (.region [Oo 4 (.mov (.k (.bool false)))])
  .ret)
  .skip))
  (.seq (.seq (.region [Oo 15 (.mov (.t 1)), Oo 16 (.lenS (.t 15)), Oo 17 (.bin .gtr (.t 16) (Ki 600))])
  (.cond (.t 17) (.seq (.region [Oo 4 (.mov (.k (.bool true)))])
  .ret)
  .skip))
  (.seq (.seq (.region [Oo 19 (.mov (.t 1)), Oo 20 (.call 37 [(.t 19)]), Oo 18 (.mov (.t 20)), Oo 21 (.ext (.t 18) 0), Oo 22 (.ext (.t 18) 1), Oo 5 (.alloc [Zi 0, (.string ⟨#[]⟩), Zi 0, Zi 0, (.bool false), (.string ⟨#[]⟩), Zi 0, (.slice none 0 0), Zi 0, Zi 0, Zi 0]), On (.store 11 (.t 5) (.t 21)), Oo 6 (.mov (.t 22))])
  (.seq (.region [Oo 23 (.mov (.t 6)), Oo 24 (.bin .eql (.t 23) (Ki 0))])
  (.cond (.t 24) (.seq (.region [Oo 26 (.load true 11 (.t 5)), Oo 27 (.call 35 [(.t 26)]), Oo 25 (.mov (.t 27)), Oo 28 (.ext (.t 25) 0), Oo 29 (.ext (.t 25) 1), Oo 7 (.mov (.t 28)), Oo 8 (.mov (.t 29))])
  (.seq (.region [Oo 30 (.mov (.t 8)), Oo 31 (.bin .neq (.t 30) (Ki 0)), Oo 32 (.mov (.t 31)), Og 32 false 33 (.mov (.t 7)), Og 32 false 34 (.mov (.t 1)), Og 32 false 35 (.bin .neq (.t 33) (.t 34)), Oo 36 (.pick (.t 32) (.k (.bool true)) (.t 35))])
  (.cond (.t 36) (.seq (.region [Oo 4 (.mov (.k (.bool false)))])
  .ret)
  .skip)))
  .skip)))
  (.seq (.seq (.region [Oo 37 (.load true 11 (.t 2)), Oo 38 (.call 12 [(.t 37)]), Oo 39 (.un .not (.t 38)), Oo 40 (.mov (.t 39)), Og 40 false 41 (.load true 11 (.t 2)), Og 40 false 42 (.call 17 [(.t 41)]), Og 40 false 43 (.bin .neq (.t 42) (Ki 0)), Oo 44 (.pick (.t 40) (.k (.bool true)) (.t 43))])
  (.cond (.t 44) (.seq (.region [Oo 4 (.mov (.k (.bool true)))])
  .ret)
  .skip))
  (.seq (.region [Oo 46 (.load true 11 (.t 2)), Oo 47 (.call 14 [(.t 46)]), Oo 48 (.call 35 [(.t 47)]), Oo 45 (.mov (.t 48)), Oo 49 (.ext (.t 45) 0), Oo 50 (.ext (.t 45) 1), Oo 9 (.mov (.t 49)), Oo 10 (.mov (.t 50))])
  (.seq (.region [Oo 52 (.mov (.t 9)), Oo 53 (.call 37 [(.t 52)]), Oo 51 (.mov (.t 53)), Oo 54 (.ext (.t 51) 0), Oo 55 (.ext (.t 51) 1), Oo 11 (.alloc [Zi 0, (.string ⟨#[]⟩), Zi 0, Zi 0, (.bool false), (.string ⟨#[]⟩), Zi 0, (.slice none 0 0), Zi 0, Zi 0, Zi 0]), On (.store 11 (.t 11) (.t 54)), Oo 12 (.mov (.t 55))])
  (.seq (.region [Oo 56 (.mov (.t 10)), Oo 57 (.bin .eql (.t 56) (Ki 0)), Oo 58 (.mov (.t 57)), Og 58 true 59 (.mov (.t 9)), Og 58 true 60 (.lenS (.t 59)), Og 58 true 61 (.bin .rem (.t 60) (Ki 8)), Og 58 true 62 (.bin .eql (.t 61) (Ki 0)), Oo 63 (.pick (.t 58) (.t 62) (.k (.bool false))), Oo 64 (.mov (.t 63)), Og 64 true 65 (.mov (.t 12)), Og 64 true 66 (.bin .eql (.t 65) (Ki 0)), Oo 67 (.pick (.t 64) (.t 66) (.k (.bool false))), Oo 68 (.mov (.t 67)), Og 68 true 69 (.load true 11 (.t 11)), Og 68 true 70 (.load true 11 (.t 2)), Og 68 true 71 (.call 21 [(.t 69), (.t 70)]), Oo 72 (.pick (.t 68) (.t 71) (.k (.bool false))), Oo 4 (.mov (.t 72))])
  .ret))))))))
abbrev h8 : HF := ⟨h8c, [.tmp 4], 73, false⟩
theorem h8_ok : (Tryz.f8.body).bind (compileC Tryz.prog) = some h8c.er := by kernel_rfl
theorem r8_ok : Tryz.f8.results.toList.mapM (retOf Tryz.prog) = some [.tmp 4] := by kernel_rfl

/-- depository/depositorylaw08.awake -/
def h11c : HC :=
  (.seq (.region [Oo 0 (.mov (.k (.bool false)))])
  (.seq (.region [Oo 11 (.call 52 []), Oo 12 (.call 35 [(.t 11)]), Oo 10 (.mov (.t 12)), Oo 13 (.ext (.t 10) 0), Oo 14 (.ext (.t 10) 1), Oo 1 (.mov (.t 13)), Oo 2 (.mov (.t 14))])
  (.seq (.region [Oo 16 (.call 52 []), Oo 17 (.build [Zi 0, Zi 0] [(0, 1, (Ki 9)), (1, 1, (Ki 1))]), Oo 18 (.bslc 2 1 [Zi 0, Zi 0] [(0, (.t 17))]), Oo 19 (.call 13 [(.t 16), (.t 18)]), Oo 15 (.mov (.t 19)), Oo 20 (.ext (.t 15) 0), Oo 21 (.ext (.t 15) 1), Oo 3 (.alloc [Zi 0, (.string ⟨#[]⟩), Zi 0, Zi 0, (.bool false), (.string ⟨#[]⟩), Zi 0, (.slice none 0 0), Zi 0, Zi 0, Zi 0]), On (.store 11 (.t 3) (.t 20)), Oo 4 (.mov (.t 21))])
  (.seq (.region [Oo 23 (.load true 11 (.t 3)), Oo 24 (.call 36 [(.t 23)]), Oo 22 (.mov (.t 24)), Oo 25 (.ext (.t 22) 0), Oo 26 (.ext (.t 22) 1), Oo 5 (.mov (.t 25)), Oo 6 (.mov (.t 26))])
  (.seq (.region [Oo 28 (.call 53 []), Oo 29 (.call 22 [(.t 28), (Ki 1)]), Oo 27 (.mov (.t 29)), Oo 30 (.ext (.t 27) 0), Oo 31 (.ext (.t 27) 1), Oo 32 (.ext (.t 27) 2), Oo 7 (.alloc [Zi 0, (.string ⟨#[]⟩), Zi 0, Zi 0, (.bool false), (.string ⟨#[]⟩), Zi 0, (.slice none 0 0), Zi 0, Zi 0, Zi 0]), Oo 8 (.alloc [Zi 0, (.string ⟨#[]⟩), Zi 0, Zi 0, (.bool false), (.string ⟨#[]⟩), Zi 0, (.slice none 0 0), Zi 0, Zi 0, Zi 0]), On (.store 11 (.t 7) (.t 30)), On (.store 11 (.t 8) (.t 31)), Oo 9 (.mov (.t 32))])
  (.seq (.region [Oo 33 (.mov (.t 2)), Oo 34 (.bin .eql (.t 33) (Ki 0)), Oo 35 (.mov (.t 34)), Og 35 true 36 (.mov (.t 1)), Og 35 true 37 (.bin .eql (.t 36) (.k (.string ⟨#[128, 0, 0, 0, 32, 0, 0, 0, 0, 0, 24, 0, 0, 0, 2, 0, 3, 0, 0, 0, 24, 0, 0, 0, 97, 98, 99, 0, 0, 0, 0, 0]⟩))), Oo 38 (.pick (.t 35) (.t 37) (.k (.bool false))), Oo 39 (.mov (.t 38)), Og 39 true 40 (.mov (.t 4)), Og 39 true 41 (.bin .eql (.t 40) (Ki 0)), Oo 42 (.pick (.t 39) (.t 41) (.k (.bool false))), Oo 43 (.mov (.t 42)), Og 43 true 44 (.addo 8 (.t 3)), Og 43 true 45 (.load false 1 (.t 44)), Og 43 true 46 (.bin .eql (.t 45) (Ki 256)), Oo 47 (.pick (.t 43) (.t 46) (.k (.bool false))), Oo 48 (.mov (.t 47)), Og 48 true 49 (.addo 9 (.t 3)), Og 48 true 50 (.load false 1 (.t 49)), Og 48 true 51 (.bin .eql (.t 50) (Ki 3)), Oo 52 (.pick (.t 48) (.t 51) (.k (.bool false))), Oo 53 (.mov (.t 52)), Og 53 true 54 (.mov (.t 6)), Og 53 true 55 (.bin .eql (.t 54) (Ki 0)), Oo 56 (.pick (.t 53) (.t 55) (.k (.bool false))), Oo 57 (.mov (.t 56)), Og 57 true 58 (.mov (.t 5)), Og 57 true 59 (.bin .eql (.t 58) (Ki 48)), Oo 60 (.pick (.t 57) (.t 59) (.k (.bool false))), Oo 61 (.mov (.t 60)), Og 61 true 62 (.mov (.t 9)), Og 61 true 63 (.bin .eql (.t 62) (Ki 0)), Oo 64 (.pick (.t 61) (.t 63) (.k (.bool false))), Oo 65 (.mov (.t 64)), Og 65 true 66 (.addo 7 (.t 7)), Og 65 true 67 (.load false 1 (.t 66)), Og 65 true 68 (.call 54 [(.t 67)]), Og 65 true 69 (.bin .eql (.t 68) (.k (.string ⟨#[53, 43, 49]⟩))), Oo 70 (.pick (.t 65) (.t 69) (.k (.bool false))), Oo 71 (.mov (.t 70)), Og 71 true 72 (.addo 6 (.t 8)), Og 71 true 73 (.load false 1 (.t 72)), Og 71 true 74 (.bin .eql (.t 73) (Ki 1)), Oo 75 (.pick (.t 71) (.t 74) (.k (.bool false))), Oo 76 (.mov (.t 75)), Og 76 true 77 (.addo 7 (.t 8)), Og 76 true 78 (.load false 1 (.t 77)), Og 76 true 79 (.call 54 [(.t 78)]), Og 76 true 80 (.bin .eql (.t 79) (.k (.string ⟨#[54, 43, 51]⟩))), Oo 81 (.pick (.t 76) (.t 80) (.k (.bool false))), Oo 82 (.mov (.t 81)), Og 82 true 83 (.load true 11 (.t 8)), Og 82 true 84 (.call 44 [(.t 83)]), Og 82 true 85 (.call 45 [(.t 84)]), Og 82 true 86 (.bin .eql (.t 85) (.k (.string ⟨#[56, 48, 58, 115, 58, 49]⟩))), Oo 87 (.pick (.t 82) (.t 86) (.k (.bool false))), Oo 88 (.mov (.t 87)), Og 88 true 89 (.build [Zi 0, (.string ⟨#[]⟩), Zi 0, Zi 0, (.bool false), (.string ⟨#[]⟩), Zi 0, (.slice none 0 0), Zi 0, Zi 0, Zi 0] [(0, 1, (Ki 16))]), Og 88 true 90 (.call 34 [(.t 89)]), Og 88 true 91 (.bin .eql (.t 90) (Ki 20)), Oo 92 (.pick (.t 88) (.t 91) (.k (.bool false))), Oo 0 (.mov (.t 92))])
  .ret))))))
abbrev h11 : HF := ⟨h11c, [.tmp 0], 93, false⟩
theorem h11_ok : (Tryz.f11.body).bind (compileC Tryz.prog) = some h11c.er := by kernel_rfl
theorem r11_ok : Tryz.f11.results.toList.mapM (retOf Tryz.prog) = some [.tmp 0] := by kernel_rfl

/-- depository/depositorylaw08.few -/
def h12c : HC :=
  (.seq (.region [Oo 1 (.box (.t 0)), Oo 2 (.mov (.k (.bool false)))])
  (.seq (.region [Oo 3 (.addo 7 (.t 1)), Oo 4 (.load false 1 (.t 3)), Oo 5 (.lenL (.t 4)), Oo 6 (.bin .leq (.t 5) (Ki 80)), Oo 7 (.mov (.t 6)), Og 7 true 8 (.addo 5 (.t 1)), Og 7 true 9 (.load false 1 (.t 8)), Og 7 true 10 (.lenS (.t 9)), Og 7 true 11 (.bin .leq (.t 10) (Ki 500)), Oo 12 (.pick (.t 7) (.t 11) (.k (.bool false))), Oo 13 (.mov (.t 12)), Og 13 true 14 (.addo 1 (.t 1)), Og 13 true 15 (.load false 1 (.t 14)), Og 13 true 16 (.lenS (.t 15)), Og 13 true 17 (.bin .leq (.t 16) (Ki 60)), Oo 18 (.pick (.t 13) (.t 17) (.k (.bool false))), Oo 2 (.mov (.t 18))])
  .ret))
abbrev h12 : HF := ⟨h12c, [.tmp 2], 19, false⟩
theorem h12_ok : (Tryz.f12.body).bind (compileC Tryz.prog) = some h12c.er := by kernel_rfl
theorem r12_ok : Tryz.f12.results.toList.mapM (retOf Tryz.prog) = some [.tmp 2] := by kernel_rfl

/-- depository/attribute.MovedOut -/
def h13c : HC :=
  (.seq (.region [Oo 2 (.box (.t 0)), Oo 4 (.alloc [Zi 0, (.string ⟨#[]⟩), Zi 0, Zi 0, (.bool false), (.string ⟨#[]⟩), Zi 0, (.slice none 0 0), Zi 0, Zi 0, Zi 0]), Oo 5 (.mov (Ki 0))])
  (.seq (.seq (.drawn [Qo (Oo 14 (.load true 11 (.t 2))), Qo (Oo 15 (.call 34 [(.t 14)])), Qo (Oo 16 (.addo 4 (.t 2))), Qo (Oo 17 (.load false 1 (.t 16))), Qo (Oo 18 (.mov (.t 17))), Qo (Og 18 true 19 (.call 57 [])), Qo (Og 18 true 20 (.addo 0 (.t 2))), Qo (Og 18 true 21 (.load false 1 (.t 20))), Qo (Og 18 true 22 (.mpx false (.bool false) (.t 19) (.t 21))), Qo (Og 18 true 23 (.un .not (.t 22))), Qo (Oo 24 (.pick (.t 18) (.t 23) (.k (.bool false)))), Qe (Oo 25 (.call 56 [(.t 24), (Ki 20)])), Qe (Oo 26 (.bslc 1 2 [Zi 0] [(0, (.t 15)), (1, (.t 25))])), Qe (Oo 27 (.call 55 [(.t 26)])), Qo (Oo 6 (.mov (.t 27)))])
  (.seq (.region [Oo 28 (.mov (.t 6)), Oo 29 (.bin .neq (.t 28) (Ki 0))])
  (.cond (.t 29) (.seq (.region [Oo 30 (.build [Zi 0, (.string ⟨#[]⟩), Zi 0, Zi 0, (.bool false), (.string ⟨#[]⟩), Zi 0, (.slice none 0 0), Zi 0, Zi 0, Zi 0] []), Oo 31 (.mov (.t 6)), On (.store 11 (.t 4) (.t 30)), Oo 5 (.mov (.t 31))])
  .ret)
  .skip)))
  (.seq (.seq (.region [Oo 33 (.mov (.t 1)), Oo 34 (.call 58 [(.t 33)]), Oo 32 (.mov (.t 34)), Oo 35 (.ext (.t 32) 0), Oo 36 (.ext (.t 32) 1), Oo 7 (.mov (.t 35)), Oo 8 (.mov (.t 36))])
  (.seq (.region [Oo 37 (.mov (.t 8)), Oo 38 (.bin .neq (.t 37) (Ki 0))])
  (.cond (.t 38) (.seq (.region [Oo 39 (.build [Zi 0, (.string ⟨#[]⟩), Zi 0, Zi 0, (.bool false), (.string ⟨#[]⟩), Zi 0, (.slice none 0 0), Zi 0, Zi 0, Zi 0] []), Oo 40 (.mov (.t 8)), On (.store 11 (.t 4) (.t 39)), Oo 5 (.mov (.t 40))])
  .ret)
  .skip)))
  (.seq (.drawn [Qo (Oo 41 (.addo 0 (.t 2))), Qo (Oo 42 (.load false 1 (.t 41))), Qo (Oo 43 (.addo 1 (.t 2))), Qo (Oo 44 (.load false 1 (.t 43))), Qo (Oo 45 (.addo 2 (.t 2))), Qo (Oo 46 (.load false 1 (.t 45))), Qo (Oo 47 (.addo 3 (.t 2))), Qo (Oo 48 (.load false 1 (.t 47))), Qo (Oo 49 (.mov (.t 1))), Qo (Oo 50 (.call 59 [(.t 49)])), Qo (Oo 51 (.addo 5 (.t 2))), Qo (Oo 52 (.load false 1 (.t 51))), Qo (Oo 53 (.lenS (.t 52))), Qo (Oo 54 (.addo 5 (.t 2))), Qo (Oo 55 (.load false 1 (.t 54))), Qo (Oo 56 (.lenS (.t 55))), Qo (Oo 57 (.build [Zi 0, (.string ⟨#[]⟩), Zi 0, Zi 0, (.bool false), (.string ⟨#[]⟩), Zi 0, (.slice none 0 0), Zi 0, Zi 0, Zi 0] [(0, 1, (.t 42)), (1, 1, (.t 44)), (2, 1, (.t 46)), (3, 1, (.t 48)), (7, 1, (.t 50)), (9, 1, (.t 53)), (10, 1, (.t 56))])), Qe (Oo 9 (.alloc [Zi 0, (.string ⟨#[]⟩), Zi 0, Zi 0, (.bool false), (.string ⟨#[]⟩), Zi 0, (.slice none 0 0), Zi 0, Zi 0, Zi 0])), Qe (On (.store 11 (.t 9) (.t 57)))])
  (.seq (.region [Oo 58 (.load true 11 (.t 9)), Oo 59 (.call 60 [(.t 58)]), Oo 10 (.mov (.t 59))])
  (.seq (.region [Oo 60 (.mov (.t 1)), Oo 61 (.call 61 [(.t 60), (.f 62)]), Oo 11 (.mov (.t 61))])
  (.seq (.region [Oo 62 (.addo 5 (.t 2)), Oo 63 (.load false 1 (.t 62)), Oo 64 (.lenS (.t 63)), Oo 65 (.bin .add (.t 64) (Ki 256)), Oo 66 (.bin .sub (.t 65) (Ki 1)), Oo 67 (.bin .quo (.t 66) (Ki 256)), Oo 12 (.mov (.t 67))])
  (.seq (.seq (.region [Oo 68 (.mov (.t 11)), Oo 69 (.un .not (.t 68)), Oo 70 (.call 56 [(.t 69), (Ki 3)]), Oo 71 (.mov (.t 10)), Oo 72 (.mov (.t 12)), Oo 73 (.bin .eql (.t 71) (.t 72)), Oo 74 (.call 56 [(.t 73), (Ki 2)]), Oo 75 (.bslc 1 2 [Zi 0] [(0, (.t 70)), (1, (.t 74))]), Oo 76 (.call 55 [(.t 75)]), Oo 13 (.mov (.t 76))])
  (.seq (.region [Oo 77 (.mov (.t 13)), Oo 78 (.bin .neq (.t 77) (Ki 0))])
  (.cond (.t 78) (.seq (.region [Oo 79 (.build [Zi 0, (.string ⟨#[]⟩), Zi 0, Zi 0, (.bool false), (.string ⟨#[]⟩), Zi 0, (.slice none 0 0), Zi 0, Zi 0, Zi 0] []), Oo 80 (.mov (.t 13)), On (.store 11 (.t 4) (.t 79)), Oo 5 (.mov (.t 80))])
  .ret)
  .skip)))
  (.seq (.region [Oo 81 (.mov (.t 10)), Oo 82 (.bin .mul (.t 81) (Ki 256)), Oo 83 (.addo 8 (.t 9)), On (.store 1 (.t 83) (.t 82))])
  (.seq (.region [Oo 84 (.load true 11 (.t 9)), Oo 85 (.call 63 [(.t 84)]), Oo 86 (.ext (.t 85) 0), Oo 87 (.ext (.t 85) 1), On (.store 11 (.t 4) (.t 86)), Oo 5 (.mov (.t 87))])
  .ret))))))))))
abbrev h13 : HF := ⟨h13c, [.cell 4 true 11, .tmp 5], 88, false⟩
theorem h13_ok : (Tryz.f13.body).bind (compileC Tryz.prog) = some h13c.er := by kernel_rfl
theorem r13_ok : Tryz.f13.results.toList.mapM (retOf Tryz.prog) = some [.cell 4 true 11, .tmp 5] := by kernel_rfl

/-- depository/depositorybase.CopyAttribute -/
def h14c : HC :=
  (.seq (.region [Oo 1 (.box (.t 0)), Oo 2 (.alloc [Zi 0, (.string ⟨#[]⟩), Zi 0, Zi 0, (.bool false), (.string ⟨#[]⟩), Zi 0, (.slice none 0 0), Zi 0, Zi 0, Zi 0])])
  (.seq (.region [Oo 3 (.addo 7 (.t 1)), Oo 4 (.load false 1 (.t 3)), Oo 5 (.call 15 [(.t 4)]), Oo 6 (.addo 7 (.t 1)), On (.store 1 (.t 6) (.t 5))])
  (.seq (.region [Oo 7 (.load true 11 (.t 1)), On (.store 11 (.t 2) (.t 7))])
  .ret)))
abbrev h14 : HF := ⟨h14c, [.cell 2 true 11], 8, false⟩
theorem h14_ok : (Tryz.f14.body).bind (compileC Tryz.prog) = some h14c.er := by kernel_rfl
theorem r14_ok : Tryz.f14.results.toList.mapM (retOf Tryz.prog) = some [.cell 2 true 11] := by kernel_rfl

/-- depository/depositorybase.CopyRuns -/
def h15c : HC :=
  (.seq (.region [Oo 2 (.mov (.k (.slice none 0 0)))])
  (.seq (.region [Oo 3 (.bslc 2 0 [Zi 0, Zi 0] []), Oo 4 (.mov (.t 0)), Oo 5 (.app 2 16 [Zi 0, Zi 0] (.t 3) (.t 4)), Oo 2 (.mov (.t 5))])
  .ret))
abbrev h15 : HF := ⟨h15c, [.tmp 2], 6, true⟩
theorem h15_ok : (Tryz.f15.body).bind (compileC Tryz.prog) = some h15c.er := by kernel_rfl
theorem r15_ok : Tryz.f15.results.toList.mapM (retOf Tryz.prog) = some [.tmp 2] := by kernel_rfl

/-- depository/depositoryref08.Err -/
def h17c : HC :=
  (.seq (.region [Oo 1 (.box (.t 0)), Oo 2 (.mov (Ki 0))])
  (.seq (.seq (.region [Oo 4 (.addo 0 (.t 1)), Oo 5 (.load false 1 (.t 4)), Oo 6 (.call 49 [(.t 5)]), Oo 7 (.un .not (.t 6))])
  (.cond (.t 7) (.seq (.region [Oo 2 (.mov (Ki 15))])
  .ret)
  .skip))
  (.seq (.seq (.region [Oo 8 (.addo 1 (.t 1)), Oo 9 (.load false 1 (.t 8)), Oo 10 (.call 50 [(.t 9)]), Oo 11 (.un .not (.t 10))])
  (.cond (.t 11) (.seq (.region [Oo 2 (.mov (Ki 4))])
  .ret)
  .skip))
  (.seq (.seq (.region [Oo 12 (.addo 2 (.t 1)), Oo 13 (.load false 1 (.t 12)), Oo 14 (.call 51 [(.t 13), (Ki 0), (Ki 65535)]), Oo 15 (.un .not (.t 14)), Oo 16 (.mov (.t 15)), Og 16 false 17 (.addo 3 (.t 1)), Og 16 false 18 (.load false 1 (.t 17)), Og 16 false 19 (.call 51 [(.t 18), (Ki 0), (Ki 7)]), Og 16 false 20 (.un .not (.t 19)), Oo 21 (.pick (.t 16) (.k (.bool true)) (.t 20))])
  (.cond (.t 21) (.seq (.region [Oo 2 (.mov (Ki 2))])
  .ret)
  .skip))
  (.seq (.region [Oo 22 (.load true 11 (.t 1)), Oo 23 (.call 64 [(.t 22)]), Oo 3 (.mov (.t 23))])
  (.seq (.seq (.region [Oo 24 (.addo 4 (.t 1)), Oo 25 (.load false 1 (.t 24))])
  (.cond (.t 25) (.region [Oo 26 (.load true 11 (.t 1)), Oo 27 (.call 65 [(.t 26)]), Oo 3 (.mov (.t 27))])
  .skip))
  (.seq (.seq (.region [Oo 28 (.mov (.t 3)), Oo 29 (.bin .eql (.t 28) (Ki 0)), Oo 30 (.mov (.t 29)), Og 30 true 31 (.load true 11 (.t 1)), Og 30 true 32 (.call 39 [(.t 31)]), Og 30 true 33 (.lenS (.t 32)), Og 30 true 34 (.bin .gtr (.t 33) (Ki 440)), Oo 35 (.pick (.t 30) (.t 34) (.k (.bool false)))])
  (.cond (.t 35) (.region [Oo 3 (.mov (Ki 16))])
  .skip))
  (.seq (.region [Oo 36 (.mov (.t 3)), Oo 2 (.mov (.t 36))])
  .ret))))))))
abbrev h17 : HF := ⟨h17c, [.tmp 2], 37, false⟩
theorem h17_ok : (Tryz.f17.body).bind (compileC Tryz.prog) = some h17c.er := by kernel_rfl
theorem r17_ok : Tryz.f17.results.toList.mapM (retOf Tryz.prog) = some [.tmp 2] := by kernel_rfl

/-- depository/depositorylaw08.same -/
def h18c : HC :=
  (.seq (.region [Oo 4 (.box (.t 0)), Oo 6 (.box (.t 2)), Oo 8 (.mov (.k (.bool false)))])
  (.seq (.region [Oo 9 (.mov (.t 1)), Oo 10 (.mov (.t 3)), Oo 11 (.bin .eql (.t 9) (.t 10)), Oo 12 (.mov (.t 11)), Og 12 true 13 (.mov (.t 3)), Og 12 true 14 (.bin .neq (.t 13) (Ki 0)), Og 12 true 15 (.mov (.t 14)), Og 15 true 16 (.load true 11 (.t 4)), Og 15 true 17 (.build [Zi 0, (.string ⟨#[]⟩), Zi 0, Zi 0, (.bool false), (.string ⟨#[]⟩), Zi 0, (.slice none 0 0), Zi 0, Zi 0, Zi 0] []), Og 15 true 18 (.call 21 [(.t 16), (.t 17)]), Og 12 true 19 (.pick (.t 15) (.t 18) (.k (.bool false))), Og 12 true 20 (.mov (.t 19)), Og 20 false 21 (.mov (.t 3)), Og 20 false 22 (.bin .eql (.t 21) (Ki 0)), Og 20 false 23 (.mov (.t 22)), Og 23 true 24 (.load true 11 (.t 4)), Og 23 true 25 (.load true 11 (.t 6)), Og 23 true 26 (.call 21 [(.t 24), (.t 25)]), Og 20 false 27 (.pick (.t 23) (.t 26) (.k (.bool false))), Og 12 true 28 (.pick (.t 20) (.k (.bool true)) (.t 27)), Oo 29 (.pick (.t 12) (.t 28) (.k (.bool false))), Oo 8 (.mov (.t 29))])
  .ret))
abbrev h18 : HF := ⟨h18c, [.tmp 8], 30, false⟩
theorem h18_ok : (Tryz.f18.body).bind (compileC Tryz.prog) = some h18c.er := by kernel_rfl
theorem r18_ok : Tryz.f18.results.toList.mapM (retOf Tryz.prog) = some [.tmp 8] := by kernel_rfl

/-- depository/depositorybase.SameAttribute -/
def h21c : HC :=
  (.seq (.region [Oo 2 (.box (.t 0)), Oo 3 (.box (.t 1)), Oo 4 (.mov (.k (.bool false)))])
  (.seq (.region [Oo 5 (.addo 0 (.t 2)), Oo 6 (.load false 1 (.t 5)), Oo 7 (.addo 0 (.t 3)), Oo 8 (.load false 1 (.t 7)), Oo 9 (.bin .eql (.t 6) (.t 8)), Oo 10 (.mov (.t 9)), Og 10 true 11 (.addo 1 (.t 2)), Og 10 true 12 (.load false 1 (.t 11)), Og 10 true 13 (.addo 1 (.t 3)), Og 10 true 14 (.load false 1 (.t 13)), Og 10 true 15 (.bin .eql (.t 12) (.t 14)), Oo 16 (.pick (.t 10) (.t 15) (.k (.bool false))), Oo 17 (.mov (.t 16)), Og 17 true 18 (.addo 2 (.t 2)), Og 17 true 19 (.load false 1 (.t 18)), Og 17 true 20 (.addo 2 (.t 3)), Og 17 true 21 (.load false 1 (.t 20)), Og 17 true 22 (.bin .eql (.t 19) (.t 21)), Oo 23 (.pick (.t 17) (.t 22) (.k (.bool false))), Oo 24 (.mov (.t 23)), Og 24 true 25 (.addo 3 (.t 2)), Og 24 true 26 (.load false 1 (.t 25)), Og 24 true 27 (.addo 3 (.t 3)), Og 24 true 28 (.load false 1 (.t 27)), Og 24 true 29 (.bin .eql (.t 26) (.t 28)), Oo 30 (.pick (.t 24) (.t 29) (.k (.bool false))), Oo 31 (.mov (.t 30)), Og 31 true 32 (.addo 4 (.t 2)), Og 31 true 33 (.load false 1 (.t 32)), Og 31 true 34 (.addo 4 (.t 3)), Og 31 true 35 (.load false 1 (.t 34)), Og 31 true 36 (.binb false (.t 33) (.t 35)), Oo 37 (.pick (.t 31) (.t 36) (.k (.bool false))), Oo 38 (.mov (.t 37)), Og 38 true 39 (.addo 5 (.t 2)), Og 38 true 40 (.load false 1 (.t 39)), Og 38 true 41 (.addo 5 (.t 3)), Og 38 true 42 (.load false 1 (.t 41)), Og 38 true 43 (.bin .eql (.t 40) (.t 42)), Oo 44 (.pick (.t 38) (.t 43) (.k (.bool false))), Oo 45 (.mov (.t 44)), Og 45 true 46 (.addo 6 (.t 2)), Og 45 true 47 (.load false 1 (.t 46)), Og 45 true 48 (.addo 6 (.t 3)), Og 45 true 49 (.load false 1 (.t 48)), Og 45 true 50 (.bin .eql (.t 47) (.t 49)), Oo 51 (.pick (.t 45) (.t 50) (.k (.bool false))), Oo 52 (.mov (.t 51)), Og 52 true 53 (.addo 7 (.t 2)), Og 52 true 54 (.load false 1 (.t 53)), Og 52 true 55 (.addo 7 (.t 3)), Og 52 true 56 (.load false 1 (.t 55)), Og 52 true 57 (.call 71 [(.t 54), (.t 56)]), Oo 58 (.pick (.t 52) (.t 57) (.k (.bool false))), Oo 59 (.mov (.t 58)), Og 59 true 60 (.addo 8 (.t 2)), Og 59 true 61 (.load false 1 (.t 60)), Og 59 true 62 (.addo 8 (.t 3)), Og 59 true 63 (.load false 1 (.t 62)), Og 59 true 64 (.bin .eql (.t 61) (.t 63)), Oo 65 (.pick (.t 59) (.t 64) (.k (.bool false))), Oo 66 (.mov (.t 65)), Og 66 true 67 (.addo 9 (.t 2)), Og 66 true 68 (.load false 1 (.t 67)), Og 66 true 69 (.addo 9 (.t 3)), Og 66 true 70 (.load false 1 (.t 69)), Og 66 true 71 (.bin .eql (.t 68) (.t 70)), Oo 72 (.pick (.t 66) (.t 71) (.k (.bool false))), Oo 73 (.mov (.t 72)), Og 73 true 74 (.addo 10 (.t 2)), Og 73 true 75 (.load false 1 (.t 74)), Og 73 true 76 (.addo 10 (.t 3)), Og 73 true 77 (.load false 1 (.t 76)), Og 73 true 78 (.bin .eql (.t 75) (.t 77)), Oo 79 (.pick (.t 73) (.t 78) (.k (.bool false))), Oo 4 (.mov (.t 79))])
  .ret))
abbrev h21 : HF := ⟨h21c, [.tmp 4], 80, false⟩
theorem h21_ok : (Tryz.f21.body).bind (compileC Tryz.prog) = some h21c.er := by kernel_rfl
theorem r21_ok : Tryz.f21.results.toList.mapM (retOf Tryz.prog) = some [.tmp 4] := by kernel_rfl

/-- depository/attribute.Split -/
def h22c : HC :=
  (.seq (.region [Oo 2 (.box (.t 0)), Oo 4 (.alloc [Zi 0, (.string ⟨#[]⟩), Zi 0, Zi 0, (.bool false), (.string ⟨#[]⟩), Zi 0, (.slice none 0 0), Zi 0, Zi 0, Zi 0]), Oo 5 (.alloc [Zi 0, (.string ⟨#[]⟩), Zi 0, Zi 0, (.bool false), (.string ⟨#[]⟩), Zi 0, (.slice none 0 0), Zi 0, Zi 0, Zi 0]), Oo 6 (.mov (Ki 0))])
  (.seq (.seq (.drawn [Qo (Oo 11 (.load true 11 (.t 2))), Qo (Oo 12 (.call 34 [(.t 11)])), Qo (Oo 13 (.addo 4 (.t 2))), Qo (Oo 14 (.load false 1 (.t 13))), Qo (Oo 15 (.un .not (.t 14))), Qe (Oo 16 (.call 56 [(.t 15), (Ki 20)])), Qe (Oo 17 (.bslc 1 2 [Zi 0] [(0, (.t 12)), (1, (.t 16))])), Qe (Oo 18 (.call 55 [(.t 17)])), Qo (Oo 7 (.mov (.t 18)))])
  (.seq (.region [Oo 19 (.mov (.t 7)), Oo 20 (.bin .neq (.t 19) (Ki 0))])
  (.cond (.t 20) (.seq (.region [Oo 21 (.build [Zi 0, (.string ⟨#[]⟩), Zi 0, Zi 0, (.bool false), (.string ⟨#[]⟩), Zi 0, (.slice none 0 0), Zi 0, Zi 0, Zi 0] []), Oo 22 (.build [Zi 0, (.string ⟨#[]⟩), Zi 0, Zi 0, (.bool false), (.string ⟨#[]⟩), Zi 0, (.slice none 0 0), Zi 0, Zi 0, Zi 0] []), Oo 23 (.mov (.t 7)), On (.store 11 (.t 4) (.t 21)), On (.store 11 (.t 5) (.t 22)), Oo 6 (.mov (.t 23))])
  .ret)
  .skip)))
  (.seq (.region [Oo 24 (.load true 11 (.t 2)), Oo 25 (.call 60 [(.t 24)]), Oo 8 (.mov (.t 25))])
  (.seq (.seq (.region [Oo 26 (.mov (.t 1)), Oo 27 (.addo 6 (.t 2)), Oo 28 (.load false 1 (.t 27)), Oo 29 (.bin .add (.t 28) (Ki 1)), Oo 30 (.addo 6 (.t 2)), Oo 31 (.load false 1 (.t 30)), Oo 32 (.mov (.t 8)), Oo 33 (.bin .add (.t 31) (.t 32)), Oo 34 (.bin .sub (.t 33) (Ki 1)), Oo 35 (.call 72 [(.t 26), (.t 29), (.t 34)]), Oo 36 (.un .not (.t 35))])
  (.cond (.t 36) (.seq (.region [Oo 37 (.build [Zi 0, (.string ⟨#[]⟩), Zi 0, Zi 0, (.bool false), (.string ⟨#[]⟩), Zi 0, (.slice none 0 0), Zi 0, Zi 0, Zi 0] []), Oo 38 (.build [Zi 0, (.string ⟨#[]⟩), Zi 0, Zi 0, (.bool false), (.string ⟨#[]⟩), Zi 0, (.slice none 0 0), Zi 0, Zi 0, Zi 0] []), On (.store 11 (.t 4) (.t 37)), On (.store 11 (.t 5) (.t 38)), Oo 6 (.mov (Ki 2))])
  .ret)
  .skip))
  (.seq (.drawnF [(0, 11), (1, 11), (2, 11), (3, 11), (4, 11), (5, 11), (6, 11), (7, 11), (8, 11), (9, 11), (10, 11), (0, 12), (1, 12), (2, 12), (3, 12), (4, 12), (5, 12), (6, 12), (7, 12), (8, 12), (9, 12), (10, 12), (11, 12), (1, 13), (2, 13), (3, 13), (4, 13), (5, 13), (6, 13), (7, 13), (8, 13), (9, 13), (10, 13)] [Oo 39 (.load true 11 (.t 2)), Oo 40 (.addo 0 (.t 2)), Oo 41 (.load false 1 (.t 40)), Oo 42 (.addo 1 (.t 2)), Oo 43 (.load false 1 (.t 42)), Oo 44 (.addo 2 (.t 2)), Oo 45 (.load false 1 (.t 44)), Oo 46 (.addo 3 (.t 2)), Oo 47 (.load false 1 (.t 46)), Oo 48 (.mov (.t 1)), Oo 49 (.build [Zi 0, (.string ⟨#[]⟩), Zi 0, Zi 0, (.bool false), (.string ⟨#[]⟩), Zi 0, (.slice none 0 0), Zi 0, Zi 0, Zi 0] [(0, 1, (.t 41)), (1, 1, (.t 43)), (2, 1, (.t 45)), (3, 1, (.t 47)), (6, 1, (.t 48))]), Oo 9 (.alloc [Zi 0, (.string ⟨#[]⟩), Zi 0, Zi 0, (.bool false), (.string ⟨#[]⟩), Zi 0, (.slice none 0 0), Zi 0, Zi 0, Zi 0]), Oo 10 (.alloc [Zi 0, (.string ⟨#[]⟩), Zi 0, Zi 0, (.bool false), (.string ⟨#[]⟩), Zi 0, (.slice none 0 0), Zi 0, Zi 0, Zi 0]), On (.store 11 (.t 9) (.t 39)), On (.store 11 (.t 10) (.t 49))])
  (.seq (.region [Oo 51 (.addo 7 (.t 2)), Oo 52 (.load false 1 (.t 51)), Oo 53 (.mov (.t 1)), Oo 54 (.addo 6 (.t 2)), Oo 55 (.load false 1 (.t 54)), Oo 56 (.bin .sub (.t 53) (.t 55)), Oo 57 (.call 73 [(.t 52), (Ki 0), (.t 56)]), Oo 50 (.mov (.t 57)), Oo 58 (.ext (.t 50) 0), Oo 59 (.ext (.t 50) 1), Oo 60 (.addo 7 (.t 9)), On (.store 1 (.t 60) (.t 58))])
  (.seq (.region [Oo 62 (.addo 7 (.t 2)), Oo 63 (.load false 1 (.t 62)), Oo 64 (.mov (.t 1)), Oo 65 (.addo 6 (.t 2)), Oo 66 (.load false 1 (.t 65)), Oo 67 (.bin .sub (.t 64) (.t 66)), Oo 68 (.addo 6 (.t 2)), Oo 69 (.load false 1 (.t 68)), Oo 70 (.mov (.t 8)), Oo 71 (.bin .add (.t 69) (.t 70)), Oo 72 (.mov (.t 1)), Oo 73 (.bin .sub (.t 71) (.t 72)), Oo 74 (.call 73 [(.t 63), (.t 67), (.t 73)]), Oo 61 (.mov (.t 74)), Oo 75 (.ext (.t 61) 0), Oo 76 (.ext (.t 61) 1), Oo 77 (.addo 7 (.t 10)), On (.store 1 (.t 77) (.t 75))])
  (.seq (.drawnF [(1, 2)] [Oo 78 (.load true 11 (.t 9)), Oo 79 (.load true 11 (.t 10)), On (.store 11 (.t 4) (.t 78)), On (.store 11 (.t 5) (.t 79)), Oo 6 (.mov (Ki 0))])
  .ret))))))))
abbrev h22 : HF := ⟨h22c, [.cell 4 true 11, .cell 5 true 11, .tmp 6], 80, false⟩
theorem h22_ok : (Tryz.f22.body).bind (compileC Tryz.prog) = some h22c.er := by kernel_rfl
theorem r22_ok : Tryz.f22.results.toList.mapM (retOf Tryz.prog) = some [.cell 4 true 11, .cell 5 true 11, .tmp 6] := by kernel_rfl

/-- depository/attribute.CheckAttribute -/
def h34c : HC :=
  (.seq (.region [Oo 1 (.box (.t 0)), Oo 2 (.mov (Ki 0))])
  (.seq (.drawn [Qo (Oo 4 (.addo 0 (.t 1))), Qo (Oo 5 (.load false 1 (.t 4))), Qo (Oo 6 (.call 88 [(.t 5)])), Qo (Oo 7 (.call 56 [(.t 6), (Ki 15)])), Qo (Oo 8 (.addo 1 (.t 1))), Qo (Oo 9 (.load false 1 (.t 8))), Qo (Oo 10 (.call 89 [(.t 9)])), Qo (Oo 11 (.addo 2 (.t 1))), Qo (Oo 12 (.load false 1 (.t 11))), Qe (Oo 13 (.call 72 [(.t 12), (Ki 0), (Ki 65535)])), Qo (Oo 14 (.mov (.t 13))), Qo (Og 14 true 15 (.addo 3 (.t 1))), Qo (Og 14 true 16 (.load false 1 (.t 15))), Qe (Og 14 true 17 (.call 72 [(.t 16), (Ki 0), (Ki 7)])), Qo (Oo 18 (.pick (.t 14) (.t 17) (.k (.bool false)))), Qe (Oo 19 (.call 56 [(.t 18), (Ki 2)])), Qe (Oo 20 (.bslc 1 3 [Zi 0] [(0, (.t 7)), (1, (.t 10)), (2, (.t 19))])), Qe (Oo 21 (.call 55 [(.t 20)])), Qo (Oo 3 (.mov (.t 21)))])
  (.seq (.seq (.region [Oo 22 (.mov (.t 3)), Oo 23 (.bin .neq (.t 22) (Ki 0))])
  (.cond (.t 23) (.seq (.region [Oo 24 (.mov (.t 3)), Oo 2 (.mov (.t 24))])
  .ret)
  .skip))
  (.seq (.seq (.region [Oo 25 (.addo 4 (.t 1)), Oo 26 (.load false 1 (.t 25))])
  (.cond (.t 26) (.region [Oo 27 (.load true 11 (.t 1)), Oo 28 (.call 90 [(.t 27)]), Oo 3 (.mov (.t 28))])
  (.region [Oo 29 (.load true 11 (.t 1)), Oo 30 (.call 91 [(.t 29)]), Oo 3 (.mov (.t 30))])))
  (.seq (.seq (.region [Oo 31 (.mov (.t 3)), Oo 32 (.bin .neq (.t 31) (Ki 0))])
  (.cond (.t 32) (.seq (.region [Oo 33 (.mov (.t 3)), Oo 2 (.mov (.t 33))])
  .ret)
  .skip))
  (.seq (.region [Oo 34 (.load true 11 (.t 1)), Oo 35 (.call 92 [(.t 34)]), Oo 36 (.lenS (.t 35)), Oo 37 (.bin .leq (.t 36) (Ki 440)), Oo 38 (.call 56 [(.t 37), (Ki 16)]), Oo 2 (.mov (.t 38))])
  .ret))))))
abbrev h34 : HF := ⟨h34c, [.tmp 2], 39, false⟩
theorem h34_ok : (Tryz.f34.body).bind (compileC Tryz.prog) = some h34c.er := by kernel_rfl
theorem r34_ok : Tryz.f34.results.toList.mapM (retOf Tryz.prog) = some [.tmp 2] := by kernel_rfl

/-- depository/attribute.EncodeAttribute -/
def h35c : HC :=
  (.seq (.region [Oo 1 (.box (.t 0)), Oo 2 (.mov (.k (.string ⟨#[]⟩))), Oo 3 (.mov (Ki 0))])
  (.seq (.seq (.region [Oo 5 (.load true 11 (.t 1)), Oo 6 (.call 34 [(.t 5)]), Oo 4 (.mov (.t 6))])
  (.seq (.region [Oo 7 (.mov (.t 4)), Oo 8 (.bin .neq (.t 7) (Ki 0))])
  (.cond (.t 8) (.seq (.region [Oo 9 (.mov (.t 4)), Oo 2 (.mov (.k (.string ⟨#[]⟩))), Oo 3 (.mov (.t 9))])
  .ret)
  .skip)))
  (.seq (.region [Oo 10 (.load true 11 (.t 1)), Oo 11 (.call 92 [(.t 10)]), Oo 2 (.mov (.t 11)), Oo 3 (.mov (Ki 0))])
  .ret)))
abbrev h35 : HF := ⟨h35c, [.tmp 2, .tmp 3], 12, false⟩
theorem h35_ok : (Tryz.f35.body).bind (compileC Tryz.prog) = some h35c.er := by kernel_rfl
theorem r35_ok : Tryz.f35.results.toList.mapM (retOf Tryz.prog) = some [.tmp 2, .tmp 3] := by kernel_rfl

/-- depository/attribute.BytesOf -/
def h36c : HC :=
  (.seq (.region [Oo 1 (.box (.t 0)), Oo 2 (.mov (Ki 0)), Oo 3 (.mov (Ki 0))])
  (.seq (.region [Oo 7 (.load true 11 (.t 1)), Oo 8 (.call 35 [(.t 7)]), Oo 6 (.mov (.t 8)), Oo 9 (.ext (.t 6) 0), Oo 10 (.ext (.t 6) 1), Oo 4 (.mov (.t 9)), Oo 5 (.mov (.t 10))])
  (.seq (.region [Oo 11 (.mov (.t 4)), Oo 12 (.lenS (.t 11)), Oo 13 (.mov (.t 5)), Oo 2 (.mov (.t 12)), Oo 3 (.mov (.t 13))])
  .ret)))
abbrev h36 : HF := ⟨h36c, [.tmp 2, .tmp 3], 14, false⟩
theorem h36_ok : (Tryz.f36.body).bind (compileC Tryz.prog) = some h36c.er := by kernel_rfl
theorem r36_ok : Tryz.f36.results.toList.mapM (retOf Tryz.prog) = some [.tmp 2, .tmp 3] := by kernel_rfl

/-- depository/attribute.DecodeAttribute -/
def h37c : HC :=
  (.seq (.region [Oo 2 (.alloc [Zi 0, (.string ⟨#[]⟩), Zi 0, Zi 0, (.bool false), (.string ⟨#[]⟩), Zi 0, (.slice none 0 0), Zi 0, Zi 0, Zi 0]), Oo 3 (.mov (Ki 0))])
  (.seq (.seq (.region [Oo 7 (.mov (.t 0)), Oo 8 (.lenS (.t 7)), Oo 9 (.bin .gtr (.t 8) (Ki 440))])
  (.cond (.t 9) (.seq (.region [Oo 10 (.build [Zi 0, (.string ⟨#[]⟩), Zi 0, Zi 0, (.bool false), (.string ⟨#[]⟩), Zi 0, (.slice none 0 0), Zi 0, Zi 0, Zi 0] []), On (.store 11 (.t 2) (.t 10)), Oo 3 (.mov (Ki 8))])
  .ret)
  .skip))
  (.seq (.region [Oo 12 (.mov (.t 0)), Oo 13 (.call 93 [(.t 12)]), Oo 11 (.mov (.t 13)), Oo 14 (.ext (.t 11) 0), Oo 15 (.ext (.t 11) 1), Oo 4 (.alloc [Zi 0, (.string ⟨#[]⟩), Zi 0, Zi 0, (.bool false), (.string ⟨#[]⟩), Zi 0, (.slice none 0 0), Zi 0, Zi 0, Zi 0]), On (.store 11 (.t 4) (.t 14)), Oo 5 (.mov (.t 15))])
  (.seq (.seq (.region [Oo 16 (.mov (.t 5)), Oo 17 (.un .not (.t 16)), Oo 18 (.mov (.t 17)), Og 18 false 19 (.load true 11 (.t 4)), Og 18 false 20 (.call 92 [(.t 19)]), Og 18 false 21 (.mov (.t 0)), Og 18 false 22 (.bin .neq (.t 20) (.t 21)), Oo 23 (.pick (.t 18) (.k (.bool true)) (.t 22))])
  (.cond (.t 23) (.seq (.region [Oo 24 (.build [Zi 0, (.string ⟨#[]⟩), Zi 0, Zi 0, (.bool false), (.string ⟨#[]⟩), Zi 0, (.slice none 0 0), Zi 0, Zi 0, Zi 0] []), On (.store 11 (.t 2) (.t 24)), Oo 3 (.mov (Ki 3))])
  .ret)
  .skip))
  (.seq (.seq (.region [Oo 25 (.load true 11 (.t 4)), Oo 26 (.call 34 [(.t 25)]), Oo 6 (.mov (.t 26))])
  (.seq (.region [Oo 27 (.mov (.t 6)), Oo 28 (.bin .neq (.t 27) (Ki 0))])
  (.cond (.t 28) (.seq (.region [Oo 29 (.build [Zi 0, (.string ⟨#[]⟩), Zi 0, Zi 0, (.bool false), (.string ⟨#[]⟩), Zi 0, (.slice none 0 0), Zi 0, Zi 0, Zi 0] []), Oo 30 (.mov (.t 6)), On (.store 11 (.t 2) (.t 29)), Oo 3 (.mov (.t 30))])
  .ret)
  .skip)))
  (.seq (.region [Oo 31 (.load true 11 (.t 4)), On (.store 11 (.t 2) (.t 31)), Oo 3 (.mov (Ki 0))])
  .ret))))))
abbrev h37 : HF := ⟨h37c, [.cell 2 true 11, .tmp 3], 32, false⟩
theorem h37_ok : (Tryz.f37.body).bind (compileC Tryz.prog) = some h37c.er := by kernel_rfl
theorem r37_ok : Tryz.f37.results.toList.mapM (retOf Tryz.prog) = some [.cell 2 true 11, .tmp 3] := by kernel_rfl

/-- depository/depositoryref08.Decode -/
def h38l0 : HC :=
  (.seq (.seq (.region [Oo 115 (.mov (.t 10)), Oo 116 (.mov (.t 0)), Oo 117 (.lenS (.t 116)), Oo 118 (.bin .leq (.t 115) (.t 117)), Oo 119 (.mov (.t 118)), Og 119 true 120 (.mov (.t 9)), Og 119 true 121 (.un .not (.t 120)), Oo 122 (.pick (.t 119) (.t 121) (.k (.bool false)))])
  (.cond (.t 122) .skip
  (.exit 0)))
  (.seq (.block 1 (.seq (.region [Oo 126 (.mov (.t 0)), Oo 127 (.mov (.t 7)), Oo 128 (.mov (.t 10)), Oo 129 (.slS (.t 126) (some (.t 127)) (some (.t 128))), Oo 130 (.call 95 [(.t 129)]), Oo 125 (.mov (.t 130)), Oo 131 (.ext (.t 125) 0), Oo 132 (.ext (.t 125) 1), Oo 11 (.mov (.t 131)), Oo 12 (.mov (.t 132))])
  (.seq (.region [Oo 133 (.mov (.t 12)), Oo 134 (.bin .eql (.t 133) (Ki 0))])
  (.cond (.t 134) (.region [Oo 135 (.mov (.t 11)), Oo 136 (.addo 7 (.t 5)), On (.store 1 (.t 136) (.t 135)), Oo 9 (.mov (.k (.bool true)))])
  .skip))))
  (.region [Oo 123 (.mov (.t 10)), Oo 124 (.bin .add (.t 123) (Ki 1)), Oo 10 (.mov (.t 124))])))
def h38c : HC :=
  (.seq (.region [Oo 2 (.alloc [Zi 0, (.string ⟨#[]⟩), Zi 0, Zi 0, (.bool false), (.string ⟨#[]⟩), Zi 0, (.slice none 0 0), Zi 0, Zi 0, Zi 0]), Oo 3 (.mov (Ki 0))])
  (.seq (.seq (.region [Oo 14 (.mov (.t 0)), Oo 15 (.lenS (.t 14)), Oo 16 (.bin .gtr (.t 15) (Ki 440))])
  (.cond (.t 16) (.seq (.region [Oo 17 (.build [Zi 0, (.string ⟨#[]⟩), Zi 0, Zi 0, (.bool false), (.string ⟨#[]⟩), Zi 0, (.slice none 0 0), Zi 0, Zi 0, Zi 0] []), On (.store 11 (.t 2) (.t 17)), Oo 3 (.mov (Ki 8))])
  .ret)
  .skip))
  (.seq (.region [Oo 4 (.mov (Ki 3))])
  (.seq (.seq (.region [Oo 18 (.mov (.t 0)), Oo 19 (.lenS (.t 18)), Oo 20 (.bin .lss (.t 19) (Ki 24)), Oo 21 (.mov (.t 20)), Og 21 false 22 (.mov (.t 0)), Og 21 false 23 (.ixS (.t 22) (Ki 8)), Og 21 false 24 (.bin .gtr (.t 23) (.k (.int .u8 1))), Oo 25 (.pick (.t 21) (.k (.bool true)) (.t 24)), Oo 26 (.mov (.t 25)), Og 26 false 27 (.mov (.t 0)), Og 26 false 28 (.ixS (.t 27) (Ki 8)), Og 26 false 29 (.bin .eql (.t 28) (.k (.int .u8 1))), Og 26 false 30 (.mov (.t 29)), Og 30 true 31 (.mov (.t 0)), Og 30 true 32 (.lenS (.t 31)), Og 30 true 33 (.bin .lss (.t 32) (Ki 40)), Og 26 false 34 (.pick (.t 30) (.t 33) (.k (.bool false))), Oo 35 (.pick (.t 26) (.k (.bool true)) (.t 34))])
  (.cond (.t 35) (.seq (.region [Oo 36 (.build [Zi 0, (.string ⟨#[]⟩), Zi 0, Zi 0, (.bool false), (.string ⟨#[]⟩), Zi 0, (.slice none 0 0), Zi 0, Zi 0, Zi 0] []), Oo 37 (.mov (.t 4)), On (.store 11 (.t 2) (.t 36)), Oo 3 (.mov (.t 37))])
  .ret)
  .skip))
  (.seq (.drawn [Qo (Oo 38 (.mov (.t 0))), Qo (Oo 39 (.call 94 [(.t 38), (Ki 0), (Ki 4)])), Qo (Oo 40 (.mov (.t 0))), Qo (Oo 41 (.ixS (.t 40) (Ki 8))), Qo (Oo 42 (.bin .eql (.t 41) (.k (.int .u8 0)))), Qo (Oo 43 (.mov (.t 0))), Qo (Oo 44 (.call 94 [(.t 43), (Ki 12), (Ki 2)])), Qo (Oo 45 (.mov (.t 0))), Qo (Oo 46 (.call 94 [(.t 45), (Ki 14), (Ki 2)])), Qo (Oo 47 (.build [Zi 0, (.string ⟨#[]⟩), Zi 0, Zi 0, (.bool false), (.string ⟨#[]⟩), Zi 0, (.slice none 0 0), Zi 0, Zi 0, Zi 0] [(0, 1, (.t 39)), (4, 1, (.t 42)), (3, 1, (.t 44)), (2, 1, (.t 46))])), Qe (Oo 5 (.alloc [Zi 0, (.string ⟨#[]⟩), Zi 0, Zi 0, (.bool false), (.string ⟨#[]⟩), Zi 0, (.slice none 0 0), Zi 0, Zi 0, Zi 0])), Qe (On (.store 11 (.t 5) (.t 47)))])
  (.seq (.region [Oo 6 (.mov (Ki 24))])
  (.seq (.seq (.region [Oo 48 (.addo 4 (.t 5)), Oo 49 (.load false 1 (.t 48)), Oo 50 (.un .not (.t 49))])
  (.cond (.t 50) (.region [Oo 6 (.mov (Ki 40))])
  .skip))
  (.seq (.seq (.region [Oo 51 (.mov (.t 6)), Oo 52 (.mov (.t 0)), Oo 53 (.ixS (.t 52) (Ki 9)), Oo 54 (.conv .i64 (.t 53)), Oo 55 (.bin .add (.t 51) (.t 54)), Oo 56 (.mov (.t 0)), Oo 57 (.lenS (.t 56)), Oo 58 (.bin .gtr (.t 55) (.t 57))])
  (.cond (.t 58) (.seq (.region [Oo 59 (.build [Zi 0, (.string ⟨#[]⟩), Zi 0, Zi 0, (.bool false), (.string ⟨#[]⟩), Zi 0, (.slice none 0 0), Zi 0, Zi 0, Zi 0] []), Oo 60 (.mov (.t 4)), On (.store 11 (.t 2) (.t 59)), Oo 3 (.mov (.t 60))])
  .ret)
  .skip))
  (.seq (.region [Oo 61 (.mov (.t 0)), Oo 62 (.mov (.t 6)), Oo 63 (.mov (.t 6)), Oo 64 (.mov (.t 0)), Oo 65 (.ixS (.t 64) (Ki 9)), Oo 66 (.conv .i64 (.t 65)), Oo 67 (.bin .add (.t 63) (.t 66)), Oo 68 (.slS (.t 61) (some (.t 62)) (some (.t 67))), Oo 69 (.addo 1 (.t 5)), On (.store 1 (.t 69) (.t 68))])
  (.seq (.region [Oo 70 (.mov (.t 6)), Oo 71 (.mov (.t 0)), Oo 72 (.ixS (.t 71) (Ki 9)), Oo 73 (.conv .i64 (.t 72)), Oo 74 (.bin .add (.t 70) (.t 73)), Oo 75 (.call 70 [(.t 74), (Ki 8)]), Oo 76 (.bin .mul (Ki 8) (.t 75)), Oo 7 (.mov (.t 76))])
  (.seq (.seq (.region [Oo 77 (.mov (.t 7)), Oo 78 (.mov (.t 0)), Oo 79 (.lenS (.t 78)), Oo 80 (.bin .gtr (.t 77) (.t 79))])
  (.cond (.t 80) (.seq (.region [Oo 81 (.build [Zi 0, (.string ⟨#[]⟩), Zi 0, Zi 0, (.bool false), (.string ⟨#[]⟩), Zi 0, (.slice none 0 0), Zi 0, Zi 0, Zi 0] []), Oo 82 (.mov (.t 4)), On (.store 11 (.t 2) (.t 81)), Oo 3 (.mov (.t 82))])
  .ret)
  .skip))
  (.seq (.seq (.region [Oo 83 (.addo 4 (.t 5)), Oo 84 (.load false 1 (.t 83))])
  (.cond (.t 84) (.seq (.region [Oo 85 (.mov (.t 0)), Oo 86 (.call 94 [(.t 85), (Ki 16), (Ki 4)]), Oo 8 (.mov (.t 86))])
  (.seq (.seq (.region [Oo 87 (.mov (.t 7)), Oo 88 (.mov (.t 8)), Oo 89 (.bin .add (.t 87) (.t 88)), Oo 90 (.mov (.t 0)), Oo 91 (.lenS (.t 90)), Oo 92 (.bin .gtr (.t 89) (.t 91))])
  (.cond (.t 92) (.seq (.region [Oo 93 (.build [Zi 0, (.string ⟨#[]⟩), Zi 0, Zi 0, (.bool false), (.string ⟨#[]⟩), Zi 0, (.slice none 0 0), Zi 0, Zi 0, Zi 0] []), Oo 94 (.mov (.t 4)), On (.store 11 (.t 2) (.t 93)), Oo 3 (.mov (.t 94))])
  .ret)
  .skip))
  (.region [Oo 95 (.mov (.t 0)), Oo 96 (.mov (.t 7)), Oo 97 (.mov (.t 7)), Oo 98 (.mov (.t 8)), Oo 99 (.bin .add (.t 97) (.t 98)), Oo 100 (.slS (.t 95) (some (.t 96)) (some (.t 99))), Oo 101 (.addo 5 (.t 5)), On (.store 1 (.t 101) (.t 100))])))
  (.seq (.region [Oo 102 (.mov (.t 0)), Oo 103 (.call 94 [(.t 102), (Ki 16), (Ki 4)]), Oo 104 (.mov (.t 0)), Oo 105 (.call 94 [(.t 104), (Ki 28), (Ki 4)]), Oo 106 (.mov (.t 0)), Oo 107 (.call 94 [(.t 106), (Ki 32), (Ki 4)]), Oo 108 (.mov (.t 0)), Oo 109 (.call 94 [(.t 108), (Ki 36), (Ki 4)]), Oo 110 (.addo 6 (.t 5)), On (.store 1 (.t 110) (.t 103)), Oo 111 (.addo 8 (.t 5)), On (.store 1 (.t 111) (.t 105)), Oo 112 (.addo 9 (.t 5)), On (.store 1 (.t 112) (.t 107)), Oo 113 (.addo 10 (.t 5)), On (.store 1 (.t 113) (.t 109))])
  (.seq (.region [Oo 9 (.mov (.k (.bool false)))])
  (.seq (.seq (.region [Oo 114 (.mov (.t 7)), Oo 10 (.mov (.t 114))])
  (.block 0 (.loop [0, 1, 1, 0, 1, 1, 0] h38l0)))
  (.seq (.region [Oo 137 (.mov (.t 9)), Oo 138 (.un .not (.t 137))])
  (.cond (.t 138) (.seq (.region [Oo 139 (.build [Zi 0, (.string ⟨#[]⟩), Zi 0, Zi 0, (.bool false), (.string ⟨#[]⟩), Zi 0, (.slice none 0 0), Zi 0, Zi 0, Zi 0] []), Oo 140 (.mov (.t 4)), On (.store 11 (.t 2) (.t 139)), Oo 3 (.mov (.t 140))])
  .ret)
  .skip)))))))
  (.seq (.seq (.region [Oo 141 (.load true 11 (.t 5)), Oo 142 (.call 39 [(.t 141)]), Oo 143 (.mov (.t 0)), Oo 144 (.bin .neq (.t 142) (.t 143))])
  (.cond (.t 144) (.seq (.region [Oo 145 (.build [Zi 0, (.string ⟨#[]⟩), Zi 0, Zi 0, (.bool false), (.string ⟨#[]⟩), Zi 0, (.slice none 0 0), Zi 0, Zi 0, Zi 0] []), Oo 146 (.mov (.t 4)), On (.store 11 (.t 2) (.t 145)), Oo 3 (.mov (.t 146))])
  .ret)
  .skip))
  (.seq (.seq (.region [Oo 147 (.load true 11 (.t 5)), Oo 148 (.call 17 [(.t 147)]), Oo 13 (.mov (.t 148))])
  (.seq (.region [Oo 149 (.mov (.t 13)), Oo 150 (.bin .neq (.t 149) (Ki 0))])
  (.cond (.t 150) (.seq (.region [Oo 151 (.build [Zi 0, (.string ⟨#[]⟩), Zi 0, Zi 0, (.bool false), (.string ⟨#[]⟩), Zi 0, (.slice none 0 0), Zi 0, Zi 0, Zi 0] []), Oo 152 (.mov (.t 13)), On (.store 11 (.t 2) (.t 151)), Oo 3 (.mov (.t 152))])
  .ret)
  .skip)))
  (.seq (.region [Oo 153 (.load true 11 (.t 5)), On (.store 11 (.t 2) (.t 153)), Oo 3 (.mov (Ki 0))])
  .ret)))))))))))))))
abbrev h38 : HF := ⟨h38c, [.cell 2 true 11, .tmp 3], 154, false⟩
theorem h38_ok : (Tryz.f38.body).bind (compileC Tryz.prog) = some h38c.er := by kernel_rfl
theorem r38_ok : Tryz.f38.results.toList.mapM (retOf Tryz.prog) = some [.cell 2 true 11, .tmp 3] := by kernel_rfl

/-- depository/depositoryref08.Encode -/
def h39c : HC :=
  (.seq (.region [Oo 1 (.box (.t 0)), Oo 2 (.mov (.k (.string ⟨#[]⟩)))])
  (.seq (.drawn [Qo (Oo 9 (.addo 5 (.t 1))), Qo (Oo 10 (.load false 1 (.t 9))), Qo (Oo 3 (.mov (Ki 24))), Qo (Oo 4 (.mov (.t 10)))])
  (.seq (.seq (.region [Oo 11 (.addo 4 (.t 1)), Oo 12 (.load false 1 (.t 11)), Oo 13 (.un .not (.t 12))])
  (.cond (.t 13) (.region [Oo 14 (.addo 7 (.t 1)), Oo 15 (.load false 1 (.t 14)), Oo 16 (.call 96 [(.t 15)]), Oo 3 (.mov (Ki 40)), Oo 4 (.mov (.t 16))])
  .skip))
  (.seq (.region [Oo 17 (.mov (.t 3)), Oo 18 (.addo 1 (.t 1)), Oo 19 (.load false 1 (.t 18)), Oo 20 (.lenS (.t 19)), Oo 21 (.bin .add (.t 17) (.t 20)), Oo 22 (.call 70 [(.t 21), (Ki 8)]), Oo 23 (.bin .mul (Ki 8) (.t 22)), Oo 5 (.mov (.t 23))])
  (.seq (.drawn [Qo (Oo 24 (.addo 4 (.t 1))), Qo (Oo 25 (.load false 1 (.t 24))), Qo (Oo 26 (.un .not (.t 25))), Qo (Oo 27 (.call 98 [(.t 26)])), Qo (Oo 28 (.call 97 [(.t 27), (Ki 1)])), Qo (Oo 29 (.addo 1 (.t 1))), Qo (Oo 30 (.load false 1 (.t 29))), Qo (Oo 31 (.lenS (.t 30))), Qo (Oo 32 (.call 97 [(.t 31), (Ki 1)])), Qo (Oo 33 (.bin .add (.t 28) (.t 32))), Qo (Oo 34 (.mov (.t 3))), Qo (Oo 35 (.call 97 [(.t 34), (Ki 2)])), Qo (Oo 36 (.bin .add (.t 33) (.t 35))), Qo (Oo 37 (.addo 3 (.t 1))), Qo (Oo 38 (.load false 1 (.t 37))), Qo (Oo 39 (.call 97 [(.t 38), (Ki 2)])), Qo (Oo 40 (.bin .add (.t 36) (.t 39))), Qo (Oo 41 (.addo 2 (.t 1))), Qo (Oo 42 (.load false 1 (.t 41))), Qo (Oo 43 (.call 97 [(.t 42), (Ki 2)])), Qo (Oo 44 (.bin .add (.t 40) (.t 43))), Qo (Oo 6 (.mov (.t 44)))])
  (.seq (.seq (.region [Oo 45 (.addo 4 (.t 1)), Oo 46 (.load false 1 (.t 45))])
  (.cond (.t 46) (.region [Oo 47 (.mov (.t 6)), Oo 48 (.addo 5 (.t 1)), Oo 49 (.load false 1 (.t 48)), Oo 50 (.lenS (.t 49)), Oo 51 (.call 97 [(.t 50), (Ki 4)]), Oo 52 (.bin .add (.t 47) (.t 51)), Oo 53 (.mov (.t 5)), Oo 54 (.call 97 [(.t 53), (Ki 4)]), Oo 55 (.bin .add (.t 52) (.t 54)), Oo 6 (.mov (.t 55))])
  (.seq (.drawn [Qo (Oo 56 (.addo 6 (.t 1))), Qo (Oo 57 (.load false 1 (.t 56))), Qo (Oo 58 (.addo 7 (.t 1))), Qo (Oo 59 (.load false 1 (.t 58))), Qo (Oo 60 (.call 69 [(.t 59)])), Qo (Oo 61 (.bin .add (.t 57) (.t 60))), Qo (Oo 62 (.bin .sub (.t 61) (Ki 1))), Qe (Oo 63 (.call 99 [(.t 62), (Ki 4294967296)])), Qo (Oo 7 (.mov (.t 63)))])
  (.drawn [Qo (Oo 64 (.mov (.t 6))), Qo (Oo 65 (.addo 6 (.t 1))), Qo (Oo 66 (.load false 1 (.t 65))), Qo (Oo 67 (.call 97 [(.t 66), (Ki 4)])), Qo (Oo 68 (.bin .add (.t 64) (.t 67))), Qo (Oo 69 (.mov (.t 7))), Qo (Oo 70 (.call 97 [(.t 69), (Ki 4)])), Qo (Oo 71 (.bin .add (.t 68) (.t 70))), Qo (Oo 72 (.mov (.t 5))), Qo (Oo 73 (.call 97 [(.t 72), (Ki 2)])), Qo (Oo 74 (.bin .add (.t 71) (.t 73))), Qo (Oo 75 (.call 100 [(Ki 2)])), Qo (Oo 76 (.bin .add (.t 74) (.t 75))), Qo (Oo 77 (.addo 8 (.t 1))), Qo (Oo 78 (.load false 1 (.t 77))), Qo (Oo 79 (.call 97 [(.t 78), (Ki 4)])), Qo (Oo 80 (.bin .add (.t 76) (.t 79))), Qo (Oo 81 (.addo 9 (.t 1))), Qo (Oo 82 (.load false 1 (.t 81))), Qo (Oo 83 (.call 97 [(.t 82), (Ki 4)])), Qo (Oo 84 (.bin .add (.t 80) (.t 83))), Qo (Oo 85 (.addo 10 (.t 1))), Qo (Oo 86 (.load false 1 (.t 85))), Qo (Oo 87 (.call 97 [(.t 86), (Ki 4)])), Qo (Oo 88 (.bin .add (.t 84) (.t 87))), Qo (Oo 6 (.mov (.t 88)))]))))
  (.seq (.drawn [Qo (Oo 89 (.mov (.t 6))), Qo (Oo 90 (.addo 1 (.t 1))), Qo (Oo 91 (.load false 1 (.t 90))), Qo (Oo 92 (.bin .add (.t 89) (.t 91))), Qo (Oo 93 (.mov (.t 5))), Qo (Oo 94 (.mov (.t 3))), Qo (Oo 95 (.bin .sub (.t 93) (.t 94))), Qo (Oo 96 (.addo 1 (.t 1))), Qo (Oo 97 (.load false 1 (.t 96))), Qo (Oo 98 (.lenS (.t 97))), Qo (Oo 99 (.bin .sub (.t 95) (.t 98))), Qo (Oo 100 (.call 100 [(.t 99)])), Qo (Oo 101 (.bin .add (.t 92) (.t 100))), Qo (Oo 102 (.mov (.t 4))), Qo (Oo 103 (.bin .add (.t 101) (.t 102))), Qe (Oo 104 (.call 101 [(.t 103)])), Qo (Oo 105 (.bin .add (.t 104) (.k (.string ⟨#[]⟩)))), Qo (Oo 6 (.mov (.t 105)))])
  (.seq (.region [Oo 106 (.mov (.t 6)), Oo 107 (.lenS (.t 106)), Oo 108 (.bin .add (.t 107) (Ki 8)), Oo 109 (.call 70 [(.t 108), (Ki 8)]), Oo 110 (.bin .mul (Ki 8) (.t 109)), Oo 8 (.mov (.t 110))])
  (.seq (.region [Oo 111 (.addo 0 (.t 1)), Oo 112 (.load false 1 (.t 111)), Oo 113 (.call 97 [(.t 112), (Ki 4)]), Oo 114 (.mov (.t 8)), Oo 115 (.call 97 [(.t 114), (Ki 4)]), Oo 116 (.bin .add (.t 113) (.t 115)), Oo 117 (.mov (.t 6)), Oo 118 (.bin .add (.t 116) (.t 117)), Oo 2 (.mov (.t 118))])
  .ret)))))))))
abbrev h39 : HF := ⟨h39c, [.tmp 2], 119, false⟩
theorem h39_ok : (Tryz.f39.body).bind (compileC Tryz.prog) = some h39c.er := by kernel_rfl
theorem r39_ok : Tryz.f39.results.toList.mapM (retOf Tryz.prog) = some [.tmp 2] := by kernel_rfl

/-- depository/depositoryref08.KeyOf -/
def h44c : HC :=
  (.seq (.region [Oo 1 (.box (.t 0)), Oo 2 (.alloc [Zi 0, (.string ⟨#[]⟩), Zi 0])])
  (.seq (.region [Oo 3 (.addo 0 (.t 1)), Oo 4 (.load false 1 (.t 3)), Oo 5 (.addo 1 (.t 1)), Oo 6 (.load false 1 (.t 5)), Oo 7 (.addo 6 (.t 1)), Oo 8 (.load false 1 (.t 7)), Oo 9 (.build [Zi 0, (.string ⟨#[]⟩), Zi 0] [(0, 1, (.t 4)), (1, 1, (.t 6)), (2, 1, (.t 8))]), On (.store 3 (.t 2) (.t 9))])
  .ret))
abbrev h44 : HF := ⟨h44c, [.cell 2 true 3], 10, false⟩
theorem h44_ok : (Tryz.f44.body).bind (compileC Tryz.prog) = some h44c.er := by kernel_rfl
theorem r44_ok : Tryz.f44.results.toList.mapM (retOf Tryz.prog) = some [.cell 2 true 3] := by kernel_rfl

/-- depository/attribute.FormatKey -/
def h45c : HC :=
  (.seq (.region [Oo 1 (.box (.t 0)), Oo 2 (.mov (.k (.string ⟨#[]⟩)))])
  (.seq (.region [Oo 5 (.addo 0 (.t 1)), Oo 6 (.load false 1 (.t 5)), Oo 7 (.call 103 [(.t 6), (Ki 16)]), Oo 3 (.mov (.t 7))])
  (.seq (.region [Oo 4 (.mov (.k (.string ⟨#[]⟩)))])
  (.seq (.seq (.region [Oo 8 (.addo 0 (.t 1)), Oo 9 (.load false 1 (.t 8)), Oo 10 (.bin .lss (.t 9) (Ki 0))])
  (.cond (.t 10) (.drawn [Qo (Oo 11 (.mov (.t 3))), Qo (Oo 12 (.slS (.t 11) (some (Ki 1)) none)), Qo (Oo 4 (.mov (.k (.string ⟨#[45]⟩)))), Qo (Oo 3 (.mov (.t 12)))])
  .skip))
  (.seq (.seq (.region [Oo 13 (.mov (.t 3)), Oo 14 (.lenS (.t 13)), Oo 15 (.bin .lss (.t 14) (Ki 2))])
  (.cond (.t 15) (.region [Oo 16 (.mov (.t 3)), Oo 17 (.bin .add (.k (.string ⟨#[48]⟩)) (.t 16)), Oo 3 (.mov (.t 17))])
  .skip))
  (.seq (.drawn [Qo (Oo 18 (.mov (.t 4))), Qo (Oo 19 (.mov (.t 3))), Qo (Oo 20 (.bin .add (.t 18) (.t 19))), Qo (Oo 21 (.bin .add (.t 20) (.k (.string ⟨#[58]⟩)))), Qo (Oo 22 (.addo 1 (.t 1))), Qo (Oo 23 (.load false 1 (.t 22))), Qo (Oo 24 (.bin .add (.t 21) (.t 23))), Qo (Oo 25 (.bin .add (.t 24) (.k (.string ⟨#[58]⟩)))), Qo (Oo 26 (.addo 2 (.t 1))), Qo (Oo 27 (.load false 1 (.t 26))), Qo (Oo 28 (.call 104 [(.t 27)])), Qo (Oo 29 (.bin .add (.t 25) (.t 28))), Qo (Oo 2 (.mov (.t 29)))])
  .ret))))))
abbrev h45 : HF := ⟨h45c, [.tmp 2], 30, false⟩
theorem h45_ok : (Tryz.f45.body).bind (compileC Tryz.prog) = some h45c.er := by kernel_rfl
theorem r45_ok : Tryz.f45.results.toList.mapM (retOf Tryz.prog) = some [.tmp 2] := by kernel_rfl

/-- depository/depositoryref08.IsType -/
def h49c : HC :=
  (.seq (.region [Oo 2 (.mov (.k (.bool false)))])
  (.seq (.region [Oo 3 (.bslc 1 11 [Zi 0] [(0, (Ki 16)), (1, (Ki 32)), (2, (Ki 48)), (3, (Ki 64)), (4, (Ki 96)), (5, (Ki 112)), (6, (Ki 128)), (7, (Ki 144)), (8, (Ki 160)), (9, (Ki 176)), (10, (Ki 192))]), Oo 4 (.mov (.t 0)), Oo 5 (.call 113 [(.t 3), (.t 4)]), Oo 2 (.mov (.t 5))])
  .ret))
abbrev h49 : HF := ⟨h49c, [.tmp 2], 6, false⟩
theorem h49_ok : (Tryz.f49.body).bind (compileC Tryz.prog) = some h49c.er := by kernel_rfl
theorem r49_ok : Tryz.f49.results.toList.mapM (retOf Tryz.prog) = some [.tmp 2] := by kernel_rfl

/-- depository/depositoryref08.IsAttributeName -/
def h50c : HC :=
  (.seq (.region [Oo 2 (.mov (.k (.bool false)))])
  (.seq (.region [Oo 3 (.mov (.t 0)), Oo 4 (.bin .eql (.t 3) (.k (.string ⟨#[]⟩))), Oo 5 (.mov (.t 4)), Og 5 false 6 (.mov (.t 0)), Og 5 false 7 (.call 114 [(.t 6)]), Og 5 false 8 (.bin .eql (.t 7) (Ki 0)), Oo 9 (.pick (.t 5) (.k (.bool true)) (.t 8)), Oo 2 (.mov (.t 9))])
  .ret))
abbrev h50 : HF := ⟨h50c, [.tmp 2], 10, false⟩
theorem h50_ok : (Tryz.f50.body).bind (compileC Tryz.prog) = some h50c.er := by kernel_rfl
theorem r50_ok : Tryz.f50.results.toList.mapM (retOf Tryz.prog) = some [.tmp 2] := by kernel_rfl

/-- depository/depositorybase.Within -/
def h51c : HC :=
  (.seq (.region [Oo 6 (.mov (.k (.bool false)))])
  (.seq (.region [Oo 7 (.mov (.t 1)), Oo 8 (.mov (.t 0)), Oo 9 (.bin .leq (.t 7) (.t 8)), Oo 10 (.mov (.t 9)), Og 10 true 11 (.mov (.t 0)), Og 10 true 12 (.mov (.t 2)), Og 10 true 13 (.bin .leq (.t 11) (.t 12)), Oo 14 (.pick (.t 10) (.t 13) (.k (.bool false))), Oo 6 (.mov (.t 14))])
  .ret))
abbrev h51 : HF := ⟨h51c, [.tmp 6], 15, false⟩
theorem h51_ok : (Tryz.f51.body).bind (compileC Tryz.prog) = some h51c.er := by kernel_rfl
theorem r51_ok : Tryz.f51.results.toList.mapM (retOf Tryz.prog) = some [.tmp 6] := by kernel_rfl

/-- depository/depositorylaw08.Abc -/
def h52c : HC :=
  (.seq (.region [Oo 0 (.alloc [Zi 0, (.string ⟨#[]⟩), Zi 0, Zi 0, (.bool false), (.string ⟨#[]⟩), Zi 0, (.slice none 0 0), Zi 0, Zi 0, Zi 0])])
  (.seq (.region [Oo 1 (.build [Zi 0, (.string ⟨#[]⟩), Zi 0, Zi 0, (.bool false), (.string ⟨#[]⟩), Zi 0, (.slice none 0 0), Zi 0, Zi 0, Zi 0] [(0, 1, (Ki 128)), (2, 1, (Ki 2)), (4, 1, (.k (.bool true))), (5, 1, (.k (.string ⟨#[97, 98, 99]⟩)))]), On (.store 11 (.t 0) (.t 1))])
  .ret))
abbrev h52 : HF := ⟨h52c, [.cell 0 true 11], 2, false⟩
theorem h52_ok : (Tryz.f52.body).bind (compileC Tryz.prog) = some h52c.er := by kernel_rfl
theorem r52_ok : Tryz.f52.results.toList.mapM (retOf Tryz.prog) = some [.cell 0 true 11] := by kernel_rfl

/-- depository/depositorylaw08.Stream -/
def h53c : HC :=
  (.seq (.region [Oo 0 (.alloc [Zi 0, (.string ⟨#[]⟩), Zi 0, Zi 0, (.bool false), (.string ⟨#[]⟩), Zi 0, (.slice none 0 0), Zi 0, Zi 0, Zi 0])])
  (.seq (.region [Oo 1 (.build [Zi 0, Zi 0] [(0, 1, (Ki 5)), (1, 1, (Ki 4))]), Oo 2 (.bslc 2 1 [Zi 0, Zi 0] [(0, (.t 1))]), Oo 3 (.build [Zi 0, (.string ⟨#[]⟩), Zi 0, Zi 0, (.bool false), (.string ⟨#[]⟩), Zi 0, (.slice none 0 0), Zi 0, Zi 0, Zi 0] [(0, 1, (Ki 128)), (1, 1, (.k (.string ⟨#[115]⟩))), (2, 1, (Ki 3)), (7, 1, (.t 2)), (8, 1, (Ki 1024)), (9, 1, (Ki 1000)), (10, 1, (Ki 900))]), On (.store 11 (.t 0) (.t 3))])
  .ret))
abbrev h53 : HF := ⟨h53c, [.cell 0 true 11], 4, false⟩
theorem h53_ok : (Tryz.f53.body).bind (compileC Tryz.prog) = some h53c.er := by kernel_rfl
theorem r53_ok : Tryz.f53.results.toList.mapM (retOf Tryz.prog) = some [.cell 0 true 11] := by kernel_rfl

/-- depository/depositoryref03.Format -/
def h54l0 : HC :=
  (.seq (.seq (.region [Oo 6 (.mov (.t 4)), Oo 7 (.mov (.t 0)), Oo 8 (.lenL (.t 7)), Oo 9 (.bin .lss (.t 6) (.t 8))])
  (.cond (.t 9) .skip
  (.exit 0)))
  (.seq (.block 1 (.seq (.seq (.region [Oo 12 (.mov (.t 4)), Oo 13 (.bin .gtr (.t 12) (Ki 0))])
  (.cond (.t 13) (.region [Oo 14 (.mov (.t 3)), Oo 15 (.bin .add (.t 14) (.k (.string ⟨#[32]⟩))), Oo 3 (.mov (.t 15))])
  .skip))
  (.seq (.region [Oo 16 (.mov (.t 0)), Oo 17 (.mov (.t 4)), Oo 18 (.ixL 2 (.t 16) (.t 17)), Oo 19 (.addo 0 (.t 18)), Oo 20 (.load false 1 (.t 19)), Oo 21 (.call 112 [(.t 20)]), Oo 5 (.mov (.t 21))])
  (.seq (.seq (.region [Oo 22 (.mov (.t 0)), Oo 23 (.mov (.t 4)), Oo 24 (.ixL 2 (.t 22) (.t 23)), Oo 25 (.addo 0 (.t 24)), Oo 26 (.load false 1 (.t 25)), Oo 27 (.bin .eql (.t 26) (Ki (-1)))])
  (.cond (.t 27) (.region [Oo 5 (.mov (.k (.string ⟨#[45]⟩)))])
  .skip))
  (.region [Oo 28 (.mov (.t 3)), Oo 29 (.mov (.t 5)), Oo 30 (.bin .add (.t 28) (.t 29)), Oo 31 (.bin .add (.t 30) (.k (.string ⟨#[43]⟩))), Oo 32 (.mov (.t 0)), Oo 33 (.mov (.t 4)), Oo 34 (.ixL 2 (.t 32) (.t 33)), Oo 35 (.addo 1 (.t 34)), Oo 36 (.load false 1 (.t 35)), Oo 37 (.call 112 [(.t 36)]), Oo 38 (.bin .add (.t 31) (.t 37)), Oo 3 (.mov (.t 38))])))))
  (.region [Oo 10 (.mov (.t 4)), Oo 11 (.bin .add (.t 10) (Ki 1)), Oo 4 (.mov (.t 11))])))
def h54c : HC :=
  (.seq (.region [Oo 2 (.mov (.k (.string ⟨#[]⟩)))])
  (.seq (.region [Oo 3 (.mov (.k (.string ⟨#[]⟩)))])
  (.seq (.seq (.region [Oo 4 (.mov (Ki 0))])
  (.block 0 (.loop [0, 2, 0] h54l0)))
  (.seq (.region [Oo 39 (.mov (.t 3)), Oo 2 (.mov (.t 39))])
  .ret))))
abbrev h54 : HF := ⟨h54c, [.tmp 2], 40, false⟩
theorem h54_ok : (Tryz.f54.body).bind (compileC Tryz.prog) = some h54c.er := by kernel_rfl
theorem r54_ok : Tryz.f54.results.toList.mapM (retOf Tryz.prog) = some [.tmp 2] := by kernel_rfl

/-- depository/attribute.first -/
def h55l0 : HC :=
  (.seq (.region [Oo 8 (.bin .lss (.t 7) (.t 6))])
  (.seq (.cond (.t 8) .skip
  (.exit 0))
  (.seq (.block 1 (.seq (.region [Oo 9 (.ixL 1 (.t 5) (.t 7)), Oo 10 (.load false 1 (.t 9)), Oo 4 (.mov (.t 10))])
  (.seq (.region [Oo 11 (.mov (.t 4)), Oo 12 (.bin .neq (.t 11) (Ki 0))])
  (.cond (.t 12) (.seq (.region [Oo 13 (.mov (.t 4)), Oo 2 (.mov (.t 13))])
  .ret)
  .skip))))
  (.region [Oo 14 (.bin .add (.t 7) (Ki 1)), Oo 7 (.mov (.t 14))]))))
def h55c : HC :=
  (.seq (.region [Oo 2 (.mov (Ki 0))])
  (.seq (.seq (.region [Oo 5 (.mov (.t 0)), Oo 6 (.lenL (.t 5)), Oo 7 (.mov (Ki 0))])
  (.block 0 (.loop [5, 0, 0] h55l0)))
  (.seq (.region [Oo 2 (.mov (Ki 0))])
  .ret)))
abbrev h55 : HF := ⟨h55c, [.tmp 2], 15, false⟩
theorem h55_ok : (Tryz.f55.body).bind (compileC Tryz.prog) = some h55c.er := by kernel_rfl
theorem r55_ok : Tryz.f55.results.toList.mapM (retOf Tryz.prog) = some [.tmp 2] := by kernel_rfl

/-- depository/attribute.unless -/
def h56c : HC :=
  (.seq (.region [Oo 4 (.mov (Ki 0))])
  (.seq (.seq (.region [Oo 5 (.mov (.t 0))])
  (.cond (.t 5) (.seq (.region [Oo 4 (.mov (Ki 0))])
  .ret)
  .skip))
  (.seq (.region [Oo 6 (.mov (.t 1)), Oo 4 (.mov (.t 6))])
  .ret)))
abbrev h56 : HF := ⟨h56c, [.tmp 4], 7, false⟩
theorem h56_ok : (Tryz.f56.body).bind (compileC Tryz.prog) = some h56c.er := by kernel_rfl
theorem r56_ok : Tryz.f56.results.toList.mapM (retOf Tryz.prog) = some [.tmp 4] := by kernel_rfl

/-- depository/runs.CheckRuns -/
def h58l0 : HC :=
  (.seq (.region [Oo 14 (.bin .lss (.t 13) (.t 12))])
  (.seq (.cond (.t 14) .skip
  (.exit 0))
  (.seq (.block 1 (.seq (.region [Oo 15 (.mov (.t 13)), Oo 16 (.ixL 2 (.t 11) (.t 13)), Oo 17 (.load true 2 (.t 16)), Oo 6 (.alloc [Zi 0, Zi 0]), Oo 5 (.mov (.t 15)), On (.store 2 (.t 6) (.t 17))])
  (.seq (.seq (.region [Oo 18 (.load true 2 (.t 6)), Oo 19 (.call 115 [(.t 18)]), Oo 7 (.mov (.t 19))])
  (.seq (.region [Oo 20 (.mov (.t 7)), Oo 21 (.bin .neq (.t 20) (Ki 0))])
  (.cond (.t 21) (.seq (.region [Oo 22 (.mov (.t 5)), Oo 23 (.mov (.t 7)), Oo 2 (.mov (.t 22)), Oo 3 (.mov (.t 23))])
  .ret)
  .skip)))
  (.seq (.seq (.drawn [Qo (Oo 24 (.mov (.t 5))), Qo (Oo 25 (.bin .gtr (.t 24) (Ki 0))), Qo (Oo 26 (.mov (.t 25))), Qo (Og 26 true 27 (.mov (.t 0))), Qo (Og 26 true 28 (.mov (.t 5))), Qo (Og 26 true 29 (.bin .sub (.t 28) (Ki 1))), Qo (Og 26 true 30 (.ixL 2 (.t 27) (.t 29))), Qo (Og 26 true 31 (.load true 2 (.t 30))), Qo (Og 26 true 32 (.load true 2 (.t 6))), Qe (Og 26 true 33 (.call 116 [(.t 31), (.t 32)])), Qo (Oo 34 (.pick (.t 26) (.t 33) (.k (.bool false))))])
  (.cond (.t 34) (.seq (.region [Oo 35 (.mov (.t 5)), Oo 2 (.mov (.t 35)), Oo 3 (.mov (Ki 3))])
  .ret)
  .skip))
  (.seq (.region [Oo 36 (.load true 2 (.t 6)), Oo 37 (.call 117 [(.t 4), (.t 36)]), Oo 38 (.un .not (.t 37))])
  (.cond (.t 38) (.seq (.region [Oo 39 (.mov (.t 5)), Oo 2 (.mov (.t 39)), Oo 3 (.mov (Ki 23))])
  .ret)
  .skip))))))
  (.region [Oo 40 (.bin .add (.t 13) (Ki 1)), Oo 13 (.mov (.t 40))]))))
def h58c : HC :=
  (.seq (.region [Oo 2 (.mov (Ki 0)), Oo 3 (.mov (Ki 0))])
  (.seq (.seq (.region [Oo 8 (.mov (.t 0)), Oo 9 (.lenL (.t 8)), Oo 10 (.bin .gtr (.t 9) (Ki 64))])
  (.cond (.t 10) (.seq (.region [Oo 2 (.mov (Ki 0)), Oo 3 (.mov (Ki 8))])
  .ret)
  .skip))
  (.seq (.region [Oo 4 (.alloc (List.replicate 512 (.bool false)))])
  (.seq (.seq (.region [Oo 11 (.mov (.t 0)), Oo 12 (.lenL (.t 11)), Oo 13 (.mov (Ki 0))])
  (.block 0 (.loop [0, 3, 6, 0, 0] h58l0)))
  (.seq (.region [Oo 41 (.mov (.t 0)), Oo 42 (.call 119 [(.t 41)]), Oo 43 (.bin .leq (.t 42) (Ki 4096)), Oo 44 (.call 118 [(.t 43), (Ki 8)]), Oo 2 (.mov (Ki 0)), Oo 3 (.mov (.t 44))])
  .ret)))))
abbrev h58 : HF := ⟨h58c, [.tmp 2, .tmp 3], 45, false⟩
theorem h58_ok : (Tryz.f58.body).bind (compileC Tryz.prog) = some h58c.er := by kernel_rfl
theorem r58_ok : Tryz.f58.results.toList.mapM (retOf Tryz.prog) = some [.tmp 2, .tmp 3] := by kernel_rfl

/-- slices.Clone[[]depository/api.Run,depository/api.Run] -/
def h59c : HC :=
  (.seq (.region [Oo 2 (.mov (.k (.slice none 0 0)))])
  (.seq (.seq (.region [Oo 3 (.mov (.t 0)), Oo 4 (.isnil false false (.t 3))])
  (.cond (.t 4) (.seq (.region [Oo 2 (.mov (.k (.slice none 0 0)))])
  .ret)
  .skip))
  (.seq (.region [Oo 5 (.bslc 2 0 [Zi 0, Zi 0] []), Oo 6 (.mov (.t 0)), Oo 7 (.app 2 16 [Zi 0, Zi 0] (.t 5) (.t 6)), Oo 2 (.mov (.t 7))])
  .ret)))
abbrev h59 : HF := ⟨h59c, [.tmp 2], 8, true⟩
theorem h59_ok : (Tryz.f59.body).bind (compileC Tryz.prog) = some h59c.er := by kernel_rfl
theorem r59_ok : Tryz.f59.results.toList.mapM (retOf Tryz.prog) = some [.tmp 2] := by kernel_rfl

/-- depository/attribute.clusters -/
def h60l0 : HC :=
  (.seq (.region [Oo 10 (.bin .lss (.t 9) (.t 8))])
  (.seq (.cond (.t 10) .skip
  (.exit 0))
  (.seq (.block 1 (.seq (.region [Oo 11 (.ixL 2 (.t 7) (.t 9)), Oo 12 (.load true 2 (.t 11)), Oo 5 (.alloc [Zi 0, Zi 0]), On (.store 2 (.t 5) (.t 12))])
  (.region [Oo 13 (.mov (.t 3)), Oo 14 (.addo 1 (.t 5)), Oo 15 (.load false 1 (.t 14)), Oo 16 (.bin .add (.t 13) (.t 15)), Oo 3 (.mov (.t 16))])))
  (.region [Oo 17 (.bin .add (.t 9) (Ki 1)), Oo 9 (.mov (.t 17))]))))
def h60c : HC :=
  (.seq (.region [Oo 1 (.box (.t 0)), Oo 2 (.mov (Ki 0))])
  (.seq (.region [Oo 3 (.mov (Ki 0))])
  (.seq (.seq (.region [Oo 6 (.addo 7 (.t 1)), Oo 7 (.load false 1 (.t 6)), Oo 8 (.lenL (.t 7)), Oo 9 (.mov (Ki 0))])
  (.block 0 (.loop [3, 3, 0, 0] h60l0)))
  (.seq (.region [Oo 18 (.mov (.t 3)), Oo 2 (.mov (.t 18))])
  .ret))))
abbrev h60 : HF := ⟨h60c, [.tmp 2], 19, false⟩
theorem h60_ok : (Tryz.f60.body).bind (compileC Tryz.prog) = some h60c.er := by kernel_rfl
theorem r60_ok : Tryz.f60.results.toList.mapM (retOf Tryz.prog) = some [.tmp 2] := by kernel_rfl

/-- slices.ContainsFunc[[]depository/api.Run,depository/api.Run] -/
def h61c : HC :=
  (.seq (.region [Oo 4 (.mov (.k (.bool false)))])
  (.seq (.region [Oo 5 (.mov (.t 0)), Oo 6 (.mov (.t 1)), Oo 7 (.call 120 [(.t 5), (.t 6)]), Oo 8 (.bin .geq (.t 7) (Ki 0)), Oo 4 (.mov (.t 8))])
  .ret))
abbrev h61 : HF := ⟨h61c, [.tmp 4], 9, false⟩
theorem h61_ok : (Tryz.f61.body).bind (compileC Tryz.prog) = some h61c.er := by kernel_rfl
theorem r61_ok : Tryz.f61.results.toList.mapM (retOf Tryz.prog) = some [.tmp 4] := by kernel_rfl

/-- depository/attribute.MovedOut$1 -/
def h62c : HC :=
  (.seq (.region [Oo 1 (.box (.t 0)), Oo 2 (.mov (.k (.bool false)))])
  (.seq (.region [Oo 3 (.addo 0 (.t 1)), Oo 4 (.load false 1 (.t 3)), Oo 5 (.bin .eql (.t 4) (Ki (-1))), Oo 2 (.mov (.t 5))])
  .ret))
abbrev h62 : HF := ⟨h62c, [.tmp 2], 6, false⟩
theorem h62_ok : (Tryz.f62.body).bind (compileC Tryz.prog) = some h62c.er := by kernel_rfl
theorem r62_ok : Tryz.f62.results.toList.mapM (retOf Tryz.prog) = some [.tmp 2] := by kernel_rfl

/-- depository/attribute.result -/
def h63c : HC :=
  (.seq (.region [Oo 1 (.box (.t 0)), Oo 2 (.alloc [Zi 0, (.string ⟨#[]⟩), Zi 0, Zi 0, (.bool false), (.string ⟨#[]⟩), Zi 0, (.slice none 0 0), Zi 0, Zi 0, Zi 0]), Oo 3 (.mov (Ki 0))])
  (.seq (.seq (.region [Oo 5 (.load true 11 (.t 1)), Oo 6 (.call 34 [(.t 5)]), Oo 4 (.mov (.t 6))])
  (.seq (.region [Oo 7 (.mov (.t 4)), Oo 8 (.bin .neq (.t 7) (Ki 0))])
  (.cond (.t 8) (.seq (.region [Oo 9 (.build [Zi 0, (.string ⟨#[]⟩), Zi 0, Zi 0, (.bool false), (.string ⟨#[]⟩), Zi 0, (.slice none 0 0), Zi 0, Zi 0, Zi 0] []), Oo 10 (.mov (.t 4)), On (.store 11 (.t 2) (.t 9)), Oo 3 (.mov (.t 10))])
  .ret)
  .skip)))
  (.seq (.region [Oo 11 (.load true 11 (.t 1)), On (.store 11 (.t 2) (.t 11)), Oo 3 (.mov (Ki 0))])
  .ret)))
abbrev h63 : HF := ⟨h63c, [.cell 2 true 11, .tmp 3], 12, false⟩
theorem h63_ok : (Tryz.f63.body).bind (compileC Tryz.prog) = some h63c.er := by kernel_rfl
theorem r63_ok : Tryz.f63.results.toList.mapM (retOf Tryz.prog) = some [.cell 2 true 11, .tmp 3] := by kernel_rfl

/-- depository/depositoryref08.otherErr -/
def h64c : HC :=
  (.seq (.region [Oo 1 (.box (.t 0)), Oo 2 (.mov (Ki 0))])
  (.seq (.seq (.region [Oo 5 (.addo 0 (.t 1)), Oo 6 (.load false 1 (.t 5)), Oo 7 (.call 66 [(.t 6)])])
  (.cond (.t 7) (.seq (.region [Oo 2 (.mov (Ki 20))])
  .ret)
  .skip))
  (.seq (.seq (.region [Oo 8 (.addo 5 (.t 1)), Oo 9 (.load false 1 (.t 8)), Oo 10 (.bin .neq (.t 9) (.k (.string ⟨#[]⟩)))])
  (.cond (.t 10) (.seq (.region [Oo 2 (.mov (Ki 3))])
  .ret)
  .skip))
  (.seq (.seq (.region [Oo 11 (.addo 6 (.t 1)), Oo 12 (.load false 1 (.t 11)), Oo 13 (.call 51 [(.t 12), (Ki 0), (Ki 4096)]), Oo 14 (.un .not (.t 13))])
  (.cond (.t 14) (.seq (.region [Oo 2 (.mov (Ki 2))])
  .ret)
  .skip))
  (.seq (.seq (.region [Oo 15 (.addo 7 (.t 1)), Oo 16 (.load false 1 (.t 15)), Oo 17 (.call 67 [(.t 16)]), Oo 3 (.mov (.t 17))])
  (.seq (.region [Oo 18 (.mov (.t 3)), Oo 19 (.bin .neq (.t 18) (Ki 0))])
  (.cond (.t 19) (.seq (.region [Oo 20 (.mov (.t 3)), Oo 2 (.mov (.t 20))])
  .ret)
  .skip)))
  (.seq (.seq (.region [Oo 21 (.addo 6 (.t 1)), Oo 22 (.load false 1 (.t 21)), Oo 23 (.bin .gtr (.t 22) (Ki 0)), Oo 24 (.mov (.t 23)), Og 24 true 25 (.addo 7 (.t 1)), Og 24 true 26 (.load false 1 (.t 25)), Og 24 true 27 (.lenL (.t 26)), Og 24 true 28 (.bin .eql (.t 27) (Ki 0)), Oo 29 (.pick (.t 24) (.t 28) (.k (.bool false)))])
  (.cond (.t 29) (.seq (.region [Oo 2 (.mov (Ki 17))])
  .ret)
  .skip))
  (.seq (.seq (.drawn [Qo (Oo 30 (.addo 6 (.t 1))), Qo (Oo 31 (.load false 1 (.t 30))), Qo (Oo 32 (.addo 7 (.t 1))), Qo (Oo 33 (.load false 1 (.t 32))), Qo (Oo 34 (.call 69 [(.t 33)])), Qo (Oo 35 (.bin .add (.t 31) (.t 34))), Qo (Oo 36 (.bin .gtr (.t 35) (Ki 4096)))])
  (.cond (.t 36) (.seq (.region [Oo 2 (.mov (Ki 8))])
  .ret)
  .skip))
  (.seq (.seq (.region [Oo 37 (.addo 6 (.t 1)), Oo 38 (.load false 1 (.t 37)), Oo 39 (.bin .gtr (.t 38) (Ki 0)), Oo 40 (.mov (.t 39)), Og 40 true 41 (.addo 8 (.t 1)), Og 40 true 42 (.load false 1 (.t 41)), Og 40 true 43 (.bin .neq (.t 42) (Ki 0)), Og 40 true 44 (.mov (.t 43)), Og 44 false 45 (.addo 9 (.t 1)), Og 44 false 46 (.load false 1 (.t 45)), Og 44 false 47 (.bin .neq (.t 46) (Ki 0)), Og 40 true 48 (.pick (.t 44) (.k (.bool true)) (.t 47)), Og 40 true 49 (.mov (.t 48)), Og 49 false 50 (.addo 10 (.t 1)), Og 49 false 51 (.load false 1 (.t 50)), Og 49 false 52 (.bin .neq (.t 51) (Ki 0)), Og 40 true 53 (.pick (.t 49) (.k (.bool true)) (.t 52)), Oo 54 (.pick (.t 40) (.t 53) (.k (.bool false)))])
  (.cond (.t 54) (.seq (.region [Oo 2 (.mov (Ki 3))])
  .ret)
  .skip))
  (.seq (.region [Oo 4 (.mov (Ki 1048576))])
  (.seq (.seq (.region [Oo 55 (.addo 8 (.t 1)), Oo 56 (.load false 1 (.t 55)), Oo 57 (.mov (.t 4)), Oo 58 (.call 51 [(.t 56), (Ki 0), (.t 57)]), Oo 59 (.un .not (.t 58)), Oo 60 (.mov (.t 59)), Og 60 false 61 (.addo 9 (.t 1)), Og 60 false 62 (.load false 1 (.t 61)), Og 60 false 63 (.mov (.t 4)), Og 60 false 64 (.call 51 [(.t 62), (Ki 0), (.t 63)]), Og 60 false 65 (.un .not (.t 64)), Oo 66 (.pick (.t 60) (.k (.bool true)) (.t 65)), Oo 67 (.mov (.t 66)), Og 67 false 68 (.addo 10 (.t 1)), Og 67 false 69 (.load false 1 (.t 68)), Og 67 false 70 (.mov (.t 4)), Og 67 false 71 (.call 51 [(.t 69), (Ki 0), (.t 70)]), Og 67 false 72 (.un .not (.t 71)), Oo 73 (.pick (.t 67) (.k (.bool true)) (.t 72))])
  (.cond (.t 73) (.seq (.region [Oo 2 (.mov (Ki 2))])
  .ret)
  .skip))
  (.seq (.seq (.region [Oo 74 (.addo 10 (.t 1)), Oo 75 (.load false 1 (.t 74)), Oo 76 (.addo 9 (.t 1)), Oo 77 (.load false 1 (.t 76)), Oo 78 (.bin .gtr (.t 75) (.t 77))])
  (.cond (.t 78) (.seq (.region [Oo 2 (.mov (Ki 9))])
  .ret)
  .skip))
  (.seq (.region [Oo 2 (.mov (Ki 0))])
  .ret))))))))))))
abbrev h64 : HF := ⟨h64c, [.tmp 2], 79, false⟩
theorem h64_ok : (Tryz.f64.body).bind (compileC Tryz.prog) = some h64c.er := by kernel_rfl
theorem r64_ok : Tryz.f64.results.toList.mapM (retOf Tryz.prog) = some [.tmp 2] := by kernel_rfl

/-- depository/depositoryref08.residentErr -/
def h65c : HC :=
  (.seq (.region [Oo 1 (.box (.t 0)), Oo 2 (.mov (Ki 0))])
  (.seq (.seq (.region [Oo 3 (.addo 7 (.t 1)), Oo 4 (.load false 1 (.t 3)), Oo 5 (.lenL (.t 4)), Oo 6 (.bin .gtr (.t 5) (Ki 0)), Oo 7 (.mov (.t 6)), Og 7 false 8 (.addo 6 (.t 1)), Og 7 false 9 (.load false 1 (.t 8)), Og 7 false 10 (.bin .neq (.t 9) (Ki 0)), Oo 11 (.pick (.t 7) (.k (.bool true)) (.t 10)), Oo 12 (.mov (.t 11)), Og 12 false 13 (.addo 8 (.t 1)), Og 12 false 14 (.load false 1 (.t 13)), Og 12 false 15 (.bin .neq (.t 14) (Ki 0)), Oo 16 (.pick (.t 12) (.k (.bool true)) (.t 15)), Oo 17 (.mov (.t 16)), Og 17 false 18 (.addo 9 (.t 1)), Og 17 false 19 (.load false 1 (.t 18)), Og 17 false 20 (.bin .neq (.t 19) (Ki 0)), Oo 21 (.pick (.t 17) (.k (.bool true)) (.t 20)), Oo 22 (.mov (.t 21)), Og 22 false 23 (.addo 10 (.t 1)), Og 22 false 24 (.load false 1 (.t 23)), Og 22 false 25 (.bin .neq (.t 24) (Ki 0)), Oo 26 (.pick (.t 22) (.k (.bool true)) (.t 25))])
  (.cond (.t 26) (.seq (.region [Oo 2 (.mov (Ki 3))])
  .ret)
  .skip))
  (.seq (.seq (.region [Oo 27 (.addo 5 (.t 1)), Oo 28 (.load false 1 (.t 27)), Oo 29 (.lenS (.t 28)), Oo 30 (.bin .gtr (.t 29) (Ki 400))])
  (.cond (.t 30) (.seq (.region [Oo 2 (.mov (Ki 8))])
  .ret)
  .skip))
  (.seq (.region [Oo 2 (.mov (Ki 0))])
  .ret))))
abbrev h65 : HF := ⟨h65c, [.tmp 2], 31, false⟩
theorem h65_ok : (Tryz.f65.body).bind (compileC Tryz.prog) = some h65c.er := by kernel_rfl
theorem r65_ok : Tryz.f65.results.toList.mapM (retOf Tryz.prog) = some [.tmp 2] := by kernel_rfl

/-- depository/depositoryref08.resident -/
def h66c : HC :=
  (.seq (.region [Oo 2 (.mov (.k (.bool false)))])
  (.seq (.region [Oo 3 (.bslc 1 5 [Zi 0] [(0, (Ki 16)), (1, (Ki 48)), (2, (Ki 96)), (3, (Ki 112)), (4, (Ki 144))]), Oo 4 (.mov (.t 0)), Oo 5 (.call 113 [(.t 3), (.t 4)]), Oo 2 (.mov (.t 5))])
  .ret))
abbrev h66 : HF := ⟨h66c, [.tmp 2], 6, false⟩
theorem h66_ok : (Tryz.f66.body).bind (compileC Tryz.prog) = some h66c.er := by kernel_rfl
theorem r66_ok : Tryz.f66.results.toList.mapM (retOf Tryz.prog) = some [.tmp 2] := by kernel_rfl

/-- depository/depositoryref03.Err -/
def h67c : HC :=
  (.seq (.region [Oo 2 (.mov (Ki 0))])
  (.seq (.region [Oo 6 (.mov (.t 0)), Oo 7 (.call 121 [(.t 6)]), Oo 5 (.mov (.t 7)), Oo 8 (.ext (.t 5) 0), Oo 9 (.ext (.t 5) 1), Oo 3 (.mov (.t 8)), Oo 4 (.mov (.t 9))])
  (.seq (.region [Oo 10 (.mov (.t 4)), Oo 2 (.mov (.t 10))])
  .ret)))
abbrev h67 : HF := ⟨h67c, [.tmp 2], 11, false⟩
theorem h67_ok : (Tryz.f67.body).bind (compileC Tryz.prog) = some h67c.er := by kernel_rfl
theorem r67_ok : Tryz.f67.results.toList.mapM (retOf Tryz.prog) = some [.tmp 2] := by kernel_rfl

/-- depository/depositoryref03.Length -/
def h69l0 : HC :=
  (.seq (.seq (.region [Oo 5 (.mov (.t 4)), Oo 6 (.mov (.t 0)), Oo 7 (.lenL (.t 6)), Oo 8 (.bin .lss (.t 5) (.t 7))])
  (.cond (.t 8) .skip
  (.exit 0)))
  (.seq (.block 1 (.region [Oo 11 (.mov (.t 3)), Oo 12 (.mov (.t 0)), Oo 13 (.mov (.t 4)), Oo 14 (.ixL 2 (.t 12) (.t 13)), Oo 15 (.addo 1 (.t 14)), Oo 16 (.load false 1 (.t 15)), Oo 17 (.bin .add (.t 11) (.t 16)), Oo 3 (.mov (.t 17))]))
  (.region [Oo 9 (.mov (.t 4)), Oo 10 (.bin .add (.t 9) (Ki 1)), Oo 4 (.mov (.t 10))])))
def h69c : HC :=
  (.seq (.region [Oo 2 (.mov (Ki 0))])
  (.seq (.region [Oo 3 (.mov (Ki 0))])
  (.seq (.seq (.region [Oo 4 (.mov (Ki 0))])
  (.block 0 (.loop [0, 2, 0] h69l0)))
  (.seq (.region [Oo 18 (.mov (.t 3)), Oo 2 (.mov (.t 18))])
  .ret))))
abbrev h69 : HF := ⟨h69c, [.tmp 2], 19, false⟩
theorem h69_ok : (Tryz.f69.body).bind (compileC Tryz.prog) = some h69c.er := by kernel_rfl
theorem r69_ok : Tryz.f69.results.toList.mapM (retOf Tryz.prog) = some [.tmp 2] := by kernel_rfl

/-- depository/depositorybase.Ceil -/
def h70c : HC :=
  (.seq (.region [Oo 4 (.mov (Ki 0))])
  (.seq (.region [Oo 5 (.mov (.t 0)), Oo 6 (.un .neg (.t 5)), Oo 7 (.mov (.t 1)), Oo 8 (.call 122 [(.t 6), (.t 7)]), Oo 9 (.un .neg (.t 8)), Oo 4 (.mov (.t 9))])
  .ret))
abbrev h70 : HF := ⟨h70c, [.tmp 4], 10, false⟩
theorem h70_ok : (Tryz.f70.body).bind (compileC Tryz.prog) = some h70c.er := by kernel_rfl
theorem r70_ok : Tryz.f70.results.toList.mapM (retOf Tryz.prog) = some [.tmp 4] := by kernel_rfl

/-- depository/depositorybase.SameRuns -/
def h71l0 : HC :=
  (.seq (.seq (.region [Oo 11 (.mov (.t 5)), Oo 12 (.mov (.t 0)), Oo 13 (.lenL (.t 12)), Oo 14 (.bin .lss (.t 11) (.t 13))])
  (.cond (.t 14) .skip
  (.exit 0)))
  (.seq (.block 1 (.seq (.drawn [Qo (Oo 17 (.mov (.t 0))), Qo (Oo 18 (.mov (.t 5))), Qo (Oo 19 (.ixL 2 (.t 17) (.t 18))), Qo (Oo 20 (.load true 2 (.t 19))), Qo (Oo 21 (.mov (.t 1))), Qo (Oo 22 (.mov (.t 5))), Qo (Oo 23 (.ixL 2 (.t 21) (.t 22))), Qo (Oo 24 (.load true 2 (.t 23))), Qo (Oo 25 (.eqs true [.i, .i] (.t 20) (.t 24)))])
  (.cond (.t 25) (.seq (.region [Oo 4 (.mov (.k (.bool false)))])
  .ret)
  .skip)))
  (.region [Oo 15 (.mov (.t 5)), Oo 16 (.bin .add (.t 15) (Ki 1)), Oo 5 (.mov (.t 16))])))
def h71c : HC :=
  (.seq (.region [Oo 4 (.mov (.k (.bool false)))])
  (.seq (.seq (.region [Oo 6 (.mov (.t 0)), Oo 7 (.lenL (.t 6)), Oo 8 (.mov (.t 1)), Oo 9 (.lenL (.t 8)), Oo 10 (.bin .neq (.t 7) (.t 9))])
  (.cond (.t 10) (.seq (.region [Oo 4 (.mov (.k (.bool false)))])
  .ret)
  .skip))
  (.seq (.seq (.region [Oo 5 (.mov (Ki 0))])
  (.block 0 (.loop [0, 0, 3] h71l0)))
  (.seq (.region [Oo 4 (.mov (.k (.bool true)))])
  .ret))))
abbrev h71 : HF := ⟨h71c, [.tmp 4], 26, false⟩
theorem h71_ok : (Tryz.f71.body).bind (compileC Tryz.prog) = some h71c.er := by kernel_rfl
theorem r71_ok : Tryz.f71.results.toList.mapM (retOf Tryz.prog) = some [.tmp 4] := by kernel_rfl

/-- depository/attribute.within -/
def h72c : HC :=
  (.seq (.region [Oo 6 (.mov (.k (.bool false)))])
  (.seq (.region [Oo 7 (.mov (.t 1)), Oo 8 (.mov (.t 0)), Oo 9 (.bin .leq (.t 7) (.t 8)), Oo 10 (.mov (.t 9)), Og 10 true 11 (.mov (.t 0)), Og 10 true 12 (.mov (.t 2)), Og 10 true 13 (.bin .leq (.t 11) (.t 12)), Oo 14 (.pick (.t 10) (.t 13) (.k (.bool false))), Oo 6 (.mov (.t 14))])
  .ret))
abbrev h72 : HF := ⟨h72c, [.tmp 6], 15, false⟩
theorem h72_ok : (Tryz.f72.body).bind (compileC Tryz.prog) = some h72c.er := by kernel_rfl
theorem r72_ok : Tryz.f72.results.toList.mapM (retOf Tryz.prog) = some [.tmp 6] := by kernel_rfl

/-- depository/runs.Cut -/
def h73c : HC :=
  (.seq (.region [Oo 6 (.mov (.k (.slice none 0 0))), Oo 7 (.mov (Ki 0))])
  (.seq (.seq (.region [Oo 9 (.mov (.t 0)), Oo 10 (.mov (.t 1)), Oo 11 (.mov (.t 2)), Oo 12 (.call 123 [(.t 9), (.t 10), (.t 11)]), Oo 8 (.mov (.t 12))])
  (.seq (.region [Oo 13 (.mov (.t 8)), Oo 14 (.bin .neq (.t 13) (Ki 0))])
  (.cond (.t 14) (.seq (.region [Oo 15 (.mov (.t 8)), Oo 6 (.mov (.k (.slice none 0 0))), Oo 7 (.mov (.t 15))])
  .ret)
  .skip)))
  (.seq (.region [Oo 16 (.mov (.t 0)), Oo 17 (.mov (.t 1)), Oo 18 (.mov (.t 2)), Oo 19 (.call 125 [(.t 16), (.t 17), (.t 18)]), Oo 20 (.bslc 1 1 [(.slice none 0 0)] [(0, (.t 19))]), Oo 21 (.call 124 [(.t 20)]), Oo 22 (.ext (.t 21) 0), Oo 23 (.ext (.t 21) 1), Oo 6 (.mov (.t 22)), Oo 7 (.mov (.t 23))])
  .ret)))
abbrev h73 : HF := ⟨h73c, [.tmp 6, .tmp 7], 24, false⟩
theorem h73_ok : (Tryz.f73.body).bind (compileC Tryz.prog) = some h73c.er := by kernel_rfl
theorem r73_ok : Tryz.f73.results.toList.mapM (retOf Tryz.prog) = some [.tmp 6, .tmp 7] := by kernel_rfl

/-- depository/attribute.isType -/
def h88c : HC :=
  (.seq (.region [Oo 2 (.mov (.k (.bool false)))])
  (.seq (.region [Oo 6 (.call 57 []), Oo 7 (.mov (.t 0)), Oo 8 (.mpx true (.bool false) (.t 6) (.t 7)), Oo 5 (.mov (.t 8)), Oo 9 (.ext (.t 5) 0), Oo 10 (.ext (.t 5) 1), Oo 3 (.mov (.t 9)), Oo 4 (.mov (.t 10))])
  (.seq (.region [Oo 11 (.mov (.t 4)), Oo 2 (.mov (.t 11))])
  .ret)))
abbrev h88 : HF := ⟨h88c, [.tmp 2], 12, false⟩
theorem h88_ok : (Tryz.f88.body).bind (compileC Tryz.prog) = some h88c.er := by kernel_rfl
theorem r88_ok : Tryz.f88.results.toList.mapM (retOf Tryz.prog) = some [.tmp 2] := by kernel_rfl

/-- depository/attribute.nameErr -/
def h89c : HC :=
  (.seq (.region [Oo 2 (.mov (Ki 0))])
  (.seq (.region [Oo 3 (.mov (.t 0)), Oo 4 (.bin .eql (.t 3) (.k (.string ⟨#[]⟩))), Oo 5 (.mov (.t 4)), Og 5 false 6 (.mov (.t 0)), Og 5 false 7 (.call 134 [(.t 6)]), Og 5 false 8 (.bin .eql (.t 7) (Ki 0)), Oo 9 (.pick (.t 5) (.k (.bool true)) (.t 8)), Oo 10 (.call 56 [(.t 9), (Ki 4)]), Oo 2 (.mov (.t 10))])
  .ret))
abbrev h89 : HF := ⟨h89c, [.tmp 2], 11, false⟩
theorem h89_ok : (Tryz.f89.body).bind (compileC Tryz.prog) = some h89c.er := by kernel_rfl
theorem r89_ok : Tryz.f89.results.toList.mapM (retOf Tryz.prog) = some [.tmp 2] := by kernel_rfl

/-- depository/attribute.residentErr -/
def h90c : HC :=
  (.seq (.region [Oo 1 (.box (.t 0)), Oo 2 (.mov (Ki 0))])
  (.seq (.region [Oo 4 (.addo 7 (.t 1)), Oo 5 (.load false 1 (.t 4)), Oo 6 (.lenL (.t 5)), Oo 7 (.bin .eql (.t 6) (Ki 0)), Oo 8 (.mov (.t 7)), Og 8 true 9 (.addo 6 (.t 1)), Og 8 true 10 (.load false 1 (.t 9)), Og 8 true 11 (.bin .eql (.t 10) (Ki 0)), Oo 12 (.pick (.t 8) (.t 11) (.k (.bool false))), Oo 13 (.mov (.t 12)), Og 13 true 14 (.addo 8 (.t 1)), Og 13 true 15 (.load false 1 (.t 14)), Og 13 true 16 (.bin .eql (.t 15) (Ki 0)), Oo 17 (.pick (.t 13) (.t 16) (.k (.bool false))), Oo 18 (.mov (.t 17)), Og 18 true 19 (.addo 9 (.t 1)), Og 18 true 20 (.load false 1 (.t 19)), Og 18 true 21 (.bin .eql (.t 20) (Ki 0)), Oo 22 (.pick (.t 18) (.t 21) (.k (.bool false))), Oo 23 (.mov (.t 22)), Og 23 true 24 (.addo 10 (.t 1)), Og 23 true 25 (.load false 1 (.t 24)), Og 23 true 26 (.bin .eql (.t 25) (Ki 0)), Oo 27 (.pick (.t 23) (.t 26) (.k (.bool false))), Oo 3 (.mov (.t 27))])
  (.seq (.drawn [Qo (Oo 28 (.mov (.t 3))), Qo (Oo 29 (.call 56 [(.t 28), (Ki 3)])), Qo (Oo 30 (.addo 5 (.t 1))), Qo (Oo 31 (.load false 1 (.t 30))), Qo (Oo 32 (.lenS (.t 31))), Qo (Oo 33 (.bin .leq (.t 32) (Ki 400))), Qe (Oo 34 (.call 56 [(.t 33), (Ki 8)])), Qe (Oo 35 (.bslc 1 2 [Zi 0] [(0, (.t 29)), (1, (.t 34))])), Qe (Oo 36 (.call 55 [(.t 35)])), Qo (Oo 2 (.mov (.t 36)))])
  .ret)))
abbrev h90 : HF := ⟨h90c, [.tmp 2], 37, false⟩
theorem h90_ok : (Tryz.f90.body).bind (compileC Tryz.prog) = some h90c.er := by kernel_rfl
theorem r90_ok : Tryz.f90.results.toList.mapM (retOf Tryz.prog) = some [.tmp 2] := by kernel_rfl

/-- depository/attribute.otherErr -/
def h91c : HC :=
  (.seq (.region [Oo 1 (.box (.t 0)), Oo 2 (.mov (Ki 0))])
  (.seq (.seq (.drawn [Qo (Oo 9 (.call 57 [])), Qo (Oo 10 (.addo 0 (.t 1))), Qo (Oo 11 (.load false 1 (.t 10))), Qo (Oo 12 (.mpx false (.bool false) (.t 9) (.t 11))), Qo (Oo 13 (.un .not (.t 12))), Qo (Oo 14 (.call 56 [(.t 13), (Ki 20)])), Qo (Oo 15 (.addo 5 (.t 1))), Qo (Oo 16 (.load false 1 (.t 15))), Qo (Oo 17 (.bin .eql (.t 16) (.k (.string ⟨#[]⟩)))), Qo (Oo 18 (.call 56 [(.t 17), (Ki 3)])), Qo (Oo 19 (.addo 6 (.t 1))), Qo (Oo 20 (.load false 1 (.t 19))), Qe (Oo 21 (.call 72 [(.t 20), (Ki 0), (Ki 4096)])), Qe (Oo 22 (.call 56 [(.t 21), (Ki 2)])), Qe (Oo 23 (.bslc 1 3 [Zi 0] [(0, (.t 14)), (1, (.t 18)), (2, (.t 22))])), Qe (Oo 24 (.call 55 [(.t 23)])), Qo (Oo 3 (.mov (.t 24)))])
  (.seq (.region [Oo 25 (.mov (.t 3)), Oo 26 (.bin .neq (.t 25) (Ki 0))])
  (.cond (.t 26) (.seq (.region [Oo 27 (.mov (.t 3)), Oo 2 (.mov (.t 27))])
  .ret)
  .skip)))
  (.seq (.seq (.region [Oo 29 (.addo 7 (.t 1)), Oo 30 (.load false 1 (.t 29)), Oo 31 (.call 58 [(.t 30)]), Oo 28 (.mov (.t 31)), Oo 32 (.ext (.t 28) 0), Oo 33 (.ext (.t 28) 1), Oo 4 (.mov (.t 32)), Oo 5 (.mov (.t 33))])
  (.seq (.region [Oo 34 (.mov (.t 5)), Oo 35 (.bin .neq (.t 34) (Ki 0))])
  (.cond (.t 35) (.seq (.region [Oo 36 (.mov (.t 5)), Oo 2 (.mov (.t 36))])
  .ret)
  .skip)))
  (.seq (.region [Oo 37 (.addo 6 (.t 1)), Oo 38 (.load false 1 (.t 37)), Oo 39 (.bin .gtr (.t 38) (Ki 0)), Oo 6 (.mov (.t 39))])
  (.seq (.region [Oo 40 (.addo 8 (.t 1)), Oo 41 (.load false 1 (.t 40)), Oo 42 (.bin .neq (.t 41) (Ki 0)), Oo 43 (.mov (.t 42)), Og 43 false 44 (.addo 9 (.t 1)), Og 43 false 45 (.load false 1 (.t 44)), Og 43 false 46 (.bin .neq (.t 45) (Ki 0)), Oo 47 (.pick (.t 43) (.k (.bool true)) (.t 46)), Oo 48 (.mov (.t 47)), Og 48 false 49 (.addo 10 (.t 1)), Og 48 false 50 (.load false 1 (.t 49)), Og 48 false 51 (.bin .neq (.t 50) (Ki 0)), Oo 52 (.pick (.t 48) (.k (.bool true)) (.t 51)), Oo 7 (.mov (.t 52))])
  (.seq (.region [Oo 53 (.addo 8 (.t 1)), Oo 54 (.load false 1 (.t 53)), Oo 55 (.call 72 [(.t 54), (Ki 0), (Ki 1048576)]), Oo 56 (.mov (.t 55)), Og 56 true 57 (.addo 9 (.t 1)), Og 56 true 58 (.load false 1 (.t 57)), Og 56 true 59 (.call 72 [(.t 58), (Ki 0), (Ki 1048576)]), Oo 60 (.pick (.t 56) (.t 59) (.k (.bool false))), Oo 61 (.mov (.t 60)), Og 61 true 62 (.addo 10 (.t 1)), Og 61 true 63 (.load false 1 (.t 62)), Og 61 true 64 (.call 72 [(.t 63), (Ki 0), (Ki 1048576)]), Oo 65 (.pick (.t 61) (.t 64) (.k (.bool false))), Oo 8 (.mov (.t 65))])
  (.seq (.drawn [Qo (Oo 66 (.mov (.t 6))), Qo (Oo 67 (.un .not (.t 66))), Qo (Oo 68 (.mov (.t 67))), Qo (Og 68 false 69 (.addo 7 (.t 1))), Qo (Og 68 false 70 (.load false 1 (.t 69))), Qo (Og 68 false 71 (.lenL (.t 70))), Qo (Og 68 false 72 (.bin .gtr (.t 71) (Ki 0))), Qo (Oo 73 (.pick (.t 68) (.k (.bool true)) (.t 72))), Qo (Oo 74 (.call 56 [(.t 73), (Ki 17)])), Qo (Oo 75 (.addo 6 (.t 1))), Qo (Oo 76 (.load false 1 (.t 75))), Qo (Oo 77 (.load true 11 (.t 1))), Qo (Oo 78 (.call 60 [(.t 77)])), Qo (Oo 79 (.bin .add (.t 76) (.t 78))), Qo (Oo 80 (.bin .leq (.t 79) (Ki 4096))), Qo (Oo 81 (.call 56 [(.t 80), (Ki 8)])), Qo (Oo 82 (.mov (.t 6))), Qo (Oo 83 (.un .not (.t 82))), Qo (Oo 84 (.mov (.t 83))), Qo (Og 84 false 85 (.mov (.t 7))), Qo (Og 84 false 86 (.un .not (.t 85))), Qo (Oo 87 (.pick (.t 84) (.k (.bool true)) (.t 86))), Qo (Oo 88 (.call 56 [(.t 87), (Ki 3)])), Qo (Oo 89 (.mov (.t 8))), Qo (Oo 90 (.call 56 [(.t 89), (Ki 2)])), Qo (Oo 91 (.addo 10 (.t 1))), Qo (Oo 92 (.load false 1 (.t 91))), Qo (Oo 93 (.addo 9 (.t 1))), Qo (Oo 94 (.load false 1 (.t 93))), Qo (Oo 95 (.bin .leq (.t 92) (.t 94))), Qe (Oo 96 (.call 56 [(.t 95), (Ki 9)])), Qe (Oo 97 (.bslc 1 5 [Zi 0] [(0, (.t 74)), (1, (.t 81)), (2, (.t 88)), (3, (.t 90)), (4, (.t 96))])), Qe (Oo 98 (.call 55 [(.t 97)])), Qo (Oo 2 (.mov (.t 98)))])
  .ret)))))))
abbrev h91 : HF := ⟨h91c, [.tmp 2], 99, false⟩
theorem h91_ok : (Tryz.f91.body).bind (compileC Tryz.prog) = some h91c.er := by kernel_rfl
theorem r91_ok : Tryz.f91.results.toList.mapM (retOf Tryz.prog) = some [.tmp 2] := by kernel_rfl

/-- depository/attribute.encoded -/
def h92c : HC :=
  (.seq (.region [Oo 1 (.box (.t 0)), Oo 2 (.mov (.k (.string ⟨#[]⟩)))])
  (.seq (.region [Oo 7 (.addo 5 (.t 1)), Oo 8 (.load false 1 (.t 7)), Oo 3 (.mov (.t 8))])
  (.seq (.seq (.region [Oo 9 (.addo 4 (.t 1)), Oo 10 (.load false 1 (.t 9)), Oo 11 (.un .not (.t 10))])
  (.cond (.t 11) (.region [Oo 13 (.addo 7 (.t 1)), Oo 14 (.load false 1 (.t 13)), Oo 15 (.call 135 [(.t 14)]), Oo 12 (.mov (.t 15)), Oo 16 (.ext (.t 12) 0), Oo 17 (.ext (.t 12) 1), Oo 3 (.mov (.t 16))])
  .skip))
  (.seq (.region [Oo 18 (.addo 4 (.t 1)), Oo 19 (.load false 1 (.t 18)), Oo 20 (.call 136 [(.t 19)]), Oo 4 (.mov (.t 20))])
  (.seq (.region [Oo 21 (.mov (.t 4)), Oo 22 (.addo 1 (.t 1)), Oo 23 (.load false 1 (.t 22)), Oo 24 (.lenS (.t 23)), Oo 25 (.bin .add (.t 21) (.t 24)), Oo 26 (.call 137 [(.t 25)]), Oo 5 (.mov (.t 26))])
  (.seq (.regR [0] [Oo 27 (.mov (.t 5)), Oo 28 (.mov (.t 3)), Oo 29 (.lenS (.t 28)), Oo 30 (.bin .add (.t 27) (.t 29)), Oo 31 (.call 137 [(.t 30)]), Oo 32 (.mk 1 1 [(.int .u8 0)] (.t 31) (.t 31)), Oo 6 (.mov (.t 32))])
  (.seq (.regR [138] [Oo 33 (.mov (.t 6)), Oo 34 (.addo 0 (.t 1)), Oo 35 (.load false 1 (.t 34)), Oo 36 (.call 138 [(.t 33), (Ki 0), (Ki 4), (.t 35)])])
  (.seq (.regR [138] [Oo 37 (.mov (.t 6)), Oo 38 (.mov (.t 6)), Oo 39 (.lenL (.t 38)), Oo 40 (.call 138 [(.t 37), (Ki 4), (Ki 4), (.t 39)])])
  (.seq (.regR [138] [Oo 41 (.mov (.t 6)), Oo 42 (.addo 1 (.t 1)), Oo 43 (.load false 1 (.t 42)), Oo 44 (.lenS (.t 43)), Oo 45 (.call 138 [(.t 41), (Ki 9), (Ki 1), (.t 44)])])
  (.seq (.regR [138] [Oo 46 (.mov (.t 6)), Oo 47 (.mov (.t 4)), Oo 48 (.call 138 [(.t 46), (Ki 10), (Ki 2), (.t 47)])])
  (.seq (.regR [138] [Oo 49 (.mov (.t 6)), Oo 50 (.addo 3 (.t 1)), Oo 51 (.load false 1 (.t 50)), Oo 52 (.call 138 [(.t 49), (Ki 12), (Ki 2), (.t 51)])])
  (.seq (.regR [138] [Oo 53 (.mov (.t 6)), Oo 54 (.addo 2 (.t 1)), Oo 55 (.load false 1 (.t 54)), Oo 56 (.call 138 [(.t 53), (Ki 14), (Ki 2), (.t 55)])])
  (.seq (.seq (.region [Oo 57 (.addo 4 (.t 1)), Oo 58 (.load false 1 (.t 57))])
  (.cond (.t 58) (.seq (.regR [138] [Oo 59 (.mov (.t 6)), Oo 60 (.mov (.t 3)), Oo 61 (.lenS (.t 60)), Oo 62 (.call 138 [(.t 59), (Ki 16), (Ki 4), (.t 61)])])
  (.regR [138] [Oo 63 (.mov (.t 6)), Oo 64 (.mov (.t 5)), Oo 65 (.call 138 [(.t 63), (Ki 20), (Ki 4), (.t 64)])]))
  (.seq (.regR [138] [Oo 66 (.mov (.t 6)), Oo 67 (.call 138 [(.t 66), (Ki 8), (Ki 1), (Ki 1)])])
  (.seq (.regR [138] [Oo 68 (.mov (.t 6)), Oo 69 (.addo 6 (.t 1)), Oo 70 (.load false 1 (.t 69)), Oo 71 (.call 138 [(.t 68), (Ki 16), (Ki 4), (.t 70)])])
  (.seq (.drawnF [(0, 4), (1, 4), (2, 4)] [Oo 72 (.mov (.t 6)), Oo 73 (.addo 6 (.t 1)), Oo 74 (.load false 1 (.t 73)), Oo 75 (.load true 11 (.t 1)), Oo 76 (.call 60 [(.t 75)]), Oo 77 (.bin .add (.t 74) (.t 76)), Oo 78 (.bin .sub (.t 77) (Ki 1)), Oo 79 (.call 138 [(.t 72), (Ki 20), (Ki 4), (.t 78)])])
  (.seq (.regR [138] [Oo 80 (.mov (.t 6)), Oo 81 (.mov (.t 5)), Oo 82 (.call 138 [(.t 80), (Ki 24), (Ki 2), (.t 81)])])
  (.seq (.regR [138] [Oo 83 (.mov (.t 6)), Oo 84 (.addo 8 (.t 1)), Oo 85 (.load false 1 (.t 84)), Oo 86 (.call 138 [(.t 83), (Ki 28), (Ki 4), (.t 85)])])
  (.seq (.regR [138] [Oo 87 (.mov (.t 6)), Oo 88 (.addo 9 (.t 1)), Oo 89 (.load false 1 (.t 88)), Oo 90 (.call 138 [(.t 87), (Ki 32), (Ki 4), (.t 89)])])
  (.regR [138] [Oo 91 (.mov (.t 6)), Oo 92 (.addo 10 (.t 1)), Oo 93 (.load false 1 (.t 92)), Oo 94 (.call 138 [(.t 91), (Ki 36), (Ki 4), (.t 93)])])))))))))
  (.seq (.drawnF [] [Oo 95 (.mov (.t 6)), Oo 96 (.mov (.t 4)), Oo 97 (.slL 1 (.t 95) (some (.t 96)) none), Oo 98 (.addo 1 (.t 1)), Oo 99 (.load false 1 (.t 98)), Oo 100 (.cpys (.t 97) (.t 99))])
  (.seq (.region [Oo 101 (.mov (.t 6)), Oo 102 (.mov (.t 5)), Oo 103 (.slL 1 (.t 101) (some (.t 102)) none), Oo 104 (.mov (.t 3)), Oo 105 (.cpys (.t 103) (.t 104))])
  (.seq (.region [Oo 106 (.mov (.t 6)), Oo 107 (.cvbs (.t 106)), Oo 2 (.mov (.t 107))])
  .ret))))))))))))))))
abbrev h92 : HF := ⟨h92c, [.tmp 2], 108, false⟩
theorem h92_ok : (Tryz.f92.body).bind (compileC Tryz.prog) = some h92c.er := by kernel_rfl
theorem r92_ok : Tryz.f92.results.toList.mapM (retOf Tryz.prog) = some [.tmp 2] := by kernel_rfl

/-- depository/attribute.decoded -/
def h93c : HC :=
  (.seq (.region [Oo 2 (.alloc [Zi 0, (.string ⟨#[]⟩), Zi 0, Zi 0, (.bool false), (.string ⟨#[]⟩), Zi 0, (.slice none 0 0), Zi 0, Zi 0, Zi 0]), Oo 3 (.mov (.k (.bool false)))])
  (.seq (.seq (.region [Oo 11 (.mov (.t 0)), Oo 12 (.lenS (.t 11)), Oo 13 (.bin .lss (.t 12) (Ki 24))])
  (.cond (.t 13) (.seq (.region [Oo 14 (.build [Zi 0, (.string ⟨#[]⟩), Zi 0, Zi 0, (.bool false), (.string ⟨#[]⟩), Zi 0, (.slice none 0 0), Zi 0, Zi 0, Zi 0] []), On (.store 11 (.t 2) (.t 14)), Oo 3 (.mov (.k (.bool false)))])
  .ret)
  .skip))
  (.seq (.drawn [Qo (Oo 15 (.mov (.t 0))), Qo (Oo 16 (.call 139 [(.t 15), (Ki 0), (Ki 4)])), Qo (Oo 17 (.mov (.t 0))), Qo (Oo 18 (.call 139 [(.t 17), (Ki 14), (Ki 2)])), Qo (Oo 19 (.mov (.t 0))), Qo (Oo 20 (.call 139 [(.t 19), (Ki 12), (Ki 2)])), Qo (Oo 21 (.mov (.t 0))), Qo (Oo 22 (.ixS (.t 21) (Ki 8))), Qo (Oo 23 (.bin .eql (.t 22) (.k (.int .u8 0)))), Qo (Oo 24 (.build [Zi 0, (.string ⟨#[]⟩), Zi 0, Zi 0, (.bool false), (.string ⟨#[]⟩), Zi 0, (.slice none 0 0), Zi 0, Zi 0, Zi 0] [(0, 1, (.t 16)), (2, 1, (.t 18)), (3, 1, (.t 20)), (4, 1, (.t 23))])), Qe (Oo 4 (.alloc [Zi 0, (.string ⟨#[]⟩), Zi 0, Zi 0, (.bool false), (.string ⟨#[]⟩), Zi 0, (.slice none 0 0), Zi 0, Zi 0, Zi 0])), Qe (On (.store 11 (.t 4) (.t 24)))])
  (.seq (.region [Oo 25 (.addo 4 (.t 4)), Oo 26 (.load false 1 (.t 25)), Oo 27 (.call 136 [(.t 26)]), Oo 28 (.mov (.t 0)), Oo 29 (.call 139 [(.t 28), (Ki 9), (Ki 1)]), Oo 5 (.mov (.t 27)), Oo 6 (.mov (.t 29))])
  (.seq (.region [Oo 30 (.mov (.t 5)), Oo 31 (.mov (.t 6)), Oo 32 (.bin .add (.t 30) (.t 31)), Oo 33 (.call 137 [(.t 32)]), Oo 7 (.mov (.t 33))])
  (.seq (.seq (.region [Oo 34 (.mov (.t 7)), Oo 35 (.mov (.t 0)), Oo 36 (.lenS (.t 35)), Oo 37 (.bin .gtr (.t 34) (.t 36))])
  (.cond (.t 37) (.seq (.region [Oo 38 (.build [Zi 0, (.string ⟨#[]⟩), Zi 0, Zi 0, (.bool false), (.string ⟨#[]⟩), Zi 0, (.slice none 0 0), Zi 0, Zi 0, Zi 0] []), On (.store 11 (.t 2) (.t 38)), Oo 3 (.mov (.k (.bool false)))])
  .ret)
  .skip))
  (.seq (.region [Oo 39 (.mov (.t 0)), Oo 40 (.mov (.t 5)), Oo 41 (.mov (.t 5)), Oo 42 (.mov (.t 6)), Oo 43 (.bin .add (.t 41) (.t 42)), Oo 44 (.slS (.t 39) (some (.t 40)) (some (.t 43))), Oo 45 (.addo 1 (.t 4)), On (.store 1 (.t 45) (.t 44))])
  (.seq (.seq (.region [Oo 46 (.addo 4 (.t 4)), Oo 47 (.load false 1 (.t 46))])
  (.cond (.t 47) (.seq (.region [Oo 48 (.mov (.t 0)), Oo 49 (.call 139 [(.t 48), (Ki 16), (Ki 4)]), Oo 8 (.mov (.t 49))])
  (.seq (.seq (.region [Oo 50 (.mov (.t 8)), Oo 51 (.mov (.t 0)), Oo 52 (.lenS (.t 51)), Oo 53 (.mov (.t 7)), Oo 54 (.bin .sub (.t 52) (.t 53)), Oo 55 (.bin .gtr (.t 50) (.t 54))])
  (.cond (.t 55) (.seq (.region [Oo 56 (.build [Zi 0, (.string ⟨#[]⟩), Zi 0, Zi 0, (.bool false), (.string ⟨#[]⟩), Zi 0, (.slice none 0 0), Zi 0, Zi 0, Zi 0] []), On (.store 11 (.t 2) (.t 56)), Oo 3 (.mov (.k (.bool false)))])
  .ret)
  .skip))
  (.seq (.region [Oo 57 (.mov (.t 0)), Oo 58 (.mov (.t 7)), Oo 59 (.mov (.t 7)), Oo 60 (.mov (.t 8)), Oo 61 (.bin .add (.t 59) (.t 60)), Oo 62 (.slS (.t 57) (some (.t 58)) (some (.t 61))), Oo 63 (.addo 5 (.t 4)), On (.store 1 (.t 63) (.t 62))])
  (.seq (.region [Oo 64 (.load true 11 (.t 4)), On (.store 11 (.t 2) (.t 64)), Oo 3 (.mov (.k (.bool true)))])
  .ret))))
  .skip))
  (.seq (.region [Oo 65 (.mov (.t 0)), Oo 66 (.call 139 [(.t 65), (Ki 16), (Ki 4)]), Oo 67 (.mov (.t 0)), Oo 68 (.call 139 [(.t 67), (Ki 28), (Ki 4)]), Oo 69 (.mov (.t 0)), Oo 70 (.call 139 [(.t 69), (Ki 32), (Ki 4)]), Oo 71 (.mov (.t 0)), Oo 72 (.call 139 [(.t 71), (Ki 36), (Ki 4)]), Oo 73 (.addo 6 (.t 4)), On (.store 1 (.t 73) (.t 66)), Oo 74 (.addo 8 (.t 4)), On (.store 1 (.t 74) (.t 68)), Oo 75 (.addo 9 (.t 4)), On (.store 1 (.t 75) (.t 70)), Oo 76 (.addo 10 (.t 4)), On (.store 1 (.t 76) (.t 72))])
  (.seq (.region [Oo 78 (.mov (.t 0)), Oo 79 (.mov (.t 7)), Oo 80 (.slS (.t 78) (some (.t 79)) none), Oo 81 (.call 141 [(.t 80)]), Oo 82 (.call 140 [(.t 81)]), Oo 77 (.mov (.t 82)), Oo 83 (.ext (.t 77) 0), Oo 84 (.ext (.t 77) 1), Oo 9 (.mov (.t 83)), Oo 10 (.mov (.t 84))])
  (.seq (.region [Oo 85 (.mov (.t 9)), Oo 86 (.addo 7 (.t 4)), On (.store 1 (.t 86) (.t 85))])
  (.seq (.region [Oo 87 (.load true 11 (.t 4)), Oo 88 (.mov (.t 10)), Oo 89 (.bin .eql (.t 88) (Ki 0)), On (.store 11 (.t 2) (.t 87)), Oo 3 (.mov (.t 89))])
  .ret))))))))))))
abbrev h93 : HF := ⟨h93c, [.cell 2 true 11, .tmp 3], 90, false⟩
theorem h93_ok : (Tryz.f93.body).bind (compileC Tryz.prog) = some h93c.er := by kernel_rfl
theorem r93_ok : Tryz.f93.results.toList.mapM (retOf Tryz.prog) = some [.cell 2 true 11, .tmp 3] := by kernel_rfl

/-- depository/depositorybase.LittleAt -/
def h94l0 : HC :=
  (.seq (.seq (.region [Oo 11 (.mov (.t 8)), Oo 12 (.bin .geq (.t 11) (Ki 0))])
  (.cond (.t 12) .skip
  (.exit 0)))
  (.seq (.block 1 (.region [Oo 15 (.mov (.t 7)), Oo 16 (.bin .mul (.t 15) (Ki 256)), Oo 17 (.mov (.t 0)), Oo 18 (.mov (.t 1)), Oo 19 (.mov (.t 8)), Oo 20 (.bin .add (.t 18) (.t 19)), Oo 21 (.ixS (.t 17) (.t 20)), Oo 22 (.conv .i64 (.t 21)), Oo 23 (.bin .add (.t 16) (.t 22)), Oo 7 (.mov (.t 23))]))
  (.region [Oo 13 (.mov (.t 8)), Oo 14 (.bin .sub (.t 13) (Ki 1)), Oo 8 (.mov (.t 14))])))
def h94c : HC :=
  (.seq (.region [Oo 6 (.mov (Ki 0))])
  (.seq (.region [Oo 7 (.mov (Ki 0))])
  (.seq (.seq (.region [Oo 9 (.mov (.t 2)), Oo 10 (.bin .sub (.t 9) (Ki 1)), Oo 8 (.mov (.t 10))])
  (.block 0 (.loop [0, 0, 5, 0] h94l0)))
  (.seq (.region [Oo 24 (.mov (.t 7)), Oo 6 (.mov (.t 24))])
  .ret))))
abbrev h94 : HF := ⟨h94c, [.tmp 6], 25, false⟩
theorem h94_ok : (Tryz.f94.body).bind (compileC Tryz.prog) = some h94c.er := by kernel_rfl
theorem r94_ok : Tryz.f94.results.toList.mapM (retOf Tryz.prog) = some [.tmp 6] := by kernel_rfl

/-- depository/depositoryref03.Decode -/
def h95l0 : HC :=
  (.seq (.seq (.region [Oo 18 (.mov (.t 5)), Oo 19 (.mov (.t 0)), Oo 20 (.lenS (.t 19)), Oo 21 (.bin .lss (.t 18) (.t 20)), Oo 22 (.mov (.t 21)), Og 22 true 23 (.mov (.t 0)), Og 22 true 24 (.mov (.t 5)), Og 22 true 25 (.ixS (.t 23) (.t 24)), Og 22 true 26 (.bin .neq (.t 25) (.k (.int .u8 0))), Oo 27 (.pick (.t 22) (.t 26) (.k (.bool false)))])
  (.cond (.t 27) .skip
  (.exit 0)))
  (.block 1 (.seq (.drawn [Qo (Oo 28 (.mov (.t 0))), Qo (Oo 29 (.mov (.t 5))), Qo (Oo 30 (.ixS (.t 28) (.t 29))), Qo (Oo 31 (.conv .i64 (.t 30))), Qo (Oo 32 (.bin .rem (.t 31) (Ki 16))), Qo (Oo 33 (.mov (.t 0))), Qo (Oo 34 (.mov (.t 5))), Qo (Oo 35 (.ixS (.t 33) (.t 34))), Qo (Oo 36 (.conv .i64 (.t 35))), Qo (Oo 37 (.bin .quo (.t 36) (Ki 16))), Qo (Oo 7 (.mov (.t 32))), Qo (Oo 8 (.mov (.t 37)))])
  (.seq (.seq (.region [Oo 38 (.mov (.t 7)), Oo 39 (.call 51 [(.t 38), (Ki 1), (Ki 2)]), Oo 40 (.un .not (.t 39)), Oo 41 (.mov (.t 40)), Og 41 false 42 (.mov (.t 8)), Og 41 false 43 (.call 51 [(.t 42), (Ki 0), (Ki 2)]), Og 41 false 44 (.un .not (.t 43)), Oo 45 (.pick (.t 41) (.k (.bool true)) (.t 44)), Oo 46 (.mov (.t 45)), Og 46 false 47 (.mov (.t 5)), Og 46 false 48 (.bin .add (.t 47) (Ki 1)), Og 46 false 49 (.mov (.t 7)), Og 46 false 50 (.bin .add (.t 48) (.t 49)), Og 46 false 51 (.mov (.t 8)), Og 46 false 52 (.bin .add (.t 50) (.t 51)), Og 46 false 53 (.mov (.t 0)), Og 46 false 54 (.lenS (.t 53)), Og 46 false 55 (.bin .gtr (.t 52) (.t 54)), Oo 56 (.pick (.t 46) (.k (.bool true)) (.t 55))])
  (.cond (.t 56) (.seq (.region [Oo 2 (.mov (.k (.slice none 0 0))), Oo 3 (.mov (Ki 3))])
  .ret)
  .skip))
  (.seq (.region [Oo 58 (.mov (.t 0)), Oo 59 (.mov (.t 5)), Oo 60 (.bin .add (.t 59) (Ki 1)), Oo 61 (.mov (.t 7)), Oo 62 (.call 142 [(.t 58), (.t 60), (.t 61)]), Oo 57 (.mov (.t 62)), Oo 63 (.ext (.t 57) 0), Oo 64 (.ext (.t 57) 1), Oo 9 (.mov (.t 63)), Oo 10 (.mov (.t 64))])
  (.seq (.seq (.region [Oo 65 (.mov (.t 10)), Oo 66 (.un .not (.t 65))])
  (.cond (.t 66) (.seq (.region [Oo 2 (.mov (.k (.slice none 0 0))), Oo 3 (.mov (Ki 3))])
  .ret)
  .skip))
  (.seq (.region [Oo 67 (.mov (.t 9)), Oo 68 (.build [Zi 0, Zi 0] [(0, 1, (Ki (-1))), (1, 1, (.t 67))]), Oo 11 (.alloc [Zi 0, Zi 0]), On (.store 2 (.t 11) (.t 68))])
  (.seq (.seq (.region [Oo 69 (.mov (.t 8)), Oo 70 (.bin .gtr (.t 69) (Ki 0))])
  (.cond (.t 70) (.seq (.region [Oo 72 (.mov (.t 0)), Oo 73 (.mov (.t 5)), Oo 74 (.bin .add (.t 73) (Ki 1)), Oo 75 (.mov (.t 7)), Oo 76 (.bin .add (.t 74) (.t 75)), Oo 77 (.mov (.t 8)), Oo 78 (.call 142 [(.t 72), (.t 76), (.t 77)]), Oo 71 (.mov (.t 78)), Oo 79 (.ext (.t 71) 0), Oo 80 (.ext (.t 71) 1), Oo 12 (.mov (.t 79)), Oo 13 (.mov (.t 80))])
  (.seq (.region [Oo 81 (.mov (.t 6)), Oo 82 (.mov (.t 12)), Oo 83 (.bin .add (.t 81) (.t 82)), Oo 6 (.mov (.t 83))])
  (.seq (.seq (.region [Oo 84 (.mov (.t 13)), Oo 85 (.un .not (.t 84)), Oo 86 (.mov (.t 85)), Og 86 false 87 (.mov (.t 6)), Og 86 false 88 (.bin .eql (.t 87) (Ki (-1))), Oo 89 (.pick (.t 86) (.k (.bool true)) (.t 88))])
  (.cond (.t 89) (.seq (.region [Oo 2 (.mov (.k (.slice none 0 0))), Oo 3 (.mov (Ki 3))])
  .ret)
  .skip))
  (.region [Oo 90 (.mov (.t 6)), Oo 91 (.addo 0 (.t 11)), On (.store 1 (.t 91) (.t 90))]))))
  .skip))
  (.seq (.region [Oo 92 (.mov (.t 4)), Oo 93 (.load true 2 (.t 11)), Oo 94 (.bslc 2 1 [Zi 0, Zi 0] [(0, (.t 93))]), Oo 95 (.app 2 16 [Zi 0, Zi 0] (.t 92) (.t 94)), Oo 4 (.mov (.t 95))])
  (.region [Oo 96 (.mov (.t 5)), Oo 97 (.bin .add (.t 96) (Ki 1)), Oo 98 (.mov (.t 7)), Oo 99 (.bin .add (.t 97) (.t 98)), Oo 100 (.mov (.t 8)), Oo 101 (.bin .add (.t 99) (.t 100)), Oo 5 (.mov (.t 101))]))))))))))
def h95c : HC :=
  (.seq (.region [Oo 2 (.mov (.k (.slice none 0 0))), Oo 3 (.mov (Ki 0))])
  (.seq (.seq (.region [Oo 15 (.mov (.t 0)), Oo 16 (.lenS (.t 15)), Oo 17 (.bin .gtr (.t 16) (Ki 400))])
  (.cond (.t 17) (.seq (.region [Oo 2 (.mov (.k (.slice none 0 0))), Oo 3 (.mov (Ki 8))])
  .ret)
  .skip))
  (.seq (.region [Oo 4 (.mov (.k (.slice none 0 0)))])
  (.gh (.nil 4 2) (.seq (.region [Oo 5 (.mov (Ki 0)), Oo 6 (.mov (Ki 0))])
  (.seq (.block 0 (.loop [0, 3, 0, 0] h95l0))
  (.seq (.seq (.region [Oo 102 (.mov (.t 5)), Oo 103 (.mov (.t 0)), Oo 104 (.lenS (.t 103)), Oo 105 (.bin .sub (.t 104) (Ki 1)), Oo 106 (.bin .neq (.t 102) (.t 105))])
  (.cond (.t 106) (.seq (.region [Oo 2 (.mov (.k (.slice none 0 0))), Oo 3 (.mov (Ki 3))])
  .ret)
  .skip))
  (.seq (.seq (.region [Oo 107 (.mov (.t 4)), Oo 108 (.call 67 [(.t 107)]), Oo 14 (.mov (.t 108))])
  (.seq (.region [Oo 109 (.mov (.t 14)), Oo 110 (.bin .neq (.t 109) (Ki 0))])
  (.cond (.t 110) (.seq (.region [Oo 111 (.mov (.t 14)), Oo 2 (.mov (.k (.slice none 0 0))), Oo 3 (.mov (.t 111))])
  .ret)
  .skip)))
  (.seq (.region [Oo 112 (.mov (.t 4)), Oo 2 (.mov (.t 112)), Oo 3 (.mov (Ki 0))])
  .ret)))))))))
abbrev h95 : HF := ⟨h95c, [.tmp 2, .tmp 3], 113, false⟩
theorem h95_ok : (Tryz.f95.body).bind (compileC Tryz.prog) = some h95c.er := by kernel_rfl
theorem r95_ok : Tryz.f95.results.toList.mapM (retOf Tryz.prog) = some [.tmp 2, .tmp 3] := by kernel_rfl

/-- depository/depositoryref03.Encode -/
def h96l0 : HC :=
  (.seq (.seq (.region [Oo 8 (.mov (.t 5)), Oo 9 (.mov (.t 0)), Oo 10 (.lenL (.t 9)), Oo 11 (.bin .lss (.t 8) (.t 10))])
  (.cond (.t 11) .skip
  (.exit 0)))
  (.seq (.block 1 (.seq (.region [Oo 14 (.mov (.t 0)), Oo 15 (.mov (.t 5)), Oo 16 (.ixL 2 (.t 14) (.t 15)), Oo 17 (.addo 1 (.t 16)), Oo 18 (.load false 1 (.t 17)), Oo 19 (.call 143 [(.t 18)]), Oo 6 (.mov (.t 19))])
  (.seq (.seq (.region [Oo 20 (.mov (.t 0)), Oo 21 (.mov (.t 5)), Oo 22 (.ixL 2 (.t 20) (.t 21)), Oo 23 (.addo 0 (.t 22)), Oo 24 (.load false 1 (.t 23)), Oo 25 (.bin .eql (.t 24) (Ki (-1)))])
  (.cond (.t 25) (.seq (.region [Oo 26 (.mov (.t 3)), Oo 27 (.mov (.t 6)), Oo 28 (.lenS (.t 27)), Oo 29 (.call 97 [(.t 28), (Ki 1)]), Oo 30 (.bin .add (.t 26) (.t 29)), Oo 31 (.mov (.t 6)), Oo 32 (.bin .add (.t 30) (.t 31)), Oo 3 (.mov (.t 32))])
  (.exit 1))
  .skip))
  (.seq (.region [Oo 33 (.mov (.t 0)), Oo 34 (.mov (.t 5)), Oo 35 (.ixL 2 (.t 33) (.t 34)), Oo 36 (.addo 0 (.t 35)), Oo 37 (.load false 1 (.t 36)), Oo 38 (.mov (.t 4)), Oo 39 (.bin .sub (.t 37) (.t 38)), Oo 40 (.call 143 [(.t 39)]), Oo 7 (.mov (.t 40))])
  (.seq (.region [Oo 41 (.mov (.t 0)), Oo 42 (.mov (.t 5)), Oo 43 (.ixL 2 (.t 41) (.t 42)), Oo 44 (.addo 0 (.t 43)), Oo 45 (.load false 1 (.t 44)), Oo 4 (.mov (.t 45))])
  (.region [Oo 46 (.mov (.t 3)), Oo 47 (.mov (.t 6)), Oo 48 (.lenS (.t 47)), Oo 49 (.mov (.t 7)), Oo 50 (.lenS (.t 49)), Oo 51 (.bin .mul (Ki 16) (.t 50)), Oo 52 (.bin .add (.t 48) (.t 51)), Oo 53 (.call 97 [(.t 52), (Ki 1)]), Oo 54 (.bin .add (.t 46) (.t 53)), Oo 55 (.mov (.t 6)), Oo 56 (.bin .add (.t 54) (.t 55)), Oo 57 (.mov (.t 7)), Oo 58 (.bin .add (.t 56) (.t 57)), Oo 3 (.mov (.t 58))]))))))
  (.region [Oo 12 (.mov (.t 5)), Oo 13 (.bin .add (.t 12) (Ki 1)), Oo 5 (.mov (.t 13))])))
def h96c : HC :=
  (.seq (.region [Oo 2 (.mov (.k (.string ⟨#[]⟩)))])
  (.seq (.region [Oo 3 (.mov (.k (.string ⟨#[]⟩))), Oo 4 (.mov (Ki 0))])
  (.seq (.seq (.region [Oo 5 (.mov (Ki 0))])
  (.block 0 (.loop [0, 2, 0, 0] h96l0)))
  (.seq (.region [Oo 59 (.mov (.t 3)), Oo 60 (.call 100 [(Ki 1)]), Oo 61 (.bin .add (.t 59) (.t 60)), Oo 2 (.mov (.t 61))])
  .ret))))
abbrev h96 : HF := ⟨h96c, [.tmp 2], 62, false⟩
theorem h96_ok : (Tryz.f96.body).bind (compileC Tryz.prog) = some h96c.er := by kernel_rfl
theorem r96_ok : Tryz.f96.results.toList.mapM (retOf Tryz.prog) = some [.tmp 2] := by kernel_rfl

/-- depository/depositorybase.Little -/
def h97l0 : HC :=
  (.seq (.seq (.region [Oo 7 (.mov (.t 6)), Oo 8 (.mov (.t 1)), Oo 9 (.bin .lss (.t 7) (.t 8))])
  (.cond (.t 9) .skip
  (.exit 0)))
  (.seq (.block 1 (.seq (.region [Oo 12 (.mov (.t 5)), Oo 13 (.mov (.t 0)), Oo 14 (.bin .rem (.t 13) (Ki 256)), Oo 15 (.conv .u8 (.t 14)), Oo 16 (.bslc 1 1 [(.int .u8 0)] [(0, (.t 15))]), Oo 17 (.app 1 1 [(.int .u8 0)] (.t 12) (.t 16)), Oo 5 (.mov (.t 17))])
  (.region [Oo 18 (.mov (.t 0)), Oo 19 (.bin .quo (.t 18) (Ki 256)), Oo 0 (.mov (.t 19))])))
  (.region [Oo 10 (.mov (.t 6)), Oo 11 (.bin .add (.t 10) (Ki 1)), Oo 6 (.mov (.t 11))])))
def h97c : HC :=
  (.seq (.region [Oo 4 (.mov (.k (.string ⟨#[]⟩)))])
  (.seq (.region [Oo 5 (.mov (.k (.slice none 0 0)))])
  (.gh (.nil 5 1) (.seq (.seq (.region [Oo 6 (.mov (Ki 0))])
  (.block 0 (.loop [0, 0, 3, 0] h97l0)))
  (.seq (.region [Oo 20 (.mov (.t 5)), Oo 21 (.cvbs (.t 20)), Oo 4 (.mov (.t 21))])
  .ret)))))
abbrev h97 : HF := ⟨h97c, [.tmp 4], 22, false⟩
theorem h97_ok : (Tryz.f97.body).bind (compileC Tryz.prog) = some h97c.er := by kernel_rfl
theorem r97_ok : Tryz.f97.results.toList.mapM (retOf Tryz.prog) = some [.tmp 4] := by kernel_rfl

/-- depository/depositorybase.Bit -/
def h98c : HC :=
  (.seq (.region [Oo 2 (.mov (Ki 0))])
  (.seq (.seq (.region [Oo 3 (.mov (.t 0))])
  (.cond (.t 3) (.seq (.region [Oo 2 (.mov (Ki 1))])
  .ret)
  .skip))
  (.seq (.region [Oo 2 (.mov (Ki 0))])
  .ret)))
abbrev h98 : HF := ⟨h98c, [.tmp 2], 4, false⟩
theorem h98_ok : (Tryz.f98.body).bind (compileC Tryz.prog) = some h98c.er := by kernel_rfl
theorem r98_ok : Tryz.f98.results.toList.mapM (retOf Tryz.prog) = some [.tmp 2] := by kernel_rfl

/-- depository/depositorybase.Mod -/
def h99c : HC :=
  (.seq (.region [Oo 4 (.mov (Ki 0))])
  (.seq (.region [Oo 5 (.mov (.t 0)), Oo 6 (.mov (.t 1)), Oo 7 (.bin .rem (.t 5) (.t 6)), Oo 0 (.mov (.t 7))])
  (.seq (.seq (.region [Oo 8 (.mov (.t 0)), Oo 9 (.bin .lss (.t 8) (Ki 0))])
  (.cond (.t 9) (.region [Oo 10 (.mov (.t 0)), Oo 11 (.mov (.t 1)), Oo 12 (.bin .add (.t 10) (.t 11)), Oo 0 (.mov (.t 12))])
  .skip))
  (.seq (.region [Oo 13 (.mov (.t 0)), Oo 4 (.mov (.t 13))])
  .ret))))
abbrev h99 : HF := ⟨h99c, [.tmp 4], 14, false⟩
theorem h99_ok : (Tryz.f99.body).bind (compileC Tryz.prog) = some h99c.er := by kernel_rfl
theorem r99_ok : Tryz.f99.results.toList.mapM (retOf Tryz.prog) = some [.tmp 4] := by kernel_rfl

/-- depository/depositorybase.Zeros -/
def h100c : HC :=
  (.seq (.region [Oo 2 (.mov (.k (.string ⟨#[]⟩)))])
  (.seq (.region [Oo 3 (.mov (.t 0)), Oo 4 (.min2 (.t 3) (Ki 200000)), Oo 5 (.max2 (Ki 0) (.t 4)), Oo 6 (.mk 1 1 [(.int .u8 0)] (.t 5) (.t 5)), Oo 7 (.cvbs (.t 6)), Oo 2 (.mov (.t 7))])
  .ret))
abbrev h100 : HF := ⟨h100c, [.tmp 2], 8, false⟩
theorem h100_ok : (Tryz.f100.body).bind (compileC Tryz.prog) = some h100c.er := by kernel_rfl
theorem r100_ok : Tryz.f100.results.toList.mapM (retOf Tryz.prog) = some [.tmp 2] := by kernel_rfl

/-- depository/depositoryref08.filled -/
def h101c : HC :=
  (.seq (.region [Oo 2 (.mov (.k (.string ⟨#[]⟩)))])
  (.seq (.region [Oo 3 (.mov (.t 0)), Oo 4 (.mov (.t 0)), Oo 5 (.lenS (.t 4)), Oo 6 (.call 70 [(.t 5), (Ki 8)]), Oo 7 (.bin .mul (Ki 8) (.t 6)), Oo 8 (.mov (.t 0)), Oo 9 (.lenS (.t 8)), Oo 10 (.bin .sub (.t 7) (.t 9)), Oo 11 (.call 100 [(.t 10)]), Oo 12 (.bin .add (.t 3) (.t 11)), Oo 2 (.mov (.t 12))])
  .ret))
abbrev h101 : HF := ⟨h101c, [.tmp 2], 13, false⟩
theorem h101_ok : (Tryz.f101.body).bind (compileC Tryz.prog) = some h101c.er := by kernel_rfl
theorem r101_ok : Tryz.f101.results.toList.mapM (retOf Tryz.prog) = some [.tmp 2] := by kernel_rfl

/-- strconv.FormatInt -/
def h103c : HC :=
  (.seq (.region [Oo 4 (.mov (.k (.string ⟨#[]⟩)))])
  (.seq (.region [Oo 5 (.mov (.t 0)), Oo 6 (.mov (.t 1)), Oo 7 (.call 146 [(.t 5), (.t 6)]), Oo 4 (.mov (.t 7))])
  .ret))
abbrev h103 : HF := ⟨h103c, [.tmp 4], 8, false⟩
theorem h103_ok : (Tryz.f103.body).bind (compileC Tryz.prog) = some h103c.er := by kernel_rfl
theorem r103_ok : Tryz.f103.results.toList.mapM (retOf Tryz.prog) = some [.tmp 4] := by kernel_rfl

/-- strconv.Itoa -/
def h104c : HC :=
  (.seq (.region [Oo 2 (.mov (.k (.string ⟨#[]⟩)))])
  (.seq (.region [Oo 3 (.mov (.t 0)), Oo 4 (.call 147 [(.t 3)]), Oo 2 (.mov (.t 4))])
  .ret))
abbrev h104 : HF := ⟨h104c, [.tmp 2], 5, false⟩
theorem h104_ok : (Tryz.f104.body).bind (compileC Tryz.prog) = some h104c.er := by kernel_rfl
theorem r104_ok : Tryz.f104.results.toList.mapM (retOf Tryz.prog) = some [.tmp 2] := by kernel_rfl

/-- depository/depositorybase.Decimal -/
def h112l0 : HC :=
  (.seq (.seq (.region [Oo 10 (.mov (.t 0)), Oo 11 (.bin .neq (.t 10) (Ki 0))])
  (.cond (.t 11) .skip
  (.exit 0)))
  (.block 1 (.seq (.region [Oo 12 (.mov (.t 0)), Oo 13 (.bin .rem (.t 12) (Ki 10)), Oo 5 (.mov (.t 13))])
  (.seq (.region [Oo 14 (.mov (.t 5)), Oo 15 (.call 153 [(.t 14)]), Oo 16 (.bin .add (Ki 48) (.t 15)), Oo 17 (.conv .u8 (.t 16)), Oo 18 (.bslc 1 1 [(.int .u8 0)] [(0, (.t 17))]), Oo 19 (.cvbs (.t 18)), Oo 20 (.mov (.t 3)), Oo 21 (.bin .add (.t 19) (.t 20)), Oo 3 (.mov (.t 21))])
  (.region [Oo 22 (.mov (.t 0)), Oo 23 (.bin .quo (.t 22) (Ki 10)), Oo 0 (.mov (.t 23))])))))
def h112c : HC :=
  (.seq (.region [Oo 2 (.mov (.k (.string ⟨#[]⟩)))])
  (.seq (.seq (.region [Oo 6 (.mov (.t 0)), Oo 7 (.bin .eql (.t 6) (Ki 0))])
  (.cond (.t 7) (.seq (.region [Oo 2 (.mov (.k (.string ⟨#[48]⟩)))])
  .ret)
  .skip))
  (.seq (.region [Oo 3 (.mov (.k (.string ⟨#[]⟩))), Oo 4 (.mov (.k (.string ⟨#[]⟩)))])
  (.seq (.seq (.region [Oo 8 (.mov (.t 0)), Oo 9 (.bin .lss (.t 8) (Ki 0))])
  (.cond (.t 9) (.region [Oo 4 (.mov (.k (.string ⟨#[45]⟩)))])
  .skip))
  (.seq (.block 0 (.loop [0, 2, 0] h112l0))
  (.seq (.region [Oo 24 (.mov (.t 4)), Oo 25 (.mov (.t 3)), Oo 26 (.bin .add (.t 24) (.t 25)), Oo 2 (.mov (.t 26))])
  .ret))))))
abbrev h112 : HF := ⟨h112c, [.tmp 2], 27, false⟩
theorem h112_ok : (Tryz.f112.body).bind (compileC Tryz.prog) = some h112c.er := by kernel_rfl
theorem r112_ok : Tryz.f112.results.toList.mapM (retOf Tryz.prog) = some [.tmp 2] := by kernel_rfl

/-- depository/depositorybase.Has -/
def h113l0 : HC :=
  (.seq (.seq (.region [Oo 6 (.mov (.t 5)), Oo 7 (.mov (.t 0)), Oo 8 (.lenL (.t 7)), Oo 9 (.bin .lss (.t 6) (.t 8))])
  (.cond (.t 9) .skip
  (.exit 0)))
  (.seq (.block 1 (.seq (.region [Oo 12 (.mov (.t 0)), Oo 13 (.mov (.t 5)), Oo 14 (.ixL 1 (.t 12) (.t 13)), Oo 15 (.load false 1 (.t 14)), Oo 16 (.mov (.t 1)), Oo 17 (.bin .eql (.t 15) (.t 16))])
  (.cond (.t 17) (.seq (.region [Oo 4 (.mov (.k (.bool true)))])
  .ret)
  .skip)))
  (.region [Oo 10 (.mov (.t 5)), Oo 11 (.bin .add (.t 10) (Ki 1)), Oo 5 (.mov (.t 11))])))
def h113c : HC :=
  (.seq (.region [Oo 4 (.mov (.k (.bool false)))])
  (.seq (.seq (.region [Oo 5 (.mov (Ki 0))])
  (.block 0 (.loop [0, 0, 3] h113l0)))
  (.seq (.region [Oo 4 (.mov (.k (.bool false)))])
  .ret)))
abbrev h113 : HF := ⟨h113c, [.tmp 4], 18, false⟩
theorem h113_ok : (Tryz.f113.body).bind (compileC Tryz.prog) = some h113c.er := by kernel_rfl
theorem r113_ok : Tryz.f113.results.toList.mapM (retOf Tryz.prog) = some [.tmp 4] := by kernel_rfl

/-- depository/depositoryref05.NameErr -/
def h114l0 : HC :=
  (.seq (.seq (.region [Oo 33 (.mov (.t 3)), Oo 34 (.mov (.t 0)), Oo 35 (.lenS (.t 34)), Oo 36 (.bin .lss (.t 33) (.t 35))])
  (.cond (.t 36) .skip
  (.exit 0)))
  (.seq (.block 1 (.seq (.region [Oo 39 (.mov (.t 0)), Oo 40 (.mov (.t 3)), Oo 41 (.ixS (.t 39) (.t 40)), Oo 42 (.call 154 [(.t 41)]), Oo 43 (.un .not (.t 42))])
  (.cond (.t 43) (.seq (.region [Oo 2 (.mov (Ki 4))])
  .ret)
  .skip)))
  (.region [Oo 37 (.mov (.t 3)), Oo 38 (.bin .add (.t 37) (Ki 1)), Oo 3 (.mov (.t 38))])))
def h114c : HC :=
  (.seq (.region [Oo 2 (.mov (Ki 0))])
  (.seq (.seq (.region [Oo 4 (.mov (.t 0)), Oo 5 (.lenS (.t 4)), Oo 6 (.bin .gtr (.t 5) (Ki 32))])
  (.cond (.t 6) (.seq (.region [Oo 2 (.mov (Ki 8))])
  .ret)
  .skip))
  (.seq (.seq (.region [Oo 7 (.mov (.t 0)), Oo 8 (.bin .eql (.t 7) (.k (.string ⟨#[]⟩))), Oo 9 (.mov (.t 8)), Og 9 false 10 (.mov (.t 0)), Og 9 false 11 (.bin .eql (.t 10) (.k (.string ⟨#[46]⟩))), Oo 12 (.pick (.t 9) (.k (.bool true)) (.t 11)), Oo 13 (.mov (.t 12)), Og 13 false 14 (.mov (.t 0)), Og 13 false 15 (.bin .eql (.t 14) (.k (.string ⟨#[46, 46]⟩))), Oo 16 (.pick (.t 13) (.k (.bool true)) (.t 15)), Oo 17 (.mov (.t 16)), Og 17 false 18 (.mov (.t 0)), Og 17 false 19 (.mov (.t 0)), Og 17 false 20 (.lenS (.t 19)), Og 17 false 21 (.bin .sub (.t 20) (Ki 1)), Og 17 false 22 (.ixS (.t 18) (.t 21)), Og 17 false 23 (.bin .eql (.t 22) (.k (.int .u8 32))), Oo 24 (.pick (.t 17) (.k (.bool true)) (.t 23)), Oo 25 (.mov (.t 24)), Og 25 false 26 (.mov (.t 0)), Og 25 false 27 (.mov (.t 0)), Og 25 false 28 (.lenS (.t 27)), Og 25 false 29 (.bin .sub (.t 28) (Ki 1)), Og 25 false 30 (.ixS (.t 26) (.t 29)), Og 25 false 31 (.bin .eql (.t 30) (.k (.int .u8 46))), Oo 32 (.pick (.t 25) (.k (.bool true)) (.t 31))])
  (.cond (.t 32) (.seq (.region [Oo 2 (.mov (Ki 4))])
  .ret)
  .skip))
  (.seq (.seq (.region [Oo 3 (.mov (Ki 0))])
  (.block 0 (.loop [0, 2] h114l0)))
  (.seq (.region [Oo 2 (.mov (Ki 0))])
  .ret)))))
abbrev h114 : HF := ⟨h114c, [.tmp 2], 44, false⟩
theorem h114_ok : (Tryz.f114.body).bind (compileC Tryz.prog) = some h114c.er := by kernel_rfl
theorem r114_ok : Tryz.f114.results.toList.mapM (retOf Tryz.prog) = some [.tmp 2] := by kernel_rfl

/-- depository/runs.rangeErr -/
def h115c : HC :=
  (.seq (.region [Oo 1 (.box (.t 0)), Oo 2 (.mov (Ki 0))])
  (.seq (.seq (.region [Oo 3 (.load true 2 (.t 1)), Oo 4 (.call 155 [(.t 3)])])
  (.cond (.t 4) (.seq (.region [Oo 5 (.addo 1 (.t 1)), Oo 6 (.load false 1 (.t 5)), Oo 7 (.call 156 [(.t 6), (Ki 1), (Ki 4096)]), Oo 8 (.call 118 [(.t 7), (Ki 2)]), Oo 2 (.mov (.t 8))])
  .ret)
  .skip))
  (.seq (.seq (.region [Oo 9 (.addo 0 (.t 1)), Oo 10 (.load false 1 (.t 9)), Oo 11 (.call 156 [(.t 10), (Ki 0), (Ki 511)]), Oo 12 (.un .not (.t 11))])
  (.cond (.t 12) (.seq (.region [Oo 2 (.mov (Ki 2))])
  .ret)
  .skip))
  (.seq (.region [Oo 13 (.addo 1 (.t 1)), Oo 14 (.load false 1 (.t 13)), Oo 15 (.addo 0 (.t 1)), Oo 16 (.load false 1 (.t 15)), Oo 17 (.bin .sub (Ki 512) (.t 16)), Oo 18 (.call 156 [(.t 14), (Ki 1), (.t 17)]), Oo 19 (.call 118 [(.t 18), (Ki 2)]), Oo 2 (.mov (.t 19))])
  .ret))))
abbrev h115 : HF := ⟨h115c, [.tmp 2], 20, false⟩
theorem h115_ok : (Tryz.f115.body).bind (compileC Tryz.prog) = some h115c.er := by kernel_rfl
theorem r115_ok : Tryz.f115.results.toList.mapM (retOf Tryz.prog) = some [.tmp 2] := by kernel_rfl

/-- depository/runs.joins -/
def h116c : HC :=
  (.seq (.region [Oo 2 (.box (.t 0)), Oo 3 (.box (.t 1)), Oo 4 (.mov (.k (.bool false)))])
  (.seq (.drawn [Qo (Oo 5 (.load true 2 (.t 2))), Qo (Oo 6 (.call 155 [(.t 5)])), Qo (Oo 7 (.load true 2 (.t 3))), Qe (Oo 8 (.call 155 [(.t 7)])), Qo (Oo 9 (.binb false (.t 6) (.t 8))), Qo (Oo 10 (.mov (.t 9))), Qo (Og 10 true 11 (.load true 2 (.t 2))), Qe (Og 10 true 12 (.call 155 [(.t 11)])), Qo (Og 10 true 13 (.mov (.t 12))), Qo (Og 13 false 14 (.addo 0 (.t 2))), Qo (Og 13 false 15 (.load false 1 (.t 14))), Qo (Og 13 false 16 (.addo 1 (.t 2))), Qo (Og 13 false 17 (.load false 1 (.t 16))), Qo (Og 13 false 18 (.bin .add (.t 15) (.t 17))), Qo (Og 13 false 19 (.addo 0 (.t 3))), Qo (Og 13 false 20 (.load false 1 (.t 19))), Qo (Og 13 false 21 (.bin .eql (.t 18) (.t 20))), Qo (Og 10 true 22 (.pick (.t 13) (.k (.bool true)) (.t 21))), Qo (Oo 23 (.pick (.t 10) (.t 22) (.k (.bool false)))), Qo (Oo 4 (.mov (.t 23)))])
  .ret))
abbrev h116 : HF := ⟨h116c, [.tmp 4], 24, false⟩
theorem h116_ok : (Tryz.f116.body).bind (compileC Tryz.prog) = some h116c.er := by kernel_rfl
theorem r116_ok : Tryz.f116.results.toList.mapM (retOf Tryz.prog) = some [.tmp 4] := by kernel_rfl

/-- (*depository/runs.used).take -/
def h117l0 : HC :=
  (.seq (.seq (.region [Oo 11 (.mov (.t 6)), Oo 12 (.addo 0 (.t 3)), Oo 13 (.load false 1 (.t 12)), Oo 14 (.addo 1 (.t 3)), Oo 15 (.load false 1 (.t 14)), Oo 16 (.bin .add (.t 13) (.t 15)), Oo 17 (.bin .lss (.t 11) (.t 16))])
  (.cond (.t 17) .skip
  (.exit 0)))
  (.seq (.block 1 (.seq (.region [Oo 20 (.mov (.t 5)), Oo 21 (.mov (.t 20)), Og 21 true 22 (.mov (.t 0)), Og 21 true 23 (.mov (.t 6)), Og 21 true 24 (.nilc (.t 22)), Og 21 true 25 (.ixA 512 1 (.t 24) (.t 23)), Og 21 true 26 (.load false 1 (.t 25)), Og 21 true 27 (.un .not (.t 26)), Oo 28 (.pick (.t 21) (.t 27) (.k (.bool false))), Oo 5 (.mov (.t 28))])
  (.region [Oo 29 (.mov (.t 0)), Oo 30 (.mov (.t 6)), Oo 31 (.nilc (.t 29)), Oo 32 (.ixA 512 1 (.t 31) (.t 30)), On (.store 1 (.t 32) (.k (.bool true)))])))
  (.region [Oo 18 (.mov (.t 6)), Oo 19 (.bin .add (.t 18) (Ki 1)), Oo 6 (.mov (.t 19))])))
def h117c : HC :=
  (.seq (.region [Oo 3 (.box (.t 1)), Oo 4 (.mov (.k (.bool false)))])
  (.seq (.seq (.region [Oo 7 (.load true 2 (.t 3)), Oo 8 (.call 155 [(.t 7)])])
  (.cond (.t 8) (.seq (.region [Oo 4 (.mov (.k (.bool true)))])
  .ret)
  .skip))
  (.seq (.region [Oo 5 (.mov (.k (.bool true)))])
  (.seq (.seq (.region [Oo 9 (.addo 0 (.t 3)), Oo 10 (.load false 1 (.t 9)), Oo 6 (.mov (.t 10))])
  (.block 0 (.loop [0, 2, 1, 0] h117l0)))
  (.seq (.region [Oo 33 (.mov (.t 5)), Oo 4 (.mov (.t 33))])
  .ret)))))
abbrev h117 : HF := ⟨h117c, [.tmp 4], 34, false⟩
theorem h117_ok : (Tryz.f117.body).bind (compileC Tryz.prog) = some h117c.er := by kernel_rfl
theorem r117_ok : Tryz.f117.results.toList.mapM (retOf Tryz.prog) = some [.tmp 4] := by kernel_rfl

/-- depository/runs.unless -/
def h118c : HC :=
  (.seq (.region [Oo 4 (.mov (Ki 0))])
  (.seq (.seq (.region [Oo 5 (.mov (.t 0))])
  (.cond (.t 5) (.seq (.region [Oo 4 (.mov (Ki 0))])
  .ret)
  .skip))
  (.seq (.region [Oo 6 (.mov (.t 1)), Oo 4 (.mov (.t 6))])
  .ret)))
abbrev h118 : HF := ⟨h118c, [.tmp 4], 7, false⟩
theorem h118_ok : (Tryz.f118.body).bind (compileC Tryz.prog) = some h118c.er := by kernel_rfl
theorem r118_ok : Tryz.f118.results.toList.mapM (retOf Tryz.prog) = some [.tmp 4] := by kernel_rfl

/-- depository/runs.length -/
def h119l0 : HC :=
  (.seq (.region [Oo 9 (.bin .lss (.t 8) (.t 7))])
  (.seq (.cond (.t 9) .skip
  (.exit 0))
  (.seq (.block 1 (.seq (.region [Oo 10 (.ixL 2 (.t 6) (.t 8)), Oo 11 (.load true 2 (.t 10)), Oo 5 (.alloc [Zi 0, Zi 0]), On (.store 2 (.t 5) (.t 11))])
  (.region [Oo 12 (.mov (.t 3)), Oo 13 (.addo 1 (.t 5)), Oo 14 (.load false 1 (.t 13)), Oo 15 (.bin .add (.t 12) (.t 14)), Oo 3 (.mov (.t 15))])))
  (.region [Oo 16 (.bin .add (.t 8) (Ki 1)), Oo 8 (.mov (.t 16))]))))
def h119c : HC :=
  (.seq (.region [Oo 2 (.mov (Ki 0))])
  (.seq (.region [Oo 3 (.mov (Ki 0))])
  (.seq (.seq (.region [Oo 6 (.mov (.t 0)), Oo 7 (.lenL (.t 6)), Oo 8 (.mov (Ki 0))])
  (.block 0 (.loop [3, 2, 0, 0] h119l0)))
  (.seq (.region [Oo 17 (.mov (.t 3)), Oo 2 (.mov (.t 17))])
  .ret))))
abbrev h119 : HF := ⟨h119c, [.tmp 2], 18, false⟩
theorem h119_ok : (Tryz.f119.body).bind (compileC Tryz.prog) = some h119c.er := by kernel_rfl
theorem r119_ok : Tryz.f119.results.toList.mapM (retOf Tryz.prog) = some [.tmp 2] := by kernel_rfl

/-- slices.IndexFunc[[]depository/api.Run,depository/api.Run] -/
def h120l0 : HC :=
  (.seq (.region [Oo 9 (.bin .lss (.t 8) (.t 7))])
  (.seq (.cond (.t 9) .skip
  (.exit 0))
  (.seq (.block 1 (.seq (.region [Oo 10 (.mov (.t 8)), Oo 5 (.mov (.t 10))])
  (.seq (.region [Oo 11 (.mov (.t 1)), Oo 12 (.mov (.t 0)), Oo 13 (.mov (.t 5)), Oo 14 (.ixL 2 (.t 12) (.t 13)), Oo 15 (.load true 2 (.t 14)), Oo 16 (.callv (.t 11) [(.t 15)])])
  (.cond (.t 16) (.seq (.region [Oo 17 (.mov (.t 5)), Oo 4 (.mov (.t 17))])
  .ret)
  .skip))))
  (.region [Oo 18 (.bin .add (.t 8) (Ki 1)), Oo 8 (.mov (.t 18))]))))
def h120c : HC :=
  (.seq (.region [Oo 4 (.mov (Ki 0))])
  (.seq (.seq (.region [Oo 6 (.mov (.t 0)), Oo 7 (.lenL (.t 6)), Oo 8 (.mov (Ki 0))])
  (.block 0 (.loop [0, 0, 5, 0] h120l0)))
  (.seq (.region [Oo 4 (.mov (Ki (-1)))])
  .ret)))
abbrev h120 : HF := ⟨h120c, [.tmp 4], 19, false⟩
theorem h120_ok : (Tryz.f120.body).bind (compileC Tryz.prog) = some h120c.er := by kernel_rfl
theorem r120_ok : Tryz.f120.results.toList.mapM (retOf Tryz.prog) = some [.tmp 4] := by kernel_rfl

/-- depository/depositoryref03.Check -/
def h121l0 : HC :=
  (.seq (.seq (.region [Oo 8 (.mov (.t 4)), Oo 9 (.mov (.t 0)), Oo 10 (.lenL (.t 9)), Oo 11 (.bin .lss (.t 8) (.t 10))])
  (.cond (.t 11) .skip
  (.exit 0)))
  (.seq (.block 1 (.seq (.seq (.region [Oo 14 (.mov (.t 0)), Oo 15 (.mov (.t 4)), Oo 16 (.ixL 2 (.t 14) (.t 15)), Oo 17 (.load true 2 (.t 16)), Oo 18 (.call 157 [(.t 17)]), Oo 19 (.un .not (.t 18))])
  (.cond (.t 19) (.seq (.region [Oo 20 (.mov (.t 4)), Oo 2 (.mov (.t 20)), Oo 3 (.mov (Ki 2))])
  .ret)
  .skip))
  (.seq (.seq (.drawn [Qo (Oo 21 (.mov (.t 4))), Qo (Oo 22 (.bin .gtr (.t 21) (Ki 0))), Qo (Oo 23 (.mov (.t 22))), Qo (Og 23 true 24 (.mov (.t 0))), Qo (Og 23 true 25 (.mov (.t 4))), Qo (Og 23 true 26 (.bin .sub (.t 25) (Ki 1))), Qo (Og 23 true 27 (.ixL 2 (.t 24) (.t 26))), Qo (Og 23 true 28 (.load true 2 (.t 27))), Qo (Og 23 true 29 (.mov (.t 0))), Qo (Og 23 true 30 (.mov (.t 4))), Qo (Og 23 true 31 (.ixL 2 (.t 29) (.t 30))), Qo (Og 23 true 32 (.load true 2 (.t 31))), Qe (Og 23 true 33 (.call 128 [(.t 28), (.t 32)])), Qo (Oo 34 (.pick (.t 23) (.t 33) (.k (.bool false))))])
  (.cond (.t 34) (.seq (.region [Oo 35 (.mov (.t 4)), Oo 2 (.mov (.t 35)), Oo 3 (.mov (Ki 3))])
  .ret)
  .skip))
  (.seq (.region [Oo 36 (.mov (.t 0)), Oo 37 (.mov (.t 4)), Oo 38 (.call 127 [(.t 36), (.t 37)])])
  (.cond (.t 38) (.seq (.region [Oo 39 (.mov (.t 4)), Oo 2 (.mov (.t 39)), Oo 3 (.mov (Ki 23))])
  .ret)
  .skip)))))
  (.region [Oo 12 (.mov (.t 4)), Oo 13 (.bin .add (.t 12) (Ki 1)), Oo 4 (.mov (.t 13))])))
def h121c : HC :=
  (.seq (.region [Oo 2 (.mov (Ki 0)), Oo 3 (.mov (Ki 0))])
  (.seq (.seq (.region [Oo 5 (.mov (.t 0)), Oo 6 (.lenL (.t 5)), Oo 7 (.bin .gtr (.t 6) (Ki 64))])
  (.cond (.t 7) (.seq (.region [Oo 2 (.mov (Ki 0)), Oo 3 (.mov (Ki 8))])
  .ret)
  .skip))
  (.seq (.seq (.region [Oo 4 (.mov (Ki 0))])
  (.block 0 (.loop [0, 3] h121l0)))
  (.seq (.seq (.region [Oo 40 (.mov (.t 0)), Oo 41 (.call 69 [(.t 40)]), Oo 42 (.bin .gtr (.t 41) (Ki 4096))])
  (.cond (.t 42) (.seq (.region [Oo 2 (.mov (Ki 0)), Oo 3 (.mov (Ki 8))])
  .ret)
  .skip))
  (.seq (.region [Oo 2 (.mov (Ki 0)), Oo 3 (.mov (Ki 0))])
  .ret)))))
abbrev h121 : HF := ⟨h121c, [.tmp 2, .tmp 3], 43, false⟩
theorem h121_ok : (Tryz.f121.body).bind (compileC Tryz.prog) = some h121c.er := by kernel_rfl
theorem r121_ok : Tryz.f121.results.toList.mapM (retOf Tryz.prog) = some [.tmp 2, .tmp 3] := by kernel_rfl

/-- depository/depositorybase.Floor -/
def h122c : HC :=
  (.seq (.region [Oo 4 (.mov (Ki 0))])
  (.seq (.region [Oo 6 (.mov (.t 0)), Oo 7 (.mov (.t 1)), Oo 8 (.bin .quo (.t 6) (.t 7)), Oo 5 (.mov (.t 8))])
  (.seq (.seq (.region [Oo 9 (.mov (.t 0)), Oo 10 (.mov (.t 1)), Oo 11 (.bin .rem (.t 9) (.t 10)), Oo 12 (.bin .lss (.t 11) (Ki 0))])
  (.cond (.t 12) (.region [Oo 13 (.mov (.t 5)), Oo 14 (.bin .sub (.t 13) (Ki 1)), Oo 5 (.mov (.t 14))])
  .skip))
  (.seq (.region [Oo 15 (.mov (.t 5)), Oo 4 (.mov (.t 15))])
  .ret))))
abbrev h122 : HF := ⟨h122c, [.tmp 4], 16, false⟩
theorem h122_ok : (Tryz.f122.body).bind (compileC Tryz.prog) = some h122c.er := by kernel_rfl
theorem r122_ok : Tryz.f122.results.toList.mapM (retOf Tryz.prog) = some [.tmp 4] := by kernel_rfl

/-- depository/runs.cutErr -/
def h123c : HC :=
  (.seq (.region [Oo 6 (.mov (Ki 0))])
  (.seq (.region [Oo 7 (.mov (.t 0)), Oo 8 (.bslc 1 1 [(.slice none 0 0)] [(0, (.t 7))]), Oo 9 (.call 126 [(.t 8)]), Oo 10 (.mov (.t 1)), Oo 11 (.call 156 [(.t 10), (Ki 0), (Ki 4096)]), Oo 12 (.mov (.t 11)), Og 12 true 13 (.mov (.t 2)), Og 12 true 14 (.call 156 [(.t 13), (Ki 0), (Ki 4096)]), Oo 15 (.pick (.t 12) (.t 14) (.k (.bool false))), Oo 16 (.call 118 [(.t 15), (Ki 2)]), Oo 17 (.mov (.t 1)), Oo 18 (.mov (.t 0)), Oo 19 (.call 119 [(.t 18)]), Oo 20 (.mov (.t 2)), Oo 21 (.bin .sub (.t 19) (.t 20)), Oo 22 (.bin .leq (.t 17) (.t 21)), Oo 23 (.call 118 [(.t 22), (Ki 37)]), Oo 24 (.bslc 1 3 [Zi 0] [(0, (.t 9)), (1, (.t 16)), (2, (.t 23))]), Oo 25 (.call 158 [(.t 24)]), Oo 6 (.mov (.t 25))])
  .ret))
abbrev h123 : HF := ⟨h123c, [.tmp 6], 26, false⟩
theorem h123_ok : (Tryz.f123.body).bind (compileC Tryz.prog) = some h123c.er := by kernel_rfl
theorem r123_ok : Tryz.f123.results.toList.mapM (retOf Tryz.prog) = some [.tmp 6] := by kernel_rfl

/-- depository/runs.made -/
def h124l0 : HC :=
  (.seq (.region [Oo 10 (.bin .lss (.t 9) (.t 8))])
  (.seq (.cond (.t 10) .skip
  (.exit 0))
  (.seq (.block 1 (.seq (.region [Oo 11 (.ixL 1 (.t 7) (.t 9)), Oo 12 (.load false 1 (.t 11)), Oo 6 (.mov (.t 12))])
  (.region [Oo 13 (.mov (.t 6)), Oo 14 (.call 159 [(.t 4), (.t 13)])])))
  (.region [Oo 15 (.bin .add (.t 9) (Ki 1)), Oo 9 (.mov (.t 15))]))))
def h124c : HC :=
  (.seq (.region [Oo 2 (.mov (.k (.slice none 0 0))), Oo 3 (.mov (Ki 0))])
  (.seq (.region [Oo 4 (.alloc [(.slice none 0 0)])])
  (.gh (.nilB 4 0 2) (.seq (.seq (.region [Oo 7 (.mov (.t 0)), Oo 8 (.lenL (.t 7)), Oo 9 (.mov (Ki 0))])
  (.block 0 (.loop [4, 2, 0, 0] h124l0)))
  (.seq (.region [Oo 16 (.call 160 [(.t 4)]), Oo 17 (.ext (.t 16) 0), Oo 18 (.ext (.t 16) 1), Oo 2 (.mov (.t 17)), Oo 3 (.mov (.t 18))])
  .ret)))))
abbrev h124 : HF := ⟨h124c, [.tmp 2, .tmp 3], 19, false⟩
theorem h124_ok : (Tryz.f124.body).bind (compileC Tryz.prog) = some h124c.er := by kernel_rfl
theorem r124_ok : Tryz.f124.results.toList.mapM (retOf Tryz.prog) = some [.tmp 2, .tmp 3] := by kernel_rfl

/-- depository/runs.part -/
def h125l0 : HC :=
  (.seq (.region [Oo 16 (.bin .lss (.t 15) (.t 14))])
  (.seq (.cond (.t 16) .skip
  (.exit 0))
  (.seq (.block 1 (.seq (.region [Oo 17 (.ixL 2 (.t 13) (.t 15)), Oo 18 (.load true 2 (.t 17)), Oo 9 (.alloc [Zi 0, Zi 0]), On (.store 2 (.t 9) (.t 18))])
  (.seq (.region [Oo 19 (.mov (.t 1)), Oo 20 (.addo 1 (.t 9)), Oo 21 (.load false 1 (.t 20)), Oo 22 (.min2 (.t 19) (.t 21)), Oo 10 (.mov (.t 22))])
  (.seq (.region [Oo 23 (.mov (.t 1)), Oo 24 (.mov (.t 10)), Oo 25 (.bin .sub (.t 23) (.t 24)), Oo 1 (.mov (.t 25))])
  (.seq (.region [Oo 26 (.mov (.t 2)), Oo 27 (.addo 1 (.t 9)), Oo 28 (.load false 1 (.t 27)), Oo 29 (.mov (.t 10)), Oo 30 (.bin .sub (.t 28) (.t 29)), Oo 31 (.min2 (.t 26) (.t 30)), Oo 11 (.mov (.t 31))])
  (.seq (.region [Oo 32 (.mov (.t 2)), Oo 33 (.mov (.t 11)), Oo 34 (.bin .sub (.t 32) (.t 33)), Oo 2 (.mov (.t 34))])
  (.seq (.seq (.region [Oo 35 (.mov (.t 11)), Oo 36 (.bin .eql (.t 35) (Ki 0))])
  (.cond (.t 36) (.exit 1)
  .skip))
  (.seq (.region [Oo 37 (.mov (.t 11)), Oo 38 (.build [Zi 0, Zi 0] [(0, 1, (Ki (-1))), (1, 1, (.t 37))]), Oo 12 (.alloc [Zi 0, Zi 0]), On (.store 2 (.t 12) (.t 38))])
  (.seq (.seq (.region [Oo 39 (.load true 2 (.t 9)), Oo 40 (.call 155 [(.t 39)]), Oo 41 (.un .not (.t 40))])
  (.cond (.t 41) (.region [Oo 42 (.addo 0 (.t 9)), Oo 43 (.load false 1 (.t 42)), Oo 44 (.mov (.t 10)), Oo 45 (.bin .add (.t 43) (.t 44)), Oo 46 (.addo 0 (.t 12)), On (.store 1 (.t 46) (.t 45))])
  .skip))
  (.region [Oo 47 (.mov (.t 7)), Oo 48 (.load true 2 (.t 12)), Oo 49 (.bslc 2 1 [Zi 0, Zi 0] [(0, (.t 48))]), Oo 50 (.app 2 16 [Zi 0, Zi 0] (.t 47) (.t 49)), Oo 7 (.mov (.t 50))]))))))))))
  (.region [Oo 51 (.bin .add (.t 15) (Ki 1)), Oo 15 (.mov (.t 51))]))))
def h125c : HC :=
  (.seq (.region [Oo 6 (.mov (.k (.slice none 0 0)))])
  (.seq (.region [Oo 7 (.mov (.k (.slice none 0 0)))])
  (.gh (.nil 7 2) (.seq (.seq (.region [Oo 13 (.mov (.t 0)), Oo 14 (.lenL (.t 13)), Oo 15 (.mov (Ki 0))])
  (.block 0 (.loop [1, 0, 4, 5, 0, 0] h125l0)))
  (.seq (.region [Oo 52 (.mov (.t 7)), Oo 6 (.mov (.t 52))])
  .ret)))))
abbrev h125 : HF := ⟨h125c, [.tmp 6], 53, false⟩
theorem h125_ok : (Tryz.f125.body).bind (compileC Tryz.prog) = some h125c.er := by kernel_rfl
theorem r125_ok : Tryz.f125.results.toList.mapM (retOf Tryz.prog) = some [.tmp 6] := by kernel_rfl

/-- depository/runs.runsErr -/
def h126l0 : HC :=
  (.seq (.region [Oo 10 (.bin .lss (.t 9) (.t 8))])
  (.seq (.cond (.t 10) .skip
  (.exit 0))
  (.seq (.block 1 (.seq (.region [Oo 11 (.ixL 1 (.t 7) (.t 9)), Oo 12 (.load false 1 (.t 11)), Oo 4 (.mov (.t 12))])
  (.seq (.region [Oo 14 (.mov (.t 4)), Oo 15 (.call 58 [(.t 14)]), Oo 13 (.mov (.t 15)), Oo 16 (.ext (.t 13) 0), Oo 17 (.ext (.t 13) 1), Oo 5 (.mov (.t 16)), Oo 6 (.mov (.t 17))])
  (.seq (.region [Oo 18 (.mov (.t 6)), Oo 19 (.bin .neq (.t 18) (Ki 0))])
  (.cond (.t 19) (.seq (.region [Oo 20 (.mov (.t 6)), Oo 2 (.mov (.t 20))])
  .ret)
  .skip)))))
  (.region [Oo 21 (.bin .add (.t 9) (Ki 1)), Oo 9 (.mov (.t 21))]))))
def h126c : HC :=
  (.seq (.region [Oo 2 (.mov (Ki 0))])
  (.seq (.seq (.region [Oo 7 (.mov (.t 0)), Oo 8 (.lenL (.t 7)), Oo 9 (.mov (Ki 0))])
  (.block 0 (.loop [7, 0, 0] h126l0)))
  (.seq (.region [Oo 2 (.mov (Ki 0))])
  .ret)))
abbrev h126 : HF := ⟨h126c, [.tmp 2], 22, false⟩
theorem h126_ok : (Tryz.f126.body).bind (compileC Tryz.prog) = some h126c.er := by kernel_rfl
theorem r126_ok : Tryz.f126.results.toList.mapM (retOf Tryz.prog) = some [.tmp 2] := by kernel_rfl

/-- depository/depositoryref03.doubled -/
def h127l0 : HC :=
  (.seq (.seq (.region [Oo 6 (.mov (.t 5)), Oo 7 (.mov (.t 1)), Oo 8 (.bin .lss (.t 6) (.t 7))])
  (.cond (.t 8) .skip
  (.exit 0)))
  (.seq (.block 1 (.seq (.drawn [Qo (Oo 11 (.mov (.t 0))), Qo (Oo 12 (.mov (.t 5))), Qo (Oo 13 (.ixL 2 (.t 11) (.t 12))), Qo (Oo 14 (.load true 2 (.t 13))), Qo (Oo 15 (.mov (.t 0))), Qo (Oo 16 (.mov (.t 1))), Qo (Oo 17 (.ixL 2 (.t 15) (.t 16))), Qo (Oo 18 (.load true 2 (.t 17))), Qe (Oo 19 (.call 161 [(.t 14), (.t 18)]))])
  (.cond (.t 19) (.seq (.region [Oo 4 (.mov (.k (.bool true)))])
  .ret)
  .skip)))
  (.region [Oo 9 (.mov (.t 5)), Oo 10 (.bin .add (.t 9) (Ki 1)), Oo 5 (.mov (.t 10))])))
def h127c : HC :=
  (.seq (.region [Oo 4 (.mov (.k (.bool false)))])
  (.seq (.seq (.region [Oo 5 (.mov (Ki 0))])
  (.block 0 (.loop [0, 0, 3] h127l0)))
  (.seq (.region [Oo 4 (.mov (.k (.bool false)))])
  .ret)))
abbrev h127 : HF := ⟨h127c, [.tmp 4], 20, false⟩
theorem h127_ok : (Tryz.f127.body).bind (compileC Tryz.prog) = some h127c.er := by kernel_rfl
theorem r127_ok : Tryz.f127.results.toList.mapM (retOf Tryz.prog) = some [.tmp 4] := by kernel_rfl

/-- depository/depositoryref03.Joins -/
def h128c : HC :=
  (.seq (.region [Oo 2 (.box (.t 0)), Oo 3 (.box (.t 1)), Oo 4 (.mov (.k (.bool false)))])
  (.seq (.seq (.region [Oo 5 (.addo 0 (.t 2)), Oo 6 (.load false 1 (.t 5)), Oo 7 (.bin .eql (.t 6) (Ki (-1))), Oo 8 (.mov (.t 7)), Og 8 false 9 (.addo 0 (.t 3)), Og 8 false 10 (.load false 1 (.t 9)), Og 8 false 11 (.bin .eql (.t 10) (Ki (-1))), Oo 12 (.pick (.t 8) (.k (.bool true)) (.t 11))])
  (.cond (.t 12) (.seq (.region [Oo 13 (.addo 0 (.t 2)), Oo 14 (.load false 1 (.t 13)), Oo 15 (.addo 0 (.t 3)), Oo 16 (.load false 1 (.t 15)), Oo 17 (.bin .eql (.t 14) (.t 16)), Oo 4 (.mov (.t 17))])
  .ret)
  .skip))
  (.seq (.region [Oo 18 (.addo 0 (.t 3)), Oo 19 (.load false 1 (.t 18)), Oo 20 (.addo 0 (.t 2)), Oo 21 (.load false 1 (.t 20)), Oo 22 (.addo 1 (.t 2)), Oo 23 (.load false 1 (.t 22)), Oo 24 (.bin .add (.t 21) (.t 23)), Oo 25 (.bin .eql (.t 19) (.t 24)), Oo 4 (.mov (.t 25))])
  .ret)))
abbrev h128 : HF := ⟨h128c, [.tmp 4], 26, false⟩
theorem h128_ok : (Tryz.f128.body).bind (compileC Tryz.prog) = some h128c.er := by kernel_rfl
theorem r128_ok : Tryz.f128.results.toList.mapM (retOf Tryz.prog) = some [.tmp 4] := by kernel_rfl

/-- depository/names.CheckName -/
def h134c : HC :=
  (.seq (.region [Oo 2 (.mov (Ki 0))])
  (.seq (.region [Oo 3 (.mov (.t 0)), Oo 4 (.lenS (.t 3)), Oo 5 (.bin .leq (.t 4) (Ki 32)), Oo 6 (.call 165 [(.t 5), (Ki 8)]), Oo 7 (.mov (.t 0)), Oo 8 (.call 166 [(.t 7)]), Oo 9 (.call 165 [(.t 8), (Ki 4)]), Oo 10 (.bslc 1 2 [Zi 0] [(0, (.t 6)), (1, (.t 9))]), Oo 11 (.call 164 [(.t 10)]), Oo 2 (.mov (.t 11))])
  .ret))
abbrev h134 : HF := ⟨h134c, [.tmp 2], 12, false⟩
theorem h134_ok : (Tryz.f134.body).bind (compileC Tryz.prog) = some h134c.er := by kernel_rfl
theorem r134_ok : Tryz.f134.results.toList.mapM (retOf Tryz.prog) = some [.tmp 2] := by kernel_rfl

/-- depository/runs.EncodeRuns -/
def h135l0 : HC :=
  (.seq (.region [Oo 20 (.bin .lss (.t 19) (.t 18))])
  (.seq (.cond (.t 20) .skip
  (.exit 0))
  (.seq (.block 1 (.seq (.region [Oo 21 (.ixL 2 (.t 17) (.t 19)), Oo 22 (.load true 2 (.t 21)), Oo 8 (.alloc [Zi 0, Zi 0]), On (.store 2 (.t 8) (.t 22))])
  (.seq (.region [Oo 23 (.addo 1 (.t 8)), Oo 24 (.load false 1 (.t 23)), Oo 25 (.call 167 [(.t 24)]), Oo 9 (.mov (.t 25))])
  (.seq (.region [Oo 10 (.mov (Ki 0))])
  (.seq (.seq (.region [Oo 26 (.load true 2 (.t 8)), Oo 27 (.call 155 [(.t 26)]), Oo 28 (.un .not (.t 27))])
  (.cond (.t 28) (.region [Oo 29 (.addo 0 (.t 8)), Oo 30 (.load false 1 (.t 29)), Oo 31 (.mov (.t 6)), Oo 32 (.bin .sub (.t 30) (.t 31)), Oo 33 (.call 167 [(.t 32)]), Oo 10 (.mov (.t 33))])
  .skip))
  (.seq (.region [Oo 34 (.mov (.t 5)), Oo 35 (.mov (.t 10)), Oo 36 (.bin .shl (.t 35) (.k (.int .u64 4))), Oo 37 (.mov (.t 9)), Oo 38 (.bin .or (.t 36) (.t 37)), Oo 39 (.conv .u8 (.t 38)), Oo 40 (.bslc 1 1 [(.int .u8 0)] [(0, (.t 39))]), Oo 41 (.app 1 1 [(.int .u8 0)] (.t 34) (.t 40)), Oo 5 (.mov (.t 41))])
  (.seq (.region [Oo 42 (.mov (.t 5)), Oo 43 (.addo 1 (.t 8)), Oo 44 (.load false 1 (.t 43)), Oo 45 (.mov (.t 9)), Oo 46 (.call 168 [(.t 44), (.t 45)]), Oo 47 (.app 1 1 [(.int .u8 0)] (.t 42) (.t 46)), Oo 5 (.mov (.t 47))])
  (.seq (.region [Oo 48 (.load true 2 (.t 8)), Oo 49 (.call 155 [(.t 48)]), Oo 50 (.un .not (.t 49))])
  (.cond (.t 50) (.seq (.region [Oo 51 (.mov (.t 5)), Oo 52 (.addo 0 (.t 8)), Oo 53 (.load false 1 (.t 52)), Oo 54 (.mov (.t 6)), Oo 55 (.bin .sub (.t 53) (.t 54)), Oo 56 (.mov (.t 10)), Oo 57 (.call 168 [(.t 55), (.t 56)]), Oo 58 (.app 1 1 [(.int .u8 0)] (.t 51) (.t 57)), Oo 5 (.mov (.t 58))])
  (.region [Oo 59 (.addo 0 (.t 8)), Oo 60 (.load false 1 (.t 59)), Oo 6 (.mov (.t 60))]))
  .skip)))))))))
  (.region [Oo 61 (.bin .add (.t 19) (Ki 1)), Oo 19 (.mov (.t 61))]))))
def h135c : HC :=
  (.seq (.region [Oo 2 (.mov (.k (.string ⟨#[]⟩))), Oo 3 (.mov (Ki 0))])
  (.seq (.seq (.region [Oo 11 (.mov (.t 0)), Oo 12 (.bslc 1 1 [(.slice none 0 0)] [(0, (.t 11))]), Oo 13 (.call 126 [(.t 12)]), Oo 4 (.mov (.t 13))])
  (.seq (.region [Oo 14 (.mov (.t 4)), Oo 15 (.bin .neq (.t 14) (Ki 0))])
  (.cond (.t 15) (.seq (.region [Oo 16 (.mov (.t 4)), Oo 2 (.mov (.k (.string ⟨#[]⟩))), Oo 3 (.mov (.t 16))])
  .ret)
  .skip)))
  (.seq (.region [Oo 5 (.mov (.k (.slice none 0 0)))])
  (.gh (.nil 5 1) (.seq (.region [Oo 6 (.mov (Ki 0))])
  (.seq (.seq (.region [Oo 17 (.mov (.t 0)), Oo 18 (.lenL (.t 17)), Oo 19 (.mov (Ki 0))])
  (.block 0 (.loop [5, 0, 10, 0, 0] h135l0)))
  (.seq (.region [Oo 62 (.mov (.t 5)), Oo 63 (.bslc 1 1 [(.int .u8 0)] [(0, (.k (.int .u8 0)))]), Oo 64 (.app 1 1 [(.int .u8 0)] (.t 62) (.t 63)), Oo 65 (.cvbs (.t 64)), Oo 2 (.mov (.t 65)), Oo 3 (.mov (Ki 0))])
  .ret)))))))
abbrev h135 : HF := ⟨h135c, [.tmp 2, .tmp 3], 66, false⟩
theorem h135_ok : (Tryz.f135.body).bind (compileC Tryz.prog) = some h135c.er := by kernel_rfl
theorem r135_ok : Tryz.f135.results.toList.mapM (retOf Tryz.prog) = some [.tmp 2, .tmp 3] := by kernel_rfl

/-- depository/attribute.head -/
def h136c : HC :=
  (.seq (.region [Oo 2 (.mov (Ki 0))])
  (.seq (.seq (.region [Oo 3 (.mov (.t 0))])
  (.cond (.t 3) (.seq (.region [Oo 2 (.mov (Ki 24))])
  .ret)
  .skip))
  (.seq (.region [Oo 2 (.mov (Ki 40))])
  .ret)))
abbrev h136 : HF := ⟨h136c, [.tmp 2], 4, false⟩
theorem h136_ok : (Tryz.f136.body).bind (compileC Tryz.prog) = some h136c.er := by kernel_rfl
theorem r136_ok : Tryz.f136.results.toList.mapM (retOf Tryz.prog) = some [.tmp 2] := by kernel_rfl

/-- depository/attribute.aligned -/
def h137c : HC :=
  (.seq (.region [Oo 2 (.mov (Ki 0))])
  (.seq (.region [Oo 3 (.mov (.t 0)), Oo 4 (.bin .add (.t 3) (Ki 8)), Oo 5 (.bin .sub (.t 4) (Ki 1)), Oo 6 (.bin .quo (.t 5) (Ki 8)), Oo 7 (.bin .mul (.t 6) (Ki 8)), Oo 2 (.mov (.t 7))])
  .ret))
abbrev h137 : HF := ⟨h137c, [.tmp 2], 8, false⟩
theorem h137_ok : (Tryz.f137.body).bind (compileC Tryz.prog) = some h137c.er := by kernel_rfl
theorem r137_ok : Tryz.f137.results.toList.mapM (retOf Tryz.prog) = some [.tmp 2] := by kernel_rfl

/-- depository/attribute.put -/
def h138l0 : HC :=
  (.seq (.region [Oo 11 (.bin .lss (.t 10) (.t 9))])
  (.seq (.cond (.t 11) .skip
  (.exit 0))
  (.seq (.block 1 (.seq (.region [Oo 12 (.mov (.t 10)), Oo 8 (.mov (.t 12))])
  (.seq (.region [Oo 13 (.mov (.t 0)), Oo 14 (.mov (.t 1)), Oo 15 (.mov (.t 8)), Oo 16 (.bin .add (.t 14) (.t 15)), Oo 17 (.mov (.t 3)), Oo 18 (.conv .u8 (.t 17)), Oo 19 (.ixL 1 (.t 13) (.t 16)), On (.store 1 (.t 19) (.t 18))])
  (.region [Oo 20 (.mov (.t 3)), Oo 21 (.bin .shr (.t 20) (.k (.int .u64 8))), Oo 3 (.mov (.t 21))]))))
  (.region [Oo 22 (.bin .add (.t 10) (Ki 1)), Oo 10 (.mov (.t 22))]))))
def h138c : HC :=
  (.seq (.region [Oo 9 (.mov (.t 2)), Oo 10 (.mov (Ki 0))])
  (.block 0 (.loop [0, 0, 1, 5, 0] h138l0)))
abbrev h138 : HF := ⟨h138c, [], 23, false⟩
theorem h138_ok : (Tryz.f138.body).bind (compileC Tryz.prog) = some h138c.er := by kernel_rfl
theorem r138_ok : Tryz.f138.results.toList.mapM (retOf Tryz.prog) = some [] := by kernel_rfl

/-- depository/attribute.get -/
def h139l0 : HC :=
  (.seq (.seq (.region [Oo 11 (.mov (.t 8)), Oo 12 (.bin .geq (.t 11) (Ki 0))])
  (.cond (.t 12) .skip
  (.exit 0)))
  (.seq (.block 1 (.region [Oo 15 (.mov (.t 7)), Oo 16 (.bin .shl (.t 15) (.k (.int .u64 8))), Oo 17 (.mov (.t 0)), Oo 18 (.mov (.t 1)), Oo 19 (.mov (.t 8)), Oo 20 (.bin .add (.t 18) (.t 19)), Oo 21 (.ixS (.t 17) (.t 20)), Oo 22 (.conv .i64 (.t 21)), Oo 23 (.bin .or (.t 16) (.t 22)), Oo 7 (.mov (.t 23))]))
  (.region [Oo 13 (.mov (.t 8)), Oo 14 (.bin .sub (.t 13) (Ki 1)), Oo 8 (.mov (.t 14))])))
def h139c : HC :=
  (.seq (.region [Oo 6 (.mov (Ki 0))])
  (.seq (.region [Oo 7 (.mov (Ki 0))])
  (.seq (.seq (.region [Oo 9 (.mov (.t 2)), Oo 10 (.bin .sub (.t 9) (Ki 1)), Oo 8 (.mov (.t 10))])
  (.block 0 (.loop [0, 0, 5, 0] h139l0)))
  (.seq (.region [Oo 24 (.mov (.t 7)), Oo 6 (.mov (.t 24))])
  .ret))))
abbrev h139 : HF := ⟨h139c, [.tmp 6], 25, false⟩
theorem h139_ok : (Tryz.f139.body).bind (compileC Tryz.prog) = some h139c.er := by kernel_rfl
theorem r139_ok : Tryz.f139.results.toList.mapM (retOf Tryz.prog) = some [.tmp 6] := by kernel_rfl

/-- depository/runs.DecodeRuns -/
def h140l0 : HC :=
  (.seq (.seq (.region [Oo 12 (.load false 1 (.t 1)), Oo 13 (.bin .neq (.t 12) (.k (.string ⟨#[]⟩))), Oo 14 (.mov (.t 13)), Og 14 true 15 (.load false 1 (.t 1)), Og 14 true 16 (.ixS (.t 15) (Ki 0)), Og 14 true 17 (.bin .neq (.t 16) (.k (.int .u8 0))), Oo 18 (.pick (.t 14) (.t 17) (.k (.bool false)))])
  (.cond (.t 18) .skip
  (.exit 0)))
  (.block 1 (.seq (.region [Oo 20 (.mov (.t 5)), Oo 21 (.call 169 [(.t 1), (.t 20)]), Oo 19 (.mov (.t 21)), Oo 22 (.ext (.t 19) 0), Oo 23 (.ext (.t 19) 1), Oo 6 (.alloc [Zi 0, Zi 0]), On (.store 2 (.t 6) (.t 22)), Oo 7 (.mov (.t 23))])
  (.seq (.seq (.region [Oo 24 (.mov (.t 7)), Oo 25 (.un .not (.t 24))])
  (.cond (.t 25) (.seq (.region [Oo 2 (.mov (.k (.slice none 0 0))), Oo 3 (.mov (Ki 3))])
  .ret)
  .skip))
  (.seq (.seq (.region [Oo 26 (.load true 2 (.t 6)), Oo 27 (.call 155 [(.t 26)]), Oo 28 (.un .not (.t 27))])
  (.cond (.t 28) (.region [Oo 29 (.addo 0 (.t 6)), Oo 30 (.load false 1 (.t 29)), Oo 5 (.mov (.t 30))])
  .skip))
  (.region [Oo 31 (.mov (.t 4)), Oo 32 (.load true 2 (.t 6)), Oo 33 (.bslc 2 1 [Zi 0, Zi 0] [(0, (.t 32))]), Oo 34 (.app 2 16 [Zi 0, Zi 0] (.t 31) (.t 33)), Oo 4 (.mov (.t 34))]))))))
def h140c : HC :=
  (.seq (.region [Oo 1 (.box (.t 0)), Oo 2 (.mov (.k (.slice none 0 0))), Oo 3 (.mov (Ki 0))])
  (.seq (.seq (.region [Oo 9 (.load false 1 (.t 1)), Oo 10 (.lenS (.t 9)), Oo 11 (.bin .gtr (.t 10) (Ki 400))])
  (.cond (.t 11) (.seq (.region [Oo 2 (.mov (.k (.slice none 0 0))), Oo 3 (.mov (Ki 8))])
  .ret)
  .skip))
  (.seq (.region [Oo 4 (.mov (.k (.slice none 0 0)))])
  (.gh (.nil 4 2) (.seq (.region [Oo 5 (.mov (Ki 0))])
  (.seq (.block 0 (.loop [1, 2, 0] h140l0))
  (.seq (.seq (.region [Oo 35 (.load false 1 (.t 1)), Oo 36 (.lenS (.t 35)), Oo 37 (.bin .neq (.t 36) (Ki 1))])
  (.cond (.t 37) (.seq (.region [Oo 2 (.mov (.k (.slice none 0 0))), Oo 3 (.mov (Ki 3))])
  .ret)
  .skip))
  (.seq (.seq (.region [Oo 38 (.mov (.t 4)), Oo 39 (.bslc 1 1 [(.slice none 0 0)] [(0, (.t 38))]), Oo 40 (.call 126 [(.t 39)]), Oo 8 (.mov (.t 40))])
  (.seq (.region [Oo 41 (.mov (.t 8)), Oo 42 (.bin .neq (.t 41) (Ki 0))])
  (.cond (.t 42) (.seq (.region [Oo 43 (.mov (.t 8)), Oo 2 (.mov (.k (.slice none 0 0))), Oo 3 (.mov (.t 43))])
  .ret)
  .skip)))
  (.seq (.region [Oo 44 (.mov (.t 4)), Oo 2 (.mov (.t 44)), Oo 3 (.mov (Ki 0))])
  .ret)))))))))
abbrev h140 : HF := ⟨h140c, [.tmp 2, .tmp 3], 45, false⟩
theorem h140_ok : (Tryz.f140.body).bind (compileC Tryz.prog) = some h140c.er := by kernel_rfl
theorem r140_ok : Tryz.f140.results.toList.mapM (retOf Tryz.prog) = some [.tmp 2, .tmp 3] := by kernel_rfl

/-- depository/attribute.runsAt -/
def h141l0 : HC :=
  (.seq (.seq (.region [Oo 5 (.mov (.t 3)), Oo 6 (.mov (.t 0)), Oo 7 (.lenS (.t 6)), Oo 8 (.bin .lss (.t 5) (.t 7))])
  (.cond (.t 8) .skip
  (.exit 0)))
  (.block 1 (.seq (.region [Oo 9 (.mov (.t 0)), Oo 10 (.mov (.t 3)), Oo 11 (.ixS (.t 9) (.t 10)), Oo 12 (.conv .i64 (.t 11)), Oo 4 (.mov (.t 12))])
  (.seq (.seq (.region [Oo 13 (.mov (.t 4)), Oo 14 (.bin .eql (.t 13) (Ki 0))])
  (.cond (.t 14) (.seq (.region [Oo 15 (.mov (.t 0)), Oo 16 (.mov (.t 3)), Oo 17 (.bin .add (.t 16) (Ki 1)), Oo 18 (.slS (.t 15) none (some (.t 17))), Oo 2 (.mov (.t 18))])
  .ret)
  .skip))
  (.region [Oo 19 (.mov (.t 3)), Oo 20 (.mov (.t 4)), Oo 21 (.bin .and (.t 20) (Ki 15)), Oo 22 (.bin .add (Ki 1) (.t 21)), Oo 23 (.mov (.t 4)), Oo 24 (.bin .shr (.t 23) (.k (.int .u64 4))), Oo 25 (.bin .add (.t 22) (.t 24)), Oo 26 (.bin .add (.t 19) (.t 25)), Oo 3 (.mov (.t 26))])))))
def h141c : HC :=
  (.seq (.region [Oo 2 (.mov (.k (.string ⟨#[]⟩)))])
  (.seq (.seq (.region [Oo 3 (.mov (Ki 0))])
  (.block 0 (.loop [0, 2] h141l0)))
  (.seq (.region [Oo 27 (.mov (.t 0)), Oo 2 (.mov (.t 27))])
  .ret)))
abbrev h141 : HF := ⟨h141c, [.tmp 2], 28, false⟩
theorem h141_ok : (Tryz.f141.body).bind (compileC Tryz.prog) = some h141c.er := by kernel_rfl
theorem r141_ok : Tryz.f141.results.toList.mapM (retOf Tryz.prog) = some [.tmp 2] := by kernel_rfl

/-- depository/depositoryref03.signedAt -/
def h142c : HC :=
  (.seq (.region [Oo 6 (.mov (Ki 0)), Oo 7 (.mov (.k (.bool false)))])
  (.seq (.region [Oo 9 (.mov (.t 0)), Oo 10 (.mov (.t 1)), Oo 11 (.mov (.t 2)), Oo 12 (.call 94 [(.t 9), (.t 10), (.t 11)]), Oo 8 (.mov (.t 12))])
  (.seq (.seq (.region [Oo 13 (.mov (.t 8)), Oo 14 (.mov (.t 2)), Oo 15 (.bin .mul (Ki 8) (.t 14)), Oo 16 (.bin .sub (.t 15) (Ki 1)), Oo 17 (.call 170 [(.t 16)]), Oo 18 (.bin .geq (.t 13) (.t 17))])
  (.cond (.t 18) (.region [Oo 19 (.mov (.t 8)), Oo 20 (.mov (.t 2)), Oo 21 (.bin .mul (Ki 8) (.t 20)), Oo 22 (.call 170 [(.t 21)]), Oo 23 (.bin .sub (.t 19) (.t 22)), Oo 8 (.mov (.t 23))])
  .skip))
  (.seq (.region [Oo 24 (.mov (.t 8)), Oo 25 (.mov (.t 8)), Oo 26 (.call 143 [(.t 25)]), Oo 27 (.lenS (.t 26)), Oo 28 (.mov (.t 2)), Oo 29 (.bin .eql (.t 27) (.t 28)), Oo 6 (.mov (.t 24)), Oo 7 (.mov (.t 29))])
  .ret))))
abbrev h142 : HF := ⟨h142c, [.tmp 6, .tmp 7], 30, false⟩
theorem h142_ok : (Tryz.f142.body).bind (compileC Tryz.prog) = some h142c.er := by kernel_rfl
theorem r142_ok : Tryz.f142.results.toList.mapM (retOf Tryz.prog) = some [.tmp 6, .tmp 7] := by kernel_rfl

/-- depository/depositoryref03.signed -/
def h143c : HC :=
  (.seq (.region [Oo 2 (.mov (.k (.string ⟨#[]⟩)))])
  (.seq (.seq (.region [Oo 3 (.mov (.t 0)), Oo 4 (.call 51 [(.t 3), (Ki (-128)), (Ki 127)])])
  (.cond (.t 4) (.seq (.region [Oo 5 (.mov (.t 0)), Oo 6 (.call 99 [(.t 5), (Ki 256)]), Oo 7 (.call 97 [(.t 6), (Ki 1)]), Oo 2 (.mov (.t 7))])
  .ret)
  .skip))
  (.seq (.region [Oo 8 (.mov (.t 0)), Oo 9 (.call 99 [(.t 8), (Ki 65536)]), Oo 10 (.call 97 [(.t 9), (Ki 2)]), Oo 2 (.mov (.t 10))])
  .ret)))
abbrev h143 : HF := ⟨h143c, [.tmp 2], 11, false⟩
theorem h143_ok : (Tryz.f143.body).bind (compileC Tryz.prog) = some h143c.er := by kernel_rfl
theorem r143_ok : Tryz.f143.results.toList.mapM (retOf Tryz.prog) = some [.tmp 2] := by kernel_rfl

/-- internal/strconv.FormatInt -/
def h146c : HC :=
  (.seq (.region [Oo 4 (.mov (.k (.string ⟨#[]⟩)))])
  (.seq (.seq (.region [Oo 10 (.mov (.t 1)), Oo 11 (.bin .eql (.t 10) (Ki 10))])
  (.cond (.t 11) (.seq (.seq (.region [Oo 12 (.mov (.t 0)), Oo 13 (.bin .leq (Ki 0) (.t 12)), Oo 14 (.mov (.t 13)), Og 14 true 15 (.mov (.t 0)), Og 14 true 16 (.bin .lss (.t 15) (Ki 100)), Oo 17 (.pick (.t 14) (.t 16) (.k (.bool false)))])
  (.cond (.t 17) (.seq (.region [Oo 18 (.mov (.t 0)), Oo 19 (.call 181 [(.t 18)]), Oo 4 (.mov (.t 19))])
  .ret)
  .skip))
  (.seq (.region [Oo 5 (.alloc [(.int .u8 0), (.int .u8 0), (.int .u8 0), (.int .u8 0), (.int .u8 0), (.int .u8 0), (.int .u8 0), (.int .u8 0), (.int .u8 0), (.int .u8 0), (.int .u8 0), (.int .u8 0), (.int .u8 0), (.int .u8 0), (.int .u8 0), (.int .u8 0), (.int .u8 0), (.int .u8 0), (.int .u8 0), (.int .u8 0), (.int .u8 0), (.int .u8 0), (.int .u8 0), (.int .u8 0)])])
  (.seq (.region [Oo 20 (.mov (.t 0)), Oo 21 (.conv .u64 (.t 20)), Oo 6 (.mov (.t 21))])
  (.seq (.seq (.region [Oo 22 (.mov (.t 0)), Oo 23 (.bin .lss (.t 22) (Ki 0))])
  (.cond (.t 23) (.region [Oo 24 (.mov (.t 6)), Oo 25 (.un .neg (.t 24)), Oo 6 (.mov (.t 25))])
  .skip))
  (.seq (.region [Oo 26 (.mov (.t 6)), Oo 27 (.call 182 [(.t 26)]), Oo 7 (.mov (.t 27))])
  (.seq (.region [Oo 28 (.mov (.t 7)), Oo 29 (.bin .add (Ki 1) (.t 28)), Oo 30 (.slA 24 1 (.t 5) (some (Ki 1)) (some (.t 29))), Oo 31 (.mov (.t 6)), Oo 32 (.call 183 [(.t 30), (.t 31)])])
  (.seq (.seq (.region [Oo 33 (.mov (.t 0)), Oo 34 (.bin .lss (.t 33) (Ki 0))])
  (.cond (.t 34) (.seq (.region [Oo 35 (.ixA 24 1 (.t 5) (Ki 0)), On (.store 1 (.t 35) (.k (.int .u8 45)))])
  (.seq (.region [Oo 36 (.mov (.t 7)), Oo 37 (.bin .add (Ki 1) (.t 36)), Oo 38 (.slA 24 1 (.t 5) none (some (.t 37))), Oo 39 (.cvbs (.t 38)), Oo 4 (.mov (.t 39))])
  .ret))
  .skip))
  (.seq (.region [Oo 40 (.mov (.t 7)), Oo 41 (.bin .add (Ki 1) (.t 40)), Oo 42 (.slA 24 1 (.t 5) (some (Ki 1)) (some (.t 41))), Oo 43 (.cvbs (.t 42)), Oo 4 (.mov (.t 43))])
  .ret))))))))
  .skip))
  (.seq (.region [Oo 45 (.mov (.t 0)), Oo 46 (.conv .u64 (.t 45)), Oo 47 (.mov (.t 1)), Oo 48 (.mov (.t 0)), Oo 49 (.bin .lss (.t 48) (Ki 0)), Oo 50 (.call 184 [(.k (.slice none 0 0)), (.t 46), (.t 47), (.t 49), (.k (.bool false))]), Oo 44 (.mov (.t 50)), Oo 51 (.ext (.t 44) 0), Oo 52 (.ext (.t 44) 1), Oo 8 (.mov (.t 51)), Oo 9 (.mov (.t 52))])
  (.seq (.region [Oo 53 (.mov (.t 9)), Oo 4 (.mov (.t 53))])
  .ret))))
abbrev h146 : HF := ⟨h146c, [.tmp 4], 54, false⟩
theorem h146_ok : (Tryz.f146.body).bind (compileC Tryz.prog) = some h146c.er := by kernel_rfl
theorem r146_ok : Tryz.f146.results.toList.mapM (retOf Tryz.prog) = some [.tmp 4] := by kernel_rfl

/-- internal/strconv.Itoa -/
def h147c : HC :=
  (.seq (.region [Oo 2 (.mov (.k (.string ⟨#[]⟩)))])
  (.seq (.region [Oo 3 (.mov (.t 0)), Oo 4 (.call 146 [(.t 3), (Ki 10)]), Oo 2 (.mov (.t 4))])
  .ret))
abbrev h147 : HF := ⟨h147c, [.tmp 2], 5, false⟩
theorem h147_ok : (Tryz.f147.body).bind (compileC Tryz.prog) = some h147c.er := by kernel_rfl
theorem r147_ok : Tryz.f147.results.toList.mapM (retOf Tryz.prog) = some [.tmp 2] := by kernel_rfl

/-- depository/depositorybase.Size -/
def h153c : HC :=
  (.seq (.region [Oo 2 (.mov (Ki 0))])
  (.seq (.region [Oo 3 (.mov (.t 0)), Oo 4 (.mov (.t 0)), Oo 5 (.un .neg (.t 4)), Oo 6 (.max2 (.t 3) (.t 5)), Oo 2 (.mov (.t 6))])
  .ret))
abbrev h153 : HF := ⟨h153c, [.tmp 2], 7, false⟩
theorem h153_ok : (Tryz.f153.body).bind (compileC Tryz.prog) = some h153c.er := by kernel_rfl
theorem r153_ok : Tryz.f153.results.toList.mapM (retOf Tryz.prog) = some [.tmp 2] := by kernel_rfl

/-- depository/depositoryref05.legal -/
def h154l0 : HC :=
  (.seq (.seq (.region [Oo 10 (.mov (.t 3)), Oo 11 (.bin .lss (.t 10) (Ki 9))])
  (.cond (.t 11) .skip
  (.exit 0)))
  (.seq (.block 1 (.seq (.region [Oo 14 (.mov (.t 3)), Oo 15 (.ixS (.k (.string ⟨#[34, 42, 47, 58, 60, 62, 63, 92, 124]⟩)) (.t 14)), Oo 16 (.mov (.t 0)), Oo 17 (.bin .eql (.t 15) (.t 16))])
  (.cond (.t 17) (.seq (.region [Oo 2 (.mov (.k (.bool false)))])
  .ret)
  .skip)))
  (.region [Oo 12 (.mov (.t 3)), Oo 13 (.bin .add (.t 12) (Ki 1)), Oo 3 (.mov (.t 13))])))
def h154c : HC :=
  (.seq (.region [Oo 2 (.mov (.k (.bool false)))])
  (.seq (.seq (.region [Oo 4 (.mov (.t 0)), Oo 5 (.bin .lss (.t 4) (.k (.int .u8 32))), Oo 6 (.mov (.t 5)), Og 6 false 7 (.mov (.t 0)), Og 6 false 8 (.bin .gtr (.t 7) (.k (.int .u8 126))), Oo 9 (.pick (.t 6) (.k (.bool true)) (.t 8))])
  (.cond (.t 9) (.seq (.region [Oo 2 (.mov (.k (.bool false)))])
  .ret)
  .skip))
  (.seq (.seq (.region [Oo 3 (.mov (Ki 0))])
  (.block 0 (.loop [0, 2] h154l0)))
  (.seq (.region [Oo 2 (.mov (.k (.bool true)))])
  .ret))))
abbrev h154 : HF := ⟨h154c, [.tmp 2], 18, false⟩
theorem h154_ok : (Tryz.f154.body).bind (compileC Tryz.prog) = some h154c.er := by kernel_rfl
theorem r154_ok : Tryz.f154.results.toList.mapM (retOf Tryz.prog) = some [.tmp 2] := by kernel_rfl

/-- depository/runs.isHole -/
def h155c : HC :=
  (.seq (.region [Oo 1 (.box (.t 0)), Oo 2 (.mov (.k (.bool false)))])
  (.seq (.region [Oo 3 (.addo 0 (.t 1)), Oo 4 (.load false 1 (.t 3)), Oo 5 (.bin .eql (.t 4) (Ki (-1))), Oo 2 (.mov (.t 5))])
  .ret))
abbrev h155 : HF := ⟨h155c, [.tmp 2], 6, false⟩
theorem h155_ok : (Tryz.f155.body).bind (compileC Tryz.prog) = some h155c.er := by kernel_rfl
theorem r155_ok : Tryz.f155.results.toList.mapM (retOf Tryz.prog) = some [.tmp 2] := by kernel_rfl

/-- depository/runs.within -/
def h156c : HC :=
  (.seq (.region [Oo 6 (.mov (.k (.bool false)))])
  (.seq (.region [Oo 7 (.mov (.t 1)), Oo 8 (.mov (.t 0)), Oo 9 (.bin .leq (.t 7) (.t 8)), Oo 10 (.mov (.t 9)), Og 10 true 11 (.mov (.t 0)), Og 10 true 12 (.mov (.t 2)), Og 10 true 13 (.bin .leq (.t 11) (.t 12)), Oo 14 (.pick (.t 10) (.t 13) (.k (.bool false))), Oo 6 (.mov (.t 14))])
  .ret))
abbrev h156 : HF := ⟨h156c, [.tmp 6], 15, false⟩
theorem h156_ok : (Tryz.f156.body).bind (compileC Tryz.prog) = some h156c.er := by kernel_rfl
theorem r156_ok : Tryz.f156.results.toList.mapM (retOf Tryz.prog) = some [.tmp 6] := by kernel_rfl

/-- depository/depositoryref03.isRun -/
def h157c : HC :=
  (.seq (.region [Oo 1 (.box (.t 0)), Oo 2 (.mov (.k (.bool false)))])
  (.seq (.seq (.region [Oo 3 (.addo 0 (.t 1)), Oo 4 (.load false 1 (.t 3)), Oo 5 (.bin .eql (.t 4) (Ki (-1)))])
  (.cond (.t 5) (.seq (.region [Oo 6 (.addo 1 (.t 1)), Oo 7 (.load false 1 (.t 6)), Oo 8 (.call 51 [(.t 7), (Ki 1), (Ki 4096)]), Oo 2 (.mov (.t 8))])
  .ret)
  .skip))
  (.seq (.region [Oo 9 (.addo 0 (.t 1)), Oo 10 (.load false 1 (.t 9)), Oo 11 (.call 51 [(.t 10), (Ki 0), (Ki 511)]), Oo 12 (.mov (.t 11)), Og 12 true 13 (.addo 1 (.t 1)), Og 12 true 14 (.load false 1 (.t 13)), Og 12 true 15 (.addo 0 (.t 1)), Og 12 true 16 (.load false 1 (.t 15)), Og 12 true 17 (.bin .sub (Ki 512) (.t 16)), Og 12 true 18 (.call 51 [(.t 14), (Ki 1), (.t 17)]), Oo 19 (.pick (.t 12) (.t 18) (.k (.bool false))), Oo 2 (.mov (.t 19))])
  .ret)))
abbrev h157 : HF := ⟨h157c, [.tmp 2], 20, false⟩
theorem h157_ok : (Tryz.f157.body).bind (compileC Tryz.prog) = some h157c.er := by kernel_rfl
theorem r157_ok : Tryz.f157.results.toList.mapM (retOf Tryz.prog) = some [.tmp 2] := by kernel_rfl

/-- depository/runs.first -/
def h158l0 : HC :=
  (.seq (.region [Oo 8 (.bin .lss (.t 7) (.t 6))])
  (.seq (.cond (.t 8) .skip
  (.exit 0))
  (.seq (.block 1 (.seq (.region [Oo 9 (.ixL 1 (.t 5) (.t 7)), Oo 10 (.load false 1 (.t 9)), Oo 4 (.mov (.t 10))])
  (.seq (.region [Oo 11 (.mov (.t 4)), Oo 12 (.bin .neq (.t 11) (Ki 0))])
  (.cond (.t 12) (.seq (.region [Oo 13 (.mov (.t 4)), Oo 2 (.mov (.t 13))])
  .ret)
  .skip))))
  (.region [Oo 14 (.bin .add (.t 7) (Ki 1)), Oo 7 (.mov (.t 14))]))))
def h158c : HC :=
  (.seq (.region [Oo 2 (.mov (Ki 0))])
  (.seq (.seq (.region [Oo 5 (.mov (.t 0)), Oo 6 (.lenL (.t 5)), Oo 7 (.mov (Ki 0))])
  (.block 0 (.loop [5, 0, 0] h158l0)))
  (.seq (.region [Oo 2 (.mov (Ki 0))])
  .ret)))
abbrev h158 : HF := ⟨h158c, [.tmp 2], 15, false⟩
theorem h158_ok : (Tryz.f158.body).bind (compileC Tryz.prog) = some h158c.er := by kernel_rfl
theorem r158_ok : Tryz.f158.results.toList.mapM (retOf Tryz.prog) = some [.tmp 2] := by kernel_rfl

/-- (*depository/runs.list).addAll -/
def h159l0 : HC :=
  (.seq (.region [Oo 9 (.bin .lss (.t 8) (.t 7))])
  (.seq (.cond (.t 9) .skip
  (.exit 0))
  (.seq (.block 1 (.seq (.region [Oo 10 (.ixL 2 (.t 6) (.t 8)), Oo 11 (.load true 2 (.t 10)), Oo 5 (.alloc [Zi 0, Zi 0]), On (.store 2 (.t 5) (.t 11))])
  (.region [Oo 12 (.mov (.t 0)), Oo 13 (.load true 2 (.t 5)), Oo 14 (.call 200 [(.t 12), (.t 13)])])))
  (.region [Oo 15 (.bin .add (.t 8) (Ki 1)), Oo 8 (.mov (.t 15))]))))
def h159c : HC :=
  (.seq (.region [Oo 6 (.mov (.t 1)), Oo 7 (.lenL (.t 6)), Oo 8 (.mov (Ki 0))])
  (.block 0 (.loop [0, 5, 0, 0] h159l0)))
abbrev h159 : HF := ⟨h159c, [], 16, false⟩
theorem h159_ok : (Tryz.f159.body).bind (compileC Tryz.prog) = some h159c.er := by kernel_rfl
theorem r159_ok : Tryz.f159.results.toList.mapM (retOf Tryz.prog) = some [] := by kernel_rfl

/-- (*depository/runs.list).done -/
def h160l0 : HC :=
  (.seq (.region [Oo 15 (.bin .lss (.t 14) (.t 13))])
  (.seq (.cond (.t 15) .skip
  (.exit 0))
  (.seq (.block 1 (.seq (.region [Oo 16 (.ixL 2 (.t 12) (.t 14)), Oo 17 (.load true 2 (.t 16)), Oo 7 (.alloc [Zi 0, Zi 0]), On (.store 2 (.t 7) (.t 17))])
  (.region [Oo 18 (.load true 2 (.t 7)), Oo 19 (.call 117 [(.t 4), (.t 18)]), Oo 20 (.mov (.t 19)), Og 20 true 21 (.mov (.t 5)), Oo 22 (.pick (.t 20) (.t 21) (.k (.bool false))), Oo 5 (.mov (.t 22))])))
  (.region [Oo 23 (.bin .add (.t 14) (Ki 1)), Oo 14 (.mov (.t 23))]))))
def h160c : HC :=
  (.seq (.region [Oo 2 (.mov (.k (.slice none 0 0))), Oo 3 (.mov (Ki 0))])
  (.seq (.region [Oo 4 (.alloc (List.replicate 512 (.bool false)))])
  (.seq (.region [Oo 5 (.mov (.k (.bool true)))])
  (.seq (.seq (.region [Oo 9 (.mov (.t 0)), Oo 10 (.nilc (.t 9)), Oo 11 (.addo 0 (.t 10)), Oo 12 (.load false 1 (.t 11)), Oo 13 (.lenL (.t 12)), Oo 14 (.mov (Ki 0))])
  (.block 0 (.loop [0, 3, 0, 6, 0, 0] h160l0)))
  (.seq (.seq (.drawn [Qo (Oo 24 (.mov (.t 5))), Qo (Oo 25 (.call 118 [(.t 24), (Ki 23)])), Qo (Oo 26 (.mov (.t 0))), Qo (Oo 27 (.nilc (.t 26))), Qo (Oo 28 (.addo 0 (.t 27))), Qo (Oo 29 (.load false 1 (.t 28))), Qe (Oo 30 (.call 119 [(.t 29)])), Qo (Oo 31 (.bin .leq (.t 30) (Ki 4096))), Qo (Oo 32 (.mov (.t 31))), Qo (Og 32 true 33 (.mov (.t 0))), Qo (Og 32 true 34 (.nilc (.t 33))), Qo (Og 32 true 35 (.addo 0 (.t 34))), Qo (Og 32 true 36 (.load false 1 (.t 35))), Qo (Og 32 true 37 (.lenL (.t 36))), Qo (Og 32 true 38 (.bin .leq (.t 37) (Ki 64))), Qo (Oo 39 (.pick (.t 32) (.t 38) (.k (.bool false)))), Qe (Oo 40 (.call 118 [(.t 39), (Ki 8)])), Qe (Oo 41 (.bslc 1 2 [Zi 0] [(0, (.t 25)), (1, (.t 40))])), Qe (Oo 42 (.call 158 [(.t 41)])), Qo (Oo 8 (.mov (.t 42)))])
  (.seq (.region [Oo 43 (.mov (.t 8)), Oo 44 (.bin .neq (.t 43) (Ki 0))])
  (.cond (.t 44) (.seq (.region [Oo 45 (.mov (.t 8)), Oo 2 (.mov (.k (.slice none 0 0))), Oo 3 (.mov (.t 45))])
  .ret)
  .skip)))
  (.seq (.region [Oo 46 (.mov (.t 0)), Oo 47 (.nilc (.t 46)), Oo 48 (.addo 0 (.t 47)), Oo 49 (.load false 1 (.t 48)), Oo 2 (.mov (.t 49)), Oo 3 (.mov (Ki 0))])
  .ret))))))
abbrev h160 : HF := ⟨h160c, [.tmp 2, .tmp 3], 50, false⟩
theorem h160_ok : (Tryz.f160.body).bind (compileC Tryz.prog) = some h160c.er := by kernel_rfl
theorem r160_ok : Tryz.f160.results.toList.mapM (retOf Tryz.prog) = some [.tmp 2, .tmp 3] := by kernel_rfl

/-- depository/depositoryref03.shares -/
def h161c : HC :=
  (.seq (.region [Oo 2 (.box (.t 0)), Oo 3 (.box (.t 1)), Oo 4 (.mov (.k (.bool false)))])
  (.seq (.region [Oo 5 (.addo 0 (.t 2)), Oo 6 (.load false 1 (.t 5)), Oo 7 (.bin .neq (.t 6) (Ki (-1))), Oo 8 (.mov (.t 7)), Og 8 true 9 (.addo 0 (.t 3)), Og 8 true 10 (.load false 1 (.t 9)), Og 8 true 11 (.bin .neq (.t 10) (Ki (-1))), Oo 12 (.pick (.t 8) (.t 11) (.k (.bool false))), Oo 13 (.mov (.t 12)), Og 13 true 14 (.addo 0 (.t 2)), Og 13 true 15 (.load false 1 (.t 14)), Og 13 true 16 (.addo 0 (.t 3)), Og 13 true 17 (.load false 1 (.t 16)), Og 13 true 18 (.addo 1 (.t 3)), Og 13 true 19 (.load false 1 (.t 18)), Og 13 true 20 (.bin .add (.t 17) (.t 19)), Og 13 true 21 (.bin .lss (.t 15) (.t 20)), Oo 22 (.pick (.t 13) (.t 21) (.k (.bool false))), Oo 23 (.mov (.t 22)), Og 23 true 24 (.addo 0 (.t 3)), Og 23 true 25 (.load false 1 (.t 24)), Og 23 true 26 (.addo 0 (.t 2)), Og 23 true 27 (.load false 1 (.t 26)), Og 23 true 28 (.addo 1 (.t 2)), Og 23 true 29 (.load false 1 (.t 28)), Og 23 true 30 (.bin .add (.t 27) (.t 29)), Og 23 true 31 (.bin .lss (.t 25) (.t 30)), Oo 32 (.pick (.t 23) (.t 31) (.k (.bool false))), Oo 4 (.mov (.t 32))])
  .ret))
abbrev h161 : HF := ⟨h161c, [.tmp 4], 33, false⟩
theorem h161_ok : (Tryz.f161.body).bind (compileC Tryz.prog) = some h161c.er := by kernel_rfl
theorem r161_ok : Tryz.f161.results.toList.mapM (retOf Tryz.prog) = some [.tmp 4] := by kernel_rfl

/-- depository/names.first -/
def h164l0 : HC :=
  (.seq (.region [Oo 8 (.bin .lss (.t 7) (.t 6))])
  (.seq (.cond (.t 8) .skip
  (.exit 0))
  (.seq (.block 1 (.seq (.region [Oo 9 (.ixL 1 (.t 5) (.t 7)), Oo 10 (.load false 1 (.t 9)), Oo 4 (.mov (.t 10))])
  (.seq (.region [Oo 11 (.mov (.t 4)), Oo 12 (.bin .neq (.t 11) (Ki 0))])
  (.cond (.t 12) (.seq (.region [Oo 13 (.mov (.t 4)), Oo 2 (.mov (.t 13))])
  .ret)
  .skip))))
  (.region [Oo 14 (.bin .add (.t 7) (Ki 1)), Oo 7 (.mov (.t 14))]))))
def h164c : HC :=
  (.seq (.region [Oo 2 (.mov (Ki 0))])
  (.seq (.seq (.region [Oo 5 (.mov (.t 0)), Oo 6 (.lenL (.t 5)), Oo 7 (.mov (Ki 0))])
  (.block 0 (.loop [5, 0, 0] h164l0)))
  (.seq (.region [Oo 2 (.mov (Ki 0))])
  .ret)))
abbrev h164 : HF := ⟨h164c, [.tmp 2], 15, false⟩
theorem h164_ok : (Tryz.f164.body).bind (compileC Tryz.prog) = some h164c.er := by kernel_rfl
theorem r164_ok : Tryz.f164.results.toList.mapM (retOf Tryz.prog) = some [.tmp 2] := by kernel_rfl

/-- depository/names.unless -/
def h165c : HC :=
  (.seq (.region [Oo 4 (.mov (Ki 0))])
  (.seq (.seq (.region [Oo 5 (.mov (.t 0))])
  (.cond (.t 5) (.seq (.region [Oo 4 (.mov (Ki 0))])
  .ret)
  .skip))
  (.seq (.region [Oo 6 (.mov (.t 1)), Oo 4 (.mov (.t 6))])
  .ret)))
abbrev h165 : HF := ⟨h165c, [.tmp 4], 7, false⟩
theorem h165_ok : (Tryz.f165.body).bind (compileC Tryz.prog) = some h165c.er := by kernel_rfl
theorem r165_ok : Tryz.f165.results.toList.mapM (retOf Tryz.prog) = some [.tmp 4] := by kernel_rfl

/-- depository/names.isLegal -/
def h166c : HC :=
  (.seq (.region [Oo 2 (.mov (.k (.bool false)))])
  (.seq (.region [Oo 3 (.mov (.t 0)), Oo 4 (.bin .neq (.t 3) (.k (.string ⟨#[]⟩))), Oo 5 (.mov (.t 4)), Og 5 true 6 (.mov (.t 0)), Og 5 true 7 (.lenS (.t 6)), Og 5 true 8 (.bin .leq (.t 7) (Ki 32)), Oo 9 (.pick (.t 5) (.t 8) (.k (.bool false))), Oo 10 (.mov (.t 9)), Og 10 true 11 (.mov (.t 0)), Og 10 true 12 (.call 201 [(.t 11), (.f 202)]), Oo 13 (.pick (.t 10) (.t 12) (.k (.bool false))), Oo 14 (.mov (.t 13)), Og 14 true 15 (.mov (.t 0)), Og 14 true 16 (.bin .neq (.t 15) (.k (.string ⟨#[46, 46]⟩))), Oo 17 (.pick (.t 14) (.t 16) (.k (.bool false))), Oo 18 (.mov (.t 17)), Og 18 true 19 (.mov (.t 0)), Og 18 true 20 (.call 203 [(.t 19), (.k (.string ⟨#[32]⟩))]), Og 18 true 21 (.un .not (.t 20)), Oo 22 (.pick (.t 18) (.t 21) (.k (.bool false))), Oo 23 (.mov (.t 22)), Og 23 true 24 (.mov (.t 0)), Og 23 true 25 (.call 203 [(.t 24), (.k (.string ⟨#[46]⟩))]), Og 23 true 26 (.un .not (.t 25)), Oo 27 (.pick (.t 23) (.t 26) (.k (.bool false))), Oo 2 (.mov (.t 27))])
  .ret))
abbrev h166 : HF := ⟨h166c, [.tmp 2], 28, false⟩
theorem h166_ok : (Tryz.f166.body).bind (compileC Tryz.prog) = some h166c.er := by kernel_rfl
theorem r166_ok : Tryz.f166.results.toList.mapM (retOf Tryz.prog) = some [.tmp 2] := by kernel_rfl

/-- depository/runs.sizeOf -/
def h167l0 : HC :=
  (.seq (.seq (.drawn [Qo (Oo 4 (.mov (.t 0))), Qo (Oo 5 (.mov (.t 3))), Qo (Oo 6 (.bin .mul (Ki 8) (.t 5))), Qo (Oo 7 (.bin .sub (.t 6) (Ki 1))), Qo (Oo 8 (.bin .shl (Ki (-1)) (.t 7))), Qo (Oo 9 (.mov (.t 3))), Qo (Oo 10 (.bin .mul (Ki 8) (.t 9))), Qo (Oo 11 (.bin .sub (.t 10) (Ki 1))), Qo (Oo 12 (.bin .shl (Ki 1) (.t 11))), Qo (Oo 13 (.bin .sub (.t 12) (Ki 1))), Qe (Oo 14 (.call 156 [(.t 4), (.t 8), (.t 13)])), Qo (Oo 15 (.un .not (.t 14)))])
  (.cond (.t 15) .skip
  (.exit 0)))
  (.block 1 (.region [Oo 16 (.mov (.t 3)), Oo 17 (.bin .add (.t 16) (Ki 1)), Oo 3 (.mov (.t 17))])))
def h167c : HC :=
  (.seq (.region [Oo 2 (.mov (Ki 0))])
  (.seq (.region [Oo 3 (.mov (Ki 1))])
  (.seq (.block 0 (.loop [0, 2] h167l0))
  (.seq (.region [Oo 18 (.mov (.t 3)), Oo 2 (.mov (.t 18))])
  .ret))))
abbrev h167 : HF := ⟨h167c, [.tmp 2], 19, false⟩
theorem h167_ok : (Tryz.f167.body).bind (compileC Tryz.prog) = some h167c.er := by kernel_rfl
theorem r167_ok : Tryz.f167.results.toList.mapM (retOf Tryz.prog) = some [.tmp 2] := by kernel_rfl

/-- depository/runs.signed -/
def h168l0 : HC :=
  (.seq (.region [Oo 8 (.bin .lss (.t 7) (.t 6))])
  (.seq (.cond (.t 8) .skip
  (.exit 0))
  (.seq (.block 1 (.seq (.region [Oo 9 (.mov (.t 5)), Oo 10 (.mov (.t 0)), Oo 11 (.conv .u8 (.t 10)), Oo 12 (.bslc 1 1 [(.int .u8 0)] [(0, (.t 11))]), Oo 13 (.app 1 1 [(.int .u8 0)] (.t 9) (.t 12)), Oo 5 (.mov (.t 13))])
  (.region [Oo 14 (.mov (.t 0)), Oo 15 (.bin .shr (.t 14) (.k (.int .u64 8))), Oo 0 (.mov (.t 15))])))
  (.region [Oo 16 (.bin .add (.t 7) (Ki 1)), Oo 7 (.mov (.t 16))]))))
def h168c : HC :=
  (.seq (.region [Oo 4 (.mov (.k (.slice none 0 0)))])
  (.seq (.region [Oo 5 (.mov (.k (.slice none 0 0)))])
  (.gh (.nil 5 1) (.seq (.seq (.region [Oo 6 (.mov (.t 1)), Oo 7 (.mov (Ki 0))])
  (.block 0 (.loop [0, 4, 0, 0] h168l0)))
  (.seq (.region [Oo 17 (.mov (.t 5)), Oo 4 (.mov (.t 17))])
  .ret)))))
abbrev h168 : HF := ⟨h168c, [.tmp 4], 18, false⟩
theorem h168_ok : (Tryz.f168.body).bind (compileC Tryz.prog) = some h168c.er := by kernel_rfl
theorem r168_ok : Tryz.f168.results.toList.mapM (retOf Tryz.prog) = some [.tmp 4] := by kernel_rfl

/-- depository/runs.run -/
def h169c : HC :=
  (.seq (.region [Oo 4 (.alloc [Zi 0, Zi 0]), Oo 5 (.mov (.k (.bool false)))])
  (.seq (.region [Oo 13 (.mov (.t 0)), Oo 14 (.nilc (.t 13)), Oo 15 (.load false 1 (.t 14)), Oo 16 (.ixS (.t 15) (Ki 0)), Oo 17 (.conv .i64 (.t 16)), Oo 6 (.mov (.t 17))])
  (.seq (.region [Oo 18 (.mov (.t 0)), Oo 19 (.mov (.t 0)), Oo 20 (.nilc (.t 19)), Oo 21 (.load false 1 (.t 20)), Oo 22 (.slS (.t 21) (some (Ki 1)) none), Oo 23 (.nilc (.t 18)), On (.store 1 (.t 23) (.t 22))])
  (.seq (.region [Oo 24 (.mov (.t 6)), Oo 25 (.bin .and (.t 24) (Ki 15)), Oo 26 (.mov (.t 6)), Oo 27 (.bin .shr (.t 26) (.k (.int .u64 4))), Oo 7 (.mov (.t 25)), Oo 8 (.mov (.t 27))])
  (.seq (.seq (.region [Oo 28 (.mov (.t 7)), Oo 29 (.call 156 [(.t 28), (Ki 1), (Ki 2)]), Oo 30 (.un .not (.t 29)), Oo 31 (.mov (.t 30)), Og 31 false 32 (.mov (.t 8)), Og 31 false 33 (.bin .gtr (.t 32) (Ki 2)), Oo 34 (.pick (.t 31) (.k (.bool true)) (.t 33))])
  (.cond (.t 34) (.seq (.region [Oo 35 (.build [Zi 0, Zi 0] []), On (.store 2 (.t 4) (.t 35)), Oo 5 (.mov (.k (.bool false)))])
  .ret)
  .skip))
  (.seq (.region [Oo 37 (.mov (.t 0)), Oo 38 (.mov (.t 7)), Oo 39 (.call 204 [(.t 37), (.t 38)]), Oo 36 (.mov (.t 39)), Oo 40 (.ext (.t 36) 0), Oo 41 (.ext (.t 36) 1), Oo 9 (.mov (.t 40)), Oo 10 (.mov (.t 41))])
  (.seq (.seq (.region [Oo 42 (.mov (.t 10)), Oo 43 (.un .not (.t 42)), Oo 44 (.mov (.t 43)), Og 44 false 45 (.mov (.t 8)), Og 44 false 46 (.bin .eql (.t 45) (Ki 0)), Oo 47 (.pick (.t 44) (.k (.bool true)) (.t 46))])
  (.cond (.t 47) (.seq (.region [Oo 48 (.mov (.t 9)), Oo 49 (.build [Zi 0, Zi 0] [(0, 1, (Ki (-1))), (1, 1, (.t 48))]), Oo 50 (.mov (.t 10)), On (.store 2 (.t 4) (.t 49)), Oo 5 (.mov (.t 50))])
  .ret)
  .skip))
  (.seq (.region [Oo 52 (.mov (.t 0)), Oo 53 (.mov (.t 8)), Oo 54 (.call 204 [(.t 52), (.t 53)]), Oo 51 (.mov (.t 54)), Oo 55 (.ext (.t 51) 0), Oo 56 (.ext (.t 51) 1), Oo 11 (.mov (.t 55)), Oo 10 (.mov (.t 56))])
  (.seq (.region [Oo 57 (.mov (.t 1)), Oo 58 (.mov (.t 11)), Oo 59 (.bin .add (.t 57) (.t 58)), Oo 60 (.mov (.t 9)), Oo 61 (.build [Zi 0, Zi 0] [(0, 1, (.t 59)), (1, 1, (.t 60))]), Oo 12 (.alloc [Zi 0, Zi 0]), On (.store 2 (.t 12) (.t 61))])
  (.seq (.drawn [Qo (Oo 62 (.load true 2 (.t 12))), Qo (Oo 63 (.mov (.t 10))), Qo (Oo 64 (.mov (.t 63))), Qo (Og 64 true 65 (.load true 2 (.t 12))), Qo (Og 64 true 66 (.call 155 [(.t 65)])), Qo (Og 64 true 67 (.un .not (.t 66))), Qo (Oo 68 (.pick (.t 64) (.t 67) (.k (.bool false)))), Qe (On (.store 2 (.t 4) (.t 62))), Qo (Oo 5 (.mov (.t 68)))])
  .ret))))))))))
abbrev h169 : HF := ⟨h169c, [.cell 4 true 2, .tmp 5], 69, false⟩
theorem h169_ok : (Tryz.f169.body).bind (compileC Tryz.prog) = some h169c.er := by kernel_rfl
theorem r169_ok : Tryz.f169.results.toList.mapM (retOf Tryz.prog) = some [.cell 4 true 2, .tmp 5] := by kernel_rfl

/-- depository/depositorybase.Power -/
def h170c : HC :=
  (.seq (.region [Oo 2 (.mov (Ki 0))])
  (.seq (.region [Oo 3 (.mov (.t 0)), Oo 4 (.bin .shl (Ki 1) (.t 3)), Oo 2 (.mov (.t 4))])
  .ret))
abbrev h170 : HF := ⟨h170c, [.tmp 2], 5, false⟩
theorem h170_ok : (Tryz.f170.body).bind (compileC Tryz.prog) = some h170c.er := by kernel_rfl
theorem r170_ok : Tryz.f170.results.toList.mapM (retOf Tryz.prog) = some [.tmp 2] := by kernel_rfl

/-- math/bits.Len64 -/
def h180c : HC :=
  (.seq (.region [Oo 2 (.mov (Ki 0))])
  (.seq (.seq (.region [Oo 3 (.mov (.t 0)), Oo 4 (.bin .geq (.t 3) (.k (.int .u64 4294967296)))])
  (.cond (.t 4) (.seq (.region [Oo 5 (.mov (.t 0)), Oo 6 (.bin .shr (.t 5) (.k (.int .u64 32))), Oo 0 (.mov (.t 6))])
  (.region [Oo 2 (.mov (Ki 32))]))
  .skip))
  (.seq (.seq (.region [Oo 7 (.mov (.t 0)), Oo 8 (.bin .geq (.t 7) (.k (.int .u64 65536)))])
  (.cond (.t 8) (.seq (.region [Oo 9 (.mov (.t 0)), Oo 10 (.bin .shr (.t 9) (.k (.int .u64 16))), Oo 0 (.mov (.t 10))])
  (.region [Oo 11 (.mov (.t 2)), Oo 12 (.bin .add (.t 11) (Ki 16)), Oo 2 (.mov (.t 12))]))
  .skip))
  (.seq (.seq (.region [Oo 13 (.mov (.t 0)), Oo 14 (.bin .geq (.t 13) (.k (.int .u64 256)))])
  (.cond (.t 14) (.seq (.region [Oo 15 (.mov (.t 0)), Oo 16 (.bin .shr (.t 15) (.k (.int .u64 8))), Oo 0 (.mov (.t 16))])
  (.region [Oo 17 (.mov (.t 2)), Oo 18 (.bin .add (.t 17) (Ki 8)), Oo 2 (.mov (.t 18))]))
  .skip))
  (.seq (.region [Oo 19 (.mov (.t 2)), Oo 20 (.mov (.t 0)), Oo 21 (.conv .u8 (.t 20)), Oo 22 (.ixS (.k (.string ⟨#[0, 1, 2, 2, 3, 3, 3, 3, 4, 4, 4, 4, 4, 4, 4, 4, 5, 5, 5, 5, 5, 5, 5, 5, 5, 5, 5, 5, 5, 5, 5, 5, 6, 6, 6, 6, 6, 6, 6, 6, 6, 6, 6, 6, 6, 6, 6, 6, 6, 6, 6, 6, 6, 6, 6, 6, 6, 6, 6, 6, 6, 6, 6, 6, 7, 7, 7, 7, 7, 7, 7, 7, 7, 7, 7, 7, 7, 7, 7, 7, 7, 7, 7, 7, 7, 7, 7, 7, 7, 7, 7, 7, 7, 7, 7, 7, 7, 7, 7, 7, 7, 7, 7, 7, 7, 7, 7, 7, 7, 7, 7, 7, 7, 7, 7, 7, 7, 7, 7, 7, 7, 7, 7, 7, 7, 7, 7, 7, 8, 8, 8, 8, 8, 8, 8, 8, 8, 8, 8, 8, 8, 8, 8, 8, 8, 8, 8, 8, 8, 8, 8, 8, 8, 8, 8, 8, 8, 8, 8, 8, 8, 8, 8, 8, 8, 8, 8, 8, 8, 8, 8, 8, 8, 8, 8, 8, 8, 8, 8, 8, 8, 8, 8, 8, 8, 8, 8, 8, 8, 8, 8, 8, 8, 8, 8, 8, 8, 8, 8, 8, 8, 8, 8, 8, 8, 8, 8, 8, 8, 8, 8, 8, 8, 8, 8, 8, 8, 8, 8, 8, 8, 8, 8, 8, 8, 8, 8, 8, 8, 8, 8, 8, 8, 8, 8, 8, 8, 8, 8, 8, 8, 8, 8, 8, 8, 8, 8, 8, 8, 8, 8, 8, 8, 8, 8, 8]⟩)) (.t 21)), Oo 23 (.conv .i64 (.t 22)), Oo 24 (.bin .add (.t 19) (.t 23)), Oo 2 (.mov (.t 24))])
  .ret)))))
abbrev h180 : HF := ⟨h180c, [.tmp 2], 25, false⟩
theorem h180_ok : (Tryz.f180.body).bind (compileC Tryz.prog) = some h180c.er := by kernel_rfl
theorem r180_ok : Tryz.f180.results.toList.mapM (retOf Tryz.prog) = some [.tmp 2] := by kernel_rfl

/-- internal/strconv.small -/
def h181c : HC :=
  (.seq (.region [Oo 2 (.mov (.k (.string ⟨#[]⟩)))])
  (.seq (.seq (.region [Oo 3 (.mov (.t 0)), Oo 4 (.bin .lss (.t 3) (Ki 10))])
  (.cond (.t 4) (.seq (.region [Oo 5 (.mov (.t 0)), Oo 6 (.mov (.t 0)), Oo 7 (.bin .add (.t 6) (Ki 1)), Oo 8 (.slS (.k (.string ⟨#[48, 49, 50, 51, 52, 53, 54, 55, 56, 57, 97, 98, 99, 100, 101, 102, 103, 104, 105, 106, 107, 108, 109, 110, 111, 112, 113, 114, 115, 116, 117, 118, 119, 120, 121, 122]⟩)) (some (.t 5)) (some (.t 7))), Oo 2 (.mov (.t 8))])
  .ret)
  .skip))
  (.seq (.region [Oo 9 (.mov (.t 0)), Oo 10 (.bin .mul (.t 9) (Ki 2)), Oo 11 (.mov (.t 0)), Oo 12 (.bin .mul (.t 11) (Ki 2)), Oo 13 (.bin .add (.t 12) (Ki 2)), Oo 14 (.slS (.k (.string ⟨#[48, 48, 48, 49, 48, 50, 48, 51, 48, 52, 48, 53, 48, 54, 48, 55, 48, 56, 48, 57, 49, 48, 49, 49, 49, 50, 49, 51, 49, 52, 49, 53, 49, 54, 49, 55, 49, 56, 49, 57, 50, 48, 50, 49, 50, 50, 50, 51, 50, 52, 50, 53, 50, 54, 50, 55, 50, 56, 50, 57, 51, 48, 51, 49, 51, 50, 51, 51, 51, 52, 51, 53, 51, 54, 51, 55, 51, 56, 51, 57, 52, 48, 52, 49, 52, 50, 52, 51, 52, 52, 52, 53, 52, 54, 52, 55, 52, 56, 52, 57, 53, 48, 53, 49, 53, 50, 53, 51, 53, 52, 53, 53, 53, 54, 53, 55, 53, 56, 53, 57, 54, 48, 54, 49, 54, 50, 54, 51, 54, 52, 54, 53, 54, 54, 54, 55, 54, 56, 54, 57, 55, 48, 55, 49, 55, 50, 55, 51, 55, 52, 55, 53, 55, 54, 55, 55, 55, 56, 55, 57, 56, 48, 56, 49, 56, 50, 56, 51, 56, 52, 56, 53, 56, 54, 56, 55, 56, 56, 56, 57, 57, 48, 57, 49, 57, 50, 57, 51, 57, 52, 57, 53, 57, 54, 57, 55, 57, 56, 57, 57]⟩)) (some (.t 10)) (some (.t 13))), Oo 2 (.mov (.t 14))])
  .ret)))
abbrev h181 : HF := ⟨h181c, [.tmp 2], 15, false⟩
theorem h181_ok : (Tryz.f181.body).bind (compileC Tryz.prog) = some h181c.er := by kernel_rfl
theorem r181_ok : Tryz.f181.results.toList.mapM (retOf Tryz.prog) = some [.tmp 2] := by kernel_rfl

/-- internal/strconv.numDigits -/
def h182c : HC :=
  (.seq (.region [Oo 2 (.mov (Ki 0))])
  (.seq (.region [Oo 4 (.mov (.t 0)), Oo 5 (.call 180 [(.t 4)]), Oo 6 (.call 210 [(.t 5)]), Oo 3 (.mov (.t 6))])
  (.seq (.region [Oo 7 (.mov (.t 3)), Oo 8 (.mov (.t 0)), Oo 9 (.mov (.t 3)), Oo 10 (.ixA 20 1 (.g 0) (.t 9)), Oo 11 (.load false 1 (.t 10)), Oo 12 (.bin .geq (.t 8) (.t 11)), Oo 13 (.call 211 [(.t 12)]), Oo 14 (.bin .add (.t 7) (.t 13)), Oo 2 (.mov (.t 14))])
  .ret)))
abbrev h182 : HF := ⟨h182c, [.tmp 2], 15, false⟩
theorem h182_ok : (Tryz.f182.body).bind (compileC Tryz.prog) = some h182c.er := by kernel_rfl
theorem r182_ok : Tryz.f182.results.toList.mapM (retOf Tryz.prog) = some [.tmp 2] := by kernel_rfl

/-- internal/strconv.formatBase10 -/
def h183l0 : HC :=
  (.seq (.seq (.region [Oo 19 (.mov (.t 4)), Oo 20 (.bin .geq (.t 19) (Ki 8))])
  (.cond (.t 20) .skip
  (.exit 0)))
  (.block 1 (.seq (.region [Oo 21 (.mov (.t 1)), Oo 22 (.bin .rem (.t 21) (.k (.int .u64 100000000))), Oo 23 (.conv .u32 (.t 22)), Oo 5 (.mov (.t 23))])
  (.seq (.region [Oo 24 (.mov (.t 1)), Oo 25 (.bin .quo (.t 24) (.k (.int .u64 100000000))), Oo 1 (.mov (.t 25))])
  (.seq (.region [Oo 26 (.mov (.t 5)), Oo 27 (.bin .quo (.t 26) (.k (.int .u32 10000))), Oo 28 (.mov (.t 5)), Oo 29 (.bin .rem (.t 28) (.k (.int .u32 10000))), Oo 6 (.mov (.t 27)), Oo 7 (.mov (.t 29))])
  (.seq (.region [Oo 30 (.mov (.t 7)), Oo 31 (.bin .quo (.t 30) (.k (.int .u32 100))), Oo 32 (.bin .mul (.t 31) (.k (.int .u32 2))), Oo 33 (.mov (.t 7)), Oo 34 (.bin .rem (.t 33) (.k (.int .u32 100))), Oo 35 (.bin .mul (.t 34) (.k (.int .u32 2))), Oo 8 (.mov (.t 32)), Oo 9 (.mov (.t 35))])
  (.seq (.region [Oo 36 (.mov (.t 6)), Oo 37 (.bin .quo (.t 36) (.k (.int .u32 100))), Oo 38 (.bin .mul (.t 37) (.k (.int .u32 2))), Oo 39 (.mov (.t 6)), Oo 40 (.bin .rem (.t 39) (.k (.int .u32 100))), Oo 41 (.bin .mul (.t 40) (.k (.int .u32 2))), Oo 10 (.mov (.t 38)), Oo 11 (.mov (.t 41))])
  (.seq (.drawn [Qo (Oo 42 (.mov (.t 0))), Qo (Oo 43 (.mov (.t 4))), Qo (Oo 44 (.bin .sub (.t 43) (Ki 1))), Qo (Oo 45 (.mov (.t 0))), Qo (Oo 46 (.mov (.t 4))), Qo (Oo 47 (.bin .sub (.t 46) (Ki 2))), Qo (Oo 48 (.mov (.t 9))), Qo (Oo 49 (.bin .add (.t 48) (.k (.int .u32 1)))), Qo (Oo 50 (.ixS (.k (.string ⟨#[48, 48, 48, 49, 48, 50, 48, 51, 48, 52, 48, 53, 48, 54, 48, 55, 48, 56, 48, 57, 49, 48, 49, 49, 49, 50, 49, 51, 49, 52, 49, 53, 49, 54, 49, 55, 49, 56, 49, 57, 50, 48, 50, 49, 50, 50, 50, 51, 50, 52, 50, 53, 50, 54, 50, 55, 50, 56, 50, 57, 51, 48, 51, 49, 51, 50, 51, 51, 51, 52, 51, 53, 51, 54, 51, 55, 51, 56, 51, 57, 52, 48, 52, 49, 52, 50, 52, 51, 52, 52, 52, 53, 52, 54, 52, 55, 52, 56, 52, 57, 53, 48, 53, 49, 53, 50, 53, 51, 53, 52, 53, 53, 53, 54, 53, 55, 53, 56, 53, 57, 54, 48, 54, 49, 54, 50, 54, 51, 54, 52, 54, 53, 54, 54, 54, 55, 54, 56, 54, 57, 55, 48, 55, 49, 55, 50, 55, 51, 55, 52, 55, 53, 55, 54, 55, 55, 55, 56, 55, 57, 56, 48, 56, 49, 56, 50, 56, 51, 56, 52, 56, 53, 56, 54, 56, 55, 56, 56, 56, 57, 57, 48, 57, 49, 57, 50, 57, 51, 57, 52, 57, 53, 57, 54, 57, 55, 57, 56, 57, 57]⟩)) (.t 49))), Qo (Oo 51 (.mov (.t 9))), Qo (Oo 52 (.ixS (.k (.string ⟨#[48, 48, 48, 49, 48, 50, 48, 51, 48, 52, 48, 53, 48, 54, 48, 55, 48, 56, 48, 57, 49, 48, 49, 49, 49, 50, 49, 51, 49, 52, 49, 53, 49, 54, 49, 55, 49, 56, 49, 57, 50, 48, 50, 49, 50, 50, 50, 51, 50, 52, 50, 53, 50, 54, 50, 55, 50, 56, 50, 57, 51, 48, 51, 49, 51, 50, 51, 51, 51, 52, 51, 53, 51, 54, 51, 55, 51, 56, 51, 57, 52, 48, 52, 49, 52, 50, 52, 51, 52, 52, 52, 53, 52, 54, 52, 55, 52, 56, 52, 57, 53, 48, 53, 49, 53, 50, 53, 51, 53, 52, 53, 53, 53, 54, 53, 55, 53, 56, 53, 57, 54, 48, 54, 49, 54, 50, 54, 51, 54, 52, 54, 53, 54, 54, 54, 55, 54, 56, 54, 57, 55, 48, 55, 49, 55, 50, 55, 51, 55, 52, 55, 53, 55, 54, 55, 55, 55, 56, 55, 57, 56, 48, 56, 49, 56, 50, 56, 51, 56, 52, 56, 53, 56, 54, 56, 55, 56, 56, 56, 57, 57, 48, 57, 49, 57, 50, 57, 51, 57, 52, 57, 53, 57, 54, 57, 55, 57, 56, 57, 57]⟩)) (.t 51))), Qo (Oo 53 (.ixL 1 (.t 42) (.t 44))), Qe (On (.store 1 (.t 53) (.t 50))), Qo (Oo 54 (.ixL 1 (.t 45) (.t 47))), Qe (On (.store 1 (.t 54) (.t 52)))])
  (.seq (.drawn [Qo (Oo 55 (.mov (.t 0))), Qo (Oo 56 (.mov (.t 4))), Qo (Oo 57 (.bin .sub (.t 56) (Ki 3))), Qo (Oo 58 (.mov (.t 0))), Qo (Oo 59 (.mov (.t 4))), Qo (Oo 60 (.bin .sub (.t 59) (Ki 4))), Qo (Oo 61 (.mov (.t 8))), Qo (Oo 62 (.bin .add (.t 61) (.k (.int .u32 1)))), Qo (Oo 63 (.ixS (.k (.string ⟨#[48, 48, 48, 49, 48, 50, 48, 51, 48, 52, 48, 53, 48, 54, 48, 55, 48, 56, 48, 57, 49, 48, 49, 49, 49, 50, 49, 51, 49, 52, 49, 53, 49, 54, 49, 55, 49, 56, 49, 57, 50, 48, 50, 49, 50, 50, 50, 51, 50, 52, 50, 53, 50, 54, 50, 55, 50, 56, 50, 57, 51, 48, 51, 49, 51, 50, 51, 51, 51, 52, 51, 53, 51, 54, 51, 55, 51, 56, 51, 57, 52, 48, 52, 49, 52, 50, 52, 51, 52, 52, 52, 53, 52, 54, 52, 55, 52, 56, 52, 57, 53, 48, 53, 49, 53, 50, 53, 51, 53, 52, 53, 53, 53, 54, 53, 55, 53, 56, 53, 57, 54, 48, 54, 49, 54, 50, 54, 51, 54, 52, 54, 53, 54, 54, 54, 55, 54, 56, 54, 57, 55, 48, 55, 49, 55, 50, 55, 51, 55, 52, 55, 53, 55, 54, 55, 55, 55, 56, 55, 57, 56, 48, 56, 49, 56, 50, 56, 51, 56, 52, 56, 53, 56, 54, 56, 55, 56, 56, 56, 57, 57, 48, 57, 49, 57, 50, 57, 51, 57, 52, 57, 53, 57, 54, 57, 55, 57, 56, 57, 57]⟩)) (.t 62))), Qo (Oo 64 (.mov (.t 8))), Qo (Oo 65 (.ixS (.k (.string ⟨#[48, 48, 48, 49, 48, 50, 48, 51, 48, 52, 48, 53, 48, 54, 48, 55, 48, 56, 48, 57, 49, 48, 49, 49, 49, 50, 49, 51, 49, 52, 49, 53, 49, 54, 49, 55, 49, 56, 49, 57, 50, 48, 50, 49, 50, 50, 50, 51, 50, 52, 50, 53, 50, 54, 50, 55, 50, 56, 50, 57, 51, 48, 51, 49, 51, 50, 51, 51, 51, 52, 51, 53, 51, 54, 51, 55, 51, 56, 51, 57, 52, 48, 52, 49, 52, 50, 52, 51, 52, 52, 52, 53, 52, 54, 52, 55, 52, 56, 52, 57, 53, 48, 53, 49, 53, 50, 53, 51, 53, 52, 53, 53, 53, 54, 53, 55, 53, 56, 53, 57, 54, 48, 54, 49, 54, 50, 54, 51, 54, 52, 54, 53, 54, 54, 54, 55, 54, 56, 54, 57, 55, 48, 55, 49, 55, 50, 55, 51, 55, 52, 55, 53, 55, 54, 55, 55, 55, 56, 55, 57, 56, 48, 56, 49, 56, 50, 56, 51, 56, 52, 56, 53, 56, 54, 56, 55, 56, 56, 56, 57, 57, 48, 57, 49, 57, 50, 57, 51, 57, 52, 57, 53, 57, 54, 57, 55, 57, 56, 57, 57]⟩)) (.t 64))), Qo (Oo 66 (.ixL 1 (.t 55) (.t 57))), Qe (On (.store 1 (.t 66) (.t 63))), Qo (Oo 67 (.ixL 1 (.t 58) (.t 60))), Qe (On (.store 1 (.t 67) (.t 65)))])
  (.seq (.drawn [Qo (Oo 68 (.mov (.t 0))), Qo (Oo 69 (.mov (.t 4))), Qo (Oo 70 (.bin .sub (.t 69) (Ki 5))), Qo (Oo 71 (.mov (.t 0))), Qo (Oo 72 (.mov (.t 4))), Qo (Oo 73 (.bin .sub (.t 72) (Ki 6))), Qo (Oo 74 (.mov (.t 11))), Qo (Oo 75 (.bin .add (.t 74) (.k (.int .u32 1)))), Qo (Oo 76 (.ixS (.k (.string ⟨#[48, 48, 48, 49, 48, 50, 48, 51, 48, 52, 48, 53, 48, 54, 48, 55, 48, 56, 48, 57, 49, 48, 49, 49, 49, 50, 49, 51, 49, 52, 49, 53, 49, 54, 49, 55, 49, 56, 49, 57, 50, 48, 50, 49, 50, 50, 50, 51, 50, 52, 50, 53, 50, 54, 50, 55, 50, 56, 50, 57, 51, 48, 51, 49, 51, 50, 51, 51, 51, 52, 51, 53, 51, 54, 51, 55, 51, 56, 51, 57, 52, 48, 52, 49, 52, 50, 52, 51, 52, 52, 52, 53, 52, 54, 52, 55, 52, 56, 52, 57, 53, 48, 53, 49, 53, 50, 53, 51, 53, 52, 53, 53, 53, 54, 53, 55, 53, 56, 53, 57, 54, 48, 54, 49, 54, 50, 54, 51, 54, 52, 54, 53, 54, 54, 54, 55, 54, 56, 54, 57, 55, 48, 55, 49, 55, 50, 55, 51, 55, 52, 55, 53, 55, 54, 55, 55, 55, 56, 55, 57, 56, 48, 56, 49, 56, 50, 56, 51, 56, 52, 56, 53, 56, 54, 56, 55, 56, 56, 56, 57, 57, 48, 57, 49, 57, 50, 57, 51, 57, 52, 57, 53, 57, 54, 57, 55, 57, 56, 57, 57]⟩)) (.t 75))), Qo (Oo 77 (.mov (.t 11))), Qo (Oo 78 (.ixS (.k (.string ⟨#[48, 48, 48, 49, 48, 50, 48, 51, 48, 52, 48, 53, 48, 54, 48, 55, 48, 56, 48, 57, 49, 48, 49, 49, 49, 50, 49, 51, 49, 52, 49, 53, 49, 54, 49, 55, 49, 56, 49, 57, 50, 48, 50, 49, 50, 50, 50, 51, 50, 52, 50, 53, 50, 54, 50, 55, 50, 56, 50, 57, 51, 48, 51, 49, 51, 50, 51, 51, 51, 52, 51, 53, 51, 54, 51, 55, 51, 56, 51, 57, 52, 48, 52, 49, 52, 50, 52, 51, 52, 52, 52, 53, 52, 54, 52, 55, 52, 56, 52, 57, 53, 48, 53, 49, 53, 50, 53, 51, 53, 52, 53, 53, 53, 54, 53, 55, 53, 56, 53, 57, 54, 48, 54, 49, 54, 50, 54, 51, 54, 52, 54, 53, 54, 54, 54, 55, 54, 56, 54, 57, 55, 48, 55, 49, 55, 50, 55, 51, 55, 52, 55, 53, 55, 54, 55, 55, 55, 56, 55, 57, 56, 48, 56, 49, 56, 50, 56, 51, 56, 52, 56, 53, 56, 54, 56, 55, 56, 56, 56, 57, 57, 48, 57, 49, 57, 50, 57, 51, 57, 52, 57, 53, 57, 54, 57, 55, 57, 56, 57, 57]⟩)) (.t 77))), Qo (Oo 79 (.ixL 1 (.t 68) (.t 70))), Qe (On (.store 1 (.t 79) (.t 76))), Qo (Oo 80 (.ixL 1 (.t 71) (.t 73))), Qe (On (.store 1 (.t 80) (.t 78)))])
  (.seq (.drawn [Qo (Oo 81 (.mov (.t 0))), Qo (Oo 82 (.mov (.t 4))), Qo (Oo 83 (.bin .sub (.t 82) (Ki 7))), Qo (Oo 84 (.mov (.t 0))), Qo (Oo 85 (.mov (.t 4))), Qo (Oo 86 (.bin .sub (.t 85) (Ki 8))), Qo (Oo 87 (.mov (.t 10))), Qo (Oo 88 (.bin .add (.t 87) (.k (.int .u32 1)))), Qo (Oo 89 (.ixS (.k (.string ⟨#[48, 48, 48, 49, 48, 50, 48, 51, 48, 52, 48, 53, 48, 54, 48, 55, 48, 56, 48, 57, 49, 48, 49, 49, 49, 50, 49, 51, 49, 52, 49, 53, 49, 54, 49, 55, 49, 56, 49, 57, 50, 48, 50, 49, 50, 50, 50, 51, 50, 52, 50, 53, 50, 54, 50, 55, 50, 56, 50, 57, 51, 48, 51, 49, 51, 50, 51, 51, 51, 52, 51, 53, 51, 54, 51, 55, 51, 56, 51, 57, 52, 48, 52, 49, 52, 50, 52, 51, 52, 52, 52, 53, 52, 54, 52, 55, 52, 56, 52, 57, 53, 48, 53, 49, 53, 50, 53, 51, 53, 52, 53, 53, 53, 54, 53, 55, 53, 56, 53, 57, 54, 48, 54, 49, 54, 50, 54, 51, 54, 52, 54, 53, 54, 54, 54, 55, 54, 56, 54, 57, 55, 48, 55, 49, 55, 50, 55, 51, 55, 52, 55, 53, 55, 54, 55, 55, 55, 56, 55, 57, 56, 48, 56, 49, 56, 50, 56, 51, 56, 52, 56, 53, 56, 54, 56, 55, 56, 56, 56, 57, 57, 48, 57, 49, 57, 50, 57, 51, 57, 52, 57, 53, 57, 54, 57, 55, 57, 56, 57, 57]⟩)) (.t 88))), Qo (Oo 90 (.mov (.t 10))), Qo (Oo 91 (.ixS (.k (.string ⟨#[48, 48, 48, 49, 48, 50, 48, 51, 48, 52, 48, 53, 48, 54, 48, 55, 48, 56, 48, 57, 49, 48, 49, 49, 49, 50, 49, 51, 49, 52, 49, 53, 49, 54, 49, 55, 49, 56, 49, 57, 50, 48, 50, 49, 50, 50, 50, 51, 50, 52, 50, 53, 50, 54, 50, 55, 50, 56, 50, 57, 51, 48, 51, 49, 51, 50, 51, 51, 51, 52, 51, 53, 51, 54, 51, 55, 51, 56, 51, 57, 52, 48, 52, 49, 52, 50, 52, 51, 52, 52, 52, 53, 52, 54, 52, 55, 52, 56, 52, 57, 53, 48, 53, 49, 53, 50, 53, 51, 53, 52, 53, 53, 53, 54, 53, 55, 53, 56, 53, 57, 54, 48, 54, 49, 54, 50, 54, 51, 54, 52, 54, 53, 54, 54, 54, 55, 54, 56, 54, 57, 55, 48, 55, 49, 55, 50, 55, 51, 55, 52, 55, 53, 55, 54, 55, 55, 55, 56, 55, 57, 56, 48, 56, 49, 56, 50, 56, 51, 56, 52, 56, 53, 56, 54, 56, 55, 56, 56, 56, 57, 57, 48, 57, 49, 57, 50, 57, 51, 57, 52, 57, 53, 57, 54, 57, 55, 57, 56, 57, 57]⟩)) (.t 90))), Qo (Oo 92 (.ixL 1 (.t 81) (.t 83))), Qe (On (.store 1 (.t 92) (.t 89))), Qo (Oo 93 (.ixL 1 (.t 84) (.t 86))), Qe (On (.store 1 (.t 93) (.t 91)))])
  (.region [Oo 94 (.mov (.t 4)), Oo 95 (.bin .sub (.t 94) (Ki 8)), Oo 4 (.mov (.t 95))]))))))))))))
def h183c : HC :=
  (.seq (.region [Oo 17 (.mov (.t 0)), Oo 18 (.lenL (.t 17)), Oo 4 (.mov (.t 18))])
  (.seq (.block 0 (.loop [0, 0, 2] h183l0))
  (.seq (.region [Oo 96 (.mov (.t 1)), Oo 97 (.conv .u32 (.t 96)), Oo 12 (.mov (.t 97))])
  (.seq (.seq (.region [Oo 98 (.mov (.t 4)), Oo 99 (.bin .geq (.t 98) (Ki 4))])
  (.cond (.t 99) (.seq (.region [Oo 100 (.mov (.t 12)), Oo 101 (.bin .rem (.t 100) (.k (.int .u32 10000))), Oo 13 (.mov (.t 101))])
  (.seq (.region [Oo 102 (.mov (.t 12)), Oo 103 (.bin .quo (.t 102) (.k (.int .u32 10000))), Oo 12 (.mov (.t 103))])
  (.seq (.region [Oo 104 (.mov (.t 13)), Oo 105 (.bin .quo (.t 104) (.k (.int .u32 100))), Oo 106 (.bin .mul (.t 105) (.k (.int .u32 2))), Oo 107 (.mov (.t 13)), Oo 108 (.bin .rem (.t 107) (.k (.int .u32 100))), Oo 109 (.bin .mul (.t 108) (.k (.int .u32 2))), Oo 14 (.mov (.t 106)), Oo 15 (.mov (.t 109))])
  (.seq (.drawn [Qo (Oo 110 (.mov (.t 0))), Qo (Oo 111 (.mov (.t 4))), Qo (Oo 112 (.bin .sub (.t 111) (Ki 1))), Qo (Oo 113 (.mov (.t 0))), Qo (Oo 114 (.mov (.t 4))), Qo (Oo 115 (.bin .sub (.t 114) (Ki 2))), Qo (Oo 116 (.mov (.t 15))), Qo (Oo 117 (.bin .add (.t 116) (.k (.int .u32 1)))), Qo (Oo 118 (.ixS (.k (.string ⟨#[48, 48, 48, 49, 48, 50, 48, 51, 48, 52, 48, 53, 48, 54, 48, 55, 48, 56, 48, 57, 49, 48, 49, 49, 49, 50, 49, 51, 49, 52, 49, 53, 49, 54, 49, 55, 49, 56, 49, 57, 50, 48, 50, 49, 50, 50, 50, 51, 50, 52, 50, 53, 50, 54, 50, 55, 50, 56, 50, 57, 51, 48, 51, 49, 51, 50, 51, 51, 51, 52, 51, 53, 51, 54, 51, 55, 51, 56, 51, 57, 52, 48, 52, 49, 52, 50, 52, 51, 52, 52, 52, 53, 52, 54, 52, 55, 52, 56, 52, 57, 53, 48, 53, 49, 53, 50, 53, 51, 53, 52, 53, 53, 53, 54, 53, 55, 53, 56, 53, 57, 54, 48, 54, 49, 54, 50, 54, 51, 54, 52, 54, 53, 54, 54, 54, 55, 54, 56, 54, 57, 55, 48, 55, 49, 55, 50, 55, 51, 55, 52, 55, 53, 55, 54, 55, 55, 55, 56, 55, 57, 56, 48, 56, 49, 56, 50, 56, 51, 56, 52, 56, 53, 56, 54, 56, 55, 56, 56, 56, 57, 57, 48, 57, 49, 57, 50, 57, 51, 57, 52, 57, 53, 57, 54, 57, 55, 57, 56, 57, 57]⟩)) (.t 117))), Qo (Oo 119 (.mov (.t 15))), Qo (Oo 120 (.ixS (.k (.string ⟨#[48, 48, 48, 49, 48, 50, 48, 51, 48, 52, 48, 53, 48, 54, 48, 55, 48, 56, 48, 57, 49, 48, 49, 49, 49, 50, 49, 51, 49, 52, 49, 53, 49, 54, 49, 55, 49, 56, 49, 57, 50, 48, 50, 49, 50, 50, 50, 51, 50, 52, 50, 53, 50, 54, 50, 55, 50, 56, 50, 57, 51, 48, 51, 49, 51, 50, 51, 51, 51, 52, 51, 53, 51, 54, 51, 55, 51, 56, 51, 57, 52, 48, 52, 49, 52, 50, 52, 51, 52, 52, 52, 53, 52, 54, 52, 55, 52, 56, 52, 57, 53, 48, 53, 49, 53, 50, 53, 51, 53, 52, 53, 53, 53, 54, 53, 55, 53, 56, 53, 57, 54, 48, 54, 49, 54, 50, 54, 51, 54, 52, 54, 53, 54, 54, 54, 55, 54, 56, 54, 57, 55, 48, 55, 49, 55, 50, 55, 51, 55, 52, 55, 53, 55, 54, 55, 55, 55, 56, 55, 57, 56, 48, 56, 49, 56, 50, 56, 51, 56, 52, 56, 53, 56, 54, 56, 55, 56, 56, 56, 57, 57, 48, 57, 49, 57, 50, 57, 51, 57, 52, 57, 53, 57, 54, 57, 55, 57, 56, 57, 57]⟩)) (.t 119))), Qo (Oo 121 (.ixL 1 (.t 110) (.t 112))), Qe (On (.store 1 (.t 121) (.t 118))), Qo (Oo 122 (.ixL 1 (.t 113) (.t 115))), Qe (On (.store 1 (.t 122) (.t 120)))])
  (.seq (.drawn [Qo (Oo 123 (.mov (.t 0))), Qo (Oo 124 (.mov (.t 4))), Qo (Oo 125 (.bin .sub (.t 124) (Ki 3))), Qo (Oo 126 (.mov (.t 0))), Qo (Oo 127 (.mov (.t 4))), Qo (Oo 128 (.bin .sub (.t 127) (Ki 4))), Qo (Oo 129 (.mov (.t 14))), Qo (Oo 130 (.bin .add (.t 129) (.k (.int .u32 1)))), Qo (Oo 131 (.ixS (.k (.string ⟨#[48, 48, 48, 49, 48, 50, 48, 51, 48, 52, 48, 53, 48, 54, 48, 55, 48, 56, 48, 57, 49, 48, 49, 49, 49, 50, 49, 51, 49, 52, 49, 53, 49, 54, 49, 55, 49, 56, 49, 57, 50, 48, 50, 49, 50, 50, 50, 51, 50, 52, 50, 53, 50, 54, 50, 55, 50, 56, 50, 57, 51, 48, 51, 49, 51, 50, 51, 51, 51, 52, 51, 53, 51, 54, 51, 55, 51, 56, 51, 57, 52, 48, 52, 49, 52, 50, 52, 51, 52, 52, 52, 53, 52, 54, 52, 55, 52, 56, 52, 57, 53, 48, 53, 49, 53, 50, 53, 51, 53, 52, 53, 53, 53, 54, 53, 55, 53, 56, 53, 57, 54, 48, 54, 49, 54, 50, 54, 51, 54, 52, 54, 53, 54, 54, 54, 55, 54, 56, 54, 57, 55, 48, 55, 49, 55, 50, 55, 51, 55, 52, 55, 53, 55, 54, 55, 55, 55, 56, 55, 57, 56, 48, 56, 49, 56, 50, 56, 51, 56, 52, 56, 53, 56, 54, 56, 55, 56, 56, 56, 57, 57, 48, 57, 49, 57, 50, 57, 51, 57, 52, 57, 53, 57, 54, 57, 55, 57, 56, 57, 57]⟩)) (.t 130))), Qo (Oo 132 (.mov (.t 14))), Qo (Oo 133 (.ixS (.k (.string ⟨#[48, 48, 48, 49, 48, 50, 48, 51, 48, 52, 48, 53, 48, 54, 48, 55, 48, 56, 48, 57, 49, 48, 49, 49, 49, 50, 49, 51, 49, 52, 49, 53, 49, 54, 49, 55, 49, 56, 49, 57, 50, 48, 50, 49, 50, 50, 50, 51, 50, 52, 50, 53, 50, 54, 50, 55, 50, 56, 50, 57, 51, 48, 51, 49, 51, 50, 51, 51, 51, 52, 51, 53, 51, 54, 51, 55, 51, 56, 51, 57, 52, 48, 52, 49, 52, 50, 52, 51, 52, 52, 52, 53, 52, 54, 52, 55, 52, 56, 52, 57, 53, 48, 53, 49, 53, 50, 53, 51, 53, 52, 53, 53, 53, 54, 53, 55, 53, 56, 53, 57, 54, 48, 54, 49, 54, 50, 54, 51, 54, 52, 54, 53, 54, 54, 54, 55, 54, 56, 54, 57, 55, 48, 55, 49, 55, 50, 55, 51, 55, 52, 55, 53, 55, 54, 55, 55, 55, 56, 55, 57, 56, 48, 56, 49, 56, 50, 56, 51, 56, 52, 56, 53, 56, 54, 56, 55, 56, 56, 56, 57, 57, 48, 57, 49, 57, 50, 57, 51, 57, 52, 57, 53, 57, 54, 57, 55, 57, 56, 57, 57]⟩)) (.t 132))), Qo (Oo 134 (.ixL 1 (.t 123) (.t 125))), Qe (On (.store 1 (.t 134) (.t 131))), Qo (Oo 135 (.ixL 1 (.t 126) (.t 128))), Qe (On (.store 1 (.t 135) (.t 133)))])
  (.region [Oo 136 (.mov (.t 4)), Oo 137 (.bin .sub (.t 136) (Ki 4)), Oo 4 (.mov (.t 137))]))))))
  .skip))
  (.seq (.seq (.region [Oo 138 (.mov (.t 4)), Oo 139 (.bin .geq (.t 138) (Ki 2))])
  (.cond (.t 139) (.seq (.region [Oo 140 (.mov (.t 12)), Oo 141 (.bin .rem (.t 140) (.k (.int .u32 100))), Oo 142 (.bin .mul (.t 141) (.k (.int .u32 2))), Oo 16 (.mov (.t 142))])
  (.seq (.region [Oo 143 (.mov (.t 12)), Oo 144 (.bin .quo (.t 143) (.k (.int .u32 100))), Oo 12 (.mov (.t 144))])
  (.seq (.drawn [Qo (Oo 145 (.mov (.t 0))), Qo (Oo 146 (.mov (.t 4))), Qo (Oo 147 (.bin .sub (.t 146) (Ki 1))), Qo (Oo 148 (.mov (.t 0))), Qo (Oo 149 (.mov (.t 4))), Qo (Oo 150 (.bin .sub (.t 149) (Ki 2))), Qo (Oo 151 (.mov (.t 16))), Qo (Oo 152 (.bin .add (.t 151) (.k (.int .u32 1)))), Qo (Oo 153 (.ixS (.k (.string ⟨#[48, 48, 48, 49, 48, 50, 48, 51, 48, 52, 48, 53, 48, 54, 48, 55, 48, 56, 48, 57, 49, 48, 49, 49, 49, 50, 49, 51, 49, 52, 49, 53, 49, 54, 49, 55, 49, 56, 49, 57, 50, 48, 50, 49, 50, 50, 50, 51, 50, 52, 50, 53, 50, 54, 50, 55, 50, 56, 50, 57, 51, 48, 51, 49, 51, 50, 51, 51, 51, 52, 51, 53, 51, 54, 51, 55, 51, 56, 51, 57, 52, 48, 52, 49, 52, 50, 52, 51, 52, 52, 52, 53, 52, 54, 52, 55, 52, 56, 52, 57, 53, 48, 53, 49, 53, 50, 53, 51, 53, 52, 53, 53, 53, 54, 53, 55, 53, 56, 53, 57, 54, 48, 54, 49, 54, 50, 54, 51, 54, 52, 54, 53, 54, 54, 54, 55, 54, 56, 54, 57, 55, 48, 55, 49, 55, 50, 55, 51, 55, 52, 55, 53, 55, 54, 55, 55, 55, 56, 55, 57, 56, 48, 56, 49, 56, 50, 56, 51, 56, 52, 56, 53, 56, 54, 56, 55, 56, 56, 56, 57, 57, 48, 57, 49, 57, 50, 57, 51, 57, 52, 57, 53, 57, 54, 57, 55, 57, 56, 57, 57]⟩)) (.t 152))), Qo (Oo 154 (.mov (.t 16))), Qo (Oo 155 (.ixS (.k (.string ⟨#[48, 48, 48, 49, 48, 50, 48, 51, 48, 52, 48, 53, 48, 54, 48, 55, 48, 56, 48, 57, 49, 48, 49, 49, 49, 50, 49, 51, 49, 52, 49, 53, 49, 54, 49, 55, 49, 56, 49, 57, 50, 48, 50, 49, 50, 50, 50, 51, 50, 52, 50, 53, 50, 54, 50, 55, 50, 56, 50, 57, 51, 48, 51, 49, 51, 50, 51, 51, 51, 52, 51, 53, 51, 54, 51, 55, 51, 56, 51, 57, 52, 48, 52, 49, 52, 50, 52, 51, 52, 52, 52, 53, 52, 54, 52, 55, 52, 56, 52, 57, 53, 48, 53, 49, 53, 50, 53, 51, 53, 52, 53, 53, 53, 54, 53, 55, 53, 56, 53, 57, 54, 48, 54, 49, 54, 50, 54, 51, 54, 52, 54, 53, 54, 54, 54, 55, 54, 56, 54, 57, 55, 48, 55, 49, 55, 50, 55, 51, 55, 52, 55, 53, 55, 54, 55, 55, 55, 56, 55, 57, 56, 48, 56, 49, 56, 50, 56, 51, 56, 52, 56, 53, 56, 54, 56, 55, 56, 56, 56, 57, 57, 48, 57, 49, 57, 50, 57, 51, 57, 52, 57, 53, 57, 54, 57, 55, 57, 56, 57, 57]⟩)) (.t 154))), Qo (Oo 156 (.ixL 1 (.t 145) (.t 147))), Qe (On (.store 1 (.t 156) (.t 153))), Qo (Oo 157 (.ixL 1 (.t 148) (.t 150))), Qe (On (.store 1 (.t 157) (.t 155)))])
  (.region [Oo 158 (.mov (.t 4)), Oo 159 (.bin .sub (.t 158) (Ki 2)), Oo 4 (.mov (.t 159))]))))
  .skip))
  (.seq (.region [Oo 160 (.mov (.t 4)), Oo 161 (.bin .gtr (.t 160) (Ki 0))])
  (.cond (.t 161) (.region [Oo 162 (.mov (.t 0)), Oo 163 (.mov (.t 12)), Oo 164 (.bin .add (.k (.int .u32 48)) (.t 163)), Oo 165 (.conv .u8 (.t 164)), Oo 166 (.ixL 1 (.t 162) (Ki 0)), On (.store 1 (.t 166) (.t 165))])
  .skip)))))))
abbrev h183 : HF := ⟨h183c, [], 167, false⟩
theorem h183_ok : (Tryz.f183.body).bind (compileC Tryz.prog) = some h183c.er := by kernel_rfl
theorem r183_ok : Tryz.f183.results.toList.mapM (retOf Tryz.prog) = some [] := by kernel_rfl

/-- internal/strconv.formatBits -/
def h184l0 : HC :=
  (.seq (.seq (.region [Oo 44 (.mov (.t 1)), Oo 45 (.mov (.t 15)), Oo 46 (.bin .geq (.t 44) (.t 45))])
  (.cond (.t 46) .skip
  (.exit 0)))
  (.block 1 (.seq (.region [Oo 47 (.mov (.t 13)), Oo 48 (.bin .sub (.t 47) (Ki 1)), Oo 13 (.mov (.t 48))])
  (.seq (.region [Oo 49 (.mov (.t 13)), Oo 50 (.mov (.t 1)), Oo 51 (.mov (.t 16)), Oo 52 (.bin .and (.t 50) (.t 51)), Oo 53 (.ixS (.k (.string ⟨#[48, 49, 50, 51, 52, 53, 54, 55, 56, 57, 97, 98, 99, 100, 101, 102, 103, 104, 105, 106, 107, 108, 109, 110, 111, 112, 113, 114, 115, 116, 117, 118, 119, 120, 121, 122]⟩)) (.t 52)), Oo 54 (.ixA 65 1 (.t 12) (.t 49)), On (.store 1 (.t 54) (.t 53))])
  (.region [Oo 55 (.mov (.t 1)), Oo 56 (.mov (.t 14)), Oo 57 (.bin .shr (.t 55) (.t 56)), Oo 1 (.mov (.t 57))])))))
def h184l1 : HC :=
  (.seq (.seq (.region [Oo 66 (.mov (.t 1)), Oo 67 (.mov (.t 17)), Oo 68 (.bin .geq (.t 66) (.t 67))])
  (.cond (.t 68) .skip
  (.exit 2)))
  (.block 3 (.seq (.region [Oo 69 (.mov (.t 13)), Oo 70 (.bin .sub (.t 69) (Ki 1)), Oo 13 (.mov (.t 70))])
  (.seq (.region [Oo 71 (.mov (.t 1)), Oo 72 (.mov (.t 17)), Oo 73 (.bin .quo (.t 71) (.t 72)), Oo 18 (.mov (.t 73))])
  (.seq (.region [Oo 74 (.mov (.t 13)), Oo 75 (.mov (.t 1)), Oo 76 (.mov (.t 18)), Oo 77 (.mov (.t 17)), Oo 78 (.bin .mul (.t 76) (.t 77)), Oo 79 (.bin .sub (.t 75) (.t 78)), Oo 80 (.ixS (.k (.string ⟨#[48, 49, 50, 51, 52, 53, 54, 55, 56, 57, 97, 98, 99, 100, 101, 102, 103, 104, 105, 106, 107, 108, 109, 110, 111, 112, 113, 114, 115, 116, 117, 118, 119, 120, 121, 122]⟩)) (.t 79)), Oo 81 (.ixA 65 1 (.t 12) (.t 74)), On (.store 1 (.t 81) (.t 80))])
  (.region [Oo 82 (.mov (.t 18)), Oo 1 (.mov (.t 82))]))))))
def h184c : HC :=
  (.seq (.region [Oo 10 (.mov (.k (.slice none 0 0))), Oo 11 (.mov (.k (.string ⟨#[]⟩)))])
  (.seq (.seq (.region [Oo 19 (.mov (.t 2)), Oo 20 (.bin .lss (.t 19) (Ki 2)), Oo 21 (.mov (.t 20)), Og 21 false 22 (.mov (.t 2)), Og 21 false 23 (.bin .eql (.t 22) (Ki 10)), Oo 24 (.pick (.t 21) (.k (.bool true)) (.t 23)), Oo 25 (.mov (.t 24)), Og 25 false 26 (.mov (.t 2)), Og 25 false 27 (.bin .gtr (.t 26) (Ki 36)), Oo 28 (.pick (.t 25) (.k (.bool true)) (.t 27))])
  (.cond (.t 28) .bad
  .skip))
  (.seq (.region [Oo 12 (.alloc [(.int .u8 0), (.int .u8 0), (.int .u8 0), (.int .u8 0), (.int .u8 0), (.int .u8 0), (.int .u8 0), (.int .u8 0), (.int .u8 0), (.int .u8 0), (.int .u8 0), (.int .u8 0), (.int .u8 0), (.int .u8 0), (.int .u8 0), (.int .u8 0), (.int .u8 0), (.int .u8 0), (.int .u8 0), (.int .u8 0), (.int .u8 0), (.int .u8 0), (.int .u8 0), (.int .u8 0), (.int .u8 0), (.int .u8 0), (.int .u8 0), (.int .u8 0), (.int .u8 0), (.int .u8 0), (.int .u8 0), (.int .u8 0), (.int .u8 0), (.int .u8 0), (.int .u8 0), (.int .u8 0), (.int .u8 0), (.int .u8 0), (.int .u8 0), (.int .u8 0), (.int .u8 0), (.int .u8 0), (.int .u8 0), (.int .u8 0), (.int .u8 0), (.int .u8 0), (.int .u8 0), (.int .u8 0), (.int .u8 0), (.int .u8 0), (.int .u8 0), (.int .u8 0), (.int .u8 0), (.int .u8 0), (.int .u8 0), (.int .u8 0), (.int .u8 0), (.int .u8 0), (.int .u8 0), (.int .u8 0), (.int .u8 0), (.int .u8 0), (.int .u8 0), (.int .u8 0), (.int .u8 0)])])
  (.seq (.region [Oo 13 (.mov (Ki 65))])
  (.seq (.seq (.region [Oo 30 (.mov (.t 3))])
  (.cond (.t 30) (.region [Oo 31 (.mov (.t 1)), Oo 32 (.un .neg (.t 31)), Oo 1 (.mov (.t 32))])
  .skip))
  (.seq (.seq (.region [Oo 33 (.mov (.t 2)), Oo 34 (.call 212 [(.t 33)])])
  (.cond (.t 34) (.seq (.region [Oo 35 (.mov (.t 2)), Oo 36 (.conv .u64 (.t 35)), Oo 37 (.call 213 [(.t 36)]), Oo 38 (.conv .u64 (.t 37)), Oo 14 (.mov (.t 38))])
  (.seq (.region [Oo 39 (.mov (.t 2)), Oo 40 (.conv .u64 (.t 39)), Oo 15 (.mov (.t 40))])
  (.seq (.region [Oo 41 (.mov (.t 2)), Oo 42 (.conv .u64 (.t 41)), Oo 43 (.bin .sub (.t 42) (.k (.int .u64 1))), Oo 16 (.mov (.t 43))])
  (.seq (.block 0 (.loop [0, 0, 1, 0, 5, 0, 0, 0, 0, 0, 0] h184l0))
  (.seq (.region [Oo 58 (.mov (.t 13)), Oo 59 (.bin .sub (.t 58) (Ki 1)), Oo 13 (.mov (.t 59))])
  (.region [Oo 60 (.mov (.t 13)), Oo 61 (.mov (.t 1)), Oo 62 (.ixS (.k (.string ⟨#[48, 49, 50, 51, 52, 53, 54, 55, 56, 57, 97, 98, 99, 100, 101, 102, 103, 104, 105, 106, 107, 108, 109, 110, 111, 112, 113, 114, 115, 116, 117, 118, 119, 120, 121, 122]⟩)) (.t 61)), Oo 63 (.ixA 65 1 (.t 12) (.t 60)), On (.store 1 (.t 63) (.t 62))]))))))
  (.seq (.region [Oo 64 (.mov (.t 2)), Oo 65 (.conv .u64 (.t 64)), Oo 17 (.mov (.t 65))])
  (.seq (.block 2 (.loop [0, 0, 1, 0, 5, 0, 0, 0, 3] h184l1))
  (.seq (.region [Oo 83 (.mov (.t 13)), Oo 84 (.bin .sub (.t 83) (Ki 1)), Oo 13 (.mov (.t 84))])
  (.region [Oo 85 (.mov (.t 13)), Oo 86 (.mov (.t 1)), Oo 87 (.ixS (.k (.string ⟨#[48, 49, 50, 51, 52, 53, 54, 55, 56, 57, 97, 98, 99, 100, 101, 102, 103, 104, 105, 106, 107, 108, 109, 110, 111, 112, 113, 114, 115, 116, 117, 118, 119, 120, 121, 122]⟩)) (.t 86)), Oo 88 (.ixA 65 1 (.t 12) (.t 85)), On (.store 1 (.t 88) (.t 87))]))))))
  (.seq (.seq (.region [Oo 89 (.mov (.t 3))])
  (.cond (.t 89) (.seq (.region [Oo 90 (.mov (.t 13)), Oo 91 (.bin .sub (.t 90) (Ki 1)), Oo 13 (.mov (.t 91))])
  (.region [Oo 92 (.mov (.t 13)), Oo 93 (.ixA 65 1 (.t 12) (.t 92)), On (.store 1 (.t 93) (.k (.int .u8 45)))]))
  .skip))
  (.seq (.seq (.region [Oo 94 (.mov (.t 4))])
  (.cond (.t 94) (.seq (.region [Oo 95 (.mov (.t 0)), Oo 96 (.mov (.t 13)), Oo 97 (.slA 65 1 (.t 12) (some (.t 96)) none), Oo 98 (.app 1 1 [(.int .u8 0)] (.t 95) (.t 97)), Oo 10 (.mov (.t 98))])
  .ret)
  .skip))
  (.seq (.region [Oo 99 (.mov (.t 13)), Oo 100 (.slA 65 1 (.t 12) (some (.t 99)) none), Oo 101 (.cvbs (.t 100)), Oo 11 (.mov (.t 101))])
  .ret)))))))))
abbrev h184 : HF := ⟨h184c, [.tmp 10, .tmp 11], 102, false⟩
theorem h184_ok : (Tryz.f184.body).bind (compileC Tryz.prog) = some h184c.er := by kernel_rfl
theorem r184_ok : Tryz.f184.results.toList.mapM (retOf Tryz.prog) = some [.tmp 10, .tmp 11] := by kernel_rfl

/-- (*depository/runs.list).add -/
def h200c : HC :=
  (.seq (.region [Oo 3 (.box (.t 1))])
  (.seq (.seq (.region [Oo 5 (.mov (.t 0)), Oo 6 (.nilc (.t 5)), Oo 7 (.addo 0 (.t 6)), Oo 8 (.load false 1 (.t 7)), Oo 9 (.lenL (.t 8)), Oo 4 (.mov (.t 9))])
  (.seq (.drawn [Qo (Oo 10 (.mov (.t 4))), Qo (Oo 11 (.bin .gtr (.t 10) (Ki 0))), Qo (Oo 12 (.mov (.t 11))), Qo (Og 12 true 13 (.mov (.t 0))), Qo (Og 12 true 14 (.nilc (.t 13))), Qo (Og 12 true 15 (.addo 0 (.t 14))), Qo (Og 12 true 16 (.load false 1 (.t 15))), Qo (Og 12 true 17 (.mov (.t 4))), Qo (Og 12 true 18 (.bin .sub (.t 17) (Ki 1))), Qo (Og 12 true 19 (.ixL 2 (.t 16) (.t 18))), Qo (Og 12 true 20 (.load true 2 (.t 19))), Qo (Og 12 true 21 (.load true 2 (.t 3))), Qe (Og 12 true 22 (.call 116 [(.t 20), (.t 21)])), Qo (Oo 23 (.pick (.t 12) (.t 22) (.k (.bool false))))])
  (.cond (.t 23) (.seq (.drawn [Qo (Oo 24 (.mov (.t 0))), Qo (Oo 25 (.nilc (.t 24))), Qo (Oo 26 (.addo 0 (.t 25))), Qo (Oo 27 (.load false 1 (.t 26))), Qo (Oo 28 (.mov (.t 4))), Qo (Oo 29 (.bin .sub (.t 28) (Ki 1))), Qo (Oo 30 (.ixL 2 (.t 27) (.t 29))), Qo (Oo 31 (.addo 1 (.t 30))), Qo (Oo 32 (.load false 1 (.t 31))), Qo (Oo 33 (.addo 1 (.t 3))), Qo (Oo 34 (.load false 1 (.t 33))), Qo (Oo 35 (.bin .add (.t 32) (.t 34))), Qo (Oo 36 (.ixL 2 (.t 27) (.t 29))), Qo (Oo 37 (.addo 1 (.t 36))), Qe (On (.store 1 (.t 37) (.t 35)))])
  .ret)
  .skip)))
  (.drawn [Qo (Oo 38 (.mov (.t 0))), Qo (Oo 39 (.mov (.t 0))), Qo (Oo 40 (.nilc (.t 39))), Qo (Oo 41 (.addo 0 (.t 40))), Qo (Oo 42 (.load false 1 (.t 41))), Qo (Oo 43 (.load true 2 (.t 3))), Qe (Oo 44 (.bslc 2 1 [Zi 0, Zi 0] [(0, (.t 43))])), Qe (Oo 45 (.app 2 16 [Zi 0, Zi 0] (.t 42) (.t 44))), Qo (Oo 46 (.nilc (.t 38))), Qo (Oo 47 (.addo 0 (.t 46))), Qe (On (.store 1 (.t 47) (.t 45)))])))
abbrev h200 : HF := ⟨h200c, [], 48, false⟩
theorem h200_ok : (Tryz.f200.body).bind (compileC Tryz.prog) = some h200c.er := by kernel_rfl
theorem r200_ok : Tryz.f200.results.toList.mapM (retOf Tryz.prog) = some [] := by kernel_rfl

/-- depository/names.allBytes -/
def h201c : HC :=
  (.seq (.region [Oo 3 (.box (.t 1)), Oo 4 (.mov (.k (.bool false)))])
  (.seq (.region [Oo 5 (.mov (.t 0)), Oo 6 (.cvsb (.t 5)), Oo 7 (.mkfn 226 [(.t 3)]), Oo 8 (.call 225 [(.t 6), (.t 7)]), Oo 9 (.un .not (.t 8)), Oo 4 (.mov (.t 9))])
  .ret))
abbrev h201 : HF := ⟨h201c, [.tmp 4], 10, false⟩
theorem h201_ok : (Tryz.f201.body).bind (compileC Tryz.prog) = some h201c.er := by kernel_rfl
theorem r201_ok : Tryz.f201.results.toList.mapM (retOf Tryz.prog) = some [.tmp 4] := by kernel_rfl

/-- depository/names.isLegalByte -/
def h202c : HC :=
  (.seq (.region [Oo 2 (.mov (.k (.bool false)))])
  (.seq (.region [Oo 3 (.mov (.t 0)), Oo 4 (.bin .leq (.k (.int .u8 32)) (.t 3)), Oo 5 (.mov (.t 4)), Og 5 true 6 (.mov (.t 0)), Og 5 true 7 (.bin .leq (.t 6) (.k (.int .u8 126))), Oo 8 (.pick (.t 5) (.t 7) (.k (.bool false))), Oo 9 (.mov (.t 8)), Og 9 true 10 (.mov (.t 0)), Og 9 true 11 (.call 227 [(.k (.string ⟨#[34, 42, 47, 58, 60, 62, 63, 92, 124]⟩)), (.t 10)]), Og 9 true 12 (.bin .lss (.t 11) (Ki 0)), Oo 13 (.pick (.t 9) (.t 12) (.k (.bool false))), Oo 2 (.mov (.t 13))])
  .ret))
abbrev h202 : HF := ⟨h202c, [.tmp 2], 14, false⟩
theorem h202_ok : (Tryz.f202.body).bind (compileC Tryz.prog) = some h202c.er := by kernel_rfl
theorem r202_ok : Tryz.f202.results.toList.mapM (retOf Tryz.prog) = some [.tmp 2] := by kernel_rfl

/-- strings.HasSuffix -/
def h203c : HC :=
  (.seq (.region [Oo 4 (.mov (.k (.bool false)))])
  (.seq (.region [Oo 5 (.mov (.t 0)), Oo 6 (.mov (.t 1)), Oo 7 (.call 228 [(.t 5), (.t 6)]), Oo 4 (.mov (.t 7))])
  .ret))
abbrev h203 : HF := ⟨h203c, [.tmp 4], 8, false⟩
theorem h203_ok : (Tryz.f203.body).bind (compileC Tryz.prog) = some h203c.er := by kernel_rfl
theorem r203_ok : Tryz.f203.results.toList.mapM (retOf Tryz.prog) = some [.tmp 4] := by kernel_rfl

/-- depository/runs.number -/
def h204l0 : HC :=
  (.seq (.seq (.region [Oo 16 (.mov (.t 7)), Oo 17 (.bin .geq (.t 16) (Ki 0))])
  (.cond (.t 17) .skip
  (.exit 0)))
  (.seq (.block 1 (.region [Oo 20 (.mov (.t 6)), Oo 21 (.bin .shl (.t 20) (.k (.int .u64 8))), Oo 22 (.mov (.t 0)), Oo 23 (.nilc (.t 22)), Oo 24 (.load false 1 (.t 23)), Oo 25 (.mov (.t 7)), Oo 26 (.ixS (.t 24) (.t 25)), Oo 27 (.conv .i64 (.t 26)), Oo 28 (.bin .or (.t 21) (.t 27)), Oo 6 (.mov (.t 28))]))
  (.region [Oo 18 (.mov (.t 7)), Oo 19 (.bin .sub (.t 18) (Ki 1)), Oo 7 (.mov (.t 19))])))
def h204c : HC :=
  (.seq (.region [Oo 4 (.mov (Ki 0)), Oo 5 (.mov (.k (.bool false)))])
  (.seq (.seq (.region [Oo 8 (.mov (.t 1)), Oo 9 (.mov (.t 0)), Oo 10 (.nilc (.t 9)), Oo 11 (.load false 1 (.t 10)), Oo 12 (.lenS (.t 11)), Oo 13 (.bin .gtr (.t 8) (.t 12))])
  (.cond (.t 13) (.seq (.region [Oo 4 (.mov (Ki 0)), Oo 5 (.mov (.k (.bool false)))])
  .ret)
  .skip))
  (.seq (.region [Oo 6 (.mov (Ki 0))])
  (.seq (.seq (.region [Oo 14 (.mov (.t 1)), Oo 15 (.bin .sub (.t 14) (Ki 1)), Oo 7 (.mov (.t 15))])
  (.block 0 (.loop [0, 0, 4, 0] h204l0)))
  (.seq (.region [Oo 29 (.mov (.t 0)), Oo 30 (.mov (.t 0)), Oo 31 (.nilc (.t 30)), Oo 32 (.load false 1 (.t 31)), Oo 33 (.mov (.t 1)), Oo 34 (.slS (.t 32) (some (.t 33)) none), Oo 35 (.nilc (.t 29)), On (.store 1 (.t 35) (.t 34))])
  (.seq (.seq (.region [Oo 36 (.mov (.t 6)), Oo 37 (.mov (.t 1)), Oo 38 (.bin .mul (Ki 8) (.t 37)), Oo 39 (.bin .sub (.t 38) (Ki 1)), Oo 40 (.bin .shl (Ki 1) (.t 39)), Oo 41 (.bin .geq (.t 36) (.t 40))])
  (.cond (.t 41) (.region [Oo 42 (.mov (.t 6)), Oo 43 (.mov (.t 1)), Oo 44 (.bin .mul (Ki 8) (.t 43)), Oo 45 (.bin .shl (Ki 1) (.t 44)), Oo 46 (.bin .sub (.t 42) (.t 45)), Oo 6 (.mov (.t 46))])
  .skip))
  (.seq (.region [Oo 47 (.mov (.t 6)), Oo 48 (.mov (.t 6)), Oo 49 (.call 167 [(.t 48)]), Oo 50 (.mov (.t 1)), Oo 51 (.bin .eql (.t 49) (.t 50)), Oo 4 (.mov (.t 47)), Oo 5 (.mov (.t 51))])
  .ret)))))))
abbrev h204 : HF := ⟨h204c, [.tmp 4, .tmp 5], 52, false⟩
theorem h204_ok : (Tryz.f204.body).bind (compileC Tryz.prog) = some h204c.er := by kernel_rfl
theorem r204_ok : Tryz.f204.results.toList.mapM (retOf Tryz.prog) = some [.tmp 4, .tmp 5] := by kernel_rfl

/-- internal/strconv.log10Pow2 -/
def h210c : HC :=
  (.seq (.region [Oo 2 (.mov (Ki 0))])
  (.seq (.region [Oo 3 (.mov (.t 0)), Oo 4 (.bin .mul (.t 3) (Ki 78913)), Oo 5 (.bin .shr (.t 4) (.k (.int .u64 18))), Oo 2 (.mov (.t 5))])
  .ret))
abbrev h210 : HF := ⟨h210c, [.tmp 2], 6, false⟩
theorem h210_ok : (Tryz.f210.body).bind (compileC Tryz.prog) = some h210c.er := by kernel_rfl
theorem r210_ok : Tryz.f210.results.toList.mapM (retOf Tryz.prog) = some [.tmp 2] := by kernel_rfl

/-- internal/strconv.bool2[int] -/
def h211c : HC :=
  (.seq (.region [Oo 2 (.mov (Ki 0))])
  (.seq (.seq (.region [Oo 3 (.mov (.t 0))])
  (.cond (.t 3) (.seq (.region [Oo 2 (.mov (Ki 1))])
  .ret)
  .skip))
  (.seq (.region [Oo 2 (.mov (Ki 0))])
  .ret)))
abbrev h211 : HF := ⟨h211c, [.tmp 2], 4, false⟩
theorem h211_ok : (Tryz.f211.body).bind (compileC Tryz.prog) = some h211c.er := by kernel_rfl
theorem r211_ok : Tryz.f211.results.toList.mapM (retOf Tryz.prog) = some [.tmp 2] := by kernel_rfl

/-- internal/strconv.isPowerOfTwo -/
def h212c : HC :=
  (.seq (.region [Oo 2 (.mov (.k (.bool false)))])
  (.seq (.region [Oo 3 (.mov (.t 0)), Oo 4 (.mov (.t 0)), Oo 5 (.bin .sub (.t 4) (Ki 1)), Oo 6 (.bin .and (.t 3) (.t 5)), Oo 7 (.bin .eql (.t 6) (Ki 0)), Oo 2 (.mov (.t 7))])
  .ret))
abbrev h212 : HF := ⟨h212c, [.tmp 2], 8, false⟩
theorem h212_ok : (Tryz.f212.body).bind (compileC Tryz.prog) = some h212c.er := by kernel_rfl
theorem r212_ok : Tryz.f212.results.toList.mapM (retOf Tryz.prog) = some [.tmp 2] := by kernel_rfl

/-- math/bits.TrailingZeros -/
def h213c : HC :=
  (.seq (.region [Oo 2 (.mov (Ki 0))])
  (.seq (.cond (.k (.bool false)) (.seq (.region [Oo 3 (.mov (.t 0)), Oo 4 (.conv .u32 (.t 3)), Oo 5 (.call 230 [(.t 4)]), Oo 2 (.mov (.t 5))])
  .ret)
  .skip)
  (.seq (.region [Oo 6 (.mov (.t 0)), Oo 7 (.call 231 [(.t 6)]), Oo 2 (.mov (.t 7))])
  .ret)))
abbrev h213 : HF := ⟨h213c, [.tmp 2], 8, false⟩
theorem h213_ok : (Tryz.f213.body).bind (compileC Tryz.prog) = some h213c.er := by kernel_rfl
theorem r213_ok : Tryz.f213.results.toList.mapM (retOf Tryz.prog) = some [.tmp 2] := by kernel_rfl

/-- slices.ContainsFunc[[]byte,byte] -/
def h225c : HC :=
  (.seq (.region [Oo 4 (.mov (.k (.bool false)))])
  (.seq (.region [Oo 5 (.mov (.t 0)), Oo 6 (.mov (.t 1)), Oo 7 (.call 239 [(.t 5), (.t 6)]), Oo 8 (.bin .geq (.t 7) (Ki 0)), Oo 4 (.mov (.t 8))])
  .ret))
abbrev h225 : HF := ⟨h225c, [.tmp 4], 9, false⟩
theorem h225_ok : (Tryz.f225.body).bind (compileC Tryz.prog) = some h225c.er := by kernel_rfl
theorem r225_ok : Tryz.f225.results.toList.mapM (retOf Tryz.prog) = some [.tmp 4] := by kernel_rfl

/-- depository/names.allBytes$1 -/
def h226c : HC :=
  (.seq (.region [Oo 3 (.mov (.k (.bool false)))])
  (.seq (.region [Oo 4 (.load false 1 (.t 1)), Oo 5 (.mov (.t 0)), Oo 6 (.callv (.t 4) [(.t 5)]), Oo 7 (.un .not (.t 6)), Oo 3 (.mov (.t 7))])
  .ret))
abbrev h226 : HF := ⟨h226c, [.tmp 3], 8, false⟩
theorem h226_ok : (Tryz.f226.body).bind (compileC Tryz.prog) = some h226c.er := by kernel_rfl
theorem r226_ok : Tryz.f226.results.toList.mapM (retOf Tryz.prog) = some [.tmp 3] := by kernel_rfl

/-- strings.IndexByte -/
def h227c : HC :=
  (.seq (.region [Oo 4 (.mov (Ki 0))])
  (.seq (.region [Oo 5 (.mov (.t 0)), Oo 6 (.mov (.t 1)), Oo 7 (.call 233 [(.t 5), (.t 6)]), Oo 4 (.mov (.t 7))])
  .ret))
abbrev h227 : HF := ⟨h227c, [.tmp 4], 8, false⟩
theorem h227_ok : (Tryz.f227.body).bind (compileC Tryz.prog) = some h227c.er := by kernel_rfl
theorem r227_ok : Tryz.f227.results.toList.mapM (retOf Tryz.prog) = some [.tmp 4] := by kernel_rfl

/-- internal/stringslite.HasSuffix -/
def h228c : HC :=
  (.seq (.region [Oo 4 (.mov (.k (.bool false)))])
  (.seq (.region [Oo 5 (.mov (.t 0)), Oo 6 (.lenS (.t 5)), Oo 7 (.mov (.t 1)), Oo 8 (.lenS (.t 7)), Oo 9 (.bin .geq (.t 6) (.t 8)), Oo 10 (.mov (.t 9)), Og 10 true 11 (.mov (.t 0)), Og 10 true 12 (.mov (.t 0)), Og 10 true 13 (.lenS (.t 12)), Og 10 true 14 (.mov (.t 1)), Og 10 true 15 (.lenS (.t 14)), Og 10 true 16 (.bin .sub (.t 13) (.t 15)), Og 10 true 17 (.slS (.t 11) (some (.t 16)) none), Og 10 true 18 (.mov (.t 1)), Og 10 true 19 (.bin .eql (.t 17) (.t 18)), Oo 20 (.pick (.t 10) (.t 19) (.k (.bool false))), Oo 4 (.mov (.t 20))])
  .ret))
abbrev h228 : HF := ⟨h228c, [.tmp 4], 21, false⟩
theorem h228_ok : (Tryz.f228.body).bind (compileC Tryz.prog) = some h228c.er := by kernel_rfl
theorem r228_ok : Tryz.f228.results.toList.mapM (retOf Tryz.prog) = some [.tmp 4] := by kernel_rfl

/-- math/bits.TrailingZeros32 -/
def h230c : HC :=
  (.seq (.region [Oo 2 (.mov (Ki 0))])
  (.seq (.seq (.region [Oo 3 (.mov (.t 0)), Oo 4 (.bin .eql (.t 3) (.k (.int .u32 0)))])
  (.cond (.t 4) (.seq (.region [Oo 2 (.mov (Ki 32))])
  .ret)
  .skip))
  (.seq (.region [Oo 5 (.mov (.t 0)), Oo 6 (.mov (.t 0)), Oo 7 (.un .neg (.t 6)), Oo 8 (.bin .and (.t 5) (.t 7)), Oo 9 (.bin .mul (.t 8) (.k (.int .u32 125613361))), Oo 10 (.bin .shr (.t 9) (.k (.int .u64 27))), Oo 11 (.ixA 32 1 (.g 4) (.t 10)), Oo 12 (.load false 1 (.t 11)), Oo 13 (.conv .i64 (.t 12)), Oo 2 (.mov (.t 13))])
  .ret)))
abbrev h230 : HF := ⟨h230c, [.tmp 2], 14, false⟩
theorem h230_ok : (Tryz.f230.body).bind (compileC Tryz.prog) = some h230c.er := by kernel_rfl
theorem r230_ok : Tryz.f230.results.toList.mapM (retOf Tryz.prog) = some [.tmp 2] := by kernel_rfl

/-- math/bits.TrailingZeros64 -/
def h231c : HC :=
  (.seq (.region [Oo 2 (.mov (Ki 0))])
  (.seq (.seq (.region [Oo 3 (.mov (.t 0)), Oo 4 (.bin .eql (.t 3) (.k (.int .u64 0)))])
  (.cond (.t 4) (.seq (.region [Oo 2 (.mov (Ki 64))])
  .ret)
  .skip))
  (.seq (.region [Oo 5 (.mov (.t 0)), Oo 6 (.mov (.t 0)), Oo 7 (.un .neg (.t 6)), Oo 8 (.bin .and (.t 5) (.t 7)), Oo 9 (.bin .mul (.t 8) (.k (.int .u64 285870213051353865))), Oo 10 (.bin .shr (.t 9) (.k (.int .u64 58))), Oo 11 (.ixA 64 1 (.g 5) (.t 10)), Oo 12 (.load false 1 (.t 11)), Oo 13 (.conv .i64 (.t 12)), Oo 2 (.mov (.t 13))])
  .ret)))
abbrev h231 : HF := ⟨h231c, [.tmp 2], 14, false⟩
theorem h231_ok : (Tryz.f231.body).bind (compileC Tryz.prog) = some h231c.er := by kernel_rfl
theorem r231_ok : Tryz.f231.results.toList.mapM (retOf Tryz.prog) = some [.tmp 2] := by kernel_rfl

/-- slices.IndexFunc[[]byte,byte] -/
def h239l0 : HC :=
  (.seq (.region [Oo 9 (.bin .lss (.t 8) (.t 7))])
  (.seq (.cond (.t 9) .skip
  (.exit 0))
  (.seq (.block 1 (.seq (.region [Oo 10 (.mov (.t 8)), Oo 5 (.mov (.t 10))])
  (.seq (.region [Oo 11 (.mov (.t 1)), Oo 12 (.mov (.t 0)), Oo 13 (.mov (.t 5)), Oo 14 (.ixL 1 (.t 12) (.t 13)), Oo 15 (.load false 1 (.t 14)), Oo 16 (.callv (.t 11) [(.t 15)])])
  (.cond (.t 16) (.seq (.region [Oo 17 (.mov (.t 5)), Oo 4 (.mov (.t 17))])
  .ret)
  .skip))))
  (.region [Oo 18 (.bin .add (.t 8) (Ki 1)), Oo 8 (.mov (.t 18))]))))
def h239c : HC :=
  (.seq (.region [Oo 4 (.mov (Ki 0))])
  (.seq (.seq (.region [Oo 6 (.mov (.t 0)), Oo 7 (.lenL (.t 6)), Oo 8 (.mov (Ki 0))])
  (.block 0 (.loop [0, 0, 5, 0] h239l0)))
  (.seq (.region [Oo 4 (.mov (Ki (-1)))])
  .ret)))
abbrev h239 : HF := ⟨h239c, [.tmp 4], 19, false⟩
theorem h239_ok : (Tryz.f239.body).bind (compileC Tryz.prog) = some h239c.er := by kernel_rfl
theorem r239_ok : Tryz.f239.results.toList.mapM (retOf Tryz.prog) = some [.tmp 4] := by kernel_rfl


def Tbt : FuncId → Option HF
  | 7 => some h7
  | 8 => some h8
  | 12 => some h12
  | 13 => some h13
  | 14 => some h14
  | 15 => some h15
  | 17 => some h17
  | 18 => some h18
  | 21 => some h21
  | 22 => some h22
  | 34 => some h34
  | 35 => some h35
  | 36 => some h36
  | 37 => some h37
  | 38 => some h38
  | 39 => some h39
  | 44 => some h44
  | 45 => some h45
  | 49 => some h49
  | 50 => some h50
  | 51 => some h51
  | 52 => some h52
  | 53 => some h53
  | 54 => some h54
  | 55 => some h55
  | 56 => some h56
  | 58 => some h58
  | 60 => some h60
  | 61 => some h61
  | 62 => some h62
  | 63 => some h63
  | 64 => some h64
  | 65 => some h65
  | 66 => some h66
  | 67 => some h67
  | 69 => some h69
  | 70 => some h70
  | 71 => some h71
  | 72 => some h72
  | 73 => some h73
  | 88 => some h88
  | 89 => some h89
  | 90 => some h90
  | 91 => some h91
  | 92 => some h92
  | 93 => some h93
  | 94 => some h94
  | 95 => some h95
  | 96 => some h96
  | 97 => some h97
  | 98 => some h98
  | 99 => some h99
  | 100 => some h100
  | 101 => some h101
  | 103 => some h103
  | 104 => some h104
  | 112 => some h112
  | 113 => some h113
  | 114 => some h114
  | 115 => some h115
  | 116 => some h116
  | 117 => some h117
  | 118 => some h118
  | 119 => some h119
  | 120 => some h120
  | 121 => some h121
  | 122 => some h122
  | 123 => some h123
  | 124 => some h124
  | 125 => some h125
  | 126 => some h126
  | 127 => some h127
  | 128 => some h128
  | 134 => some h134
  | 135 => some h135
  | 136 => some h136
  | 137 => some h137
  | 138 => some h138
  | 139 => some h139
  | 140 => some h140
  | 141 => some h141
  | 142 => some h142
  | 143 => some h143
  | 146 => some h146
  | 147 => some h147
  | 153 => some h153
  | 154 => some h154
  | 155 => some h155
  | 156 => some h156
  | 157 => some h157
  | 158 => some h158
  | 159 => some h159
  | 160 => some h160
  | 161 => some h161
  | 164 => some h164
  | 165 => some h165
  | 166 => some h166
  | 167 => some h167
  | 168 => some h168
  | 169 => some h169
  | 170 => some h170
  | 180 => some h180
  | 181 => some h181
  | 182 => some h182
  | 183 => some h183
  | 184 => some h184
  | 200 => some h200
  | 201 => some h201
  | 202 => some h202
  | 203 => some h203
  | 204 => some h204
  | 210 => some h210
  | 211 => some h211
  | 212 => some h212
  | 213 => some h213
  | 225 => some h225
  | 226 => some h226
  | 227 => some h227
  | 228 => some h228
  | 230 => some h230
  | 231 => some h231
  | 239 => some h239
  | _ => none
def Tb (B : CallT) : HT := ⟨Tbt, B⟩

theorem Tb_ok (B : CallT) : HTOK Tryz.prog (Tb B) := by
  intro f h hf
  change Tbt f = some h at hf
  unfold Tbt at hf
  split at hf
  · injection hf with hf; subst hf; exact ⟨by kernel_rfl, _, Tryz.func7, Tryz.ntmps7, h7_ok, r7_ok⟩
  · injection hf with hf; subst hf; exact ⟨by kernel_rfl, _, Tryz.func8, Tryz.ntmps8, h8_ok, r8_ok⟩
  · injection hf with hf; subst hf; exact ⟨by kernel_rfl, _, Tryz.func12, Tryz.ntmps12, h12_ok, r12_ok⟩
  · injection hf with hf; subst hf; exact ⟨by kernel_rfl, _, Tryz.func13, Tryz.ntmps13, h13_ok, r13_ok⟩
  · injection hf with hf; subst hf; exact ⟨by kernel_rfl, _, Tryz.func14, Tryz.ntmps14, h14_ok, r14_ok⟩
  · injection hf with hf; subst hf; exact ⟨by kernel_rfl, _, Tryz.func15, Tryz.ntmps15, h15_ok, r15_ok⟩
  · injection hf with hf; subst hf; exact ⟨by kernel_rfl, _, Tryz.func17, Tryz.ntmps17, h17_ok, r17_ok⟩
  · injection hf with hf; subst hf; exact ⟨by kernel_rfl, _, Tryz.func18, Tryz.ntmps18, h18_ok, r18_ok⟩
  · injection hf with hf; subst hf; exact ⟨by kernel_rfl, _, Tryz.func21, Tryz.ntmps21, h21_ok, r21_ok⟩
  · injection hf with hf; subst hf; exact ⟨by kernel_rfl, _, Tryz.func22, Tryz.ntmps22, h22_ok, r22_ok⟩
  · injection hf with hf; subst hf; exact ⟨by kernel_rfl, _, Tryz.func34, Tryz.ntmps34, h34_ok, r34_ok⟩
  · injection hf with hf; subst hf; exact ⟨by kernel_rfl, _, Tryz.func35, Tryz.ntmps35, h35_ok, r35_ok⟩
  · injection hf with hf; subst hf; exact ⟨by kernel_rfl, _, Tryz.func36, Tryz.ntmps36, h36_ok, r36_ok⟩
  · injection hf with hf; subst hf; exact ⟨by kernel_rfl, _, Tryz.func37, Tryz.ntmps37, h37_ok, r37_ok⟩
  · injection hf with hf; subst hf; exact ⟨by kernel_rfl, _, Tryz.func38, Tryz.ntmps38, h38_ok, r38_ok⟩
  · injection hf with hf; subst hf; exact ⟨by kernel_rfl, _, Tryz.func39, Tryz.ntmps39, h39_ok, r39_ok⟩
  · injection hf with hf; subst hf; exact ⟨by kernel_rfl, _, Tryz.func44, Tryz.ntmps44, h44_ok, r44_ok⟩
  · injection hf with hf; subst hf; exact ⟨by kernel_rfl, _, Tryz.func45, Tryz.ntmps45, h45_ok, r45_ok⟩
  · injection hf with hf; subst hf; exact ⟨by kernel_rfl, _, Tryz.func49, Tryz.ntmps49, h49_ok, r49_ok⟩
  · injection hf with hf; subst hf; exact ⟨by kernel_rfl, _, Tryz.func50, Tryz.ntmps50, h50_ok, r50_ok⟩
  · injection hf with hf; subst hf; exact ⟨by kernel_rfl, _, Tryz.func51, Tryz.ntmps51, h51_ok, r51_ok⟩
  · injection hf with hf; subst hf; exact ⟨by kernel_rfl, _, Tryz.func52, Tryz.ntmps52, h52_ok, r52_ok⟩
  · injection hf with hf; subst hf; exact ⟨by kernel_rfl, _, Tryz.func53, Tryz.ntmps53, h53_ok, r53_ok⟩
  · injection hf with hf; subst hf; exact ⟨by kernel_rfl, _, Tryz.func54, Tryz.ntmps54, h54_ok, r54_ok⟩
  · injection hf with hf; subst hf; exact ⟨by kernel_rfl, _, Tryz.func55, Tryz.ntmps55, h55_ok, r55_ok⟩
  · injection hf with hf; subst hf; exact ⟨by kernel_rfl, _, Tryz.func56, Tryz.ntmps56, h56_ok, r56_ok⟩
  · injection hf with hf; subst hf; exact ⟨by kernel_rfl, _, Tryz.func58, Tryz.ntmps58, h58_ok, r58_ok⟩
  · injection hf with hf; subst hf; exact ⟨by kernel_rfl, _, Tryz.func60, Tryz.ntmps60, h60_ok, r60_ok⟩
  · injection hf with hf; subst hf; exact ⟨by kernel_rfl, _, Tryz.func61, Tryz.ntmps61, h61_ok, r61_ok⟩
  · injection hf with hf; subst hf; exact ⟨by kernel_rfl, _, Tryz.func62, Tryz.ntmps62, h62_ok, r62_ok⟩
  · injection hf with hf; subst hf; exact ⟨by kernel_rfl, _, Tryz.func63, Tryz.ntmps63, h63_ok, r63_ok⟩
  · injection hf with hf; subst hf; exact ⟨by kernel_rfl, _, Tryz.func64, Tryz.ntmps64, h64_ok, r64_ok⟩
  · injection hf with hf; subst hf; exact ⟨by kernel_rfl, _, Tryz.func65, Tryz.ntmps65, h65_ok, r65_ok⟩
  · injection hf with hf; subst hf; exact ⟨by kernel_rfl, _, Tryz.func66, Tryz.ntmps66, h66_ok, r66_ok⟩
  · injection hf with hf; subst hf; exact ⟨by kernel_rfl, _, Tryz.func67, Tryz.ntmps67, h67_ok, r67_ok⟩
  · injection hf with hf; subst hf; exact ⟨by kernel_rfl, _, Tryz.func69, Tryz.ntmps69, h69_ok, r69_ok⟩
  · injection hf with hf; subst hf; exact ⟨by kernel_rfl, _, Tryz.func70, Tryz.ntmps70, h70_ok, r70_ok⟩
  · injection hf with hf; subst hf; exact ⟨by kernel_rfl, _, Tryz.func71, Tryz.ntmps71, h71_ok, r71_ok⟩
  · injection hf with hf; subst hf; exact ⟨by kernel_rfl, _, Tryz.func72, Tryz.ntmps72, h72_ok, r72_ok⟩
  · injection hf with hf; subst hf; exact ⟨by kernel_rfl, _, Tryz.func73, Tryz.ntmps73, h73_ok, r73_ok⟩
  · injection hf with hf; subst hf; exact ⟨by kernel_rfl, _, Tryz.func88, Tryz.ntmps88, h88_ok, r88_ok⟩
  · injection hf with hf; subst hf; exact ⟨by kernel_rfl, _, Tryz.func89, Tryz.ntmps89, h89_ok, r89_ok⟩
  · injection hf with hf; subst hf; exact ⟨by kernel_rfl, _, Tryz.func90, Tryz.ntmps90, h90_ok, r90_ok⟩
  · injection hf with hf; subst hf; exact ⟨by kernel_rfl, _, Tryz.func91, Tryz.ntmps91, h91_ok, r91_ok⟩
  · injection hf with hf; subst hf; exact ⟨by kernel_rfl, _, Tryz.func92, Tryz.ntmps92, h92_ok, r92_ok⟩
  · injection hf with hf; subst hf; exact ⟨by kernel_rfl, _, Tryz.func93, Tryz.ntmps93, h93_ok, r93_ok⟩
  · injection hf with hf; subst hf; exact ⟨by kernel_rfl, _, Tryz.func94, Tryz.ntmps94, h94_ok, r94_ok⟩
  · injection hf with hf; subst hf; exact ⟨by kernel_rfl, _, Tryz.func95, Tryz.ntmps95, h95_ok, r95_ok⟩
  · injection hf with hf; subst hf; exact ⟨by kernel_rfl, _, Tryz.func96, Tryz.ntmps96, h96_ok, r96_ok⟩
  · injection hf with hf; subst hf; exact ⟨by kernel_rfl, _, Tryz.func97, Tryz.ntmps97, h97_ok, r97_ok⟩
  · injection hf with hf; subst hf; exact ⟨by kernel_rfl, _, Tryz.func98, Tryz.ntmps98, h98_ok, r98_ok⟩
  · injection hf with hf; subst hf; exact ⟨by kernel_rfl, _, Tryz.func99, Tryz.ntmps99, h99_ok, r99_ok⟩
  · injection hf with hf; subst hf; exact ⟨by kernel_rfl, _, Tryz.func100, Tryz.ntmps100, h100_ok, r100_ok⟩
  · injection hf with hf; subst hf; exact ⟨by kernel_rfl, _, Tryz.func101, Tryz.ntmps101, h101_ok, r101_ok⟩
  · injection hf with hf; subst hf; exact ⟨by kernel_rfl, _, Tryz.func103, Tryz.ntmps103, h103_ok, r103_ok⟩
  · injection hf with hf; subst hf; exact ⟨by kernel_rfl, _, Tryz.func104, Tryz.ntmps104, h104_ok, r104_ok⟩
  · injection hf with hf; subst hf; exact ⟨by kernel_rfl, _, Tryz.func112, Tryz.ntmps112, h112_ok, r112_ok⟩
  · injection hf with hf; subst hf; exact ⟨by kernel_rfl, _, Tryz.func113, Tryz.ntmps113, h113_ok, r113_ok⟩
  · injection hf with hf; subst hf; exact ⟨by kernel_rfl, _, Tryz.func114, Tryz.ntmps114, h114_ok, r114_ok⟩
  · injection hf with hf; subst hf; exact ⟨by kernel_rfl, _, Tryz.func115, Tryz.ntmps115, h115_ok, r115_ok⟩
  · injection hf with hf; subst hf; exact ⟨by kernel_rfl, _, Tryz.func116, Tryz.ntmps116, h116_ok, r116_ok⟩
  · injection hf with hf; subst hf; exact ⟨by kernel_rfl, _, Tryz.func117, Tryz.ntmps117, h117_ok, r117_ok⟩
  · injection hf with hf; subst hf; exact ⟨by kernel_rfl, _, Tryz.func118, Tryz.ntmps118, h118_ok, r118_ok⟩
  · injection hf with hf; subst hf; exact ⟨by kernel_rfl, _, Tryz.func119, Tryz.ntmps119, h119_ok, r119_ok⟩
  · injection hf with hf; subst hf; exact ⟨by kernel_rfl, _, Tryz.func120, Tryz.ntmps120, h120_ok, r120_ok⟩
  · injection hf with hf; subst hf; exact ⟨by kernel_rfl, _, Tryz.func121, Tryz.ntmps121, h121_ok, r121_ok⟩
  · injection hf with hf; subst hf; exact ⟨by kernel_rfl, _, Tryz.func122, Tryz.ntmps122, h122_ok, r122_ok⟩
  · injection hf with hf; subst hf; exact ⟨by kernel_rfl, _, Tryz.func123, Tryz.ntmps123, h123_ok, r123_ok⟩
  · injection hf with hf; subst hf; exact ⟨by kernel_rfl, _, Tryz.func124, Tryz.ntmps124, h124_ok, r124_ok⟩
  · injection hf with hf; subst hf; exact ⟨by kernel_rfl, _, Tryz.func125, Tryz.ntmps125, h125_ok, r125_ok⟩
  · injection hf with hf; subst hf; exact ⟨by kernel_rfl, _, Tryz.func126, Tryz.ntmps126, h126_ok, r126_ok⟩
  · injection hf with hf; subst hf; exact ⟨by kernel_rfl, _, Tryz.func127, Tryz.ntmps127, h127_ok, r127_ok⟩
  · injection hf with hf; subst hf; exact ⟨by kernel_rfl, _, Tryz.func128, Tryz.ntmps128, h128_ok, r128_ok⟩
  · injection hf with hf; subst hf; exact ⟨by kernel_rfl, _, Tryz.func134, Tryz.ntmps134, h134_ok, r134_ok⟩
  · injection hf with hf; subst hf; exact ⟨by kernel_rfl, _, Tryz.func135, Tryz.ntmps135, h135_ok, r135_ok⟩
  · injection hf with hf; subst hf; exact ⟨by kernel_rfl, _, Tryz.func136, Tryz.ntmps136, h136_ok, r136_ok⟩
  · injection hf with hf; subst hf; exact ⟨by kernel_rfl, _, Tryz.func137, Tryz.ntmps137, h137_ok, r137_ok⟩
  · injection hf with hf; subst hf; exact ⟨by kernel_rfl, _, Tryz.func138, Tryz.ntmps138, h138_ok, r138_ok⟩
  · injection hf with hf; subst hf; exact ⟨by kernel_rfl, _, Tryz.func139, Tryz.ntmps139, h139_ok, r139_ok⟩
  · injection hf with hf; subst hf; exact ⟨by kernel_rfl, _, Tryz.func140, Tryz.ntmps140, h140_ok, r140_ok⟩
  · injection hf with hf; subst hf; exact ⟨by kernel_rfl, _, Tryz.func141, Tryz.ntmps141, h141_ok, r141_ok⟩
  · injection hf with hf; subst hf; exact ⟨by kernel_rfl, _, Tryz.func142, Tryz.ntmps142, h142_ok, r142_ok⟩
  · injection hf with hf; subst hf; exact ⟨by kernel_rfl, _, Tryz.func143, Tryz.ntmps143, h143_ok, r143_ok⟩
  · injection hf with hf; subst hf; exact ⟨by kernel_rfl, _, Tryz.func146, Tryz.ntmps146, h146_ok, r146_ok⟩
  · injection hf with hf; subst hf; exact ⟨by kernel_rfl, _, Tryz.func147, Tryz.ntmps147, h147_ok, r147_ok⟩
  · injection hf with hf; subst hf; exact ⟨by kernel_rfl, _, Tryz.func153, Tryz.ntmps153, h153_ok, r153_ok⟩
  · injection hf with hf; subst hf; exact ⟨by kernel_rfl, _, Tryz.func154, Tryz.ntmps154, h154_ok, r154_ok⟩
  · injection hf with hf; subst hf; exact ⟨by kernel_rfl, _, Tryz.func155, Tryz.ntmps155, h155_ok, r155_ok⟩
  · injection hf with hf; subst hf; exact ⟨by kernel_rfl, _, Tryz.func156, Tryz.ntmps156, h156_ok, r156_ok⟩
  · injection hf with hf; subst hf; exact ⟨by kernel_rfl, _, Tryz.func157, Tryz.ntmps157, h157_ok, r157_ok⟩
  · injection hf with hf; subst hf; exact ⟨by kernel_rfl, _, Tryz.func158, Tryz.ntmps158, h158_ok, r158_ok⟩
  · injection hf with hf; subst hf; exact ⟨by kernel_rfl, _, Tryz.func159, Tryz.ntmps159, h159_ok, r159_ok⟩
  · injection hf with hf; subst hf; exact ⟨by kernel_rfl, _, Tryz.func160, Tryz.ntmps160, h160_ok, r160_ok⟩
  · injection hf with hf; subst hf; exact ⟨by kernel_rfl, _, Tryz.func161, Tryz.ntmps161, h161_ok, r161_ok⟩
  · injection hf with hf; subst hf; exact ⟨by kernel_rfl, _, Tryz.func164, Tryz.ntmps164, h164_ok, r164_ok⟩
  · injection hf with hf; subst hf; exact ⟨by kernel_rfl, _, Tryz.func165, Tryz.ntmps165, h165_ok, r165_ok⟩
  · injection hf with hf; subst hf; exact ⟨by kernel_rfl, _, Tryz.func166, Tryz.ntmps166, h166_ok, r166_ok⟩
  · injection hf with hf; subst hf; exact ⟨by kernel_rfl, _, Tryz.func167, Tryz.ntmps167, h167_ok, r167_ok⟩
  · injection hf with hf; subst hf; exact ⟨by kernel_rfl, _, Tryz.func168, Tryz.ntmps168, h168_ok, r168_ok⟩
  · injection hf with hf; subst hf; exact ⟨by kernel_rfl, _, Tryz.func169, Tryz.ntmps169, h169_ok, r169_ok⟩
  · injection hf with hf; subst hf; exact ⟨by kernel_rfl, _, Tryz.func170, Tryz.ntmps170, h170_ok, r170_ok⟩
  · injection hf with hf; subst hf; exact ⟨by kernel_rfl, _, Tryz.func180, Tryz.ntmps180, h180_ok, r180_ok⟩
  · injection hf with hf; subst hf; exact ⟨by kernel_rfl, _, Tryz.func181, Tryz.ntmps181, h181_ok, r181_ok⟩
  · injection hf with hf; subst hf; exact ⟨by kernel_rfl, _, Tryz.func182, Tryz.ntmps182, h182_ok, r182_ok⟩
  · injection hf with hf; subst hf; exact ⟨by kernel_rfl, _, Tryz.func183, Tryz.ntmps183, h183_ok, r183_ok⟩
  · injection hf with hf; subst hf; exact ⟨by kernel_rfl, _, Tryz.func184, Tryz.ntmps184, h184_ok, r184_ok⟩
  · injection hf with hf; subst hf; exact ⟨by kernel_rfl, _, Tryz.func200, Tryz.ntmps200, h200_ok, r200_ok⟩
  · injection hf with hf; subst hf; exact ⟨by kernel_rfl, _, Tryz.func201, Tryz.ntmps201, h201_ok, r201_ok⟩
  · injection hf with hf; subst hf; exact ⟨by kernel_rfl, _, Tryz.func202, Tryz.ntmps202, h202_ok, r202_ok⟩
  · injection hf with hf; subst hf; exact ⟨by kernel_rfl, _, Tryz.func203, Tryz.ntmps203, h203_ok, r203_ok⟩
  · injection hf with hf; subst hf; exact ⟨by kernel_rfl, _, Tryz.func204, Tryz.ntmps204, h204_ok, r204_ok⟩
  · injection hf with hf; subst hf; exact ⟨by kernel_rfl, _, Tryz.func210, Tryz.ntmps210, h210_ok, r210_ok⟩
  · injection hf with hf; subst hf; exact ⟨by kernel_rfl, _, Tryz.func211, Tryz.ntmps211, h211_ok, r211_ok⟩
  · injection hf with hf; subst hf; exact ⟨by kernel_rfl, _, Tryz.func212, Tryz.ntmps212, h212_ok, r212_ok⟩
  · injection hf with hf; subst hf; exact ⟨by kernel_rfl, _, Tryz.func213, Tryz.ntmps213, h213_ok, r213_ok⟩
  · injection hf with hf; subst hf; exact ⟨by kernel_rfl, _, Tryz.func225, Tryz.ntmps225, h225_ok, r225_ok⟩
  · injection hf with hf; subst hf; exact ⟨by kernel_rfl, _, Tryz.func226, Tryz.ntmps226, h226_ok, r226_ok⟩
  · injection hf with hf; subst hf; exact ⟨by kernel_rfl, _, Tryz.func227, Tryz.ntmps227, h227_ok, r227_ok⟩
  · injection hf with hf; subst hf; exact ⟨by kernel_rfl, _, Tryz.func228, Tryz.ntmps228, h228_ok, r228_ok⟩
  · injection hf with hf; subst hf; exact ⟨by kernel_rfl, _, Tryz.func230, Tryz.ntmps230, h230_ok, r230_ok⟩
  · injection hf with hf; subst hf; exact ⟨by kernel_rfl, _, Tryz.func231, Tryz.ntmps231, h231_ok, r231_ok⟩
  · injection hf with hf; subst hf; exact ⟨by kernel_rfl, _, Tryz.func239, Tryz.ntmps239, h239_ok, r239_ok⟩
  · cases hf

end Go.Proofs.YtmognenhkecngaaGreatDoor
