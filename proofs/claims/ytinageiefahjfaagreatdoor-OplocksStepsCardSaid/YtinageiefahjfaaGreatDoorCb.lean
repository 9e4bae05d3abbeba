/- The functions of the translation as codes with hints: printed by a program, held by the kernel against the translation. Conditions: none. -/
import Derived.Test.YtinageiefahjfaaGreatDoorNg
import Derived.Test.YtinageiefahjfaaGreatDoorChecked
import Derived.KernelRfl
namespace Go.Proofs.YtinageiefahjfaaGreatDoor

/-- depository/depositorylaw26.OplocksSteps -/
def h6c : HC :=
  (.seq (.region [Oo 2 (.box (.t 0)), Oo 3 (.box (.t 1)), Oo 4 (.mov (.k (.bool false)))])
  (.seq (.seq (.region [Oo 15 (.call 10 []), Oo 16 (.un .not (.t 15))])
  (.cond (.t 16) (.seq (.region [Oo 4 (.mov (.k (.bool false)))])
  .ret)
  .skip))
  (.seq (.seq (.region [Oo 17 (.load true 2 (.t 2)), Oo 18 (.call 11 [(.t 17)]), Oo 19 (.un .not (.t 18))])
  (.cond (.t 19) (.seq (.region [Oo 4 (.mov (.k (.bool true)))])
  .ret)
  .skip))
  (.seq (.drawnF [(1, 2), (0, 8), (1, 8), (2, 8), (3, 8), (4, 8), (5, 8), (6, 8), (7, 8), (0, 9), (1, 9), (2, 9), (3, 9), (4, 9), (5, 9), (6, 9), (7, 9), (8, 9), (6, 10), (7, 10), (7, 11)] [Oo 21 (.load true 2 (.t 2)), Oo 22 (.call 13 [(.t 21)]), Oo 23 (.load true 3 (.t 3)), Oo 24 (.call 22 [(.t 22), (.t 23)]), Oo 20 (.mov (.t 24)), Oo 25 (.ext (.t 20) 0), Oo 26 (.ext (.t 20) 1), Oo 27 (.ext (.t 20) 2), Oo 5 (.alloc [(.slice none 0 0), (.slice none 0 0)]), Oo 6 (.alloc [(.bool false), (.slice none 0 0), (.slice none 0 0)]), On (.store 2 (.t 5) (.t 25)), On (.store 3 (.t 6) (.t 26)), Oo 7 (.mov (.t 27))])
  (.seq (.region [Oo 29 (.load true 2 (.t 2)), Oo 30 (.load true 3 (.t 3)), Oo 31 (.call 23 [(.t 29), (.t 30)]), Oo 28 (.mov (.t 31)), Oo 32 (.ext (.t 28) 0), Oo 33 (.ext (.t 28) 1), Oo 34 (.ext (.t 28) 2), Oo 8 (.alloc [(.slice none 0 0), (.slice none 0 0)]), Oo 9 (.alloc [(.bool false), (.slice none 0 0), (.slice none 0 0)]), On (.store 2 (.t 8) (.t 32)), On (.store 3 (.t 9) (.t 33)), Oo 10 (.mov (.t 34))])
  (.seq (.seq (.region [Oo 35 (.mov (.t 7)), Oo 36 (.mov (.t 10)), Oo 37 (.bin .neq (.t 35) (.t 36)), Oo 38 (.mov (.t 37)), Og 38 false 39 (.load true 2 (.t 5)), Og 38 false 40 (.load true 2 (.t 8)), Og 38 false 41 (.call 17 [(.t 39), (.t 40)]), Og 38 false 42 (.un .not (.t 41)), Oo 43 (.pick (.t 38) (.k (.bool true)) (.t 42)), Oo 44 (.mov (.t 43)), Og 44 false 45 (.load true 3 (.t 6)), Og 44 false 46 (.load true 3 (.t 9)), Og 44 false 47 (.call 18 [(.t 45), (.t 46)]), Og 44 false 48 (.un .not (.t 47)), Oo 49 (.pick (.t 44) (.k (.bool true)) (.t 48))])
  (.cond (.t 49) (.seq (.region [Oo 4 (.mov (.k (.bool false)))])
  .ret)
  .skip))
  (.seq (.drawn [Qo (Oo 51 (.load true 2 (.t 2))), Qo (Oo 52 (.call 13 [(.t 51)])), Qo (Oo 53 (.load true 3 (.t 3))), Qe (Oo 54 (.call 24 [(.t 52), (.t 53)])), Qo (Oo 50 (.mov (.t 54))), Qo (Oo 55 (.ext (.t 50) 0)), Qo (Oo 56 (.ext (.t 50) 1)), Qo (Oo 11 (.mov (.t 55))), Qo (Oo 12 (.mov (.t 56)))])
  (.seq (.region [Oo 58 (.load true 2 (.t 2)), Oo 59 (.load true 3 (.t 3)), Oo 60 (.call 25 [(.t 58), (.t 59)]), Oo 57 (.mov (.t 60)), Oo 61 (.ext (.t 57) 0), Oo 62 (.ext (.t 57) 1), Oo 13 (.mov (.t 61)), Oo 14 (.mov (.t 62))])
  (.seq (.region [Oo 63 (.mov (.t 12)), Oo 64 (.mov (.t 14)), Oo 65 (.bin .eql (.t 63) (.t 64)), Oo 66 (.mov (.t 65)), Og 66 true 67 (.mov (.t 11)), Og 66 true 68 (.mov (.t 13)), Og 66 true 69 (.call 26 [(.t 67), (.t 68)]), Oo 70 (.pick (.t 66) (.t 69) (.k (.bool false))), Oo 4 (.mov (.t 70))])
  .ret)))))))))
abbrev h6 : HF := ⟨h6c, [.tmp 4], 71, false⟩
theorem h6_ok : (Tryz.f6.body).bind (compileC Tryz.prog) = some h6c.er := by kernel_rfl
theorem r6_ok : Tryz.f6.results.toList.mapM (retOf Tryz.prog) = some [.tmp 4] := by kernel_rfl

/-- depository/depositorylaw26.awake -/
def h10c : HC :=
  (.seq (.region [Oo 0 (.mov (.k (.bool false)))])
  (.seq (.region [Oo 12 (.build [Zi 0, Zi 0, Zi 0] [(0, 1, (Ki 0)), (1, 1, (Ki 1))]), Oo 13 (.build [Zi 0, Zi 0, Zi 0] [(0, 1, (Ki 1)), (1, 1, (Ki 1)), (2, 1, (Ki 3))]), Oo 14 (.build [Zi 0, Zi 0, Zi 0] [(0, 1, (Ki 0)), (1, 1, (Ki 2))]), Oo 15 (.bslc 3 3 [Zi 0, Zi 0, Zi 0] [(0, (.t 12)), (1, (.t 13)), (2, (.t 14))]), Oo 16 (.call 15 [(.t 15)]), Oo 11 (.mov (.t 16)), Oo 17 (.ext (.t 11) 0), Oo 18 (.ext (.t 11) 1), Oo 19 (.ext (.t 11) 2), Oo 20 (.ext (.t 11) 3), Oo 1 (.alloc [(.slice none 0 0), (.slice none 0 0)]), On (.store 2 (.t 1) (.t 17)), Oo 2 (.mov (.t 18)), Oo 3 (.mov (.t 19)), Oo 4 (.mov (.t 20))])
  (.seq (.region [Oo 22 (.load true 2 (.t 1)), Oo 23 (.build [Zi 0, Zi 0, Zi 0] [(0, 1, (Ki 4)), (1, 1, (Ki 1))]), Oo 24 (.call 22 [(.t 22), (.t 23)]), Oo 21 (.mov (.t 24)), Oo 25 (.ext (.t 21) 0), Oo 26 (.ext (.t 21) 1), Oo 27 (.ext (.t 21) 2), Oo 5 (.alloc [(.slice none 0 0), (.slice none 0 0)]), Oo 6 (.alloc [(.bool false), (.slice none 0 0), (.slice none 0 0)]), On (.store 2 (.t 5) (.t 25)), On (.store 3 (.t 6) (.t 26)), Oo 7 (.mov (.t 27))])
  (.seq (.region [Oo 29 (.build [Zi 0, Zi 0, Zi 0] [(0, 1, (Ki 0)), (1, 1, (Ki 1))]), Oo 30 (.build [Zi 0, Zi 0, Zi 0, Zi 0] [(0, 3, (.t 29))]), Oo 31 (.build [Zi 0, Zi 0, Zi 0] [(0, 1, (Ki 1)), (1, 1, (Ki 1)), (2, 1, (Ki 2))]), Oo 32 (.build [Zi 0, Zi 0, Zi 0, Zi 0] [(0, 3, (.t 31))]), Oo 33 (.build [Zi 0, Zi 0, Zi 0] [(0, 1, (Ki 3)), (1, 1, (Ki 1))]), Oo 34 (.build [Zi 0, Zi 0, Zi 0, Zi 0] [(0, 3, (.t 33)), (3, 1, (Ki 5))]), Oo 35 (.build [Zi 0, Zi 0, Zi 0] [(0, 1, (Ki 0)), (1, 1, (Ki 2))]), Oo 36 (.build [Zi 0, Zi 0, Zi 0, Zi 0] [(0, 3, (.t 35))]), Oo 37 (.build [Zi 0, Zi 0, Zi 0] [(0, 1, (Ki 2)), (1, 1, (Ki 2))]), Oo 38 (.build [Zi 0, Zi 0, Zi 0, Zi 0] [(0, 3, (.t 37))]), Oo 39 (.build [Zi 0, Zi 0, Zi 0] [(0, 1, (Ki 4)), (1, 1, (Ki 1))]), Oo 40 (.build [Zi 0, Zi 0, Zi 0, Zi 0] [(0, 3, (.t 39))]), Oo 41 (.bslc 4 6 [Zi 0, Zi 0, Zi 0, Zi 0] [(0, (.t 30)), (1, (.t 32)), (2, (.t 34)), (3, (.t 36)), (4, (.t 38)), (5, (.t 40))]), Oo 42 (.call 19 [(.t 41)]), Oo 28 (.mov (.t 42)), Oo 43 (.ext (.t 28) 0), Oo 44 (.ext (.t 28) 1), Oo 45 (.ext (.t 28) 2), Oo 8 (.alloc [(.slice none 0 0), (.slice none 0 0), Zi 0, (.slice none 0 0), (.slice none 0 0), (.slice none 0 0)]), On (.store 6 (.t 8) (.t 43)), Oo 9 (.mov (.t 44)), Oo 10 (.mov (.t 45))])
  (.seq (.region [Oo 46 (.mov (.t 4)), Oo 47 (.bin .eql (.t 46) (Ki 0)), Oo 48 (.mov (.t 47)), Og 48 true 49 (.mov (.t 3)), Og 48 true 50 (.bin .eql (.t 49) (Ki 3)), Oo 51 (.pick (.t 48) (.t 50) (.k (.bool false))), Oo 52 (.mov (.t 51)), Og 52 true 53 (.mov (.t 2)), Og 52 true 54 (.lenL (.t 53)), Og 52 true 55 (.bin .eql (.t 54) (Ki 3)), Oo 56 (.pick (.t 52) (.t 55) (.k (.bool false))), Oo 57 (.mov (.t 56)), Og 57 true 58 (.load true 2 (.t 1)), Og 57 true 59 (.call 34 [(.t 58)]), Og 57 true 60 (.bin .eql (.t 59) (.k (.string ⟨#[49, 58, 51, 62, 50, 59, 50, 111]⟩))), Oo 61 (.pick (.t 57) (.t 60) (.k (.bool false))), Oo 62 (.mov (.t 61)), Og 62 true 63 (.mov (.t 7)), Og 62 true 64 (.bin .eql (.t 63) (Ki 0)), Oo 65 (.pick (.t 62) (.t 64) (.k (.bool false))), Oo 66 (.mov (.t 65)), Og 66 true 67 (.addo 0 (.t 6)), Og 66 true 68 (.load false 1 (.t 67)), Oo 69 (.pick (.t 66) (.t 68) (.k (.bool false))), Oo 70 (.mov (.t 69)), Og 70 true 71 (.load true 2 (.t 5)), Og 70 true 72 (.call 34 [(.t 71)]), Og 70 true 73 (.bin .eql (.t 72) (.k (.string ⟨#[49, 58, 50, 62, 50, 44, 50, 58, 48, 62, 48, 59]⟩))), Oo 74 (.pick (.t 70) (.t 73) (.k (.bool false))), Oo 75 (.mov (.t 74)), Og 75 true 76 (.mov (.t 10)), Og 75 true 77 (.bin .eql (.t 76) (Ki 0)), Oo 78 (.pick (.t 75) (.t 77) (.k (.bool false))), Oo 79 (.mov (.t 78)), Og 79 true 80 (.mov (.t 9)), Og 79 true 81 (.bin .eql (.t 80) (Ki 6)), Oo 82 (.pick (.t 79) (.t 81) (.k (.bool false))), Oo 83 (.mov (.t 82)), Og 83 true 84 (.addo 2 (.t 8)), Og 83 true 85 (.load false 1 (.t 84)), Og 83 true 86 (.bin .eql (.t 85) (Ki 5)), Oo 87 (.pick (.t 83) (.t 86) (.k (.bool false))), Oo 88 (.mov (.t 87)), Og 88 true 89 (.addo 5 (.t 8)), Og 88 true 90 (.load false 1 (.t 89)), Og 88 true 91 (.bslc 1 1 [Zi 0] [(0, (Ki 5))]), Og 88 true 92 (.call 31 [(.t 90), (.t 91)]), Oo 93 (.pick (.t 88) (.t 92) (.k (.bool false))), Oo 0 (.mov (.t 93))])
  .ret)))))
abbrev h10 : HF := ⟨h10c, [.tmp 0], 94, false⟩
theorem h10_ok : (Tryz.f10.body).bind (compileC Tryz.prog) = some h10c.er := by kernel_rfl
theorem r10_ok : Tryz.f10.results.toList.mapM (retOf Tryz.prog) = some [.tmp 0] := by kernel_rfl

/-- depository/depositorylaw26.few -/
def h11c : HC :=
  (.seq (.region [Oo 1 (.box (.t 0)), Oo 2 (.mov (.k (.bool false)))])
  (.seq (.region [Oo 3 (.addo 0 (.t 1)), Oo 4 (.load false 1 (.t 3)), Oo 5 (.lenL (.t 4)), Oo 6 (.bin .leq (.t 5) (Ki 12)), Oo 7 (.mov (.t 6)), Og 7 true 8 (.addo 1 (.t 1)), Og 7 true 9 (.load false 1 (.t 8)), Og 7 true 10 (.lenL (.t 9)), Og 7 true 11 (.bin .leq (.t 10) (Ki 12)), Oo 12 (.pick (.t 7) (.t 11) (.k (.bool false))), Oo 2 (.mov (.t 12))])
  .ret))
abbrev h11 : HF := ⟨h11c, [.tmp 2], 13, false⟩
theorem h11_ok : (Tryz.f11.body).bind (compileC Tryz.prog) = some h11c.er := by kernel_rfl
theorem r11_ok : Tryz.f11.results.toList.mapM (retOf Tryz.prog) = some [.tmp 2] := by kernel_rfl

/-- depository/oplocks.CheckFile -/
def h12c : HC :=
  (.seq (.region [Oo 1 (.box (.t 0)), Oo 2 (.mov (Ki 0)), Oo 3 (.mov (Ki 0))])
  (.seq (.seq (.region [Oo 10 (.addo 0 (.t 1)), Oo 11 (.load false 1 (.t 10)), Oo 12 (.lenL (.t 11)), Oo 13 (.bin .gtr (.t 12) (Ki 8)), Oo 14 (.mov (.t 13)), Og 14 false 15 (.addo 1 (.t 1)), Og 14 false 16 (.load false 1 (.t 15)), Og 14 false 17 (.lenL (.t 16)), Og 14 false 18 (.bin .gtr (.t 17) (Ki 8)), Oo 19 (.pick (.t 14) (.k (.bool true)) (.t 18))])
  (.cond (.t 19) (.seq (.region [Oo 2 (.mov (Ki 0)), Oo 3 (.mov (Ki 8))])
  .ret)
  .skip))
  (.seq (.region [Oo 20 (.load true 2 (.t 1)), Oo 21 (.call 47 [(.t 20)]), Oo 4 (.alloc [(.pointer none)]), On (.store 1 (.t 4) (.t 21))])
  (.seq (.seq (.regR [48, 100048] [Oo 23 (.load false 1 (.t 4)), Oo 24 (.nilc (.t 23)), Oo 25 (.addo 0 (.t 24)), Oo 26 (.addo 0 (.t 25)), Oo 27 (.load false 1 (.t 26)), Oo 28 (.mkfn 49 [(.t 4)]), Oo 29 (.call 48 [(.t 27), (.t 28)]), Oo 22 (.mov (.t 29)), Oo 30 (.ext (.t 22) 0), Oo 31 (.ext (.t 22) 1), Oo 5 (.mov (.t 30)), Oo 6 (.mov (.t 31))])
  (.seq (.region [Oo 32 (.mov (.t 6)), Oo 33 (.bin .neq (.t 32) (Ki 0))])
  (.cond (.t 33) (.seq (.region [Oo 34 (.mov (.t 5)), Oo 35 (.mov (.t 6)), Oo 2 (.mov (.t 34)), Oo 3 (.mov (.t 35))])
  .ret)
  .skip)))
  (.seq (.seq (.regR [51, 100051] [Oo 37 (.load false 1 (.t 4)), Oo 38 (.nilc (.t 37)), Oo 39 (.addo 0 (.t 38)), Oo 40 (.addo 1 (.t 39)), Oo 41 (.load false 1 (.t 40)), Oo 42 (.mkfn 52 [(.t 4)]), Oo 43 (.call 51 [(.t 41), (.t 42)]), Oo 36 (.mov (.t 43)), Oo 44 (.ext (.t 36) 0), Oo 45 (.ext (.t 36) 1), Oo 7 (.mov (.t 44)), Oo 8 (.mov (.t 45))])
  (.seq (.region [Oo 46 (.mov (.t 8)), Oo 47 (.bin .neq (.t 46) (Ki 0))])
  (.cond (.t 47) (.seq (.region [Oo 48 (.mov (.t 7)), Oo 49 (.mov (.t 8)), Oo 2 (.mov (.t 48)), Oo 3 (.mov (.t 49))])
  .ret)
  .skip)))
  (.seq (.seq (.region [Oo 50 (.addo 1 (.t 1)), Oo 51 (.load false 1 (.t 50)), Oo 52 (.lenL (.t 51)), Oo 53 (.bin .eql (.t 52) (Ki 0))])
  (.cond (.t 53) (.seq (.region [Oo 2 (.mov (Ki 0)), Oo 3 (.mov (Ki 0))])
  .ret)
  .skip))
  (.seq (.drawnT [54] (.st 0 (.st 1 (.st 2 (.st 3 (.st 4 (.st 5 (.st 6 .nil))))))) [Oo 54 (.load false 1 (.t 4)), Oo 55 (.addo 1 (.t 1)), Oo 56 (.load false 1 (.t 55)), Oo 57 (.ixL 2 (.t 56) (Ki 0)), Oo 58 (.load true 2 (.t 57)), Oo 59 (.call 54 [(.t 54), (.t 58)]), Oo 9 (.mov (.t 59))])
  (.seq (.drawn [Qo (Oo 60 (.mov (.t 9))), Qo (Oo 61 (.lenL (.t 60))), Qo (Oo 62 (.bin .eql (.t 61) (Ki 0))), Qo (Oo 63 (.mov (.t 62))), Qo (Og 63 true 64 (.load false 1 (.t 4))), Qo (Og 63 true 65 (.addo 1 (.t 1))), Qo (Og 63 true 66 (.load false 1 (.t 65))), Qo (Og 63 true 67 (.ixL 2 (.t 66) (Ki 0))), Qo (Og 63 true 68 (.load true 2 (.t 67))), Qe (Og 63 true 69 (.call 56 [(.t 64), (.t 68)])), Qo (Oo 70 (.pick (.t 63) (.t 69) (.k (.bool false)))), Qe (Oo 71 (.call 55 [(.t 70), (Ki 20)])), Qo (Oo 2 (.mov (Ki 0))), Qo (Oo 3 (.mov (.t 71)))])
  .ret))))))))
abbrev h12 : HF := ⟨h12c, [.tmp 2, .tmp 3], 72, false⟩
theorem h12_ok : (Tryz.f12.body).bind (compileC Tryz.prog) = some h12c.er := by kernel_rfl
theorem r12_ok : Tryz.f12.results.toList.mapM (retOf Tryz.prog) = some [.tmp 2, .tmp 3] := by kernel_rfl

/-- depository/depositoryref26.Copy -/
def h13c : HC :=
  (.seq (.region [Oo 1 (.box (.t 0)), Oo 2 (.alloc [(.slice none 0 0), (.slice none 0 0)])])
  (.seq (.drawnT [] (.st 1 (.st 5 (.br 0 (.br 2 (.br 3 (.br 4 (.st 6 (.st 7 (.st 8 (.st 9 .nil)))) (.br 6 (.st 4 (.st 7 (.st 8 (.st 9 .nil)))) .stop)) (.br 4 (.br 3 (.st 6 (.st 7 (.st 8 (.st 9 .nil)))) (.br 6 (.st 3 (.st 7 (.st 8 (.st 9 .nil)))) .stop)) (.br 6 (.br 3 (.st 4 (.st 7 (.st 8 (.st 9 .nil)))) (.br 4 (.st 3 (.st 7 (.st 8 (.st 9 .nil)))) .stop)) .stop))) (.br 4 (.st 2 (.br 3 (.st 6 (.st 7 (.st 8 (.st 9 .nil)))) (.br 6 (.st 3 (.st 7 (.st 8 (.st 9 .nil)))) .stop))) (.br 6 (.br 2 (.br 3 (.st 4 (.st 7 (.st 8 (.st 9 .nil)))) (.br 4 (.st 3 (.st 7 (.st 8 (.st 9 .nil)))) .stop)) (.br 4 (.st 2 (.st 3 (.st 7 (.st 8 (.st 9 .nil))))) .stop)) .stop))) (.br 2 (.br 0 (.br 3 (.br 4 (.st 6 (.st 7 (.st 8 (.st 9 .nil)))) (.br 6 (.st 4 (.st 7 (.st 8 (.st 9 .nil)))) .stop)) (.br 4 (.br 3 (.st 6 (.st 7 (.st 8 (.st 9 .nil)))) (.br 6 (.st 3 (.st 7 (.st 8 (.st 9 .nil)))) .stop)) (.br 6 (.br 3 (.st 4 (.st 7 (.st 8 (.st 9 .nil)))) (.br 4 (.st 3 (.st 7 (.st 8 (.st 9 .nil)))) .stop)) .stop))) (.br 4 (.br 0 (.br 3 (.st 6 (.st 7 (.st 8 (.st 9 .nil)))) (.br 6 (.st 3 (.st 7 (.st 8 (.st 9 .nil)))) .stop)) (.br 6 (.st 0 (.st 3 (.st 7 (.st 8 (.st 9 .nil))))) .stop)) (.br 6 (.br 0 (.br 3 (.st 4 (.st 7 (.st 8 (.st 9 .nil)))) (.br 4 (.st 3 (.st 7 (.st 8 (.st 9 .nil)))) .stop)) (.br 4 (.st 0 (.st 3 (.st 7 (.st 8 (.st 9 .nil))))) .stop)) .stop))) (.br 4 (.br 0 (.st 2 (.br 3 (.st 6 (.st 7 (.st 8 (.st 9 .nil)))) (.br 6 (.st 3 (.st 7 (.st 8 (.st 9 .nil)))) .stop))) (.br 2 (.br 0 (.br 3 (.st 6 (.st 7 (.st 8 (.st 9 .nil)))) (.br 6 (.st 3 (.st 7 (.st 8 (.st 9 .nil)))) .stop)) (.br 6 (.st 0 (.st 3 (.st 7 (.st 8 (.st 9 .nil))))) .stop)) (.br 6 (.br 0 (.st 2 (.st 3 (.st 7 (.st 8 (.st 9 .nil))))) (.br 2 (.st 0 (.st 3 (.st 7 (.st 8 (.st 9 .nil))))) .stop)) .stop))) (.br 6 (.br 0 (.br 2 (.br 3 (.st 4 (.st 7 (.st 8 (.st 9 .nil)))) (.br 4 (.st 3 (.st 7 (.st 8 (.st 9 .nil)))) .stop)) (.br 4 (.st 2 (.st 3 (.st 7 (.st 8 (.st 9 .nil))))) .stop)) (.br 2 (.br 0 (.br 3 (.st 4 (.st 7 (.st 8 (.st 9 .nil)))) (.br 4 (.st 3 (.st 7 (.st 8 (.st 9 .nil)))) .stop)) (.br 4 (.st 0 (.st 3 (.st 7 (.st 8 (.st 9 .nil))))) .stop)) (.br 4 (.br 0 (.st 2 (.st 3 (.st 7 (.st 8 (.st 9 .nil))))) (.br 2 (.st 0 (.st 3 (.st 7 (.st 8 (.st 9 .nil))))) .stop)) .stop))) .stop)))))) [Oo 3 (.bslc 3 0 [Zi 0, Zi 0, Zi 0] []), Oo 4 (.addo 0 (.t 1)), Oo 5 (.load false 1 (.t 4)), Oo 6 (.app 3 24 [Zi 0, Zi 0, Zi 0] (.t 3) (.t 5)), Oo 7 (.bslc 2 0 [Zi 0, Zi 0] []), Oo 8 (.addo 1 (.t 1)), Oo 9 (.load false 1 (.t 8)), Oo 10 (.app 2 16 [Zi 0, Zi 0] (.t 7) (.t 9)), Oo 11 (.build [(.slice none 0 0), (.slice none 0 0)] [(0, 1, (.t 6)), (1, 1, (.t 10))]), On (.store 2 (.t 2) (.t 11))])
  .ret))
abbrev h13 : HF := ⟨h13c, [.cell 2 true 2], 12, true⟩
theorem h13_ok : (Tryz.f13.body).bind (compileC Tryz.prog) = some h13c.er := by kernel_rfl
theorem r13_ok : Tryz.f13.results.toList.mapM (retOf Tryz.prog) = some [.cell 2 true 2] := by kernel_rfl

/-- depository/depositoryref26.CheckFile -/
def h14l0 : HC :=
  (.seq (.seq (.region [Oo 21 (.mov (.t 4)), Oo 22 (.addo 0 (.t 1)), Oo 23 (.load false 1 (.t 22)), Oo 24 (.lenL (.t 23)), Oo 25 (.bin .lss (.t 21) (.t 24))])
  (.cond (.t 25) .skip
  (.exit 0)))
  (.seq (.block 1 (.seq (.region [Oo 28 (.load true 2 (.t 1)), Oo 29 (.mov (.t 4)), Oo 30 (.call 57 [(.t 28), (.t 29)]), Oo 5 (.mov (.t 30))])
  (.seq (.region [Oo 31 (.mov (.t 5)), Oo 32 (.bin .neq (.t 31) (Ki 0))])
  (.cond (.t 32) (.seq (.region [Oo 33 (.mov (.t 4)), Oo 34 (.mov (.t 5)), Oo 2 (.mov (.t 33)), Oo 3 (.mov (.t 34))])
  .ret)
  .skip))))
  (.region [Oo 26 (.mov (.t 4)), Oo 27 (.bin .add (.t 26) (Ki 1)), Oo 4 (.mov (.t 27))])))
def h14l1 : HC :=
  (.seq (.seq (.region [Oo 35 (.mov (.t 6)), Oo 36 (.addo 1 (.t 1)), Oo 37 (.load false 1 (.t 36)), Oo 38 (.lenL (.t 37)), Oo 39 (.bin .lss (.t 35) (.t 38))])
  (.cond (.t 39) .skip
  (.exit 2)))
  (.seq (.block 3 (.seq (.region [Oo 42 (.load true 2 (.t 1)), Oo 43 (.mov (.t 6)), Oo 44 (.call 58 [(.t 42), (.t 43)]), Oo 7 (.mov (.t 44))])
  (.seq (.region [Oo 45 (.mov (.t 7)), Oo 46 (.bin .neq (.t 45) (Ki 0))])
  (.cond (.t 46) (.seq (.region [Oo 47 (.mov (.t 6)), Oo 48 (.mov (.t 7)), Oo 2 (.mov (.t 47)), Oo 3 (.mov (.t 48))])
  .ret)
  .skip))))
  (.region [Oo 40 (.mov (.t 6)), Oo 41 (.bin .add (.t 40) (Ki 1)), Oo 6 (.mov (.t 41))])))
def h14c : HC :=
  (.seq (.region [Oo 1 (.box (.t 0)), Oo 2 (.mov (Ki 0)), Oo 3 (.mov (Ki 0))])
  (.seq (.seq (.region [Oo 11 (.addo 0 (.t 1)), Oo 12 (.load false 1 (.t 11)), Oo 13 (.lenL (.t 12)), Oo 14 (.bin .gtr (.t 13) (Ki 8)), Oo 15 (.mov (.t 14)), Og 15 false 16 (.addo 1 (.t 1)), Og 15 false 17 (.load false 1 (.t 16)), Og 15 false 18 (.lenL (.t 17)), Og 15 false 19 (.bin .gtr (.t 18) (Ki 8)), Oo 20 (.pick (.t 15) (.k (.bool true)) (.t 19))])
  (.cond (.t 20) (.seq (.region [Oo 2 (.mov (Ki 0)), Oo 3 (.mov (Ki 8))])
  .ret)
  .skip))
  (.seq (.seq (.region [Oo 4 (.mov (Ki 0))])
  (.block 0 (.loop [1, 2] h14l0)))
  (.seq (.seq (.region [Oo 6 (.mov (Ki 0))])
  (.block 2 (.loop [1, 4] h14l1)))
  (.seq (.seq (.region [Oo 49 (.addo 1 (.t 1)), Oo 50 (.load false 1 (.t 49)), Oo 51 (.lenL (.t 50)), Oo 52 (.bin .gtr (.t 51) (Ki 0))])
  (.cond (.t 52) (.seq (.region [Oo 53 (.addo 1 (.t 1)), Oo 54 (.load false 1 (.t 53)), Oo 55 (.ixL 2 (.t 54) (Ki 0)), Oo 56 (.load true 2 (.t 55)), Oo 8 (.alloc [Zi 0, Zi 0]), On (.store 2 (.t 8) (.t 56))])
  (.seq (.region [Oo 58 (.load true 2 (.t 1)), Oo 59 (.addo 0 (.t 8)), Oo 60 (.load false 1 (.t 59)), Oo 61 (.addo 1 (.t 8)), Oo 62 (.load false 1 (.t 61)), Oo 63 (.call 59 [(.t 58), (.t 60), (.t 62)]), Oo 57 (.mov (.t 63)), Oo 64 (.ext (.t 57) 0), Oo 65 (.ext (.t 57) 1), Oo 9 (.alloc [(.slice none 0 0), (.slice none 0 0)]), On (.store 2 (.t 9) (.t 64)), Oo 10 (.mov (.t 65))])
  (.seq (.region [Oo 66 (.mov (.t 10)), Oo 67 (.lenL (.t 66)), Oo 68 (.bin .gtr (.t 67) (Ki 0)), Oo 69 (.mov (.t 68)), Og 69 false 70 (.load true 2 (.t 1)), Og 69 false 71 (.addo 0 (.t 8)), Og 69 false 72 (.load false 1 (.t 71)), Og 69 false 73 (.addo 1 (.t 8)), Og 69 false 74 (.load false 1 (.t 73)), Og 69 false 75 (.call 60 [(.t 70), (.t 72), (.t 74)]), Og 69 false 76 (.un .not (.t 75)), Oo 77 (.pick (.t 69) (.k (.bool true)) (.t 76))])
  (.cond (.t 77) (.seq (.region [Oo 2 (.mov (Ki 0)), Oo 3 (.mov (Ki 20))])
  .ret)
  .skip))))
  .skip))
  (.seq (.region [Oo 2 (.mov (Ki 0)), Oo 3 (.mov (Ki 0))])
  .ret))))))
abbrev h14 : HF := ⟨h14c, [.tmp 2, .tmp 3], 78, false⟩
theorem h14_ok : (Tryz.f14.body).bind (compileC Tryz.prog) = some h14c.er := by kernel_rfl
theorem r14_ok : Tryz.f14.results.toList.mapM (retOf Tryz.prog) = some [.tmp 2, .tmp 3] := by kernel_rfl

/-- depository/oplocks.RunOf -/
def h15c : HC :=
  (.seq (.region [Oo 2 (.alloc [(.slice none 0 0), (.slice none 0 0)]), Oo 3 (.mov (.k (.slice none 0 0))), Oo 4 (.mov (Ki 0)), Oo 5 (.mov (Ki 0))])
  (.seq (.seq (.region [Oo 10 (.mov (.t 0)), Oo 11 (.lenL (.t 10)), Oo 12 (.bin .gtr (.t 11) (Ki 100))])
  (.cond (.t 12) (.seq (.region [Oo 13 (.build [(.slice none 0 0), (.slice none 0 0)] []), On (.store 2 (.t 2) (.t 13)), Oo 3 (.mov (.k (.slice none 0 0))), Oo 4 (.mov (Ki 0)), Oo 5 (.mov (Ki 8))])
  .ret)
  .skip))
  (.seq (.region [Oo 14 (.build [(.slice none 0 0), (.slice none 0 0)] []), Oo 15 (.box (.t 14)), Oo 6 (.alloc [(.pointer none)]), On (.store 1 (.t 6) (.t 15))])
  (.gh (.nilB 15 0 3) (.gh (.nilB 15 1 2) (.seq (.region [Oo 7 (.alloc [(.slice none 0 0)])])
  (.gh (.nilB 7 0 3) (.seq (.seq (.region [Oo 17 (.mov (.t 0)), Oo 18 (.mkfn 62 [(.t 6), (.t 7)]), Oo 19 (.call 61 [(.t 17), (.t 18)]), Oo 16 (.mov (.t 19)), Oo 20 (.ext (.t 16) 0), Oo 21 (.ext (.t 16) 1), Oo 8 (.mov (.t 20)), Oo 9 (.mov (.t 21))])
  (.seq (.region [Oo 22 (.mov (.t 9)), Oo 23 (.bin .neq (.t 22) (Ki 0))])
  (.cond (.t 23) (.seq (.region [Oo 24 (.build [(.slice none 0 0), (.slice none 0 0)] []), Oo 25 (.mov (.t 8)), Oo 26 (.mov (.t 9)), On (.store 2 (.t 2) (.t 24)), Oo 3 (.mov (.k (.slice none 0 0))), Oo 4 (.mov (.t 25)), Oo 5 (.mov (.t 26))])
  .ret)
  .skip)))
  (.seq (.drawnF [(4, 7), (5, 7), (6, 7)] [Oo 27 (.load false 1 (.t 6)), Oo 28 (.nilc (.t 27)), Oo 29 (.addo 0 (.t 28)), Oo 30 (.load true 2 (.t 29)), Oo 31 (.load false 1 (.t 7)), Oo 32 (.mov (.t 0)), Oo 33 (.lenL (.t 32)), On (.store 2 (.t 2) (.t 30)), Oo 3 (.mov (.t 31)), Oo 4 (.mov (.t 33)), Oo 5 (.mov (Ki 0))])
  .ret)))))))))
abbrev h15 : HF := ⟨h15c, [.cell 2 true 2, .tmp 3, .tmp 4, .tmp 5], 34, false⟩
theorem h15_ok : (Tryz.f15.body).bind (compileC Tryz.prog) = some h15c.er := by kernel_rfl
theorem r15_ok : Tryz.f15.results.toList.mapM (retOf Tryz.prog) = some [.cell 2 true 2, .tmp 3, .tmp 4, .tmp 5] := by kernel_rfl

/-- depository/depositoryref26.Same -/
def h17l0 : HC :=
  (.seq (.seq (.region [Oo 21 (.mov (.t 5)), Oo 22 (.addo 0 (.t 2)), Oo 23 (.load false 1 (.t 22)), Oo 24 (.lenL (.t 23)), Oo 25 (.bin .lss (.t 21) (.t 24))])
  (.cond (.t 25) .skip
  (.exit 0)))
  (.seq (.block 1 (.seq (.drawn [Qo (Oo 28 (.addo 0 (.t 2))), Qo (Oo 29 (.load false 1 (.t 28))), Qo (Oo 30 (.mov (.t 5))), Qo (Oo 31 (.ixL 3 (.t 29) (.t 30))), Qo (Oo 32 (.load true 3 (.t 31))), Qo (Oo 33 (.addo 0 (.t 3))), Qo (Oo 34 (.load false 1 (.t 33))), Qo (Oo 35 (.mov (.t 5))), Qo (Oo 36 (.ixL 3 (.t 34) (.t 35))), Qo (Oo 37 (.load true 3 (.t 36))), Qo (Oo 38 (.eqs true [.i, .i, .i] (.t 32) (.t 37)))])
  (.cond (.t 38) (.seq (.region [Oo 4 (.mov (.k (.bool false)))])
  .ret)
  .skip)))
  (.region [Oo 26 (.mov (.t 5)), Oo 27 (.bin .add (.t 26) (Ki 1)), Oo 5 (.mov (.t 27))])))
def h17c : HC :=
  (.seq (.region [Oo 2 (.box (.t 0)), Oo 3 (.box (.t 1)), Oo 4 (.mov (.k (.bool false)))])
  (.seq (.seq (.region [Oo 6 (.addo 0 (.t 2)), Oo 7 (.load false 1 (.t 6)), Oo 8 (.lenL (.t 7)), Oo 9 (.addo 0 (.t 3)), Oo 10 (.load false 1 (.t 9)), Oo 11 (.lenL (.t 10)), Oo 12 (.bin .neq (.t 8) (.t 11)), Oo 13 (.mov (.t 12)), Og 13 false 14 (.addo 1 (.t 2)), Og 13 false 15 (.load false 1 (.t 14)), Og 13 false 16 (.addo 1 (.t 3)), Og 13 false 17 (.load false 1 (.t 16)), Og 13 false 18 (.call 65 [(.t 15), (.t 17)]), Og 13 false 19 (.un .not (.t 18)), Oo 20 (.pick (.t 13) (.k (.bool true)) (.t 19))])
  (.cond (.t 20) (.seq (.region [Oo 4 (.mov (.k (.bool false)))])
  .ret)
  .skip))
  (.seq (.seq (.region [Oo 5 (.mov (Ki 0))])
  (.block 0 (.loop [2, 0, 1] h17l0)))
  (.seq (.region [Oo 4 (.mov (.k (.bool true)))])
  .ret))))
abbrev h17 : HF := ⟨h17c, [.tmp 4], 39, false⟩
theorem h17_ok : (Tryz.f17.body).bind (compileC Tryz.prog) = some h17c.er := by kernel_rfl
theorem r17_ok : Tryz.f17.results.toList.mapM (retOf Tryz.prog) = some [.tmp 4] := by kernel_rfl

/-- depository/depositoryref26.SameAnswer -/
def h18c : HC :=
  (.seq (.region [Oo 2 (.box (.t 0)), Oo 3 (.box (.t 1)), Oo 4 (.mov (.k (.bool false)))])
  (.seq (.region [Oo 5 (.addo 0 (.t 2)), Oo 6 (.load false 1 (.t 5)), Oo 7 (.addo 0 (.t 3)), Oo 8 (.load false 1 (.t 7)), Oo 9 (.binb false (.t 6) (.t 8)), Oo 10 (.mov (.t 9)), Og 10 true 11 (.addo 1 (.t 2)), Og 10 true 12 (.load false 1 (.t 11)), Og 10 true 13 (.addo 1 (.t 3)), Og 10 true 14 (.load false 1 (.t 13)), Og 10 true 15 (.call 26 [(.t 12), (.t 14)]), Oo 16 (.pick (.t 10) (.t 15) (.k (.bool false))), Oo 17 (.mov (.t 16)), Og 17 true 18 (.addo 2 (.t 2)), Og 17 true 19 (.load false 1 (.t 18)), Og 17 true 20 (.addo 2 (.t 3)), Og 17 true 21 (.load false 1 (.t 20)), Og 17 true 22 (.call 65 [(.t 19), (.t 21)]), Oo 23 (.pick (.t 17) (.t 22) (.k (.bool false))), Oo 4 (.mov (.t 23))])
  .ret))
abbrev h18 : HF := ⟨h18c, [.tmp 4], 24, false⟩
theorem h18_ok : (Tryz.f18.body).bind (compileC Tryz.prog) = some h18c.er := by kernel_rfl
theorem r18_ok : Tryz.f18.results.toList.mapM (retOf Tryz.prog) = some [.tmp 4] := by kernel_rfl

/-- depository/oplocks.CacheRun -/
def h19l0 : HC :=
  (.seq (.region [Oo 18 (.bin .lss (.t 17) (Ki 9))])
  (.seq (.cond (.t 18) .skip
  (.exit 0))
  (.seq (.block 1 (.seq (.region [Oo 19 (.mov (.t 17)), Oo 6 (.mov (.t 19))])
  (.region [Oo 20 (.load false 1 (.t 5)), Oo 21 (.mov (.t 6)), Oo 22 (.nilc (.t 20)), Oo 23 (.addo 2 (.t 22)), Oo 24 (.ixA 9 1 (.t 23) (.t 21)), On (.store 1 (.t 24) (Ki (-1)))])))
  (.region [Oo 25 (.bin .add (.t 17) (Ki 1)), Oo 17 (.mov (.t 25))]))))
def h19c : HC :=
  (.seq (.region [Oo 2 (.alloc [(.slice none 0 0), (.slice none 0 0), Zi 0, (.slice none 0 0), (.slice none 0 0), (.slice none 0 0)]), Oo 3 (.mov (Ki 0)), Oo 4 (.mov (Ki 0))])
  (.seq (.seq (.region [Oo 9 (.mov (.t 0)), Oo 10 (.lenL (.t 9)), Oo 11 (.bin .gtr (.t 10) (Ki 100))])
  (.cond (.t 11) (.seq (.region [Oo 12 (.build [(.slice none 0 0), (.slice none 0 0), Zi 0, (.slice none 0 0), (.slice none 0 0), (.slice none 0 0)] []), On (.store 6 (.t 2) (.t 12)), Oo 3 (.mov (Ki 0)), Oo 4 (.mov (Ki 8))])
  .ret)
  .skip))
  (.seq (.region [Oo 13 (.build [(.slice none 0 0), (.slice none 0 0)] []), Oo 14 (.box (.t 13)), Oo 15 (.build [(.pointer none), Zi 0, Zi 0, Zi 0, Zi 0, Zi 0, Zi 0, Zi 0, Zi 0, Zi 0, Zi 0, (.bool false), (.bool false), (.bool false), (.bool false), (.bool false), (.bool false), (.bool false), (.bool false), (.bool false), Zi 0, Zi 0, Zi 0, Zi 0, Zi 0, Zi 0, Zi 0, Zi 0, Zi 0, (.slice none 0 0)] [(0, 1, (.t 14))]), Oo 16 (.box (.t 15)), Oo 5 (.alloc [(.pointer none)]), On (.store 1 (.t 5) (.t 16))])
  (.gh (.nilB 14 0 3) (.gh (.nilB 14 1 2) (.gh (.nilB 16 29 1) (.seq (.seq (.region [Oo 17 (.mov (Ki 0))])
  (.block 0 (.loop [0, 1, 2, 11] h19l0)))
  (.seq (.seq (.region [Oo 27 (.mov (.t 0)), Oo 28 (.mkfn 67 [(.t 5)]), Oo 29 (.call 66 [(.t 27), (.t 28)]), Oo 26 (.mov (.t 29)), Oo 30 (.ext (.t 26) 0), Oo 31 (.ext (.t 26) 1), Oo 7 (.mov (.t 30)), Oo 8 (.mov (.t 31))])
  (.seq (.region [Oo 32 (.mov (.t 8)), Oo 33 (.bin .neq (.t 32) (Ki 0))])
  (.cond (.t 33) (.seq (.region [Oo 34 (.build [(.slice none 0 0), (.slice none 0 0), Zi 0, (.slice none 0 0), (.slice none 0 0), (.slice none 0 0)] []), Oo 35 (.mov (.t 7)), Oo 36 (.mov (.t 8)), On (.store 6 (.t 2) (.t 34)), Oo 3 (.mov (.t 35)), Oo 4 (.mov (.t 36))])
  .ret)
  .skip)))
  (.seq (.drawn [Qo (Oo 37 (.load false 1 (.t 5))), Qo (Oo 38 (.nilc (.t 37))), Qo (Oo 39 (.addo 0 (.t 38))), Qo (Oo 40 (.load false 1 (.t 39))), Qo (Oo 41 (.nilc (.t 40))), Qo (Oo 42 (.addo 0 (.t 41))), Qo (Oo 43 (.load true 2 (.t 42))), Qo (Oo 44 (.load false 1 (.t 5))), Qo (Oo 45 (.nilc (.t 44))), Qo (Oo 46 (.addo 1 (.t 45))), Qo (Oo 47 (.load false 1 (.t 46))), Qo (Oo 48 (.load false 1 (.t 5))), Qo (Oo 49 (.nilc (.t 48))), Qo (Oo 50 (.addo 2 (.t 49))), Qo (Oo 51 (.slA 9 1 (.t 50) (some (Ki 1)) none)), Qo (Oo 52 (.load false 1 (.t 5))), Qo (Oo 53 (.nilc (.t 52))), Qo (Oo 54 (.addo 11 (.t 53))), Qo (Oo 55 (.slA 9 1 (.t 54) (some (Ki 1)) none)), Qo (Oo 56 (.load false 1 (.t 5))), Qo (Oo 57 (.nilc (.t 56))), Qo (Oo 58 (.addo 29 (.t 57))), Qo (Oo 59 (.load false 1 (.t 58))), Qo (Oo 60 (.build [(.slice none 0 0), (.slice none 0 0), Zi 0, (.slice none 0 0), (.slice none 0 0), (.slice none 0 0)] [(0, 2, (.t 43)), (2, 1, (.t 47)), (3, 1, (.t 51)), (4, 1, (.t 55)), (5, 1, (.t 59))])), Qo (Oo 61 (.mov (.t 0))), Qo (Oo 62 (.lenL (.t 61))), Qe (On (.store 6 (.t 2) (.t 60))), Qo (Oo 3 (.mov (.t 62))), Qo (Oo 4 (.mov (Ki 0)))])
  .ret)))))))))
abbrev h19 : HF := ⟨h19c, [.cell 2 true 6, .tmp 3, .tmp 4], 63, false⟩
theorem h19_ok : (Tryz.f19.body).bind (compileC Tryz.prog) = some h19c.er := by kernel_rfl
theorem r19_ok : Tryz.f19.results.toList.mapM (retOf Tryz.prog) = some [.cell 2 true 6, .tmp 3, .tmp 4] := by kernel_rfl

/-- depository/oplocks.Stepped -/
def h22c : HC :=
  (.seq (.region [Oo 2 (.box (.t 0)), Oo 3 (.box (.t 1)), Oo 4 (.alloc [(.slice none 0 0), (.slice none 0 0)]), Oo 5 (.alloc [(.bool false), (.slice none 0 0), (.slice none 0 0)]), Oo 6 (.mov (Ki 0))])
  (.seq (.region [Oo 11 (.load true 2 (.t 2)), Oo 12 (.call 72 [(.t 11)]), Oo 10 (.mov (.t 12)), Oo 13 (.ext (.t 10) 0), Oo 14 (.ext (.t 10) 1), Oo 7 (.mov (.t 13)), Oo 8 (.mov (.t 14))])
  (.seq (.seq (.region [Oo 15 (.mov (.t 8)), Oo 16 (.bin .eql (.t 15) (Ki 0))])
  (.cond (.t 16) (.regR [63, 100063] [Oo 17 (.mov (.t 7)), Oo 18 (.load true 3 (.t 3)), Oo 19 (.call 63 [(.t 17), (.t 18)]), Oo 8 (.mov (.t 19))])
  .skip))
  (.seq (.seq (.region [Oo 20 (.mov (.t 8)), Oo 21 (.bin .neq (.t 20) (Ki 0))])
  (.cond (.t 21) (.seq (.region [Oo 22 (.build [(.slice none 0 0), (.slice none 0 0)] []), Oo 23 (.build [(.bool false), (.slice none 0 0), (.slice none 0 0)] []), Oo 24 (.mov (.t 8)), On (.store 2 (.t 4) (.t 22)), On (.store 3 (.t 5) (.t 23)), Oo 6 (.mov (.t 24))])
  .ret)
  .skip))
  (.seq (.regR [64] [Oo 25 (.mov (.t 7)), Oo 26 (.load true 3 (.t 3)), Oo 27 (.call 64 [(.t 25), (.t 26)]), Oo 9 (.alloc [(.bool false), (.slice none 0 0), (.slice none 0 0)]), On (.store 3 (.t 9) (.t 27))])
  (.seq (.drawnF [(4, 5)] [Oo 28 (.mov (.t 7)), Oo 29 (.nilc (.t 28)), Oo 30 (.addo 0 (.t 29)), Oo 31 (.load true 2 (.t 30)), Oo 32 (.load true 3 (.t 9)), On (.store 2 (.t 4) (.t 31)), On (.store 3 (.t 5) (.t 32)), Oo 6 (.mov (Ki 0))])
  .ret))))))
abbrev h22 : HF := ⟨h22c, [.cell 4 true 2, .cell 5 true 3, .tmp 6], 33, false⟩
theorem h22_ok : (Tryz.f22.body).bind (compileC Tryz.prog) = some h22c.er := by kernel_rfl
theorem r22_ok : Tryz.f22.results.toList.mapM (retOf Tryz.prog) = some [.cell 4 true 2, .cell 5 true 3, .tmp 6] := by kernel_rfl

/-- depository/depositoryref26.Stepped -/
def h23c : HC :=
  (.seq (.region [Oo 2 (.box (.t 0)), Oo 3 (.box (.t 1)), Oo 4 (.alloc [(.slice none 0 0), (.slice none 0 0)]), Oo 5 (.alloc [(.bool false), (.slice none 0 0), (.slice none 0 0)]), Oo 6 (.mov (Ki 0))])
  (.seq (.seq (.region [Oo 11 (.load true 2 (.t 2)), Oo 12 (.call 30 [(.t 11)]), Oo 7 (.mov (.t 12))])
  (.seq (.region [Oo 13 (.mov (.t 7)), Oo 14 (.bin .neq (.t 13) (Ki 0))])
  (.cond (.t 14) (.seq (.region [Oo 15 (.build [(.slice none 0 0), (.slice none 0 0)] []), Oo 16 (.build [(.bool false), (.slice none 0 0), (.slice none 0 0)] []), Oo 17 (.mov (.t 7)), On (.store 2 (.t 4) (.t 15)), On (.store 3 (.t 5) (.t 16)), Oo 6 (.mov (.t 17))])
  .ret)
  .skip)))
  (.seq (.seq (.region [Oo 18 (.load true 2 (.t 2)), Oo 19 (.load true 3 (.t 3)), Oo 20 (.call 73 [(.t 18), (.t 19)]), Oo 8 (.mov (.t 20))])
  (.seq (.region [Oo 21 (.mov (.t 8)), Oo 22 (.bin .neq (.t 21) (Ki 0))])
  (.cond (.t 22) (.seq (.region [Oo 23 (.build [(.slice none 0 0), (.slice none 0 0)] []), Oo 24 (.build [(.bool false), (.slice none 0 0), (.slice none 0 0)] []), Oo 25 (.mov (.t 8)), On (.store 2 (.t 4) (.t 23)), On (.store 3 (.t 5) (.t 24)), Oo 6 (.mov (.t 25))])
  .ret)
  .skip)))
  (.seq (.region [Oo 27 (.load true 2 (.t 2)), Oo 28 (.load true 3 (.t 3)), Oo 29 (.call 74 [(.t 27), (.t 28)]), Oo 26 (.mov (.t 29)), Oo 30 (.ext (.t 26) 0), Oo 31 (.ext (.t 26) 1), Oo 9 (.alloc [(.slice none 0 0), (.slice none 0 0)]), Oo 10 (.alloc [(.bool false), (.slice none 0 0), (.slice none 0 0)]), On (.store 2 (.t 9) (.t 30)), On (.store 3 (.t 10) (.t 31))])
  (.seq (.drawnF [(1, 2)] [Oo 32 (.load true 2 (.t 9)), Oo 33 (.load true 3 (.t 10)), On (.store 2 (.t 4) (.t 32)), On (.store 3 (.t 5) (.t 33)), Oo 6 (.mov (Ki 0))])
  .ret)))))
abbrev h23 : HF := ⟨h23c, [.cell 4 true 2, .cell 5 true 3, .tmp 6], 34, false⟩
theorem h23_ok : (Tryz.f23.body).bind (compileC Tryz.prog) = some h23c.er := by kernel_rfl
theorem r23_ok : Tryz.f23.results.toList.mapM (retOf Tryz.prog) = some [.cell 4 true 2, .cell 5 true 3, .tmp 6] := by kernel_rfl

/-- depository/oplocks.BreaksFor -/
def h24c : HC :=
  (.seq (.region [Oo 2 (.box (.t 0)), Oo 3 (.box (.t 1)), Oo 4 (.mov (.k (.slice none 0 0))), Oo 5 (.mov (Ki 0))])
  (.seq (.region [Oo 9 (.load true 2 (.t 2)), Oo 10 (.call 72 [(.t 9)]), Oo 8 (.mov (.t 10)), Oo 11 (.ext (.t 8) 0), Oo 12 (.ext (.t 8) 1), Oo 6 (.mov (.t 11)), Oo 7 (.mov (.t 12))])
  (.seq (.seq (.region [Oo 13 (.mov (.t 7)), Oo 14 (.bin .eql (.t 13) (Ki 0))])
  (.cond (.t 14) (.regR [63, 100063] [Oo 15 (.mov (.t 6)), Oo 16 (.load true 3 (.t 3)), Oo 17 (.call 63 [(.t 15), (.t 16)]), Oo 7 (.mov (.t 17))])
  .skip))
  (.seq (.seq (.region [Oo 18 (.mov (.t 7)), Oo 19 (.bin .neq (.t 18) (Ki 0)), Oo 20 (.mov (.t 19)), Og 20 false 21 (.addo 0 (.t 3)), Og 20 false 22 (.load false 1 (.t 21)), Og 20 false 23 (.call 75 [(.t 22)]), Og 20 false 24 (.un .not (.t 23)), Oo 25 (.pick (.t 20) (.k (.bool true)) (.t 24)), Oo 26 (.mov (.t 25)), Og 26 false 27 (.mov (.t 6)), Og 26 false 28 (.nilc (.t 27)), Og 26 false 29 (.addo 0 (.t 28)), Og 26 false 30 (.addo 1 (.t 29)), Og 26 false 31 (.load false 1 (.t 30)), Og 26 false 32 (.lenL (.t 31)), Og 26 false 33 (.bin .gtr (.t 32) (Ki 0)), Oo 34 (.pick (.t 26) (.k (.bool true)) (.t 33))])
  (.cond (.t 34) (.seq (.region [Oo 35 (.mov (.t 7)), Oo 4 (.mov (.k (.slice none 0 0))), Oo 5 (.mov (.t 35))])
  .ret)
  .skip))
  (.seq (.regR [54] [Oo 36 (.mov (.t 6)), Oo 37 (.addo 1 (.t 3)), Oo 38 (.load false 1 (.t 37)), Oo 39 (.addo 0 (.t 3)), Oo 40 (.load false 1 (.t 39)), Oo 41 (.build [Zi 0, Zi 0] [(0, 1, (.t 38)), (1, 1, (.t 40))]), Oo 42 (.call 54 [(.t 36), (.t 41)]), Oo 4 (.mov (.t 42)), Oo 5 (.mov (Ki 0))])
  .ret)))))
abbrev h24 : HF := ⟨h24c, [.tmp 4, .tmp 5], 43, false⟩
theorem h24_ok : (Tryz.f24.body).bind (compileC Tryz.prog) = some h24c.er := by kernel_rfl
theorem r24_ok : Tryz.f24.results.toList.mapM (retOf Tryz.prog) = some [.tmp 4, .tmp 5] := by kernel_rfl

/-- depository/depositoryref26.Breaks -/
def h25c : HC :=
  (.seq (.region [Oo 2 (.box (.t 0)), Oo 3 (.box (.t 1)), Oo 4 (.mov (.k (.slice none 0 0))), Oo 5 (.mov (Ki 0))])
  (.seq (.seq (.region [Oo 10 (.load true 2 (.t 2)), Oo 11 (.call 30 [(.t 10)]), Oo 6 (.mov (.t 11))])
  (.seq (.region [Oo 12 (.mov (.t 6)), Oo 13 (.bin .neq (.t 12) (Ki 0))])
  (.cond (.t 13) (.seq (.region [Oo 14 (.mov (.t 6)), Oo 4 (.mov (.k (.slice none 0 0))), Oo 5 (.mov (.t 14))])
  .ret)
  .skip)))
  (.seq (.seq (.region [Oo 15 (.load true 2 (.t 2)), Oo 16 (.load true 3 (.t 3)), Oo 17 (.call 73 [(.t 15), (.t 16)]), Oo 7 (.mov (.t 17))])
  (.seq (.region [Oo 18 (.mov (.t 7)), Oo 19 (.bin .neq (.t 18) (Ki 0))])
  (.cond (.t 19) (.seq (.region [Oo 20 (.mov (.t 7)), Oo 4 (.mov (.k (.slice none 0 0))), Oo 5 (.mov (.t 20))])
  .ret)
  .skip)))
  (.seq (.seq (.region [Oo 21 (.addo 0 (.t 3)), Oo 22 (.load false 1 (.t 21)), Oo 23 (.call 76 [(.t 22)]), Oo 24 (.un .not (.t 23)), Oo 25 (.mov (.t 24)), Og 25 false 26 (.addo 1 (.t 2)), Og 25 false 27 (.load false 1 (.t 26)), Og 25 false 28 (.lenL (.t 27)), Og 25 false 29 (.bin .gtr (.t 28) (Ki 0)), Oo 30 (.pick (.t 25) (.k (.bool true)) (.t 29))])
  (.cond (.t 30) (.seq (.region [Oo 4 (.mov (.k (.slice none 0 0))), Oo 5 (.mov (Ki 0))])
  .ret)
  .skip))
  (.seq (.region [Oo 32 (.load true 2 (.t 2)), Oo 33 (.addo 1 (.t 3)), Oo 34 (.load false 1 (.t 33)), Oo 35 (.addo 0 (.t 3)), Oo 36 (.load false 1 (.t 35)), Oo 37 (.call 59 [(.t 32), (.t 34), (.t 36)]), Oo 31 (.mov (.t 37)), Oo 38 (.ext (.t 31) 0), Oo 39 (.ext (.t 31) 1), Oo 8 (.alloc [(.slice none 0 0), (.slice none 0 0)]), On (.store 2 (.t 8) (.t 38)), Oo 9 (.mov (.t 39))])
  (.seq (.region [Oo 40 (.mov (.t 9)), Oo 4 (.mov (.t 40)), Oo 5 (.mov (Ki 0))])
  .ret))))))
abbrev h25 : HF := ⟨h25c, [.tmp 4, .tmp 5], 41, false⟩
theorem h25_ok : (Tryz.f25.body).bind (compileC Tryz.prog) = some h25c.er := by kernel_rfl
theorem r25_ok : Tryz.f25.results.toList.mapM (retOf Tryz.prog) = some [.tmp 4, .tmp 5] := by kernel_rfl

/-- depository/depositoryref26.SameBreaks -/
def h26l0 : HC :=
  (.seq (.seq (.region [Oo 11 (.mov (.t 5)), Oo 12 (.mov (.t 0)), Oo 13 (.lenL (.t 12)), Oo 14 (.bin .lss (.t 11) (.t 13))])
  (.cond (.t 14) .skip
  (.exit 0)))
  (.seq (.block 1 (.seq (.drawn [Qo (Oo 17 (.mov (.t 0))), Qo (Oo 18 (.mov (.t 5))), Qo (Oo 19 (.ixL 2 (.t 17) (.t 18))), Qo (Oo 20 (.load true 2 (.t 19))), Qo (Oo 21 (.mov (.t 1))), Qo (Oo 22 (.mov (.t 5))), Qo (Oo 23 (.ixL 2 (.t 21) (.t 22))), Qo (Oo 24 (.load true 2 (.t 23))), Qo (Oo 25 (.eqs true [.i, .i] (.t 20) (.t 24)))])
  (.cond (.t 25) (.seq (.region [Oo 4 (.mov (.k (.bool false)))])
  .ret)
  .skip)))
  (.region [Oo 15 (.mov (.t 5)), Oo 16 (.bin .add (.t 15) (Ki 1)), Oo 5 (.mov (.t 16))])))
def h26c : HC :=
  (.seq (.region [Oo 4 (.mov (.k (.bool false)))])
  (.seq (.seq (.region [Oo 6 (.mov (.t 0)), Oo 7 (.lenL (.t 6)), Oo 8 (.mov (.t 1)), Oo 9 (.lenL (.t 8)), Oo 10 (.bin .neq (.t 7) (.t 9))])
  (.cond (.t 10) (.seq (.region [Oo 4 (.mov (.k (.bool false)))])
  .ret)
  .skip))
  (.seq (.seq (.region [Oo 5 (.mov (Ki 0))])
  (.block 0 (.loop [0, 0, 3] h26l0)))
  (.seq (.region [Oo 4 (.mov (.k (.bool true)))])
  .ret))))
abbrev h26 : HF := ⟨h26c, [.tmp 4], 26, false⟩
theorem h26_ok : (Tryz.f26.body).bind (compileC Tryz.prog) = some h26c.er := by kernel_rfl
theorem r26_ok : Tryz.f26.results.toList.mapM (retOf Tryz.prog) = some [.tmp 4] := by kernel_rfl

/-- depository/depositoryref26.Err -/
def h30c : HC :=
  (.seq (.region [Oo 1 (.box (.t 0)), Oo 2 (.mov (Ki 0))])
  (.seq (.region [Oo 6 (.load true 2 (.t 1)), Oo 7 (.call 14 [(.t 6)]), Oo 5 (.mov (.t 7)), Oo 8 (.ext (.t 5) 0), Oo 9 (.ext (.t 5) 1), Oo 3 (.mov (.t 8)), Oo 4 (.mov (.t 9))])
  (.seq (.region [Oo 10 (.mov (.t 4)), Oo 2 (.mov (.t 10))])
  .ret)))
abbrev h30 : HF := ⟨h30c, [.tmp 2], 11, false⟩
theorem h30_ok : (Tryz.f30.body).bind (compileC Tryz.prog) = some h30c.er := by kernel_rfl
theorem r30_ok : Tryz.f30.results.toList.mapM (retOf Tryz.prog) = some [.tmp 2] := by kernel_rfl

/-- depository/depositorybase.Ints -/
def h31l0 : HC :=
  (.seq (.seq (.region [Oo 11 (.mov (.t 5)), Oo 12 (.mov (.t 0)), Oo 13 (.lenL (.t 12)), Oo 14 (.bin .lss (.t 11) (.t 13))])
  (.cond (.t 14) .skip
  (.exit 0)))
  (.seq (.block 1 (.seq (.drawn [Qo (Oo 17 (.mov (.t 0))), Qo (Oo 18 (.mov (.t 5))), Qo (Oo 19 (.ixL 1 (.t 17) (.t 18))), Qo (Oo 20 (.load false 1 (.t 19))), Qo (Oo 21 (.mov (.t 1))), Qo (Oo 22 (.mov (.t 5))), Qo (Oo 23 (.ixL 1 (.t 21) (.t 22))), Qo (Oo 24 (.load false 1 (.t 23))), Qo (Oo 25 (.bin .neq (.t 20) (.t 24)))])
  (.cond (.t 25) (.seq (.region [Oo 4 (.mov (.k (.bool false)))])
  .ret)
  .skip)))
  (.region [Oo 15 (.mov (.t 5)), Oo 16 (.bin .add (.t 15) (Ki 1)), Oo 5 (.mov (.t 16))])))
def h31c : HC :=
  (.seq (.region [Oo 4 (.mov (.k (.bool false)))])
  (.seq (.seq (.region [Oo 6 (.mov (.t 0)), Oo 7 (.lenL (.t 6)), Oo 8 (.mov (.t 1)), Oo 9 (.lenL (.t 8)), Oo 10 (.bin .neq (.t 7) (.t 9))])
  (.cond (.t 10) (.seq (.region [Oo 4 (.mov (.k (.bool false)))])
  .ret)
  .skip))
  (.seq (.seq (.region [Oo 5 (.mov (Ki 0))])
  (.block 0 (.loop [0, 0, 3] h31l0)))
  (.seq (.region [Oo 4 (.mov (.k (.bool true)))])
  .ret))))
abbrev h31 : HF := ⟨h31c, [.tmp 4], 26, false⟩
theorem h31_ok : (Tryz.f31.body).bind (compileC Tryz.prog) = some h31c.er := by kernel_rfl
theorem r31_ok : Tryz.f31.results.toList.mapM (retOf Tryz.prog) = some [.tmp 4] := by kernel_rfl

/-- depository/depositoryref26.At -/
def h33l0 : HC :=
  (.seq (.seq (.region [Oo 6 (.mov (.t 5)), Oo 7 (.addo 0 (.t 2)), Oo 8 (.load false 1 (.t 7)), Oo 9 (.lenL (.t 8)), Oo 10 (.bin .lss (.t 6) (.t 9))])
  (.cond (.t 10) .skip
  (.exit 0)))
  (.seq (.block 1 (.seq (.region [Oo 13 (.addo 0 (.t 2)), Oo 14 (.load false 1 (.t 13)), Oo 15 (.mov (.t 5)), Oo 16 (.ixL 3 (.t 14) (.t 15)), Oo 17 (.addo 0 (.t 16)), Oo 18 (.load false 1 (.t 17)), Oo 19 (.mov (.t 1)), Oo 20 (.bin .eql (.t 18) (.t 19))])
  (.cond (.t 20) (.seq (.region [Oo 21 (.mov (.t 5)), Oo 4 (.mov (.t 21))])
  .ret)
  .skip)))
  (.region [Oo 11 (.mov (.t 5)), Oo 12 (.bin .add (.t 11) (Ki 1)), Oo 5 (.mov (.t 12))])))
def h33c : HC :=
  (.seq (.region [Oo 2 (.box (.t 0)), Oo 4 (.mov (Ki 0))])
  (.seq (.seq (.region [Oo 5 (.mov (Ki 0))])
  (.block 0 (.loop [1, 0, 2] h33l0)))
  (.seq (.region [Oo 4 (.mov (Ki (-1)))])
  .ret)))
abbrev h33 : HF := ⟨h33c, [.tmp 4], 22, false⟩
theorem h33_ok : (Tryz.f33.body).bind (compileC Tryz.prog) = some h33c.er := by kernel_rfl
theorem r33_ok : Tryz.f33.results.toList.mapM (retOf Tryz.prog) = some [.tmp 4] := by kernel_rfl

/-- depository/oplocks.FormatFile -/
def h34l0 : HC :=
  (.seq (.region [Oo 13 (.bin .lss (.t 12) (.t 11))])
  (.seq (.cond (.t 13) .skip
  (.exit 0))
  (.seq (.block 1 (.seq (.region [Oo 14 (.ixL 3 (.t 10) (.t 12)), Oo 15 (.load true 3 (.t 14)), Oo 6 (.alloc [Zi 0, Zi 0, Zi 0]), On (.store 3 (.t 6) (.t 15))])
  (.drawn [Qo (Oo 16 (.mov (.t 3))), Qo (Oo 17 (.addo 0 (.t 6))), Qo (Oo 18 (.load false 1 (.t 17))), Qo (Oo 19 (.call 79 [(.t 18)])), Qo (Oo 20 (.bin .add (.t 19) (.k (.string ⟨#[58]⟩)))), Qo (Oo 21 (.addo 1 (.t 6))), Qo (Oo 22 (.load false 1 (.t 21))), Qo (Oo 23 (.call 79 [(.t 22)])), Qo (Oo 24 (.bin .add (.t 20) (.t 23))), Qo (Oo 25 (.bin .add (.t 24) (.k (.string ⟨#[62]⟩)))), Qo (Oo 26 (.addo 2 (.t 6))), Qo (Oo 27 (.load false 1 (.t 26))), Qo (Oo 28 (.call 79 [(.t 27)])), Qo (Oo 29 (.bin .add (.t 25) (.t 28))), Qe (Oo 30 (.bslc 1 1 [(.string ⟨#[]⟩)] [(0, (.t 29))])), Qe (Oo 31 (.app 1 16 [(.string ⟨#[]⟩)] (.t 16) (.t 30))), Qo (Oo 3 (.mov (.t 31)))])))
  (.region [Oo 32 (.bin .add (.t 12) (Ki 1)), Oo 12 (.mov (.t 32))]))))
def h34l1 : HC :=
  (.seq (.region [Oo 37 (.bin .lss (.t 36) (.t 35))])
  (.seq (.cond (.t 37) .skip
  (.exit 2))
  (.seq (.block 3 (.seq (.region [Oo 38 (.ixL 2 (.t 34) (.t 36)), Oo 39 (.load true 2 (.t 38)), Oo 8 (.alloc [Zi 0, Zi 0]), On (.store 2 (.t 8) (.t 39))])
  (.drawn [Qo (Oo 40 (.mov (.t 4))), Qo (Oo 41 (.addo 0 (.t 8))), Qo (Oo 42 (.load false 1 (.t 41))), Qo (Oo 43 (.call 79 [(.t 42)])), Qo (Oo 44 (.addo 1 (.t 8))), Qo (Oo 45 (.load false 1 (.t 44))), Qo (Oo 46 (.call 80 [(.t 45)])), Qo (Oo 47 (.bin .add (.t 43) (.t 46))), Qe (Oo 48 (.bslc 1 1 [(.string ⟨#[]⟩)] [(0, (.t 47))])), Qe (Oo 49 (.app 1 16 [(.string ⟨#[]⟩)] (.t 40) (.t 48))), Qo (Oo 4 (.mov (.t 49)))])))
  (.region [Oo 50 (.bin .add (.t 36) (Ki 1)), Oo 36 (.mov (.t 50))]))))
def h34c : HC :=
  (.seq (.region [Oo 1 (.box (.t 0)), Oo 2 (.mov (.k (.string ⟨#[]⟩)))])
  (.seq (.region [Oo 3 (.mov (.k (.slice none 0 0))), Oo 4 (.mov (.k (.slice none 0 0)))])
  (.gh (.nil 3 1) (.gh (.nil 4 1) (.seq (.seq (.region [Oo 9 (.addo 0 (.t 1)), Oo 10 (.load false 1 (.t 9)), Oo 11 (.lenL (.t 10)), Oo 12 (.mov (Ki 0))])
  (.block 0 (.loop [1, 1, 0, 5, 0, 0] h34l0)))
  (.seq (.seq (.region [Oo 33 (.addo 1 (.t 1)), Oo 34 (.load false 1 (.t 33)), Oo 35 (.lenL (.t 34)), Oo 36 (.mov (Ki 0))])
  (.block 2 (.loop [3, 0, 29, 0, 0] h34l1)))
  (.seq (.region [Oo 51 (.mov (.t 3)), Oo 52 (.call 81 [(.t 51), (.k (.string ⟨#[44]⟩))]), Oo 53 (.bin .add (.t 52) (.k (.string ⟨#[59]⟩))), Oo 54 (.mov (.t 4)), Oo 55 (.call 81 [(.t 54), (.k (.string ⟨#[44]⟩))]), Oo 56 (.bin .add (.t 53) (.t 55)), Oo 2 (.mov (.t 56))])
  .ret)))))))
abbrev h34 : HF := ⟨h34c, [.tmp 2], 57, false⟩
theorem h34_ok : (Tryz.f34.body).bind (compileC Tryz.prog) = some h34c.er := by kernel_rfl
theorem r34_ok : Tryz.f34.results.toList.mapM (retOf Tryz.prog) = some [.tmp 2] := by kernel_rfl

/-- depository/depositorybase.Within -/
def h39c : HC :=
  (.seq (.region [Oo 6 (.mov (.k (.bool false)))])
  (.seq (.region [Oo 7 (.mov (.t 1)), Oo 8 (.mov (.t 0)), Oo 9 (.bin .leq (.t 7) (.t 8)), Oo 10 (.mov (.t 9)), Og 10 true 11 (.mov (.t 0)), Og 10 true 12 (.mov (.t 2)), Og 10 true 13 (.bin .leq (.t 11) (.t 12)), Oo 14 (.pick (.t 10) (.t 13) (.k (.bool false))), Oo 6 (.mov (.t 14))])
  .ret))
abbrev h39 : HF := ⟨h39c, [.tmp 6], 15, false⟩
theorem h39_ok : (Tryz.f39.body).bind (compileC Tryz.prog) = some h39c.er := by kernel_rfl
theorem r39_ok : Tryz.f39.results.toList.mapM (retOf Tryz.prog) = some [.tmp 6] := by kernel_rfl

/-- depository/oplocks.copied -/
def h47c : HC :=
  (.seq (.region [Oo 1 (.box (.t 0)), Oo 2 (.mov (.k (.pointer none)))])
  (.seq (.drawnT [] (.st 0 (.st 1 (.st 3 (.br 2 (.st 4 (.st 5 (.st 6 (.st 7 (.st 8 (.st 9 .nil)))))) (.br 4 (.st 2 (.st 5 (.st 6 (.st 7 (.st 8 (.st 9 .nil)))))) .stop))))) [Oo 3 (.addo 0 (.t 1)), Oo 4 (.load false 1 (.t 3)), Oo 5 (.call 109 [(.t 4)]), Oo 6 (.addo 1 (.t 1)), Oo 7 (.load false 1 (.t 6)), Oo 8 (.call 110 [(.t 7)]), Oo 9 (.build [(.slice none 0 0), (.slice none 0 0)] [(0, 1, (.t 5)), (1, 1, (.t 8))]), Oo 10 (.build [(.slice none 0 0), (.slice none 0 0)] [(0, 2, (.t 9))]), Oo 11 (.box (.t 10)), Oo 2 (.mov (.t 11))])
  .ret))
abbrev h47 : HF := ⟨h47c, [.tmp 2], 12, true⟩
theorem h47_ok : (Tryz.f47.body).bind (compileC Tryz.prog) = some h47c.er := by kernel_rfl
theorem r47_ok : Tryz.f47.results.toList.mapM (retOf Tryz.prog) = some [.tmp 2] := by kernel_rfl

/-- depository/oplocks.each[depository/api.OplockGrant] -/
def h48l0 : HC :=
  (.seq (.region [Oo 12 (.bin .lss (.t 11) (.t 10))])
  (.seq (.cond (.t 12) .skip
  (.exit 0))
  (.seq (.block 1 (.seq (.region [Oo 13 (.mov (.t 11)), Oo 14 (.ixL 3 (.t 9) (.t 11)), Oo 15 (.load true 3 (.t 14)), Oo 7 (.alloc [Zi 0, Zi 0, Zi 0]), Oo 6 (.mov (.t 13)), On (.store 3 (.t 7) (.t 15))])
  (.seq (.region [Oo 16 (.mov (.t 1)), Oo 17 (.mov (.t 6)), Oo 18 (.load true 3 (.t 7)), Oo 19 (.callv (.t 16) [(.t 17), (.t 18)]), Oo 8 (.mov (.t 19))])
  (.seq (.region [Oo 20 (.mov (.t 8)), Oo 21 (.bin .neq (.t 20) (Ki 0))])
  (.cond (.t 21) (.seq (.region [Oo 22 (.mov (.t 6)), Oo 23 (.mov (.t 8)), Oo 4 (.mov (.t 22)), Oo 5 (.mov (.t 23))])
  .ret)
  .skip)))))
  (.region [Oo 24 (.bin .add (.t 11) (Ki 1)), Oo 11 (.mov (.t 24))]))))
def h48c : HC :=
  (.seq (.region [Oo 4 (.mov (Ki 0)), Oo 5 (.mov (Ki 0))])
  (.seq (.seq (.region [Oo 9 (.mov (.t 0)), Oo 10 (.lenL (.t 9)), Oo 11 (.mov (Ki 0))])
  (.block 0 (.loop [1, 7, 0, 0] h48l0)))
  (.seq (.region [Oo 4 (.mov (Ki 0)), Oo 5 (.mov (Ki 0))])
  .ret)))
abbrev h48 : HF := ⟨h48c, [.tmp 4, .tmp 5], 25, false⟩
theorem h48_ok : (Tryz.f48.body).bind (compileC Tryz.prog) = some h48c.er := by kernel_rfl
theorem r48_ok : Tryz.f48.results.toList.mapM (retOf Tryz.prog) = some [.tmp 4, .tmp 5] := by kernel_rfl

/-- depository/oplocks.CheckFile$1 -/
def h49c : HC :=
  (.seq (.region [Oo 4 (.box (.t 1)), Oo 5 (.mov (Ki 0))])
  (.seq (.region [Oo 6 (.load false 1 (.t 2)), Oo 7 (.mov (.t 0)), Oo 8 (.call 50 [(.t 6), (.t 7)]), Oo 5 (.mov (.t 8))])
  .ret))
abbrev h49 : HF := ⟨h49c, [.tmp 5], 9, false⟩
theorem h49_ok : (Tryz.f49.body).bind (compileC Tryz.prog) = some h49c.er := by kernel_rfl
theorem r49_ok : Tryz.f49.results.toList.mapM (retOf Tryz.prog) = some [.tmp 5] := by kernel_rfl

/-- (*depository/oplocks.file).grantErr -/
def h50c : HC :=
  (.seq (.region [Oo 2 (.box (.t 0)), Oo 4 (.mov (Ki 0))])
  (.seq (.region [Oo 9 (.load false 1 (.t 2)), Oo 10 (.nilc (.t 9)), Oo 11 (.addo 0 (.t 10)), Oo 12 (.addo 0 (.t 11)), Oo 13 (.load false 1 (.t 12)), Oo 14 (.mov (.t 1)), Oo 15 (.ixL 3 (.t 13) (.t 14)), Oo 16 (.load true 3 (.t 15)), Oo 5 (.alloc [Zi 0, Zi 0, Zi 0]), On (.store 3 (.t 5) (.t 16))])
  (.seq (.region [Oo 17 (.addo 0 (.t 5)), Oo 18 (.load false 1 (.t 17)), Oo 19 (.call 111 [(.t 18)]), Oo 20 (.mov (.t 19)), Og 20 true 21 (.addo 1 (.t 5)), Og 20 true 22 (.load false 1 (.t 21)), Og 20 true 23 (.call 112 [(.t 22), (Ki 0), (Ki 3)]), Oo 24 (.pick (.t 20) (.t 23) (.k (.bool false))), Oo 25 (.mov (.t 24)), Og 25 true 26 (.addo 2 (.t 5)), Og 25 true 27 (.load false 1 (.t 26)), Og 25 true 28 (.addo 1 (.t 5)), Og 25 true 29 (.load false 1 (.t 28)), Og 25 true 30 (.call 112 [(.t 27), (Ki 0), (.t 29)]), Oo 31 (.pick (.t 25) (.t 30) (.k (.bool false))), Oo 6 (.mov (.t 31))])
  (.seq (.region [Oo 32 (.mkfn 113 [(.t 2), (.t 5)]), Oo 7 (.mov (.t 32))])
  (.seq (.region [Oo 33 (.addo 1 (.t 5)), Oo 34 (.load false 1 (.t 33)), Oo 35 (.bin .geq (.t 34) (Ki 2)), Oo 36 (.mov (.t 35)), Og 36 true 37 (.mov (.t 7)), Og 36 true 38 (.callv (.t 37) [(Ki 1)]), Oo 39 (.pick (.t 36) (.t 38) (.k (.bool false))), Oo 40 (.mov (.t 39)), Og 40 false 41 (.addo 1 (.t 5)), Og 40 false 42 (.load false 1 (.t 41)), Og 40 false 43 (.bin .eql (.t 42) (Ki 3)), Og 40 false 44 (.mov (.t 43)), Og 44 true 45 (.load false 1 (.t 2)), Og 44 true 46 (.nilc (.t 45)), Og 44 true 47 (.addo 0 (.t 46)), Og 44 true 48 (.addo 0 (.t 47)), Og 44 true 49 (.load false 1 (.t 48)), Og 44 true 50 (.mkfn 116 [(.t 5)]), Og 44 true 51 (.call 114 [(.t 49), (.t 50)]), Og 40 false 52 (.pick (.t 44) (.t 51) (.k (.bool false))), Oo 53 (.pick (.t 40) (.k (.bool true)) (.t 52)), Oo 8 (.mov (.t 53))])
  (.seq (.drawn [Qo (Oo 54 (.mov (.t 6))), Qo (Oo 55 (.call 55 [(.t 54), (Ki 2)])), Qo (Oo 56 (.mov (.t 1))), Qo (Oo 57 (.bin .eql (.t 56) (Ki 0))), Qo (Oo 58 (.mov (.t 57))), Qo (Og 58 false 59 (.load false 1 (.t 2))), Qo (Og 58 false 60 (.nilc (.t 59))), Qo (Og 58 false 61 (.addo 0 (.t 60))), Qo (Og 58 false 62 (.addo 0 (.t 61))), Qo (Og 58 false 63 (.load false 1 (.t 62))), Qo (Og 58 false 64 (.mov (.t 1))), Qo (Og 58 false 65 (.bin .sub (.t 64) (Ki 1))), Qo (Og 58 false 66 (.max2 (Ki 0) (.t 65))), Qo (Og 58 false 67 (.ixL 3 (.t 63) (.t 66))), Qo (Og 58 false 68 (.addo 0 (.t 67))), Qo (Og 58 false 69 (.load false 1 (.t 68))), Qo (Og 58 false 70 (.addo 0 (.t 5))), Qo (Og 58 false 71 (.load false 1 (.t 70))), Qo (Og 58 false 72 (.bin .lss (.t 69) (.t 71))), Qo (Oo 73 (.pick (.t 58) (.k (.bool true)) (.t 72))), Qo (Oo 74 (.call 55 [(.t 73), (Ki 9)])), Qo (Oo 75 (.addo 1 (.t 5))), Qo (Oo 76 (.load false 1 (.t 75))), Qo (Oo 77 (.bin .neq (.t 76) (Ki 1))), Qo (Oo 78 (.mov (.t 77))), Qo (Og 78 false 79 (.addo 2 (.t 5))), Qo (Og 78 false 80 (.load false 1 (.t 79))), Qo (Og 78 false 81 (.addo 1 (.t 5))), Qo (Og 78 false 82 (.load false 1 (.t 81))), Qo (Og 78 false 83 (.bin .eql (.t 80) (.t 82))), Qo (Oo 84 (.pick (.t 78) (.k (.bool true)) (.t 83))), Qo (Oo 85 (.call 55 [(.t 84), (Ki 20)])), Qo (Oo 86 (.mov (.t 8))), Qo (Oo 87 (.un .not (.t 86))), Qe (Oo 88 (.call 55 [(.t 87), (Ki 13)])), Qe (Oo 89 (.bslc 1 4 [Zi 0] [(0, (.t 55)), (1, (.t 74)), (2, (.t 85)), (3, (.t 88))])), Qe (Oo 90 (.call 117 [(.t 89)])), Qo (Oo 4 (.mov (.t 90)))])
  .ret))))))
abbrev h50 : HF := ⟨h50c, [.tmp 4], 91, false⟩
theorem h50_ok : (Tryz.f50.body).bind (compileC Tryz.prog) = some h50c.er := by kernel_rfl
theorem r50_ok : Tryz.f50.results.toList.mapM (retOf Tryz.prog) = some [.tmp 4] := by kernel_rfl

/-- depository/oplocks.each[depository/api.OplockWait] -/
def h51l0 : HC :=
  (.seq (.region [Oo 12 (.bin .lss (.t 11) (.t 10))])
  (.seq (.cond (.t 12) .skip
  (.exit 0))
  (.seq (.block 1 (.seq (.region [Oo 13 (.mov (.t 11)), Oo 14 (.ixL 2 (.t 9) (.t 11)), Oo 15 (.load true 2 (.t 14)), Oo 7 (.alloc [Zi 0, Zi 0]), Oo 6 (.mov (.t 13)), On (.store 2 (.t 7) (.t 15))])
  (.seq (.region [Oo 16 (.mov (.t 1)), Oo 17 (.mov (.t 6)), Oo 18 (.load true 2 (.t 7)), Oo 19 (.callv (.t 16) [(.t 17), (.t 18)]), Oo 8 (.mov (.t 19))])
  (.seq (.region [Oo 20 (.mov (.t 8)), Oo 21 (.bin .neq (.t 20) (Ki 0))])
  (.cond (.t 21) (.seq (.region [Oo 22 (.mov (.t 6)), Oo 23 (.mov (.t 8)), Oo 4 (.mov (.t 22)), Oo 5 (.mov (.t 23))])
  .ret)
  .skip)))))
  (.region [Oo 24 (.bin .add (.t 11) (Ki 1)), Oo 11 (.mov (.t 24))]))))
def h51c : HC :=
  (.seq (.region [Oo 4 (.mov (Ki 0)), Oo 5 (.mov (Ki 0))])
  (.seq (.seq (.region [Oo 9 (.mov (.t 0)), Oo 10 (.lenL (.t 9)), Oo 11 (.mov (Ki 0))])
  (.block 0 (.loop [1, 7, 0, 0] h51l0)))
  (.seq (.region [Oo 4 (.mov (Ki 0)), Oo 5 (.mov (Ki 0))])
  .ret)))
abbrev h51 : HF := ⟨h51c, [.tmp 4, .tmp 5], 25, false⟩
theorem h51_ok : (Tryz.f51.body).bind (compileC Tryz.prog) = some h51c.er := by kernel_rfl
theorem r51_ok : Tryz.f51.results.toList.mapM (retOf Tryz.prog) = some [.tmp 4, .tmp 5] := by kernel_rfl

/-- depository/oplocks.CheckFile$2 -/
def h52c : HC :=
  (.seq (.region [Oo 4 (.box (.t 1)), Oo 5 (.mov (Ki 0))])
  (.seq (.region [Oo 6 (.load false 1 (.t 2)), Oo 7 (.mov (.t 0)), Oo 8 (.call 53 [(.t 6), (.t 7)]), Oo 5 (.mov (.t 8))])
  .ret))
abbrev h52 : HF := ⟨h52c, [.tmp 5], 9, false⟩
theorem h52_ok : (Tryz.f52.body).bind (compileC Tryz.prog) = some h52c.er := by kernel_rfl
theorem r52_ok : Tryz.f52.results.toList.mapM (retOf Tryz.prog) = some [.tmp 5] := by kernel_rfl

/-- (*depository/oplocks.file).waitErr -/
def h53c : HC :=
  (.seq (.region [Oo 4 (.mov (Ki 0))])
  (.seq (.region [Oo 8 (.mov (.t 0)), Oo 9 (.nilc (.t 8)), Oo 10 (.addo 0 (.t 9)), Oo 11 (.addo 1 (.t 10)), Oo 12 (.load false 1 (.t 11)), Oo 13 (.mov (.t 1)), Oo 14 (.ixL 2 (.t 12) (.t 13)), Oo 15 (.load true 2 (.t 14)), Oo 5 (.alloc [Zi 0, Zi 0]), On (.store 2 (.t 5) (.t 15))])
  (.seq (.region [Oo 16 (.mov (.t 0)), Oo 17 (.nilc (.t 16)), Oo 18 (.addo 0 (.t 17)), Oo 19 (.addo 1 (.t 18)), Oo 20 (.load false 1 (.t 19)), Oo 21 (.mov (.t 1)), Oo 22 (.slL 2 (.t 20) none (some (.t 21))), Oo 23 (.mkfn 119 [(.t 5)]), Oo 24 (.call 118 [(.t 22), (.t 23)]), Oo 6 (.mov (.t 24))])
  (.seq (.region [Oo 25 (.mov (.t 0)), Oo 26 (.addo 0 (.t 5)), Oo 27 (.load false 1 (.t 26)), Oo 28 (.call 78 [(.t 25), (.t 27)]), Oo 29 (.isnil true true (.t 28)), Oo 7 (.mov (.t 29))])
  (.seq (.drawn [Qo (Oo 30 (.addo 0 (.t 5))), Qo (Oo 31 (.load false 1 (.t 30))), Qo (Oo 32 (.call 111 [(.t 31)])), Qo (Oo 33 (.call 55 [(.t 32), (Ki 2)])), Qo (Oo 34 (.addo 1 (.t 5))), Qo (Oo 35 (.load false 1 (.t 34))), Qo (Oo 36 (.call 75 [(.t 35)])), Qo (Oo 37 (.call 55 [(.t 36), (Ki 15)])), Qo (Oo 38 (.mov (.t 6))), Qo (Oo 39 (.un .not (.t 38))), Qo (Oo 40 (.call 55 [(.t 39), (Ki 23)])), Qo (Oo 41 (.addo 1 (.t 5))), Qo (Oo 42 (.load false 1 (.t 41))), Qo (Oo 43 (.bin .neq (.t 42) (Ki 0))), Qo (Oo 44 (.mov (.t 43))), Qo (Og 44 false 45 (.mov (.t 7))), Qo (Og 44 false 46 (.un .not (.t 45))), Qo (Oo 47 (.pick (.t 44) (.k (.bool true)) (.t 46))), Qo (Oo 48 (.call 55 [(.t 47), (Ki 5)])), Qo (Oo 49 (.addo 1 (.t 5))), Qo (Oo 50 (.load false 1 (.t 49))), Qo (Oo 51 (.bin .eql (.t 50) (Ki 0))), Qo (Oo 52 (.mov (.t 51))), Qo (Og 52 false 53 (.mov (.t 7))), Qo (Oo 54 (.pick (.t 52) (.k (.bool true)) (.t 53))), Qe (Oo 55 (.call 55 [(.t 54), (Ki 6)])), Qe (Oo 56 (.bslc 1 5 [Zi 0] [(0, (.t 33)), (1, (.t 37)), (2, (.t 40)), (3, (.t 48)), (4, (.t 55))])), Qe (Oo 57 (.call 117 [(.t 56)])), Qo (Oo 4 (.mov (.t 57)))])
  .ret)))))
abbrev h53 : HF := ⟨h53c, [.tmp 4], 58, false⟩
theorem h53_ok : (Tryz.f53.body).bind (compileC Tryz.prog) = some h53c.er := by kernel_rfl
theorem r53_ok : Tryz.f53.results.toList.mapM (retOf Tryz.prog) = some [.tmp 4] := by kernel_rfl

/-- (*depository/oplocks.file).breaks -/
def h54l0 : HC :=
  (.seq (.region [Oo 20 (.bin .lss (.t 19) (.t 18))])
  (.seq (.cond (.t 20) .skip
  (.exit 0))
  (.seq (.block 1 (.seq (.region [Oo 21 (.mov (.t 19)), Oo 7 (.mov (.t 21))])
  (.seq (.region [Oo 22 (.mov (.t 0)), Oo 23 (.nilc (.t 22)), Oo 24 (.addo 0 (.t 23)), Oo 25 (.addo 0 (.t 24)), Oo 26 (.load false 1 (.t 25)), Oo 27 (.mov (.t 7)), Oo 28 (.ixL 3 (.t 26) (.t 27)), Oo 8 (.mov (.t 28))])
  (.seq (.block 2 (.seq (.drawn [Qo (Oo 34 (.mov (.t 8))), Qo (Oo 35 (.nilc (.t 34))), Qo (Oo 36 (.addo 0 (.t 35))), Qo (Oo 37 (.load false 1 (.t 36))), Qo (Oo 38 (.addo 0 (.t 3))), Qo (Oo 39 (.load false 1 (.t 38))), Qo (Oo 40 (.bin .eql (.t 37) (.t 39))), Qo (Oo 41 (.mov (.t 40))), Qo (Og 41 false 42 (.mov (.t 8))), Qo (Og 41 false 43 (.nilc (.t 42))), Qo (Og 41 false 44 (.addo 1 (.t 43))), Qo (Og 41 false 45 (.load false 1 (.t 44))), Qo (Og 41 false 46 (.mov (.t 6))), Qo (Og 41 false 47 (.bin .leq (.t 45) (.t 46))), Qo (Oo 48 (.pick (.t 41) (.k (.bool true)) (.t 47))), Qo (Oo 33 (.mov (.t 48)))])
  (.cond (.t 33) (.exit 1)
  (.seq (.region [Oo 50 (.mov (.t 8)), Oo 51 (.nilc (.t 50)), Oo 52 (.addo 1 (.t 51)), Oo 53 (.load false 1 (.t 52)), Oo 54 (.bin .eql (.t 53) (Ki 1)), Oo 49 (.mov (.t 54))])
  (.cond (.t 49) (.region [Oo 55 (.mov (.t 8)), Oo 56 (.mov (.t 8)), Oo 57 (.nilc (.t 55)), Oo 58 (.addo 1 (.t 57)), On (.store 1 (.t 58) (Ki 0)), Oo 59 (.nilc (.t 56)), Oo 60 (.addo 2 (.t 59)), On (.store 1 (.t 60) (Ki 0))])
  (.seq (.region [Oo 62 (.mov (.t 8)), Oo 63 (.nilc (.t 62)), Oo 64 (.addo 2 (.t 63)), Oo 65 (.load false 1 (.t 64)), Oo 66 (.mov (.t 6)), Oo 67 (.bin .leq (.t 65) (.t 66)), Oo 61 (.mov (.t 67))])
  (.cond (.t 61) (.exit 1)
  (.region [Oo 29 (.mov (.t 8)), Oo 30 (.mov (.t 6)), Oo 31 (.nilc (.t 29)), Oo 32 (.addo 2 (.t 31)), On (.store 1 (.t 32) (.t 30))]))))))))
  (.drawn [Qo (Oo 68 (.mov (.t 5))), Qo (Oo 69 (.mov (.t 8))), Qo (Oo 70 (.nilc (.t 69))), Qo (Oo 71 (.addo 0 (.t 70))), Qo (Oo 72 (.load false 1 (.t 71))), Qo (Oo 73 (.mov (.t 8))), Qo (Oo 74 (.nilc (.t 73))), Qo (Oo 75 (.addo 2 (.t 74))), Qo (Oo 76 (.load false 1 (.t 75))), Qo (Oo 77 (.build [Zi 0, Zi 0] [(0, 1, (.t 72)), (1, 1, (.t 76))])), Qe (Oo 78 (.bslc 2 1 [Zi 0, Zi 0] [(0, (.t 77))])), Qe (Oo 79 (.app 2 16 [Zi 0, Zi 0] (.t 68) (.t 78))), Qo (Oo 5 (.mov (.t 79)))])))))
  (.region [Oo 80 (.bin .add (.t 19) (Ki 1)), Oo 19 (.mov (.t 80))]))))
def h54c : HC :=
  (.seq (.region [Oo 3 (.box (.t 1)), Oo 4 (.mov (.k (.slice none 0 0)))])
  (.seq (.region [Oo 5 (.mov (.k (.slice none 0 0)))])
  (.gh (.nil 5 2) (.seq (.region [Oo 9 (.addo 1 (.t 3)), Oo 10 (.load false 1 (.t 9)), Oo 11 (.ixA 4 1 (.g 0) (.t 10)), Oo 12 (.load false 1 (.t 11)), Oo 6 (.mov (.t 12))])
  (.seq (.seq (.region [Oo 13 (.mov (.t 0)), Oo 14 (.nilc (.t 13)), Oo 15 (.addo 0 (.t 14)), Oo 16 (.addo 0 (.t 15)), Oo 17 (.load false 1 (.t 16)), Oo 18 (.lenL (.t 17)), Oo 19 (.mov (Ki 0))])
  (.block 0 (.loop [0, 2, 1, 0, 11, 0] h54l0)))
  (.seq (.region [Oo 81 (.mov (.t 5)), Oo 4 (.mov (.t 81))])
  .ret))))))
abbrev h54 : HF := ⟨h54c, [.tmp 4], 82, false⟩
theorem h54_ok : (Tryz.f54.body).bind (compileC Tryz.prog) = some h54c.er := by kernel_rfl
theorem r54_ok : Tryz.f54.results.toList.mapM (retOf Tryz.prog) = some [.tmp 4] := by kernel_rfl

/-- depository/oplocks.unless -/
def h55c : HC :=
  (.seq (.region [Oo 4 (.mov (Ki 0))])
  (.seq (.seq (.region [Oo 5 (.mov (.t 0))])
  (.cond (.t 5) (.seq (.region [Oo 4 (.mov (Ki 0))])
  .ret)
  .skip))
  (.seq (.region [Oo 6 (.mov (.t 1)), Oo 4 (.mov (.t 6))])
  .ret)))
abbrev h55 : HF := ⟨h55c, [.tmp 4], 7, false⟩
theorem h55_ok : (Tryz.f55.body).bind (compileC Tryz.prog) = some h55c.er := by kernel_rfl
theorem r55_ok : Tryz.f55.results.toList.mapM (retOf Tryz.prog) = some [.tmp 4] := by kernel_rfl

/-- (*depository/oplocks.file).held -/
def h56c : HC :=
  (.seq (.region [Oo 3 (.box (.t 1)), Oo 4 (.mov (.k (.bool false)))])
  (.seq (.region [Oo 5 (.mov (.t 0)), Oo 6 (.nilc (.t 5)), Oo 7 (.addo 0 (.t 6)), Oo 8 (.addo 0 (.t 7)), Oo 9 (.load false 1 (.t 8)), Oo 10 (.mkfn 120 [(.t 3)]), Oo 11 (.call 114 [(.t 9), (.t 10)]), Oo 4 (.mov (.t 11))])
  .ret))
abbrev h56 : HF := ⟨h56c, [.tmp 4], 12, false⟩
theorem h56_ok : (Tryz.f56.body).bind (compileC Tryz.prog) = some h56c.er := by kernel_rfl
theorem r56_ok : Tryz.f56.results.toList.mapM (retOf Tryz.prog) = some [.tmp 4] := by kernel_rfl

/-- depository/depositoryref26.grantErr -/
def h57l0 : HC :=
  (.seq (.seq (.region [Oo 54 (.mov (.t 6)), Oo 55 (.addo 0 (.t 2)), Oo 56 (.load false 1 (.t 55)), Oo 57 (.lenL (.t 56)), Oo 58 (.bin .lss (.t 54) (.t 57))])
  (.cond (.t 58) .skip
  (.exit 0)))
  (.seq (.block 1 (.seq (.drawn [Qo (Oo 61 (.addo 0 (.t 2))), Qo (Oo 62 (.load false 1 (.t 61))), Qo (Oo 63 (.mov (.t 6))), Qo (Oo 64 (.ixL 3 (.t 62) (.t 63))), Qo (Oo 65 (.addo 0 (.t 64))), Qo (Oo 66 (.load false 1 (.t 65))), Qo (Oo 67 (.addo 0 (.t 5))), Qo (Oo 68 (.load false 1 (.t 67))), Qo (Oo 69 (.bin .neq (.t 66) (.t 68))), Qo (Oo 70 (.mov (.t 69))), Qo (Og 70 true 71 (.addo 1 (.t 5))), Qo (Og 70 true 72 (.load false 1 (.t 71))), Qo (Og 70 true 73 (.bin .geq (.t 72) (Ki 2))), Qo (Og 70 true 74 (.mov (.t 73))), Qo (Og 74 true 75 (.addo 0 (.t 2))), Qo (Og 74 true 76 (.load false 1 (.t 75))), Qo (Og 74 true 77 (.mov (.t 6))), Qo (Og 74 true 78 (.ixL 3 (.t 76) (.t 77))), Qo (Og 74 true 79 (.addo 1 (.t 78))), Qo (Og 74 true 80 (.load false 1 (.t 79))), Qo (Og 74 true 81 (.bin .gtr (.t 80) (Ki 0))), Qo (Og 70 true 82 (.pick (.t 74) (.t 81) (.k (.bool false)))), Qo (Og 70 true 83 (.mov (.t 82))), Qo (Og 83 false 84 (.addo 1 (.t 5))), Qo (Og 83 false 85 (.load false 1 (.t 84))), Qo (Og 83 false 86 (.bin .eql (.t 85) (Ki 3))), Qo (Og 70 true 87 (.pick (.t 83) (.k (.bool true)) (.t 86))), Qo (Oo 88 (.pick (.t 70) (.t 87) (.k (.bool false))))])
  (.cond (.t 88) (.seq (.region [Oo 4 (.mov (Ki 13))])
  .ret)
  .skip)))
  (.region [Oo 59 (.mov (.t 6)), Oo 60 (.bin .add (.t 59) (Ki 1)), Oo 6 (.mov (.t 60))])))
def h57c : HC :=
  (.seq (.region [Oo 2 (.box (.t 0)), Oo 4 (.mov (Ki 0))])
  (.seq (.region [Oo 7 (.addo 0 (.t 2)), Oo 8 (.load false 1 (.t 7)), Oo 9 (.mov (.t 1)), Oo 10 (.ixL 3 (.t 8) (.t 9)), Oo 11 (.load true 3 (.t 10)), Oo 5 (.alloc [Zi 0, Zi 0, Zi 0]), On (.store 3 (.t 5) (.t 11))])
  (.seq (.seq (.region [Oo 12 (.addo 0 (.t 5)), Oo 13 (.load false 1 (.t 12)), Oo 14 (.call 121 [(.t 13)]), Oo 15 (.un .not (.t 14)), Oo 16 (.mov (.t 15)), Og 16 false 17 (.addo 1 (.t 5)), Og 16 false 18 (.load false 1 (.t 17)), Og 16 false 19 (.call 39 [(.t 18), (Ki 0), (Ki 3)]), Og 16 false 20 (.un .not (.t 19)), Oo 21 (.pick (.t 16) (.k (.bool true)) (.t 20)), Oo 22 (.mov (.t 21)), Og 22 false 23 (.addo 2 (.t 5)), Og 22 false 24 (.load false 1 (.t 23)), Og 22 false 25 (.addo 1 (.t 5)), Og 22 false 26 (.load false 1 (.t 25)), Og 22 false 27 (.call 39 [(.t 24), (Ki 0), (.t 26)]), Og 22 false 28 (.un .not (.t 27)), Oo 29 (.pick (.t 22) (.k (.bool true)) (.t 28))])
  (.cond (.t 29) (.seq (.region [Oo 4 (.mov (Ki 2))])
  .ret)
  .skip))
  (.seq (.seq (.drawn [Qo (Oo 30 (.mov (.t 1))), Qo (Oo 31 (.bin .gtr (.t 30) (Ki 0))), Qo (Oo 32 (.mov (.t 31))), Qo (Og 32 true 33 (.addo 0 (.t 5))), Qo (Og 32 true 34 (.load false 1 (.t 33))), Qo (Og 32 true 35 (.addo 0 (.t 2))), Qo (Og 32 true 36 (.load false 1 (.t 35))), Qo (Og 32 true 37 (.mov (.t 1))), Qo (Og 32 true 38 (.bin .sub (.t 37) (Ki 1))), Qo (Og 32 true 39 (.ixL 3 (.t 36) (.t 38))), Qo (Og 32 true 40 (.addo 0 (.t 39))), Qo (Og 32 true 41 (.load false 1 (.t 40))), Qo (Og 32 true 42 (.bin .leq (.t 34) (.t 41))), Qo (Oo 43 (.pick (.t 32) (.t 42) (.k (.bool false))))])
  (.cond (.t 43) (.seq (.region [Oo 4 (.mov (Ki 9))])
  .ret)
  .skip))
  (.seq (.seq (.region [Oo 44 (.addo 1 (.t 5)), Oo 45 (.load false 1 (.t 44)), Oo 46 (.bin .eql (.t 45) (Ki 1)), Oo 47 (.mov (.t 46)), Og 47 true 48 (.addo 2 (.t 5)), Og 47 true 49 (.load false 1 (.t 48)), Og 47 true 50 (.addo 1 (.t 5)), Og 47 true 51 (.load false 1 (.t 50)), Og 47 true 52 (.bin .neq (.t 49) (.t 51)), Oo 53 (.pick (.t 47) (.t 52) (.k (.bool false)))])
  (.cond (.t 53) (.seq (.region [Oo 4 (.mov (Ki 20))])
  .ret)
  .skip))
  (.seq (.seq (.region [Oo 6 (.mov (Ki 0))])
  (.block 0 (.loop [2, 2, 0] h57l0)))
  (.seq (.region [Oo 4 (.mov (Ki 0))])
  .ret)))))))
abbrev h57 : HF := ⟨h57c, [.tmp 4], 89, false⟩
theorem h57_ok : (Tryz.f57.body).bind (compileC Tryz.prog) = some h57c.er := by kernel_rfl
theorem r57_ok : Tryz.f57.results.toList.mapM (retOf Tryz.prog) = some [.tmp 4] := by kernel_rfl

/-- depository/depositoryref26.waitErr -/
def h58c : HC :=
  (.seq (.region [Oo 2 (.box (.t 0)), Oo 4 (.mov (Ki 0))])
  (.seq (.region [Oo 6 (.addo 1 (.t 2)), Oo 7 (.load false 1 (.t 6)), Oo 8 (.mov (.t 1)), Oo 9 (.ixL 2 (.t 7) (.t 8)), Oo 10 (.load true 2 (.t 9)), Oo 5 (.alloc [Zi 0, Zi 0]), On (.store 2 (.t 5) (.t 10))])
  (.seq (.seq (.region [Oo 11 (.addo 0 (.t 5)), Oo 12 (.load false 1 (.t 11)), Oo 13 (.call 121 [(.t 12)]), Oo 14 (.un .not (.t 13))])
  (.cond (.t 14) (.seq (.region [Oo 4 (.mov (Ki 2))])
  .ret)
  .skip))
  (.seq (.seq (.region [Oo 15 (.addo 1 (.t 5)), Oo 16 (.load false 1 (.t 15)), Oo 17 (.call 76 [(.t 16)]), Oo 18 (.un .not (.t 17))])
  (.cond (.t 18) (.seq (.region [Oo 4 (.mov (Ki 15))])
  .ret)
  .skip))
  (.seq (.seq (.region [Oo 19 (.load true 2 (.t 2)), Oo 20 (.addo 0 (.t 5)), Oo 21 (.load false 1 (.t 20)), Oo 22 (.call 122 [(.t 19), (.t 21)]), Oo 23 (.mov (.t 1)), Oo 24 (.bin .lss (.t 22) (.t 23))])
  (.cond (.t 24) (.seq (.region [Oo 4 (.mov (Ki 23))])
  .ret)
  .skip))
  (.seq (.seq (.region [Oo 25 (.addo 1 (.t 5)), Oo 26 (.load false 1 (.t 25)), Oo 27 (.bin .eql (.t 26) (Ki 0)), Oo 28 (.mov (.t 27)), Og 28 true 29 (.load true 2 (.t 2)), Og 28 true 30 (.addo 0 (.t 5)), Og 28 true 31 (.load false 1 (.t 30)), Og 28 true 32 (.call 33 [(.t 29), (.t 31)]), Og 28 true 33 (.bin .geq (.t 32) (Ki 0)), Oo 34 (.pick (.t 28) (.t 33) (.k (.bool false)))])
  (.cond (.t 34) (.seq (.region [Oo 4 (.mov (Ki 5))])
  .ret)
  .skip))
  (.seq (.seq (.region [Oo 35 (.addo 1 (.t 5)), Oo 36 (.load false 1 (.t 35)), Oo 37 (.bin .neq (.t 36) (Ki 0)), Oo 38 (.mov (.t 37)), Og 38 true 39 (.load true 2 (.t 2)), Og 38 true 40 (.addo 0 (.t 5)), Og 38 true 41 (.load false 1 (.t 40)), Og 38 true 42 (.call 33 [(.t 39), (.t 41)]), Og 38 true 43 (.bin .lss (.t 42) (Ki 0)), Oo 44 (.pick (.t 38) (.t 43) (.k (.bool false)))])
  (.cond (.t 44) (.seq (.region [Oo 4 (.mov (Ki 6))])
  .ret)
  .skip))
  (.seq (.region [Oo 4 (.mov (Ki 0))])
  .ret))))))))
abbrev h58 : HF := ⟨h58c, [.tmp 4], 45, false⟩
theorem h58_ok : (Tryz.f58.body).bind (compileC Tryz.prog) = some h58c.er := by kernel_rfl
theorem r58_ok : Tryz.f58.results.toList.mapM (retOf Tryz.prog) = some [.tmp 4] := by kernel_rfl

/-- depository/depositoryref26.Broken -/
def h59l0 : HC :=
  (.seq (.seq (.region [Oo 17 (.mov (.t 11)), Oo 18 (.addo 0 (.t 8)), Oo 19 (.load false 1 (.t 18)), Oo 20 (.lenL (.t 19)), Oo 21 (.bin .lss (.t 17) (.t 20))])
  (.cond (.t 21) .skip
  (.exit 0)))
  (.seq (.block 1 (.seq (.region [Oo 24 (.addo 0 (.t 8)), Oo 25 (.load false 1 (.t 24)), Oo 26 (.mov (.t 11)), Oo 27 (.ixL 3 (.t 25) (.t 26)), Oo 28 (.load true 3 (.t 27)), Oo 12 (.alloc [Zi 0, Zi 0, Zi 0]), On (.store 3 (.t 12) (.t 28))])
  (.seq (.seq (.region [Oo 29 (.addo 0 (.t 12)), Oo 30 (.load false 1 (.t 29)), Oo 31 (.mov (.t 1)), Oo 32 (.bin .eql (.t 30) (.t 31)), Oo 33 (.mov (.t 32)), Og 33 false 34 (.addo 1 (.t 12)), Og 33 false 35 (.load false 1 (.t 34)), Og 33 false 36 (.mov (.t 10)), Og 33 false 37 (.bin .leq (.t 35) (.t 36)), Oo 38 (.pick (.t 33) (.k (.bool true)) (.t 37))])
  (.cond (.t 38) (.exit 1)
  .skip))
  (.seq (.region [Oo 39 (.addo 1 (.t 12)), Oo 40 (.load false 1 (.t 39)), Oo 41 (.bin .eql (.t 40) (Ki 1))])
  (.cond (.t 41) (.seq (.region [Oo 42 (.addo 0 (.t 8)), Oo 43 (.load false 1 (.t 42)), Oo 44 (.mov (.t 11)), Oo 45 (.addo 0 (.t 12)), Oo 46 (.load false 1 (.t 45)), Oo 47 (.build [Zi 0, Zi 0, Zi 0] [(0, 1, (.t 46))]), Oo 48 (.ixL 3 (.t 43) (.t 44)), On (.store 3 (.t 48) (.t 47))])
  (.region [Oo 49 (.mov (.t 9)), Oo 50 (.addo 0 (.t 12)), Oo 51 (.load false 1 (.t 50)), Oo 52 (.build [Zi 0, Zi 0] [(0, 1, (.t 51)), (1, 1, (Ki 0))]), Oo 53 (.bslc 2 1 [Zi 0, Zi 0] [(0, (.t 52))]), Oo 54 (.app 2 16 [Zi 0, Zi 0] (.t 49) (.t 53)), Oo 9 (.mov (.t 54))]))
  (.seq (.region [Oo 55 (.addo 2 (.t 12)), Oo 56 (.load false 1 (.t 55)), Oo 57 (.mov (.t 10)), Oo 58 (.bin .gtr (.t 56) (.t 57))])
  (.cond (.t 58) (.seq (.region [Oo 59 (.addo 0 (.t 8)), Oo 60 (.load false 1 (.t 59)), Oo 61 (.mov (.t 11)), Oo 62 (.mov (.t 10)), Oo 63 (.ixL 3 (.t 60) (.t 61)), Oo 64 (.addo 2 (.t 63)), On (.store 1 (.t 64) (.t 62))])
  (.region [Oo 65 (.mov (.t 9)), Oo 66 (.addo 0 (.t 12)), Oo 67 (.load false 1 (.t 66)), Oo 68 (.mov (.t 10)), Oo 69 (.build [Zi 0, Zi 0] [(0, 1, (.t 67)), (1, 1, (.t 68))]), Oo 70 (.bslc 2 1 [Zi 0, Zi 0] [(0, (.t 69))]), Oo 71 (.app 2 16 [Zi 0, Zi 0] (.t 65) (.t 70)), Oo 9 (.mov (.t 71))]))
  .skip)))))))
  (.region [Oo 22 (.mov (.t 11)), Oo 23 (.bin .add (.t 22) (Ki 1)), Oo 11 (.mov (.t 23))])))
def h59c : HC :=
  (.seq (.region [Oo 3 (.box (.t 0)), Oo 6 (.alloc [(.slice none 0 0), (.slice none 0 0)]), Oo 7 (.mov (.k (.slice none 0 0)))])
  (.seq (.region [Oo 13 (.load true 2 (.t 3)), Oo 14 (.call 13 [(.t 13)]), Oo 8 (.alloc [(.slice none 0 0), (.slice none 0 0)]), On (.store 2 (.t 8) (.t 14))])
  (.seq (.region [Oo 9 (.mov (.k (.slice none 0 0)))])
  (.gh (.nil 9 2) (.seq (.region [Oo 15 (.mov (.t 2)), Oo 16 (.call 123 [(.t 15)]), Oo 10 (.mov (.t 16))])
  (.seq (.seq (.region [Oo 11 (.mov (Ki 0))])
  (.block 0 (.loop [1, 4, 1, 0, 0, 0] h59l0)))
  (.seq (.region [Oo 72 (.load true 2 (.t 8)), Oo 73 (.mov (.t 9)), On (.store 2 (.t 6) (.t 72)), Oo 7 (.mov (.t 73))])
  .ret)))))))
abbrev h59 : HF := ⟨h59c, [.cell 6 true 2, .tmp 7], 74, true⟩
theorem h59_ok : (Tryz.f59.body).bind (compileC Tryz.prog) = some h59c.er := by kernel_rfl
theorem r59_ok : Tryz.f59.results.toList.mapM (retOf Tryz.prog) = some [.cell 6 true 2, .tmp 7] := by kernel_rfl

/-- depository/depositoryref26.HeldUp -/
def h60l0 : HC :=
  (.seq (.seq (.region [Oo 8 (.mov (.t 7)), Oo 9 (.addo 0 (.t 3)), Oo 10 (.load false 1 (.t 9)), Oo 11 (.lenL (.t 10)), Oo 12 (.bin .lss (.t 8) (.t 11))])
  (.cond (.t 12) .skip
  (.exit 0)))
  (.seq (.block 1 (.seq (.drawn [Qo (Oo 15 (.addo 0 (.t 3))), Qo (Oo 16 (.load false 1 (.t 15))), Qo (Oo 17 (.mov (.t 7))), Qo (Oo 18 (.ixL 3 (.t 16) (.t 17))), Qo (Oo 19 (.addo 0 (.t 18))), Qo (Oo 20 (.load false 1 (.t 19))), Qo (Oo 21 (.mov (.t 1))), Qo (Oo 22 (.bin .neq (.t 20) (.t 21))), Qo (Oo 23 (.mov (.t 22))), Qo (Og 23 true 24 (.addo 0 (.t 3))), Qo (Og 23 true 25 (.load false 1 (.t 24))), Qo (Og 23 true 26 (.mov (.t 7))), Qo (Og 23 true 27 (.ixL 3 (.t 25) (.t 26))), Qo (Og 23 true 28 (.addo 1 (.t 27))), Qo (Og 23 true 29 (.load false 1 (.t 28))), Qo (Og 23 true 30 (.mov (.t 2))), Qo (Og 23 true 31 (.call 123 [(.t 30)])), Qo (Og 23 true 32 (.bin .gtr (.t 29) (.t 31))), Qo (Oo 33 (.pick (.t 23) (.t 32) (.k (.bool false))))])
  (.cond (.t 33) (.seq (.region [Oo 6 (.mov (.k (.bool true)))])
  .ret)
  .skip)))
  (.region [Oo 13 (.mov (.t 7)), Oo 14 (.bin .add (.t 13) (Ki 1)), Oo 7 (.mov (.t 14))])))
def h60c : HC :=
  (.seq (.region [Oo 3 (.box (.t 0)), Oo 6 (.mov (.k (.bool false)))])
  (.seq (.seq (.region [Oo 7 (.mov (Ki 0))])
  (.block 0 (.loop [1, 0, 0, 3] h60l0)))
  (.seq (.region [Oo 6 (.mov (.k (.bool false)))])
  .ret)))
abbrev h60 : HF := ⟨h60c, [.tmp 6], 34, false⟩
theorem h60_ok : (Tryz.f60.body).bind (compileC Tryz.prog) = some h60c.er := by kernel_rfl
theorem r60_ok : Tryz.f60.results.toList.mapM (retOf Tryz.prog) = some [.tmp 6] := by kernel_rfl

/-- depository/oplocks.each[depository/api.OplockAct] -/
def h61l0 : HC :=
  (.seq (.region [Oo 12 (.bin .lss (.t 11) (.t 10))])
  (.seq (.cond (.t 12) .skip
  (.exit 0))
  (.seq (.block 1 (.seq (.region [Oo 13 (.mov (.t 11)), Oo 14 (.ixL 3 (.t 9) (.t 11)), Oo 15 (.load true 3 (.t 14)), Oo 7 (.alloc [Zi 0, Zi 0, Zi 0]), Oo 6 (.mov (.t 13)), On (.store 3 (.t 7) (.t 15))])
  (.seq (.region [Oo 16 (.mov (.t 1)), Oo 17 (.mov (.t 6)), Oo 18 (.load true 3 (.t 7)), Oo 19 (.callv (.t 16) [(.t 17), (.t 18)]), Oo 8 (.mov (.t 19))])
  (.seq (.region [Oo 20 (.mov (.t 8)), Oo 21 (.bin .neq (.t 20) (Ki 0))])
  (.cond (.t 21) (.seq (.region [Oo 22 (.mov (.t 6)), Oo 23 (.mov (.t 8)), Oo 4 (.mov (.t 22)), Oo 5 (.mov (.t 23))])
  .ret)
  .skip)))))
  (.region [Oo 24 (.bin .add (.t 11) (Ki 1)), Oo 11 (.mov (.t 24))]))))
def h61c : HC :=
  (.seq (.region [Oo 4 (.mov (Ki 0)), Oo 5 (.mov (Ki 0))])
  (.seq (.seq (.region [Oo 9 (.mov (.t 0)), Oo 10 (.lenL (.t 9)), Oo 11 (.mov (Ki 0))])
  (.block 0 (.loop [1, 7, 0, 0] h61l0)))
  (.seq (.region [Oo 4 (.mov (Ki 0)), Oo 5 (.mov (Ki 0))])
  .ret)))
abbrev h61 : HF := ⟨h61c, [.tmp 4, .tmp 5], 25, false⟩
theorem h61_ok : (Tryz.f61.body).bind (compileC Tryz.prog) = some h61c.er := by kernel_rfl
theorem r61_ok : Tryz.f61.results.toList.mapM (retOf Tryz.prog) = some [.tmp 4, .tmp 5] := by kernel_rfl

/-- depository/oplocks.RunOf$1 -/
def h62c : HC :=
  (.seq (.region [Oo 5 (.box (.t 1)), Oo 6 (.mov (Ki 0))])
  (.seq (.regR [63, 100063] [Oo 8 (.load false 1 (.t 2)), Oo 9 (.load true 3 (.t 5)), Oo 10 (.call 63 [(.t 8), (.t 9)]), Oo 7 (.mov (.t 10))])
  (.seq (.seq (.region [Oo 11 (.mov (.t 7)), Oo 12 (.bin .eql (.t 11) (Ki 0))])
  (.cond (.t 12) (.drawnT [64] (.st 1 (.st 2 (.br 0 (.st 3 (.st 4 (.st 5 (.st 6 .nil)))) (.br 3 (.br 0 (.st 4 (.st 5 (.st 6 .nil))) (.br 4 (.st 0 (.st 5 (.st 6 .nil))) .stop)) .stop)))) [Oo 13 (.load false 1 (.t 3)), Oo 14 (.load false 1 (.t 2)), Oo 15 (.load true 3 (.t 5)), Oo 16 (.call 64 [(.t 14), (.t 15)]), Oo 17 (.bslc 3 1 [(.bool false), (.slice none 0 0), (.slice none 0 0)] [(0, (.t 16))]), Oo 18 (.app 3 56 [(.bool false), (.slice none 0 0), (.slice none 0 0)] (.t 13) (.t 17)), On (.store 1 (.t 3) (.t 18))])
  .skip))
  (.seq (.region [Oo 19 (.mov (.t 7)), Oo 6 (.mov (.t 19))])
  .ret))))
abbrev h62 : HF := ⟨h62c, [.tmp 6], 20, false⟩
theorem h62_ok : (Tryz.f62.body).bind (compileC Tryz.prog) = some h62c.er := by kernel_rfl
theorem r62_ok : Tryz.f62.results.toList.mapM (retOf Tryz.prog) = some [.tmp 6] := by kernel_rfl

/-- (*depository/oplocks.file).actErr -/
def h63c : HC :=
  (.seq (.region [Oo 3 (.box (.t 1)), Oo 4 (.mov (Ki 0))])
  (.seq (.seq (.region [Oo 9 (.mov (.t 0)), Oo 10 (.load true 3 (.t 3)), Oo 11 (.call 124 [(.t 9), (.t 10)]), Oo 5 (.mov (.t 11))])
  (.seq (.region [Oo 12 (.mov (.t 5)), Oo 13 (.bin .neq (.t 12) (Ki 0))])
  (.cond (.t 13) (.seq (.region [Oo 14 (.mov (.t 5)), Oo 4 (.mov (.t 14))])
  .ret)
  .skip)))
  (.seq (.seq (.region [Oo 15 (.mov (.t 0)), Oo 16 (.addo 1 (.t 3)), Oo 17 (.load false 1 (.t 16)), Oo 18 (.call 78 [(.t 15), (.t 17)]), Oo 6 (.mov (.t 18))])
  (.seq (.region [Oo 19 (.mov (.t 6)), Oo 20 (.isnil true true (.t 19))])
  (.cond (.t 20) (.seq (.drawn [Qo (Oo 21 (.mov (.t 6))), Qo (Oo 22 (.nilc (.t 21))), Qo (Oo 23 (.addo 2 (.t 22))), Qo (Oo 24 (.load false 1 (.t 23))), Qo (Oo 25 (.mov (.t 6))), Qo (Oo 26 (.nilc (.t 25))), Qo (Oo 27 (.addo 1 (.t 26))), Qo (Oo 28 (.load false 1 (.t 27))), Qo (Oo 29 (.bin .neq (.t 24) (.t 28))), Qo (Oo 7 (.mov (.t 29)))])
  (.seq (.region [Oo 30 (.mov (.t 7)), Oo 8 (.mov (.t 30))])
  (.seq (.seq (.region [Oo 31 (.addo 0 (.t 3)), Oo 32 (.load false 1 (.t 31))])
  (.block 0 (.seq (.region [Oo 34 (.bin .eql (.t 32) (Ki 4)), Oo 33 (.mov (.t 34))])
  (.cond (.t 33) (.region [Oo 35 (.mov (.t 7)), Oo 36 (.un .not (.t 35)), Oo 8 (.mov (.t 36))])
  (.seq (.region [Oo 38 (.bin .eql (.t 32) (Ki 5)), Oo 37 (.mov (.t 38))])
  (.cond (.t 37) (.region [Oo 8 (.mov (.k (.bool false)))])
  (.seq (.region [Oo 40 (.bin .eql (.t 32) (Ki 1)), Oo 39 (.mov (.t 40))])
  (.cond (.t 39) (.drawn [Qo (Oo 41 (.mov (.t 7))), Qo (Oo 42 (.mov (.t 41))), Qo (Og 42 false 43 (.addo 2 (.t 3))), Qo (Og 42 false 44 (.load false 1 (.t 43))), Qo (Og 42 false 45 (.mov (.t 6))), Qo (Og 42 false 46 (.nilc (.t 45))), Qo (Og 42 false 47 (.addo 1 (.t 46))), Qo (Og 42 false 48 (.load false 1 (.t 47))), Qo (Og 42 false 49 (.bin .leq (.t 44) (.t 48))), Qo (Oo 50 (.pick (.t 42) (.k (.bool true)) (.t 49))), Qo (Oo 8 (.mov (.t 50)))])
  .skip))))))))
  (.seq (.region [Oo 51 (.mov (.t 8))])
  (.cond (.t 51) (.seq (.region [Oo 4 (.mov (Ki 20))])
  .ret)
  .skip)))))
  .skip)))
  (.seq (.seq (.region [Oo 52 (.addo 0 (.t 3)), Oo 53 (.load false 1 (.t 52)), Oo 54 (.bin .eql (.t 53) (Ki 1)), Oo 55 (.mov (.t 54)), Og 55 true 56 (.mov (.t 0)), Og 55 true 57 (.load true 3 (.t 3)), Og 55 true 58 (.call 125 [(.t 56), (.t 57)]), Og 55 true 59 (.un .not (.t 58)), Oo 60 (.pick (.t 55) (.t 59) (.k (.bool false)))])
  (.cond (.t 60) (.seq (.region [Oo 4 (.mov (Ki 24))])
  .ret)
  .skip))
  (.seq (.seq (.region [Oo 61 (.addo 0 (.t 3)), Oo 62 (.load false 1 (.t 61)), Oo 63 (.call 75 [(.t 62)]), Oo 64 (.mov (.t 63)), Og 64 true 65 (.mov (.t 0)), Og 64 true 66 (.nilc (.t 65)), Og 64 true 67 (.addo 0 (.t 66)), Og 64 true 68 (.addo 1 (.t 67)), Og 64 true 69 (.load false 1 (.t 68)), Og 64 true 70 (.lenL (.t 69)), Og 64 true 71 (.bin .eql (.t 70) (Ki 8)), Oo 72 (.pick (.t 64) (.t 71) (.k (.bool false)))])
  (.cond (.t 72) (.seq (.region [Oo 4 (.mov (Ki 16))])
  .ret)
  .skip))
  (.seq (.region [Oo 4 (.mov (Ki 0))])
  .ret))))))
abbrev h63 : HF := ⟨h63c, [.tmp 4], 73, false⟩
theorem h63_ok : (Tryz.f63.body).bind (compileC Tryz.prog) = some h63c.er := by kernel_rfl
theorem r63_ok : Tryz.f63.results.toList.mapM (retOf Tryz.prog) = some [.tmp 4] := by kernel_rfl

/-- (*depository/oplocks.file).step -/
def h64c : HC :=
  (.seq (.region [Oo 3 (.box (.t 1)), Oo 4 (.alloc [(.bool false), (.slice none 0 0), (.slice none 0 0)])])
  (.seq (.region [Oo 8 (.build [(.bool false), (.slice none 0 0), (.slice none 0 0)] [(0, 1, (.k (.bool true)))]), Oo 5 (.alloc [(.bool false), (.slice none 0 0), (.slice none 0 0)]), On (.store 3 (.t 5) (.t 8))])
  (.seq (.regR [126, 100126] [Oo 10 (.mov (.t 0)), Oo 11 (.addo 1 (.t 3)), Oo 12 (.load false 1 (.t 11)), Oo 13 (.call 126 [(.t 10), (.t 12)]), Oo 9 (.mov (.t 13)), Oo 14 (.ext (.t 9) 0), Oo 15 (.ext (.t 9) 1), Oo 6 (.mov (.t 14)), Oo 7 (.mov (.t 15))])
  (.seq (.seq (.region [Oo 16 (.addo 0 (.t 3)), Oo 17 (.load false 1 (.t 16))])
  (.block 0 (.seq (.region [Oo 31 (.bin .eql (.t 17) (Ki 1)), Oo 30 (.mov (.t 31))])
  (.cond (.t 30) (.drawnT [] (.st 0 (.st 1 (.st 2 (.st 3 (.st 4 (.st 5 (.st 6 (.st 7 (.st 8 (.st 9 (.st 10 (.st 11 (.st 12 (.st 13 (.st 14 (.st 16 (.st 17 (.br 15 (.st 18 (.st 19 (.st 20 (.st 21 .nil)))) (.br 18 (.st 15 (.st 19 (.st 20 (.st 21 .nil)))) .stop))))))))))))))))))) [Oo 32 (.mov (.t 0)), Oo 33 (.nilc (.t 32)), Oo 34 (.addo 0 (.t 33)), Oo 35 (.addo 0 (.t 34)), Oo 36 (.load false 1 (.t 35)), Oo 37 (.mov (.t 6)), Oo 38 (.mov (.t 0)), Oo 39 (.nilc (.t 38)), Oo 40 (.addo 0 (.t 39)), Oo 41 (.addo 0 (.t 40)), Oo 42 (.load false 1 (.t 41)), Oo 43 (.mov (.t 6)), Oo 44 (.addo 2 (.t 3)), Oo 45 (.load false 1 (.t 44)), Oo 46 (.addo 2 (.t 3)), Oo 47 (.load false 1 (.t 46)), Oo 48 (.ixL 3 (.t 36) (.t 37)), Oo 49 (.addo 1 (.t 48)), On (.store 1 (.t 49) (.t 45)), Oo 50 (.ixL 3 (.t 42) (.t 43)), Oo 51 (.addo 2 (.t 50)), On (.store 1 (.t 51) (.t 47))])
  (.seq (.region [Oo 53 (.bin .eql (.t 17) (Ki 4)), Oo 52 (.mov (.t 53))])
  (.cond (.t 52) (.seq (.drawnT [] (.st 0 (.st 1 (.st 2 (.st 3 (.st 4 (.st 5 (.st 6 (.st 7 (.st 8 (.st 9 (.st 10 (.st 11 (.st 12 (.st 13 (.st 14 (.st 15 (.st 16 (.st 17 .nil)))))))))))))))))) [Oo 54 (.mov (.t 0)), Oo 55 (.nilc (.t 54)), Oo 56 (.addo 0 (.t 55)), Oo 57 (.addo 0 (.t 56)), Oo 58 (.load false 1 (.t 57)), Oo 59 (.mov (.t 6)), Oo 60 (.mov (.t 0)), Oo 61 (.nilc (.t 60)), Oo 62 (.addo 0 (.t 61)), Oo 63 (.addo 0 (.t 62)), Oo 64 (.load false 1 (.t 63)), Oo 65 (.mov (.t 6)), Oo 66 (.ixL 3 (.t 64) (.t 65)), Oo 67 (.addo 2 (.t 66)), Oo 68 (.load false 1 (.t 67)), Oo 69 (.ixL 3 (.t 58) (.t 59)), Oo 70 (.addo 1 (.t 69)), On (.store 1 (.t 70) (.t 68))])
  (.regR [127] [Oo 72 (.mov (.t 0)), Oo 73 (.call 127 [(.t 72)]), Oo 71 (.mov (.t 73)), Oo 74 (.ext (.t 71) 0), Oo 75 (.ext (.t 71) 1), Oo 76 (.addo 1 (.t 5)), On (.store 1 (.t 76) (.t 74)), Oo 77 (.addo 2 (.t 5)), On (.store 1 (.t 77) (.t 75))]))
  (.seq (.region [Oo 79 (.bin .eql (.t 17) (Ki 5)), Oo 78 (.mov (.t 79))])
  (.cond (.t 78) (.seq (.regR [128] [Oo 80 (.mov (.t 0)), Oo 81 (.mov (.t 0)), Oo 82 (.nilc (.t 81)), Oo 83 (.addo 0 (.t 82)), Oo 84 (.addo 0 (.t 83)), Oo 85 (.load false 1 (.t 84)), Oo 86 (.mov (.t 6)), Oo 87 (.mov (.t 6)), Oo 88 (.bin .add (.t 87) (Ki 1)), Oo 89 (.call 128 [(.t 85), (.t 86), (.t 88)]), Oo 90 (.nilc (.t 80)), Oo 91 (.addo 0 (.t 90)), Oo 92 (.addo 0 (.t 91)), On (.store 1 (.t 92) (.t 89))])
  (.regR [127] [Oo 94 (.mov (.t 0)), Oo 95 (.call 127 [(.t 94)]), Oo 93 (.mov (.t 95)), Oo 96 (.ext (.t 93) 0), Oo 97 (.ext (.t 93) 1), Oo 98 (.addo 1 (.t 5)), On (.store 1 (.t 98) (.t 96)), Oo 99 (.addo 2 (.t 5)), On (.store 1 (.t 99) (.t 97))]))
  (.regR [129] [Oo 19 (.mov (.t 0)), Oo 20 (.addo 1 (.t 3)), Oo 21 (.load false 1 (.t 20)), Oo 22 (.addo 0 (.t 3)), Oo 23 (.load false 1 (.t 22)), Oo 24 (.build [Zi 0, Zi 0] [(0, 1, (.t 21)), (1, 1, (.t 23))]), Oo 25 (.call 129 [(.t 19), (.t 24)]), Oo 18 (.mov (.t 25)), Oo 26 (.ext (.t 18) 0), Oo 27 (.ext (.t 18) 1), Oo 28 (.addo 0 (.t 5)), On (.store 1 (.t 28) (.t 26)), Oo 29 (.addo 1 (.t 5)), On (.store 1 (.t 29) (.t 27))])))))))))
  (.seq (.region [Oo 100 (.load true 3 (.t 5)), On (.store 3 (.t 4) (.t 100))])
  .ret)))))
abbrev h64 : HF := ⟨h64c, [.cell 4 true 3], 101, false⟩
theorem h64_ok : (Tryz.f64.body).bind (compileC Tryz.prog) = some h64c.er := by kernel_rfl
theorem r64_ok : Tryz.f64.results.toList.mapM (retOf Tryz.prog) = some [.cell 4 true 3] := by kernel_rfl

/-- depository/depositoryref26.sameWaits -/
def h65l0 : HC :=
  (.seq (.seq (.region [Oo 11 (.mov (.t 5)), Oo 12 (.mov (.t 0)), Oo 13 (.lenL (.t 12)), Oo 14 (.bin .lss (.t 11) (.t 13))])
  (.cond (.t 14) .skip
  (.exit 0)))
  (.seq (.block 1 (.seq (.drawn [Qo (Oo 17 (.mov (.t 0))), Qo (Oo 18 (.mov (.t 5))), Qo (Oo 19 (.ixL 2 (.t 17) (.t 18))), Qo (Oo 20 (.load true 2 (.t 19))), Qo (Oo 21 (.mov (.t 1))), Qo (Oo 22 (.mov (.t 5))), Qo (Oo 23 (.ixL 2 (.t 21) (.t 22))), Qo (Oo 24 (.load true 2 (.t 23))), Qo (Oo 25 (.eqs true [.i, .i] (.t 20) (.t 24)))])
  (.cond (.t 25) (.seq (.region [Oo 4 (.mov (.k (.bool false)))])
  .ret)
  .skip)))
  (.region [Oo 15 (.mov (.t 5)), Oo 16 (.bin .add (.t 15) (Ki 1)), Oo 5 (.mov (.t 16))])))
def h65c : HC :=
  (.seq (.region [Oo 4 (.mov (.k (.bool false)))])
  (.seq (.seq (.region [Oo 6 (.mov (.t 0)), Oo 7 (.lenL (.t 6)), Oo 8 (.mov (.t 1)), Oo 9 (.lenL (.t 8)), Oo 10 (.bin .neq (.t 7) (.t 9))])
  (.cond (.t 10) (.seq (.region [Oo 4 (.mov (.k (.bool false)))])
  .ret)
  .skip))
  (.seq (.seq (.region [Oo 5 (.mov (Ki 0))])
  (.block 0 (.loop [0, 0, 3] h65l0)))
  (.seq (.region [Oo 4 (.mov (.k (.bool true)))])
  .ret))))
abbrev h65 : HF := ⟨h65c, [.tmp 4], 26, false⟩
theorem h65_ok : (Tryz.f65.body).bind (compileC Tryz.prog) = some h65c.er := by kernel_rfl
theorem r65_ok : Tryz.f65.results.toList.mapM (retOf Tryz.prog) = some [.tmp 4] := by kernel_rfl

/-- depository/oplocks.each[depository/api.OplockUse] -/
def h66l0 : HC :=
  (.seq (.region [Oo 12 (.bin .lss (.t 11) (.t 10))])
  (.seq (.cond (.t 12) .skip
  (.exit 0))
  (.seq (.block 1 (.seq (.region [Oo 13 (.mov (.t 11)), Oo 14 (.ixL 4 (.t 9) (.t 11)), Oo 15 (.load true 4 (.t 14)), Oo 7 (.alloc [Zi 0, Zi 0, Zi 0, Zi 0]), Oo 6 (.mov (.t 13)), On (.store 4 (.t 7) (.t 15))])
  (.seq (.region [Oo 16 (.mov (.t 1)), Oo 17 (.mov (.t 6)), Oo 18 (.load true 4 (.t 7)), Oo 19 (.callv (.t 16) [(.t 17), (.t 18)]), Oo 8 (.mov (.t 19))])
  (.seq (.region [Oo 20 (.mov (.t 8)), Oo 21 (.bin .neq (.t 20) (Ki 0))])
  (.cond (.t 21) (.seq (.region [Oo 22 (.mov (.t 6)), Oo 23 (.mov (.t 8)), Oo 4 (.mov (.t 22)), Oo 5 (.mov (.t 23))])
  .ret)
  .skip)))))
  (.region [Oo 24 (.bin .add (.t 11) (Ki 1)), Oo 11 (.mov (.t 24))]))))
def h66c : HC :=
  (.seq (.region [Oo 4 (.mov (Ki 0)), Oo 5 (.mov (Ki 0))])
  (.seq (.seq (.region [Oo 9 (.mov (.t 0)), Oo 10 (.lenL (.t 9)), Oo 11 (.mov (Ki 0))])
  (.block 0 (.loop [1, 7, 0, 0] h66l0)))
  (.seq (.region [Oo 4 (.mov (Ki 0)), Oo 5 (.mov (Ki 0))])
  .ret)))
abbrev h66 : HF := ⟨h66c, [.tmp 4, .tmp 5], 25, false⟩
theorem h66_ok : (Tryz.f66.body).bind (compileC Tryz.prog) = some h66c.er := by kernel_rfl
theorem r66_ok : Tryz.f66.results.toList.mapM (retOf Tryz.prog) = some [.tmp 4, .tmp 5] := by kernel_rfl

/-- depository/oplocks.CacheRun$1 -/
def h67c : HC :=
  (.seq (.region [Oo 4 (.box (.t 1)), Oo 5 (.mov (Ki 0))])
  (.seq (.region [Oo 6 (.load false 1 (.t 2)), Oo 7 (.load true 4 (.t 4)), Oo 8 (.call 68 [(.t 6), (.t 7)]), Oo 5 (.mov (.t 8))])
  .ret))
abbrev h67 : HF := ⟨h67c, [.tmp 5], 9, false⟩
theorem h67_ok : (Tryz.f67.body).bind (compileC Tryz.prog) = some h67c.er := by kernel_rfl
theorem r67_ok : Tryz.f67.results.toList.mapM (retOf Tryz.prog) = some [.tmp 5] := by kernel_rfl

/-- (*depository/oplocks.caches).use -/
def h68l0 : HC :=
  (.seq (.region [Oo 111 (.bin .lss (.t 110) (.t 109))])
  (.seq (.cond (.t 111) .skip
  (.exit 0))
  (.seq (.block 1 (.seq (.region [Oo 112 (.ixL 2 (.t 108) (.t 110)), Oo 113 (.load true 2 (.t 112)), Oo 11 (.alloc [Zi 0, Zi 0]), On (.store 2 (.t 11) (.t 113))])
  (.regR [131] [Oo 114 (.mov (.t 0)), Oo 115 (.load true 2 (.t 11)), Oo 116 (.call 131 [(.t 114), (.t 115)])])))
  (.region [Oo 117 (.bin .add (.t 110) (Ki 1)), Oo 110 (.mov (.t 117))]))))
def h68l1 : HC :=
  (.seq (.region [Oo 119 (.bin .lss (.t 118) (Ki 9))])
  (.seq (.cond (.t 119) .skip
  (.exit 2))
  (.seq (.block 3 (.seq (.region [Oo 120 (.mov (.t 118)), Oo 12 (.mov (.t 120))])
  (.seq (.region [Oo 122 (.mov (.t 0)), Oo 123 (.mov (.t 12)), Oo 124 (.call 132 [(.t 122), (.t 123)]), Oo 121 (.mov (.t 124)), Oo 125 (.ext (.t 121) 0), Oo 126 (.ext (.t 121) 1), Oo 13 (.mov (.t 125)), Oo 14 (.mov (.t 126))])
  (.seq (.region [Oo 127 (.mov (.t 13)), Oo 128 (.bin .lss (.t 127) (Ki 1))])
  (.cond (.t 128) (.drawnT [] (.st 0 (.st 1 (.st 2 (.st 3 (.st 4 (.st 5 (.st 6 (.st 8 (.st 9 (.st 7 (.st 10 (.st 11 .nil)))))))))))) [Oo 129 (.mov (.t 0)), Oo 130 (.mov (.t 12)), Oo 131 (.mov (.t 0)), Oo 132 (.mov (.t 12)), Oo 133 (.nilc (.t 129)), Oo 134 (.addo 2 (.t 133)), Oo 135 (.ixA 9 1 (.t 134) (.t 130)), On (.store 1 (.t 135) (Ki (-1))), Oo 136 (.nilc (.t 131)), Oo 137 (.addo 11 (.t 136)), Oo 138 (.ixA 9 1 (.t 137) (.t 132)), On (.store 1 (.t 138) (.k (.bool false)))])
  .skip)))))
  (.region [Oo 139 (.bin .add (.t 118) (Ki 1)), Oo 118 (.mov (.t 139))]))))
def h68c : HC :=
  (.seq (.region [Oo 3 (.box (.t 1)), Oo 4 (.mov (Ki 0))])
  (.seq (.region [Oo 5 (.mov (Ki 0))])
  (.seq (.seq (.region [Oo 15 (.addo 0 (.t 3)), Oo 16 (.addo 0 (.t 15)), Oo 17 (.load false 1 (.t 16)), Oo 18 (.bin .eql (.t 17) (Ki 3))])
  (.cond (.t 18) (.region [Oo 5 (.mov (Ki 999))])
  .skip))
  (.seq (.seq (.drawn [Qo (Oo 19 (.addo 3 (.t 3))), Qo (Oo 20 (.load false 1 (.t 19))), Qo (Oo 21 (.mov (.t 5))), Qo (Oo 22 (.call 112 [(.t 20), (Ki 0), (.t 21)])), Qo (Oo 23 (.call 55 [(.t 22), (Ki 2)])), Qo (Oo 24 (.mov (.t 0))), Qo (Oo 25 (.nilc (.t 24))), Qo (Oo 26 (.addo 0 (.t 25))), Qo (Oo 27 (.load false 1 (.t 26))), Qo (Oo 28 (.addo 0 (.t 3))), Qo (Oo 29 (.load true 3 (.t 28))), Qe (Oo 30 (.call 124 [(.t 27), (.t 29)])), Qe (Oo 31 (.bslc 1 2 [Zi 0] [(0, (.t 23)), (1, (.t 30))])), Qe (Oo 32 (.call 117 [(.t 31)])), Qo (Oo 6 (.mov (.t 32)))])
  (.seq (.region [Oo 33 (.mov (.t 6)), Oo 34 (.bin .neq (.t 33) (Ki 0))])
  (.cond (.t 34) (.seq (.region [Oo 35 (.mov (.t 6)), Oo 4 (.mov (.t 35))])
  .ret)
  .skip)))
  (.seq (.seq (.regR [130] [Oo 36 (.mov (.t 0)), Oo 37 (.load true 4 (.t 3)), Oo 38 (.call 130 [(.t 36), (.t 37)])])
  (.cond (.t 38) (.seq (.region [Oo 4 (.mov (Ki 0))])
  .ret)
  .skip))
  (.seq (.seq (.drawn [Qo (Oo 39 (.mov (.t 0))), Qo (Oo 40 (.nilc (.t 39))), Qo (Oo 41 (.addo 0 (.t 40))), Qo (Oo 42 (.load false 1 (.t 41))), Qo (Oo 43 (.addo 0 (.t 3))), Qo (Oo 44 (.load true 3 (.t 43))), Qe (Oo 45 (.call 63 [(.t 42), (.t 44)])), Qo (Oo 7 (.mov (.t 45)))])
  (.seq (.region [Oo 46 (.mov (.t 7)), Oo 47 (.bin .neq (.t 46) (Ki 0))])
  (.cond (.t 47) (.seq (.region [Oo 48 (.mov (.t 7)), Oo 4 (.mov (.t 48))])
  .ret)
  .skip)))
  (.seq (.region [Oo 49 (.addo 0 (.t 3)), Oo 50 (.addo 1 (.t 49)), Oo 51 (.load false 1 (.t 50)), Oo 8 (.mov (.t 51))])
  (.seq (.seq (.region [Oo 52 (.addo 0 (.t 3)), Oo 53 (.addo 0 (.t 52)), Oo 54 (.load false 1 (.t 53)), Oo 55 (.bin .eql (.t 54) (Ki 4)), Oo 56 (.mov (.t 55)), Og 56 false 57 (.addo 0 (.t 3)), Og 56 false 58 (.addo 0 (.t 57)), Og 56 false 59 (.load false 1 (.t 58)), Og 56 false 60 (.bin .eql (.t 59) (Ki 5)), Oo 61 (.pick (.t 56) (.k (.bool true)) (.t 60)), Oo 62 (.mov (.t 61)), Og 62 true 63 (.mov (.t 0)), Og 62 true 64 (.mov (.t 8)), Og 62 true 65 (.nilc (.t 63)), Og 62 true 66 (.addo 11 (.t 65)), Og 62 true 67 (.ixA 9 1 (.t 66) (.t 64)), Og 62 true 68 (.load false 1 (.t 67)), Oo 69 (.pick (.t 62) (.t 68) (.k (.bool false)))])
  (.cond (.t 69) (.drawnT [] (.st 0 (.st 1 (.st 2 (.st 3 (.st 4 (.st 5 (.st 6 (.st 7 (.st 8 (.st 9 (.st 10 (.st 12 (.st 13 (.st 11 (.st 14 (.st 15 .nil)))))))))))))))) [Oo 70 (.mov (.t 0)), Oo 71 (.mov (.t 0)), Oo 72 (.mov (.t 8)), Oo 73 (.mov (.t 0)), Oo 74 (.mov (.t 8)), Oo 75 (.nilc (.t 73)), Oo 76 (.addo 2 (.t 75)), Oo 77 (.ixA 9 1 (.t 76) (.t 74)), Oo 78 (.load false 1 (.t 77)), Oo 79 (.nilc (.t 70)), Oo 80 (.addo 1 (.t 79)), On (.store 1 (.t 80) (.t 78)), Oo 81 (.nilc (.t 71)), Oo 82 (.addo 11 (.t 81)), Oo 83 (.ixA 9 1 (.t 82) (.t 72)), On (.store 1 (.t 83) (.k (.bool false)))])
  .skip))
  (.seq (.drawn [Qo (Oo 84 (.mov (.t 0))), Qo (Oo 85 (.mov (.t 8))), Qo (Oo 86 (.addo 3 (.t 3))), Qo (Oo 87 (.load false 1 (.t 86))), Qo (Oo 88 (.nilc (.t 84))), Qo (Oo 89 (.addo 20 (.t 88))), Qo (Oo 90 (.ixA 9 1 (.t 89) (.t 85))), Qe (On (.store 1 (.t 90) (.t 87)))])
  (.seq (.drawnT [64] (.st 0 (.st 1 (.st 2 (.st 4 (.br 3 (.br 5 (.br 6 (.st 7 (.st 8 .nil)) (.br 7 (.st 6 (.st 8 .nil)) .stop)) (.br 7 (.st 5 (.st 6 (.st 8 .nil))) .stop)) (.br 5 (.br 3 (.br 6 (.st 7 (.st 8 .nil)) (.br 7 (.st 6 (.st 8 .nil)) .stop)) (.br 7 (.st 3 (.st 6 (.st 8 .nil))) .stop)) (.br 7 (.st 3 (.st 5 (.st 6 (.st 8 .nil)))) .stop))))))) [Oo 91 (.mov (.t 0)), Oo 92 (.nilc (.t 91)), Oo 93 (.addo 0 (.t 92)), Oo 94 (.load false 1 (.t 93)), Oo 95 (.addo 0 (.t 3)), Oo 96 (.load true 3 (.t 95)), Oo 97 (.call 64 [(.t 94), (.t 96)]), Oo 9 (.alloc [(.bool false), (.slice none 0 0), (.slice none 0 0)]), On (.store 3 (.t 9) (.t 97))])
  (.seq (.seq (.region [Oo 98 (.addo 0 (.t 9)), Oo 99 (.load false 1 (.t 98))])
  (.cond (.t 99) (.regR [131] [Oo 100 (.mov (.t 0)), Oo 101 (.mov (.t 8)), Oo 102 (.addo 0 (.t 3)), Oo 103 (.addo 0 (.t 102)), Oo 104 (.load false 1 (.t 103)), Oo 105 (.build [Zi 0, Zi 0] [(0, 1, (.t 101)), (1, 1, (.t 104))]), Oo 106 (.call 131 [(.t 100), (.t 105)])])
  .skip))
  (.seq (.seq (.region [Oo 107 (.addo 2 (.t 9)), Oo 108 (.load false 1 (.t 107)), Oo 109 (.lenL (.t 108)), Oo 110 (.mov (Ki 0))])
  (.block 0 (.loop [0, 107, 0, 0] h68l0)))
  (.seq (.seq (.region [Oo 118 (.mov (Ki 0))])
  (.block 2 (.loop [0, 117] h68l1)))
  (.seq (.region [Oo 4 (.mov (Ki 0))])
  .ret))))))))))))))
abbrev h68 : HF := ⟨h68c, [.tmp 4], 140, false⟩
theorem h68_ok : (Tryz.f68.body).bind (compileC Tryz.prog) = some h68c.er := by kernel_rfl
theorem r68_ok : Tryz.f68.results.toList.mapM (retOf Tryz.prog) = some [.tmp 4] := by kernel_rfl

/-- depository/oplocks.open -/
def h72c : HC :=
  (.seq (.region [Oo 1 (.box (.t 0)), Oo 2 (.mov (.k (.pointer none))), Oo 3 (.mov (Ki 0))])
  (.seq (.seq (.region [Oo 7 (.load true 2 (.t 1)), Oo 8 (.call 12 [(.t 7)]), Oo 6 (.mov (.t 8)), Oo 9 (.ext (.t 6) 0), Oo 10 (.ext (.t 6) 1), Oo 4 (.mov (.t 9)), Oo 5 (.mov (.t 10))])
  (.seq (.region [Oo 11 (.mov (.t 5)), Oo 12 (.bin .neq (.t 11) (Ki 0))])
  (.cond (.t 12) (.seq (.region [Oo 13 (.mov (.t 5)), Oo 2 (.mov (.k (.pointer none))), Oo 3 (.mov (.t 13))])
  .ret)
  .skip)))
  (.seq (.region [Oo 14 (.load true 2 (.t 1)), Oo 15 (.call 47 [(.t 14)]), Oo 2 (.mov (.t 15)), Oo 3 (.mov (Ki 0))])
  .ret)))
abbrev h72 : HF := ⟨h72c, [.tmp 2, .tmp 3], 16, true⟩
theorem h72_ok : (Tryz.f72.body).bind (compileC Tryz.prog) = some h72c.er := by kernel_rfl
theorem r72_ok : Tryz.f72.results.toList.mapM (retOf Tryz.prog) = some [.tmp 2, .tmp 3] := by kernel_rfl

/-- depository/depositoryref26.ActErr -/
def h73c : HC :=
  (.seq (.region [Oo 2 (.box (.t 0)), Oo 3 (.box (.t 1)), Oo 4 (.mov (Ki 0))])
  (.seq (.seq (.region [Oo 9 (.load true 2 (.t 2)), Oo 10 (.load true 3 (.t 3)), Oo 11 (.call 134 [(.t 9), (.t 10)]), Oo 5 (.mov (.t 11))])
  (.seq (.region [Oo 12 (.mov (.t 5)), Oo 13 (.bin .neq (.t 12) (Ki 0))])
  (.cond (.t 13) (.seq (.region [Oo 14 (.mov (.t 5)), Oo 4 (.mov (.t 14))])
  .ret)
  .skip)))
  (.seq (.seq (.region [Oo 15 (.load true 2 (.t 2)), Oo 16 (.addo 1 (.t 3)), Oo 17 (.load false 1 (.t 16)), Oo 18 (.call 33 [(.t 15), (.t 17)]), Oo 6 (.mov (.t 18))])
  (.seq (.region [Oo 19 (.mov (.t 6)), Oo 20 (.bin .geq (.t 19) (Ki 0))])
  (.cond (.t 20) (.seq (.region [Oo 21 (.addo 0 (.t 2)), Oo 22 (.load false 1 (.t 21)), Oo 23 (.mov (.t 6)), Oo 24 (.ixL 3 (.t 22) (.t 23)), Oo 25 (.load true 3 (.t 24)), Oo 7 (.alloc [Zi 0, Zi 0, Zi 0]), On (.store 3 (.t 7) (.t 25))])
  (.seq (.region [Oo 26 (.addo 2 (.t 7)), Oo 27 (.load false 1 (.t 26)), Oo 28 (.addo 1 (.t 7)), Oo 29 (.load false 1 (.t 28)), Oo 30 (.bin .neq (.t 27) (.t 29)), Oo 8 (.mov (.t 30))])
  (.seq (.region [Oo 31 (.addo 0 (.t 3)), Oo 32 (.load false 1 (.t 31)), Oo 33 (.bin .eql (.t 32) (Ki 4)), Oo 34 (.mov (.t 33)), Og 34 true 35 (.mov (.t 8)), Og 34 true 36 (.un .not (.t 35)), Oo 37 (.pick (.t 34) (.t 36) (.k (.bool false))), Oo 38 (.mov (.t 37)), Og 38 false 39 (.mov (.t 8)), Og 38 false 40 (.mov (.t 39)), Og 40 true 41 (.addo 0 (.t 3)), Og 40 true 42 (.load false 1 (.t 41)), Og 40 true 43 (.bin .eql (.t 42) (Ki 2)), Og 40 true 44 (.mov (.t 43)), Og 44 false 45 (.addo 0 (.t 3)), Og 44 false 46 (.load false 1 (.t 45)), Og 44 false 47 (.bin .eql (.t 46) (Ki 3)), Og 40 true 48 (.pick (.t 44) (.k (.bool true)) (.t 47)), Og 40 true 49 (.mov (.t 48)), Og 49 false 50 (.addo 0 (.t 3)), Og 49 false 51 (.load false 1 (.t 50)), Og 49 false 52 (.bin .eql (.t 51) (Ki 1)), Og 40 true 53 (.pick (.t 49) (.k (.bool true)) (.t 52)), Og 38 false 54 (.pick (.t 40) (.t 53) (.k (.bool false))), Oo 55 (.pick (.t 38) (.k (.bool true)) (.t 54)), Oo 56 (.mov (.t 55)), Og 56 false 57 (.addo 0 (.t 3)), Og 56 false 58 (.load false 1 (.t 57)), Og 56 false 59 (.bin .eql (.t 58) (Ki 1)), Og 56 false 60 (.mov (.t 59)), Og 60 true 61 (.addo 2 (.t 3)), Og 60 true 62 (.load false 1 (.t 61)), Og 60 true 63 (.addo 1 (.t 7)), Og 60 true 64 (.load false 1 (.t 63)), Og 60 true 65 (.bin .leq (.t 62) (.t 64)), Og 56 false 66 (.pick (.t 60) (.t 65) (.k (.bool false))), Oo 67 (.pick (.t 56) (.k (.bool true)) (.t 66))])
  (.cond (.t 67) (.seq (.region [Oo 4 (.mov (Ki 20))])
  .ret)
  .skip))))
  .skip)))
  (.seq (.seq (.region [Oo 68 (.addo 0 (.t 3)), Oo 69 (.load false 1 (.t 68)), Oo 70 (.bin .eql (.t 69) (Ki 1)), Oo 71 (.mov (.t 70)), Og 71 true 72 (.load true 2 (.t 2)), Og 71 true 73 (.load true 3 (.t 3)), Og 71 true 74 (.call 137 [(.t 72), (.t 73)]), Og 71 true 75 (.un .not (.t 74)), Oo 76 (.pick (.t 71) (.t 75) (.k (.bool false)))])
  (.cond (.t 76) (.seq (.region [Oo 4 (.mov (Ki 24))])
  .ret)
  .skip))
  (.seq (.seq (.region [Oo 77 (.addo 0 (.t 3)), Oo 78 (.load false 1 (.t 77)), Oo 79 (.call 76 [(.t 78)]), Oo 80 (.mov (.t 79)), Og 80 true 81 (.addo 1 (.t 2)), Og 80 true 82 (.load false 1 (.t 81)), Og 80 true 83 (.lenL (.t 82)), Og 80 true 84 (.bin .eql (.t 83) (Ki 8)), Oo 85 (.pick (.t 80) (.t 84) (.k (.bool false)))])
  (.cond (.t 85) (.seq (.region [Oo 4 (.mov (Ki 16))])
  .ret)
  .skip))
  (.seq (.region [Oo 4 (.mov (Ki 0))])
  .ret))))))
abbrev h73 : HF := ⟨h73c, [.tmp 4], 86, false⟩
theorem h73_ok : (Tryz.f73.body).bind (compileC Tryz.prog) = some h73c.er := by kernel_rfl
theorem r73_ok : Tryz.f73.results.toList.mapM (retOf Tryz.prog) = some [.tmp 4] := by kernel_rfl

/-- depository/depositoryref26.Step -/
def h74l0 : HC :=
  (.seq (.seq (.region [Oo 112 (.addo 1 (.t 6)), Oo 113 (.load false 1 (.t 112)), Oo 114 (.lenL (.t 113)), Oo 115 (.bin .gtr (.t 114) (Ki 0))])
  (.cond (.t 115) .skip
  (.exit 1)))
  (.block 2 (.seq (.region [Oo 116 (.addo 1 (.t 6)), Oo 117 (.load false 1 (.t 116)), Oo 118 (.ixL 2 (.t 117) (Ki 0)), Oo 119 (.load true 2 (.t 118)), Oo 10 (.alloc [Zi 0, Zi 0]), On (.store 2 (.t 10) (.t 119))])
  (.seq (.region [Oo 121 (.load true 2 (.t 6)), Oo 122 (.addo 0 (.t 10)), Oo 123 (.load false 1 (.t 122)), Oo 124 (.addo 1 (.t 10)), Oo 125 (.load false 1 (.t 124)), Oo 126 (.call 59 [(.t 121), (.t 123), (.t 125)]), Oo 120 (.mov (.t 126)), Oo 127 (.ext (.t 120) 0), Oo 128 (.ext (.t 120) 1), Oo 11 (.alloc [(.slice none 0 0), (.slice none 0 0)]), On (.store 2 (.t 11) (.t 127)), Oo 12 (.mov (.t 128))])
  (.seq (.region [Oo 129 (.load true 2 (.t 11)), On (.store 2 (.t 6) (.t 129))])
  (.gh (.frz 129) (.seq (.region [Oo 130 (.addo 1 (.t 9)), Oo 131 (.load false 1 (.t 130)), Oo 132 (.mov (.t 12)), Oo 133 (.app 2 16 [Zi 0, Zi 0] (.t 131) (.t 132)), Oo 134 (.addo 1 (.t 9)), On (.store 1 (.t 134) (.t 133))])
  (.seq (.seq (.region [Oo 135 (.load true 2 (.t 6)), Oo 136 (.addo 0 (.t 10)), Oo 137 (.load false 1 (.t 136)), Oo 138 (.addo 1 (.t 10)), Oo 139 (.load false 1 (.t 138)), Oo 140 (.call 60 [(.t 135), (.t 137), (.t 139)])])
  (.cond (.t 140) (.seq (.drawnF [(1, 2)] [Oo 141 (.load true 2 (.t 6)), Oo 142 (.load true 3 (.t 9)), On (.store 2 (.t 4) (.t 141)), On (.store 3 (.t 5) (.t 142))])
  .ret)
  .skip))
  (.seq (.region [Oo 143 (.addo 1 (.t 6)), Oo 144 (.load false 1 (.t 143)), Oo 145 (.slL 2 (.t 144) (some (Ki 1)) none), Oo 146 (.addo 1 (.t 6)), On (.store 1 (.t 146) (.t 145))])
  (.seq (.region [Oo 147 (.load true 2 (.t 6)), Oo 148 (.addo 0 (.t 10)), Oo 149 (.load false 1 (.t 148)), Oo 150 (.addo 1 (.t 10)), Oo 151 (.load false 1 (.t 150)), Oo 152 (.call 138 [(.t 147), (.t 149), (.t 151)]), On (.store 2 (.t 6) (.t 152))])
  (.region [Oo 153 (.addo 2 (.t 9)), Oo 154 (.load false 1 (.t 153)), Oo 155 (.load true 2 (.t 10)), Oo 156 (.bslc 2 1 [Zi 0, Zi 0] [(0, (.t 155))]), Oo 157 (.app 2 16 [Zi 0, Zi 0] (.t 154) (.t 156)), Oo 158 (.addo 2 (.t 9)), On (.store 1 (.t 158) (.t 157))])))))))))))
def h74c : HC :=
  (.seq (.region [Oo 2 (.box (.t 0)), Oo 3 (.box (.t 1)), Oo 4 (.alloc [(.slice none 0 0), (.slice none 0 0)]), Oo 5 (.alloc [(.bool false), (.slice none 0 0), (.slice none 0 0)])])
  (.seq (.region [Oo 13 (.load true 2 (.t 2)), Oo 14 (.call 13 [(.t 13)]), Oo 6 (.alloc [(.slice none 0 0), (.slice none 0 0)]), On (.store 2 (.t 6) (.t 14))])
  (.seq (.seq (.region [Oo 15 (.addo 0 (.t 3)), Oo 16 (.load false 1 (.t 15)), Oo 17 (.call 76 [(.t 16)])])
  (.cond (.t 17) (.seq (.region [Oo 7 (.alloc [(.bool false), (.slice none 0 0), (.slice none 0 0)])])
  (.seq (.seq (.region [Oo 18 (.addo 1 (.t 2)), Oo 19 (.load false 1 (.t 18)), Oo 20 (.lenL (.t 19)), Oo 21 (.bin .eql (.t 20) (Ki 0))])
  (.cond (.t 21) (.seq (.region [Oo 23 (.load true 2 (.t 6)), Oo 24 (.addo 1 (.t 3)), Oo 25 (.load false 1 (.t 24)), Oo 26 (.addo 0 (.t 3)), Oo 27 (.load false 1 (.t 26)), Oo 28 (.call 59 [(.t 23), (.t 25), (.t 27)]), Oo 22 (.mov (.t 28)), Oo 29 (.ext (.t 22) 0), Oo 30 (.ext (.t 22) 1), On (.store 2 (.t 6) (.t 29)), Oo 31 (.addo 1 (.t 7)), On (.store 1 (.t 31) (.t 30))])
  (.region [Oo 32 (.load true 2 (.t 6)), Oo 33 (.addo 1 (.t 3)), Oo 34 (.load false 1 (.t 33)), Oo 35 (.addo 0 (.t 3)), Oo 36 (.load false 1 (.t 35)), Oo 37 (.call 60 [(.t 32), (.t 34), (.t 36)]), Oo 38 (.un .not (.t 37)), Oo 39 (.addo 0 (.t 7)), On (.store 1 (.t 39) (.t 38))]))
  .skip))
  (.seq (.seq (.region [Oo 40 (.addo 0 (.t 7)), Oo 41 (.load false 1 (.t 40))])
  (.cond (.t 41) (.seq (.drawnT [] (.st 0 (.st 1 (.st 2 (.st 3 (.st 4 (.br 5 (.br 6 (.st 7 (.st 8 .nil)) (.br 7 (.st 6 (.st 8 .nil)) .stop)) (.br 6 (.st 5 (.st 7 (.st 8 .nil))) .stop))))))) [Oo 42 (.load true 2 (.t 6)), Oo 43 (.addo 1 (.t 3)), Oo 44 (.load false 1 (.t 43)), Oo 45 (.addo 0 (.t 3)), Oo 46 (.load false 1 (.t 45)), Oo 47 (.call 138 [(.t 42), (.t 44), (.t 46)]), Oo 48 (.load true 3 (.t 7)), On (.store 2 (.t 4) (.t 47)), On (.store 3 (.t 5) (.t 48))])
  .ret)
  .skip))
  (.seq (.region [Oo 49 (.addo 1 (.t 6)), Oo 50 (.load false 1 (.t 49)), Oo 51 (.addo 1 (.t 3)), Oo 52 (.load false 1 (.t 51)), Oo 53 (.addo 0 (.t 3)), Oo 54 (.load false 1 (.t 53)), Oo 55 (.build [Zi 0, Zi 0] [(0, 1, (.t 52)), (1, 1, (.t 54))]), Oo 56 (.bslc 2 1 [Zi 0, Zi 0] [(0, (.t 55))]), Oo 57 (.app 2 16 [Zi 0, Zi 0] (.t 50) (.t 56)), Oo 58 (.addo 1 (.t 6)), On (.store 1 (.t 58) (.t 57))])
  (.seq (.drawnF [(1, 2)] [Oo 59 (.load true 2 (.t 6)), Oo 60 (.load true 3 (.t 7)), On (.store 2 (.t 4) (.t 59)), On (.store 3 (.t 5) (.t 60))])
  .ret)))))
  .skip))
  (.seq (.region [Oo 61 (.load true 2 (.t 6)), Oo 62 (.addo 1 (.t 3)), Oo 63 (.load false 1 (.t 62)), Oo 64 (.call 33 [(.t 61), (.t 63)]), Oo 8 (.mov (.t 64))])
  (.seq (.region [Oo 65 (.build [(.bool false), (.slice none 0 0), (.slice none 0 0)] [(0, 1, (.k (.bool true)))]), Oo 9 (.alloc [(.bool false), (.slice none 0 0), (.slice none 0 0)]), On (.store 3 (.t 9) (.t 65))])
  (.gh (.nilB 9 1 2) (.gh (.nilB 9 2 2) (.seq (.seq (.region [Oo 66 (.addo 0 (.t 3)), Oo 67 (.load false 1 (.t 66))])
  (.block 0 (.seq (.region [Oo 82 (.bin .eql (.t 67) (Ki 1)), Oo 81 (.mov (.t 82))])
  (.cond (.t 81) (.seq (.drawnT [] (.st 0 (.st 1 (.st 2 (.st 3 (.st 5 (.st 6 (.st 7 (.st 8 (.st 10 (.st 11 (.br 4 (.br 9 (.st 12 (.st 13 (.st 14 (.st 15 .nil)))) (.br 12 (.st 9 (.st 13 (.st 14 (.st 15 .nil)))) .stop)) (.br 9 (.br 4 (.st 12 (.st 13 (.st 14 (.st 15 .nil)))) (.br 12 (.st 4 (.st 13 (.st 14 (.st 15 .nil)))) .stop)) (.br 12 (.st 4 (.st 9 (.st 13 (.st 14 (.st 15 .nil))))) .stop))))))))))))) [Oo 83 (.addo 0 (.t 6)), Oo 84 (.load false 1 (.t 83)), Oo 85 (.mov (.t 8)), Oo 86 (.addo 0 (.t 6)), Oo 87 (.load false 1 (.t 86)), Oo 88 (.mov (.t 8)), Oo 89 (.addo 2 (.t 3)), Oo 90 (.load false 1 (.t 89)), Oo 91 (.addo 2 (.t 3)), Oo 92 (.load false 1 (.t 91)), Oo 93 (.ixL 3 (.t 84) (.t 85)), Oo 94 (.addo 1 (.t 93)), On (.store 1 (.t 94) (.t 90)), Oo 95 (.ixL 3 (.t 87) (.t 88)), Oo 96 (.addo 2 (.t 95)), On (.store 1 (.t 96) (.t 92))])
  (.seq (.drawnF [(1, 2)] [Oo 97 (.load true 2 (.t 6)), Oo 98 (.load true 3 (.t 9)), On (.store 2 (.t 4) (.t 97)), On (.store 3 (.t 5) (.t 98))])
  .ret))
  (.seq (.region [Oo 100 (.bin .eql (.t 67) (Ki 4)), Oo 99 (.mov (.t 100))])
  (.cond (.t 99) (.drawnT [] (.st 0 (.st 1 (.st 2 (.st 3 (.st 4 (.st 5 (.st 6 (.st 7 (.st 8 (.st 9 (.st 10 (.st 11 .nil)))))))))))) [Oo 101 (.addo 0 (.t 6)), Oo 102 (.load false 1 (.t 101)), Oo 103 (.mov (.t 8)), Oo 104 (.addo 0 (.t 6)), Oo 105 (.load false 1 (.t 104)), Oo 106 (.mov (.t 8)), Oo 107 (.ixL 3 (.t 105) (.t 106)), Oo 108 (.addo 2 (.t 107)), Oo 109 (.load false 1 (.t 108)), Oo 110 (.ixL 3 (.t 102) (.t 103)), Oo 111 (.addo 1 (.t 110)), On (.store 1 (.t 111) (.t 109))])
  (.gh (.frz 14) (.drawnT [] (.st 1 (.st 3 (.st 6 (.st 8 (.br 0 (.st 2 (.st 4 (.br 5 (.st 7 (.st 9 (.st 10 (.st 11 (.st 12 (.st 13 .nil)))))) (.br 7 (.br 5 (.st 9 (.st 10 (.st 11 (.st 12 (.st 13 .nil))))) (.br 9 (.br 5 (.st 10 (.st 11 (.st 12 (.st 13 .nil)))) (.br 10 (.st 5 (.st 11 (.st 12 (.st 13 .nil)))) .stop)) .stop)) (.br 9 (.br 5 (.st 7 (.st 10 (.st 11 (.st 12 (.st 13 .nil))))) (.br 7 (.br 5 (.st 10 (.st 11 (.st 12 (.st 13 .nil)))) (.br 10 (.st 5 (.st 11 (.st 12 (.st 13 .nil)))) .stop)) .stop)) .stop))))) (.br 2 (.br 0 (.st 4 (.br 5 (.st 7 (.st 9 (.st 10 (.st 11 (.st 12 (.st 13 .nil)))))) (.br 7 (.br 5 (.st 9 (.st 10 (.st 11 (.st 12 (.st 13 .nil))))) (.br 9 (.br 5 (.st 10 (.st 11 (.st 12 (.st 13 .nil)))) (.br 10 (.st 5 (.st 11 (.st 12 (.st 13 .nil)))) .stop)) .stop)) (.br 9 (.br 5 (.st 7 (.st 10 (.st 11 (.st 12 (.st 13 .nil))))) (.br 7 (.br 5 (.st 10 (.st 11 (.st 12 (.st 13 .nil)))) (.br 10 (.st 5 (.st 11 (.st 12 (.st 13 .nil)))) .stop)) .stop)) .stop)))) (.br 4 (.br 0 (.br 5 (.st 7 (.st 9 (.st 10 (.st 11 (.st 12 (.st 13 .nil)))))) (.br 7 (.br 5 (.st 9 (.st 10 (.st 11 (.st 12 (.st 13 .nil))))) (.br 9 (.br 5 (.st 10 (.st 11 (.st 12 (.st 13 .nil)))) (.br 10 (.st 5 (.st 11 (.st 12 (.st 13 .nil)))) .stop)) .stop)) (.br 9 (.br 5 (.st 7 (.st 10 (.st 11 (.st 12 (.st 13 .nil))))) (.br 7 (.br 5 (.st 10 (.st 11 (.st 12 (.st 13 .nil)))) (.br 10 (.st 5 (.st 11 (.st 12 (.st 13 .nil)))) .stop)) .stop)) .stop))) (.br 7 (.br 0 (.br 5 (.st 9 (.st 10 (.st 11 (.st 12 (.st 13 .nil))))) (.br 9 (.br 5 (.st 10 (.st 11 (.st 12 (.st 13 .nil)))) (.br 10 (.st 5 (.st 11 (.st 12 (.st 13 .nil)))) .stop)) .stop)) (.br 9 (.br 0 (.br 5 (.st 10 (.st 11 (.st 12 (.st 13 .nil)))) (.br 10 (.st 5 (.st 11 (.st 12 (.st 13 .nil)))) .stop)) (.br 10 (.st 0 (.st 5 (.st 11 (.st 12 (.st 13 .nil))))) .stop)) .stop)) (.br 9 (.br 0 (.br 5 (.st 7 (.st 10 (.st 11 (.st 12 (.st 13 .nil))))) (.br 7 (.br 5 (.st 10 (.st 11 (.st 12 (.st 13 .nil)))) (.br 10 (.st 5 (.st 11 (.st 12 (.st 13 .nil)))) .stop)) .stop)) (.br 7 (.br 0 (.br 5 (.st 10 (.st 11 (.st 12 (.st 13 .nil)))) (.br 10 (.st 5 (.st 11 (.st 12 (.st 13 .nil)))) .stop)) (.br 10 (.st 0 (.st 5 (.st 11 (.st 12 (.st 13 .nil))))) .stop)) .stop)) .stop))) (.br 7 (.br 0 (.st 4 (.br 5 (.st 9 (.st 10 (.st 11 (.st 12 (.st 13 .nil))))) (.br 9 (.br 5 (.st 10 (.st 11 (.st 12 (.st 13 .nil)))) (.br 10 (.st 5 (.st 11 (.st 12 (.st 13 .nil)))) .stop)) .stop))) (.br 4 (.br 0 (.br 5 (.st 9 (.st 10 (.st 11 (.st 12 (.st 13 .nil))))) (.br 9 (.br 5 (.st 10 (.st 11 (.st 12 (.st 13 .nil)))) (.br 10 (.st 5 (.st 11 (.st 12 (.st 13 .nil)))) .stop)) .stop)) (.br 9 (.br 0 (.br 5 (.st 10 (.st 11 (.st 12 (.st 13 .nil)))) (.br 10 (.st 5 (.st 11 (.st 12 (.st 13 .nil)))) .stop)) (.br 10 (.st 0 (.st 5 (.st 11 (.st 12 (.st 13 .nil))))) .stop)) .stop)) (.br 9 (.br 0 (.st 4 (.br 5 (.st 10 (.st 11 (.st 12 (.st 13 .nil)))) (.br 10 (.st 5 (.st 11 (.st 12 (.st 13 .nil)))) .stop))) (.br 4 (.br 0 (.br 5 (.st 10 (.st 11 (.st 12 (.st 13 .nil)))) (.br 10 (.st 5 (.st 11 (.st 12 (.st 13 .nil)))) .stop)) (.br 10 (.st 0 (.st 5 (.st 11 (.st 12 (.st 13 .nil))))) .stop)) (.br 10 (.br 0 (.st 4 (.st 5 (.st 11 (.st 12 (.st 13 .nil))))) (.br 4 (.st 0 (.st 5 (.st 11 (.st 12 (.st 13 .nil))))) .stop)) .stop))) .stop))) (.br 9 (.br 0 (.st 4 (.br 5 (.st 7 (.st 10 (.st 11 (.st 12 (.st 13 .nil))))) (.br 7 (.br 5 (.st 10 (.st 11 (.st 12 (.st 13 .nil)))) (.br 10 (.st 5 (.st 11 (.st 12 (.st 13 .nil)))) .stop)) .stop))) (.br 4 (.br 0 (.br 5 (.st 7 (.st 10 (.st 11 (.st 12 (.st 13 .nil))))) (.br 7 (.br 5 (.st 10 (.st 11 (.st 12 (.st 13 .nil)))) (.br 10 (.st 5 (.st 11 (.st 12 (.st 13 .nil)))) .stop)) .stop)) (.br 7 (.br 0 (.br 5 (.st 10 (.st 11 (.st 12 (.st 13 .nil)))) (.br 10 (.st 5 (.st 11 (.st 12 (.st 13 .nil)))) .stop)) (.br 10 (.st 0 (.st 5 (.st 11 (.st 12 (.st 13 .nil))))) .stop)) .stop)) (.br 7 (.br 0 (.st 4 (.br 5 (.st 10 (.st 11 (.st 12 (.st 13 .nil)))) (.br 10 (.st 5 (.st 11 (.st 12 (.st 13 .nil)))) .stop))) (.br 4 (.br 0 (.br 5 (.st 10 (.st 11 (.st 12 (.st 13 .nil)))) (.br 10 (.st 5 (.st 11 (.st 12 (.st 13 .nil)))) .stop)) (.br 10 (.st 0 (.st 5 (.st 11 (.st 12 (.st 13 .nil))))) .stop)) (.br 10 (.br 0 (.st 4 (.st 5 (.st 11 (.st 12 (.st 13 .nil))))) (.br 4 (.st 0 (.st 5 (.st 11 (.st 12 (.st 13 .nil))))) .stop)) .stop))) .stop))) .stop)))) (.br 7 (.br 0 (.st 2 (.st 4 (.br 5 (.st 9 (.st 10 (.st 11 (.st 12 (.st 13 .nil))))) (.br 9 (.br 5 (.st 10 (.st 11 (.st 12 (.st 13 .nil)))) (.br 10 (.st 5 (.st 11 (.st 12 (.st 13 .nil)))) .stop)) .stop)))) (.br 2 (.br 0 (.st 4 (.br 5 (.st 9 (.st 10 (.st 11 (.st 12 (.st 13 .nil))))) (.br 9 (.br 5 (.st 10 (.st 11 (.st 12 (.st 13 .nil)))) (.br 10 (.st 5 (.st 11 (.st 12 (.st 13 .nil)))) .stop)) .stop))) (.br 4 (.br 0 (.br 5 (.st 9 (.st 10 (.st 11 (.st 12 (.st 13 .nil))))) (.br 9 (.br 5 (.st 10 (.st 11 (.st 12 (.st 13 .nil)))) (.br 10 (.st 5 (.st 11 (.st 12 (.st 13 .nil)))) .stop)) .stop)) (.br 9 (.br 0 (.br 5 (.st 10 (.st 11 (.st 12 (.st 13 .nil)))) (.br 10 (.st 5 (.st 11 (.st 12 (.st 13 .nil)))) .stop)) (.br 10 (.st 0 (.st 5 (.st 11 (.st 12 (.st 13 .nil))))) .stop)) .stop)) (.br 9 (.br 0 (.st 4 (.br 5 (.st 10 (.st 11 (.st 12 (.st 13 .nil)))) (.br 10 (.st 5 (.st 11 (.st 12 (.st 13 .nil)))) .stop))) (.br 4 (.br 0 (.br 5 (.st 10 (.st 11 (.st 12 (.st 13 .nil)))) (.br 10 (.st 5 (.st 11 (.st 12 (.st 13 .nil)))) .stop)) (.br 10 (.st 0 (.st 5 (.st 11 (.st 12 (.st 13 .nil))))) .stop)) (.br 10 (.br 0 (.st 4 (.st 5 (.st 11 (.st 12 (.st 13 .nil))))) (.br 4 (.st 0 (.st 5 (.st 11 (.st 12 (.st 13 .nil))))) .stop)) .stop))) .stop))) (.br 9 (.br 0 (.st 2 (.st 4 (.br 5 (.st 10 (.st 11 (.st 12 (.st 13 .nil)))) (.br 10 (.st 5 (.st 11 (.st 12 (.st 13 .nil)))) .stop)))) (.br 2 (.br 0 (.st 4 (.br 5 (.st 10 (.st 11 (.st 12 (.st 13 .nil)))) (.br 10 (.st 5 (.st 11 (.st 12 (.st 13 .nil)))) .stop))) (.br 4 (.br 0 (.br 5 (.st 10 (.st 11 (.st 12 (.st 13 .nil)))) (.br 10 (.st 5 (.st 11 (.st 12 (.st 13 .nil)))) .stop)) (.br 10 (.st 0 (.st 5 (.st 11 (.st 12 (.st 13 .nil))))) .stop)) (.br 10 (.br 0 (.st 4 (.st 5 (.st 11 (.st 12 (.st 13 .nil))))) (.br 4 (.st 0 (.st 5 (.st 11 (.st 12 (.st 13 .nil))))) .stop)) .stop))) (.br 10 (.br 0 (.st 2 (.st 4 (.st 5 (.st 11 (.st 12 (.st 13 .nil)))))) (.br 2 (.br 0 (.st 4 (.st 5 (.st 11 (.st 12 (.st 13 .nil))))) (.br 4 (.st 0 (.st 5 (.st 11 (.st 12 (.st 13 .nil))))) .stop)) .stop)) .stop))) .stop))) (.br 9 (.br 0 (.st 2 (.st 4 (.br 5 (.st 7 (.st 10 (.st 11 (.st 12 (.st 13 .nil))))) (.br 7 (.br 5 (.st 10 (.st 11 (.st 12 (.st 13 .nil)))) (.br 10 (.st 5 (.st 11 (.st 12 (.st 13 .nil)))) .stop)) .stop)))) (.br 2 (.br 0 (.st 4 (.br 5 (.st 7 (.st 10 (.st 11 (.st 12 (.st 13 .nil))))) (.br 7 (.br 5 (.st 10 (.st 11 (.st 12 (.st 13 .nil)))) (.br 10 (.st 5 (.st 11 (.st 12 (.st 13 .nil)))) .stop)) .stop))) (.br 4 (.br 0 (.br 5 (.st 7 (.st 10 (.st 11 (.st 12 (.st 13 .nil))))) (.br 7 (.br 5 (.st 10 (.st 11 (.st 12 (.st 13 .nil)))) (.br 10 (.st 5 (.st 11 (.st 12 (.st 13 .nil)))) .stop)) .stop)) (.br 7 (.br 0 (.br 5 (.st 10 (.st 11 (.st 12 (.st 13 .nil)))) (.br 10 (.st 5 (.st 11 (.st 12 (.st 13 .nil)))) .stop)) (.br 10 (.st 0 (.st 5 (.st 11 (.st 12 (.st 13 .nil))))) .stop)) .stop)) (.br 7 (.br 0 (.st 4 (.br 5 (.st 10 (.st 11 (.st 12 (.st 13 .nil)))) (.br 10 (.st 5 (.st 11 (.st 12 (.st 13 .nil)))) .stop))) (.br 4 (.br 0 (.br 5 (.st 10 (.st 11 (.st 12 (.st 13 .nil)))) (.br 10 (.st 5 (.st 11 (.st 12 (.st 13 .nil)))) .stop)) (.br 10 (.st 0 (.st 5 (.st 11 (.st 12 (.st 13 .nil))))) .stop)) (.br 10 (.br 0 (.st 4 (.st 5 (.st 11 (.st 12 (.st 13 .nil))))) (.br 4 (.st 0 (.st 5 (.st 11 (.st 12 (.st 13 .nil))))) .stop)) .stop))) .stop))) (.br 7 (.br 0 (.st 2 (.st 4 (.br 5 (.st 10 (.st 11 (.st 12 (.st 13 .nil)))) (.br 10 (.st 5 (.st 11 (.st 12 (.st 13 .nil)))) .stop)))) (.br 2 (.br 0 (.st 4 (.br 5 (.st 10 (.st 11 (.st 12 (.st 13 .nil)))) (.br 10 (.st 5 (.st 11 (.st 12 (.st 13 .nil)))) .stop))) (.br 4 (.br 0 (.br 5 (.st 10 (.st 11 (.st 12 (.st 13 .nil)))) (.br 10 (.st 5 (.st 11 (.st 12 (.st 13 .nil)))) .stop)) (.br 10 (.st 0 (.st 5 (.st 11 (.st 12 (.st 13 .nil))))) .stop)) (.br 10 (.br 0 (.st 4 (.st 5 (.st 11 (.st 12 (.st 13 .nil))))) (.br 4 (.st 0 (.st 5 (.st 11 (.st 12 (.st 13 .nil))))) .stop)) .stop))) (.br 10 (.br 0 (.st 2 (.st 4 (.st 5 (.st 11 (.st 12 (.st 13 .nil)))))) (.br 2 (.br 0 (.st 4 (.st 5 (.st 11 (.st 12 (.st 13 .nil))))) (.br 4 (.st 0 (.st 5 (.st 11 (.st 12 (.st 13 .nil))))) .stop)) .stop)) .stop))) .stop))) .stop)))))))) [Oo 68 (.bslc 3 0 [Zi 0, Zi 0, Zi 0] []), Oo 69 (.addo 0 (.t 6)), Oo 70 (.load false 1 (.t 69)), Oo 71 (.mov (.t 8)), Oo 72 (.slL 3 (.t 70) none (some (.t 71))), Oo 73 (.app 3 24 [Zi 0, Zi 0, Zi 0] (.t 68) (.t 72)), Oo 74 (.addo 0 (.t 6)), Oo 75 (.load false 1 (.t 74)), Oo 76 (.mov (.t 8)), Oo 77 (.bin .add (.t 76) (Ki 1)), Oo 78 (.slL 3 (.t 75) (some (.t 77)) none), Oo 79 (.app 3 24 [Zi 0, Zi 0, Zi 0] (.t 73) (.t 78)), Oo 80 (.addo 0 (.t 6)), On (.store 1 (.t 80) (.t 79))]))))))))
  (.seq (.block 1 (.loop [4, 0, 0, 2] h74l0))
  (.seq (.drawnF [(1, 2)] [Oo 159 (.load true 2 (.t 6)), Oo 160 (.load true 3 (.t 9)), On (.store 2 (.t 4) (.t 159)), On (.store 3 (.t 5) (.t 160))])
  .ret))))))))))
abbrev h74 : HF := ⟨h74c, [.cell 4 true 2, .cell 5 true 3], 161, false⟩
theorem h74_ok : (Tryz.f74.body).bind (compileC Tryz.prog) = some h74c.er := by kernel_rfl
theorem r74_ok : Tryz.f74.results.toList.mapM (retOf Tryz.prog) = some [.cell 4 true 2, .cell 5 true 3] := by kernel_rfl

/-- depository/oplocks.isUse -/
def h75c : HC :=
  (.seq (.region [Oo 2 (.mov (.k (.bool false)))])
  (.seq (.region [Oo 3 (.mov (.t 0)), Oo 4 (.bin .eql (.t 3) (Ki 0)), Oo 5 (.mov (.t 4)), Og 5 false 6 (.mov (.t 0)), Og 5 false 7 (.bin .eql (.t 6) (Ki 2)), Oo 8 (.pick (.t 5) (.k (.bool true)) (.t 7)), Oo 9 (.mov (.t 8)), Og 9 false 10 (.mov (.t 0)), Og 9 false 11 (.bin .eql (.t 10) (Ki 3)), Oo 12 (.pick (.t 9) (.k (.bool true)) (.t 11)), Oo 2 (.mov (.t 12))])
  .ret))
abbrev h75 : HF := ⟨h75c, [.tmp 2], 13, false⟩
theorem h75_ok : (Tryz.f75.body).bind (compileC Tryz.prog) = some h75c.er := by kernel_rfl
theorem r75_ok : Tryz.f75.results.toList.mapM (retOf Tryz.prog) = some [.tmp 2] := by kernel_rfl

/-- depository/depositoryref26.Waits -/
def h76c : HC :=
  (.seq (.region [Oo 2 (.mov (.k (.bool false)))])
  (.seq (.region [Oo 3 (.mov (.t 0)), Oo 4 (.bin .eql (.t 3) (Ki 0)), Oo 5 (.mov (.t 4)), Og 5 false 6 (.mov (.t 0)), Og 5 false 7 (.bin .eql (.t 6) (Ki 2)), Oo 8 (.pick (.t 5) (.k (.bool true)) (.t 7)), Oo 9 (.mov (.t 8)), Og 9 false 10 (.mov (.t 0)), Og 9 false 11 (.bin .eql (.t 10) (Ki 3)), Oo 12 (.pick (.t 9) (.k (.bool true)) (.t 11)), Oo 2 (.mov (.t 12))])
  .ret))
abbrev h76 : HF := ⟨h76c, [.tmp 2], 13, false⟩
theorem h76_ok : (Tryz.f76.body).bind (compileC Tryz.prog) = some h76c.er := by kernel_rfl
theorem r76_ok : Tryz.f76.results.toList.mapM (retOf Tryz.prog) = some [.tmp 2] := by kernel_rfl

/-- (*depository/oplocks.file).grant -/
def h78c : HC :=
  (.seq (.region [Oo 4 (.mov (.k (.pointer none)))])
  (.seq (.regR [126, 100126] [Oo 8 (.mov (.t 0)), Oo 9 (.mov (.t 1)), Oo 10 (.call 126 [(.t 8), (.t 9)]), Oo 7 (.mov (.t 10)), Oo 11 (.ext (.t 7) 0), Oo 12 (.ext (.t 7) 1), Oo 5 (.mov (.t 11)), Oo 6 (.mov (.t 12))])
  (.seq (.seq (.region [Oo 13 (.mov (.t 6)), Oo 14 (.un .not (.t 13))])
  (.cond (.t 14) (.seq (.region [Oo 4 (.mov (.k (.pointer none)))])
  .ret)
  .skip))
  (.seq (.region [Oo 15 (.mov (.t 0)), Oo 16 (.nilc (.t 15)), Oo 17 (.addo 0 (.t 16)), Oo 18 (.addo 0 (.t 17)), Oo 19 (.load false 1 (.t 18)), Oo 20 (.mov (.t 5)), Oo 21 (.ixL 3 (.t 19) (.t 20)), Oo 4 (.mov (.t 21))])
  .ret))))
abbrev h78 : HF := ⟨h78c, [.tmp 4], 22, true⟩
theorem h78_ok : (Tryz.f78.body).bind (compileC Tryz.prog) = some h78c.er := by kernel_rfl
theorem r78_ok : Tryz.f78.results.toList.mapM (retOf Tryz.prog) = some [.tmp 4] := by kernel_rfl

/-- strconv.Itoa -/
def h79c : HC :=
  (.seq (.region [Oo 2 (.mov (.k (.string ⟨#[]⟩)))])
  (.seq (.region [Oo 3 (.mov (.t 0)), Oo 4 (.call 139 [(.t 3)]), Oo 2 (.mov (.t 4))])
  .ret))
abbrev h79 : HF := ⟨h79c, [.tmp 2], 5, false⟩
theorem h79_ok : (Tryz.f79.body).bind (compileC Tryz.prog) = some h79c.er := by kernel_rfl
theorem r79_ok : Tryz.f79.results.toList.mapM (retOf Tryz.prog) = some [.tmp 2] := by kernel_rfl

/-- depository/oplocks.letter -/
def h80c : HC :=
  (.seq (.region [Oo 2 (.mov (.k (.string ⟨#[]⟩)))])
  (.seq (.seq (.region [Oo 3 (.mov (.t 0))])
  (.block 0 (.seq (.region [Oo 5 (.bin .eql (.t 3) (Ki 0)), Oo 4 (.mov (.t 5))])
  (.cond (.t 4) (.seq (.region [Oo 2 (.mov (.k (.string ⟨#[111]⟩)))])
  .ret)
  (.seq (.region [Oo 7 (.bin .eql (.t 3) (Ki 2)), Oo 6 (.mov (.t 7))])
  (.cond (.t 6) (.seq (.region [Oo 2 (.mov (.k (.string ⟨#[114]⟩)))])
  .ret)
  (.seq (.region [Oo 9 (.bin .eql (.t 3) (Ki 3)), Oo 8 (.mov (.t 9))])
  (.cond (.t 8) (.seq (.region [Oo 2 (.mov (.k (.string ⟨#[119]⟩)))])
  .ret)
  .skip))))))))
  (.seq (.region [Oo 2 (.mov (.k (.string ⟨#[63]⟩)))])
  .ret)))
abbrev h80 : HF := ⟨h80c, [.tmp 2], 10, false⟩
theorem h80_ok : (Tryz.f80.body).bind (compileC Tryz.prog) = some h80c.er := by kernel_rfl
theorem r80_ok : Tryz.f80.results.toList.mapM (retOf Tryz.prog) = some [.tmp 2] := by kernel_rfl

/-- strings.Join -/
def h81l0 : HC :=
  (.seq (.region [Oo 42 (.bin .lss (.t 41) (.t 40))])
  (.seq (.cond (.t 42) .skip
  (.exit 1))
  (.seq (.block 2 (.seq (.region [Oo 43 (.ixL 1 (.t 39) (.t 41)), Oo 44 (.load false 1 (.t 43)), Oo 7 (.mov (.t 44))])
  (.seq (.seq (.region [Oo 45 (.mov (.t 7)), Oo 46 (.lenS (.t 45)), Oo 47 (.mov (.t 5)), Oo 48 (.bin .sub (Ki 9223372036854775807) (.t 47)), Oo 49 (.bin .gtr (.t 46) (.t 48))])
  (.cond (.t 49) .bad
  .skip))
  (.region [Oo 51 (.mov (.t 5)), Oo 52 (.mov (.t 7)), Oo 53 (.lenS (.t 52)), Oo 54 (.bin .add (.t 51) (.t 53)), Oo 5 (.mov (.t 54))]))))
  (.region [Oo 55 (.bin .add (.t 41) (Ki 1)), Oo 41 (.mov (.t 55))]))))
def h81l1 : HC :=
  (.seq (.region [Oo 66 (.bin .lss (.t 65) (.t 64))])
  (.seq (.cond (.t 66) .skip
  (.exit 3))
  (.seq (.block 4 (.seq (.region [Oo 67 (.ixL 1 (.t 63) (.t 65)), Oo 68 (.load false 1 (.t 67)), Oo 10 (.mov (.t 68))])
  (.seq (.region [Oo 69 (.mov (.t 1)), Oo 70 (.call 141 [(.t 8), (.t 69)])])
  (.region [Oo 71 (.mov (.t 10)), Oo 72 (.call 141 [(.t 8), (.t 71)])]))))
  (.region [Oo 73 (.bin .add (.t 65) (Ki 1)), Oo 65 (.mov (.t 73))]))))
def h81c : HC :=
  (.seq (.region [Oo 4 (.mov (.k (.string ⟨#[]⟩)))])
  (.seq (.seq (.region [Oo 11 (.mov (.t 0)), Oo 12 (.lenL (.t 11))])
  (.block 0 (.seq (.region [Oo 14 (.bin .eql (.t 12) (Ki 0)), Oo 13 (.mov (.t 14))])
  (.cond (.t 13) (.seq (.region [Oo 4 (.mov (.k (.string ⟨#[]⟩)))])
  .ret)
  (.seq (.region [Oo 16 (.bin .eql (.t 12) (Ki 1)), Oo 15 (.mov (.t 16))])
  (.cond (.t 15) (.seq (.region [Oo 17 (.mov (.t 0)), Oo 18 (.ixL 1 (.t 17) (Ki 0)), Oo 19 (.load false 1 (.t 18)), Oo 4 (.mov (.t 19))])
  .ret)
  .skip))))))
  (.seq (.region [Oo 5 (.mov (Ki 0))])
  (.seq (.seq (.region [Oo 20 (.mov (.t 1)), Oo 21 (.lenS (.t 20)), Oo 22 (.bin .gtr (.t 21) (Ki 0))])
  (.cond (.t 22) (.seq (.seq (.region [Oo 23 (.mov (.t 1)), Oo 24 (.lenS (.t 23)), Oo 25 (.mov (.t 0)), Oo 26 (.lenL (.t 25)), Oo 27 (.bin .sub (.t 26) (Ki 1)), Oo 28 (.bin .quo (Ki 9223372036854775807) (.t 27)), Oo 29 (.bin .geq (.t 24) (.t 28))])
  (.cond (.t 29) .bad
  .skip))
  (.region [Oo 31 (.mov (.t 5)), Oo 32 (.mov (.t 1)), Oo 33 (.lenS (.t 32)), Oo 34 (.mov (.t 0)), Oo 35 (.lenL (.t 34)), Oo 36 (.bin .sub (.t 35) (Ki 1)), Oo 37 (.bin .mul (.t 33) (.t 36)), Oo 38 (.bin .add (.t 31) (.t 37)), Oo 5 (.mov (.t 38))]))
  .skip))
  (.seq (.seq (.region [Oo 39 (.mov (.t 0)), Oo 40 (.lenL (.t 39)), Oo 41 (.mov (Ki 0))])
  (.block 1 (.loop [0, 0, 3, 33, 0, 0] h81l0)))
  (.seq (.region [Oo 8 (.alloc [(.pointer none), (.slice none 0 0)])])
  (.seq (.region [Oo 56 (.mov (.t 5)), Oo 57 (.call 140 [(.t 8), (.t 56)])])
  (.seq (.region [Oo 58 (.mov (.t 0)), Oo 59 (.ixL 1 (.t 58) (Ki 0)), Oo 60 (.load false 1 (.t 59)), Oo 61 (.call 141 [(.t 8), (.t 60)])])
  (.seq (.seq (.region [Oo 62 (.mov (.t 0)), Oo 63 (.slL 1 (.t 62) (some (Ki 1)) none), Oo 64 (.lenL (.t 63)), Oo 65 (.mov (Ki 0))])
  (.block 3 (.loop [1, 6, 54, 0, 0] h81l1)))
  (.seq (.region [Oo 74 (.call 142 [(.t 8)]), Oo 4 (.mov (.t 74))])
  .ret))))))))))
abbrev h81 : HF := ⟨h81c, [.tmp 4], 75, false⟩
theorem h81_ok : (Tryz.f81.body).bind (compileC Tryz.prog) = some h81c.er := by kernel_rfl
theorem r81_ok : Tryz.f81.results.toList.mapM (retOf Tryz.prog) = some [.tmp 4] := by kernel_rfl

/-- slices.Clone[[]depository/api.OplockGrant,depository/api.OplockGrant] -/
def h109c : HC :=
  (.seq (.region [Oo 2 (.mov (.k (.slice none 0 0)))])
  (.seq (.seq (.region [Oo 3 (.mov (.t 0)), Oo 4 (.isnil false false (.t 3))])
  (.cond (.t 4) (.seq (.region [Oo 2 (.mov (.k (.slice none 0 0)))])
  .ret)
  .skip))
  (.seq (.region [Oo 5 (.bslc 3 0 [Zi 0, Zi 0, Zi 0] []), Oo 6 (.mov (.t 0)), Oo 7 (.app 3 24 [Zi 0, Zi 0, Zi 0] (.t 5) (.t 6)), Oo 2 (.mov (.t 7))])
  .ret)))
abbrev h109 : HF := ⟨h109c, [.tmp 2], 8, true⟩
theorem h109_ok : (Tryz.f109.body).bind (compileC Tryz.prog) = some h109c.er := by kernel_rfl
theorem r109_ok : Tryz.f109.results.toList.mapM (retOf Tryz.prog) = some [.tmp 2] := by kernel_rfl

/-- slices.Clone[[]depository/api.OplockWait,depository/api.OplockWait] -/
def h110c : HC :=
  (.seq (.region [Oo 2 (.mov (.k (.slice none 0 0)))])
  (.seq (.seq (.region [Oo 3 (.mov (.t 0)), Oo 4 (.isnil false false (.t 3))])
  (.cond (.t 4) (.seq (.region [Oo 2 (.mov (.k (.slice none 0 0)))])
  .ret)
  .skip))
  (.seq (.region [Oo 5 (.bslc 2 0 [Zi 0, Zi 0] []), Oo 6 (.mov (.t 0)), Oo 7 (.app 2 16 [Zi 0, Zi 0] (.t 5) (.t 6)), Oo 2 (.mov (.t 7))])
  .ret)))
abbrev h110 : HF := ⟨h110c, [.tmp 2], 8, true⟩
theorem h110_ok : (Tryz.f110.body).bind (compileC Tryz.prog) = some h110c.er := by kernel_rfl
theorem r110_ok : Tryz.f110.results.toList.mapM (retOf Tryz.prog) = some [.tmp 2] := by kernel_rfl

/-- depository/oplocks.isClient -/
def h111c : HC :=
  (.seq (.region [Oo 2 (.mov (.k (.bool false)))])
  (.seq (.region [Oo 3 (.mov (.t 0)), Oo 4 (.call 112 [(.t 3), (Ki 1), (Ki 8)]), Oo 2 (.mov (.t 4))])
  .ret))
abbrev h111 : HF := ⟨h111c, [.tmp 2], 5, false⟩
theorem h111_ok : (Tryz.f111.body).bind (compileC Tryz.prog) = some h111c.er := by kernel_rfl
theorem r111_ok : Tryz.f111.results.toList.mapM (retOf Tryz.prog) = some [.tmp 2] := by kernel_rfl

/-- depository/oplocks.within -/
def h112c : HC :=
  (.seq (.region [Oo 6 (.mov (.k (.bool false)))])
  (.seq (.region [Oo 7 (.mov (.t 1)), Oo 8 (.mov (.t 0)), Oo 9 (.bin .leq (.t 7) (.t 8)), Oo 10 (.mov (.t 9)), Og 10 true 11 (.mov (.t 0)), Og 10 true 12 (.mov (.t 2)), Og 10 true 13 (.bin .leq (.t 11) (.t 12)), Oo 14 (.pick (.t 10) (.t 13) (.k (.bool false))), Oo 6 (.mov (.t 14))])
  .ret))
abbrev h112 : HF := ⟨h112c, [.tmp 6], 15, false⟩
theorem h112_ok : (Tryz.f112.body).bind (compileC Tryz.prog) = some h112c.er := by kernel_rfl
theorem r112_ok : Tryz.f112.results.toList.mapM (retOf Tryz.prog) = some [.tmp 6] := by kernel_rfl

/-- (*depository/oplocks.file).grantErr$1 -/
def h113c : HC :=
  (.seq (.region [Oo 3 (.box (.t 0)), Oo 4 (.mov (.k (.bool false)))])
  (.seq (.region [Oo 5 (.load false 1 (.t 1)), Oo 6 (.nilc (.t 5)), Oo 7 (.addo 0 (.t 6)), Oo 8 (.addo 0 (.t 7)), Oo 9 (.load false 1 (.t 8)), Oo 10 (.mkfn 115 [(.t 2), (.t 3)]), Oo 11 (.call 114 [(.t 9), (.t 10)]), Oo 4 (.mov (.t 11))])
  .ret))
abbrev h113 : HF := ⟨h113c, [.tmp 4], 12, false⟩
theorem h113_ok : (Tryz.f113.body).bind (compileC Tryz.prog) = some h113c.er := by kernel_rfl
theorem r113_ok : Tryz.f113.results.toList.mapM (retOf Tryz.prog) = some [.tmp 4] := by kernel_rfl

/-- slices.ContainsFunc[[]depository/api.OplockGrant,depository/api.OplockGrant] -/
def h114c : HC :=
  (.seq (.region [Oo 4 (.mov (.k (.bool false)))])
  (.seq (.region [Oo 5 (.mov (.t 0)), Oo 6 (.mov (.t 1)), Oo 7 (.call 169 [(.t 5), (.t 6)]), Oo 8 (.bin .geq (.t 7) (Ki 0)), Oo 4 (.mov (.t 8))])
  .ret))
abbrev h114 : HF := ⟨h114c, [.tmp 4], 9, false⟩
theorem h114_ok : (Tryz.f114.body).bind (compileC Tryz.prog) = some h114c.er := by kernel_rfl
theorem r114_ok : Tryz.f114.results.toList.mapM (retOf Tryz.prog) = some [.tmp 4] := by kernel_rfl

/-- (*depository/oplocks.file).grantErr$1$1 -/
def h115c : HC :=
  (.seq (.region [Oo 3 (.box (.t 0)), Oo 4 (.mov (.k (.bool false)))])
  (.seq (.region [Oo 5 (.addo 0 (.t 3)), Oo 6 (.load false 1 (.t 5)), Oo 7 (.addo 0 (.t 1)), Oo 8 (.load false 1 (.t 7)), Oo 9 (.bin .neq (.t 6) (.t 8)), Oo 10 (.mov (.t 9)), Og 10 true 11 (.addo 1 (.t 3)), Og 10 true 12 (.load false 1 (.t 11)), Og 10 true 13 (.load false 1 (.t 2)), Og 10 true 14 (.bin .geq (.t 12) (.t 13)), Oo 15 (.pick (.t 10) (.t 14) (.k (.bool false))), Oo 4 (.mov (.t 15))])
  .ret))
abbrev h115 : HF := ⟨h115c, [.tmp 4], 16, false⟩
theorem h115_ok : (Tryz.f115.body).bind (compileC Tryz.prog) = some h115c.er := by kernel_rfl
theorem r115_ok : Tryz.f115.results.toList.mapM (retOf Tryz.prog) = some [.tmp 4] := by kernel_rfl

/-- (*depository/oplocks.file).grantErr$2 -/
def h116c : HC :=
  (.seq (.region [Oo 2 (.box (.t 0)), Oo 3 (.mov (.k (.bool false)))])
  (.seq (.region [Oo 4 (.addo 0 (.t 2)), Oo 5 (.load false 1 (.t 4)), Oo 6 (.addo 0 (.t 1)), Oo 7 (.load false 1 (.t 6)), Oo 8 (.bin .neq (.t 5) (.t 7)), Oo 3 (.mov (.t 8))])
  .ret))
abbrev h116 : HF := ⟨h116c, [.tmp 3], 9, false⟩
theorem h116_ok : (Tryz.f116.body).bind (compileC Tryz.prog) = some h116c.er := by kernel_rfl
theorem r116_ok : Tryz.f116.results.toList.mapM (retOf Tryz.prog) = some [.tmp 3] := by kernel_rfl

/-- depository/oplocks.first -/
def h117l0 : HC :=
  (.seq (.region [Oo 8 (.bin .lss (.t 7) (.t 6))])
  (.seq (.cond (.t 8) .skip
  (.exit 0))
  (.seq (.block 1 (.seq (.region [Oo 9 (.ixL 1 (.t 5) (.t 7)), Oo 10 (.load false 1 (.t 9)), Oo 4 (.mov (.t 10))])
  (.seq (.region [Oo 11 (.mov (.t 4)), Oo 12 (.bin .neq (.t 11) (Ki 0))])
  (.cond (.t 12) (.seq (.region [Oo 13 (.mov (.t 4)), Oo 2 (.mov (.t 13))])
  .ret)
  .skip))))
  (.region [Oo 14 (.bin .add (.t 7) (Ki 1)), Oo 7 (.mov (.t 14))]))))
def h117c : HC :=
  (.seq (.region [Oo 2 (.mov (Ki 0))])
  (.seq (.seq (.region [Oo 5 (.mov (.t 0)), Oo 6 (.lenL (.t 5)), Oo 7 (.mov (Ki 0))])
  (.block 0 (.loop [5, 0, 0] h117l0)))
  (.seq (.region [Oo 2 (.mov (Ki 0))])
  .ret)))
abbrev h117 : HF := ⟨h117c, [.tmp 2], 15, false⟩
theorem h117_ok : (Tryz.f117.body).bind (compileC Tryz.prog) = some h117c.er := by kernel_rfl
theorem r117_ok : Tryz.f117.results.toList.mapM (retOf Tryz.prog) = some [.tmp 2] := by kernel_rfl

/-- slices.ContainsFunc[[]depository/api.OplockWait,depository/api.OplockWait] -/
def h118c : HC :=
  (.seq (.region [Oo 4 (.mov (.k (.bool false)))])
  (.seq (.region [Oo 5 (.mov (.t 0)), Oo 6 (.mov (.t 1)), Oo 7 (.call 170 [(.t 5), (.t 6)]), Oo 8 (.bin .geq (.t 7) (Ki 0)), Oo 4 (.mov (.t 8))])
  .ret))
abbrev h118 : HF := ⟨h118c, [.tmp 4], 9, false⟩
theorem h118_ok : (Tryz.f118.body).bind (compileC Tryz.prog) = some h118c.er := by kernel_rfl
theorem r118_ok : Tryz.f118.results.toList.mapM (retOf Tryz.prog) = some [.tmp 4] := by kernel_rfl

/-- (*depository/oplocks.file).waitErr$1 -/
def h119c : HC :=
  (.seq (.region [Oo 2 (.box (.t 0)), Oo 3 (.mov (.k (.bool false)))])
  (.seq (.region [Oo 4 (.addo 0 (.t 2)), Oo 5 (.load false 1 (.t 4)), Oo 6 (.addo 0 (.t 1)), Oo 7 (.load false 1 (.t 6)), Oo 8 (.bin .eql (.t 5) (.t 7)), Oo 3 (.mov (.t 8))])
  .ret))
abbrev h119 : HF := ⟨h119c, [.tmp 3], 9, false⟩
theorem h119_ok : (Tryz.f119.body).bind (compileC Tryz.prog) = some h119c.er := by kernel_rfl
theorem r119_ok : Tryz.f119.results.toList.mapM (retOf Tryz.prog) = some [.tmp 3] := by kernel_rfl

/-- (*depository/oplocks.file).held$1 -/
def h120c : HC :=
  (.seq (.region [Oo 2 (.box (.t 0)), Oo 3 (.mov (.k (.bool false)))])
  (.seq (.drawn [Qo (Oo 4 (.addo 0 (.t 2))), Qo (Oo 5 (.load false 1 (.t 4))), Qo (Oo 6 (.addo 0 (.t 1))), Qo (Oo 7 (.load false 1 (.t 6))), Qo (Oo 8 (.bin .neq (.t 5) (.t 7))), Qo (Oo 9 (.mov (.t 8))), Qo (Og 9 true 10 (.addo 1 (.t 2))), Qo (Og 9 true 11 (.load false 1 (.t 10))), Qo (Og 9 true 12 (.addo 1 (.t 1))), Qo (Og 9 true 13 (.load false 1 (.t 12))), Qo (Og 9 true 14 (.ixA 4 1 (.g 0) (.t 13))), Qo (Og 9 true 15 (.load false 1 (.t 14))), Qo (Og 9 true 16 (.bin .gtr (.t 11) (.t 15))), Qo (Oo 17 (.pick (.t 9) (.t 16) (.k (.bool false)))), Qo (Oo 3 (.mov (.t 17)))])
  .ret))
abbrev h120 : HF := ⟨h120c, [.tmp 3], 18, false⟩
theorem h120_ok : (Tryz.f120.body).bind (compileC Tryz.prog) = some h120c.er := by kernel_rfl
theorem r120_ok : Tryz.f120.results.toList.mapM (retOf Tryz.prog) = some [.tmp 3] := by kernel_rfl

/-- depository/depositoryref26.IsClient -/
def h121c : HC :=
  (.seq (.region [Oo 2 (.mov (.k (.bool false)))])
  (.seq (.region [Oo 3 (.mov (.t 0)), Oo 4 (.call 39 [(.t 3), (Ki 1), (Ki 8)]), Oo 2 (.mov (.t 4))])
  .ret))
abbrev h121 : HF := ⟨h121c, [.tmp 2], 5, false⟩
theorem h121_ok : (Tryz.f121.body).bind (compileC Tryz.prog) = some h121c.er := by kernel_rfl
theorem r121_ok : Tryz.f121.results.toList.mapM (retOf Tryz.prog) = some [.tmp 2] := by kernel_rfl

/-- depository/depositoryref26.Waiting -/
def h122l0 : HC :=
  (.seq (.seq (.region [Oo 6 (.mov (.t 5)), Oo 7 (.addo 1 (.t 2)), Oo 8 (.load false 1 (.t 7)), Oo 9 (.lenL (.t 8)), Oo 10 (.bin .lss (.t 6) (.t 9))])
  (.cond (.t 10) .skip
  (.exit 0)))
  (.seq (.block 1 (.seq (.region [Oo 13 (.addo 1 (.t 2)), Oo 14 (.load false 1 (.t 13)), Oo 15 (.mov (.t 5)), Oo 16 (.ixL 2 (.t 14) (.t 15)), Oo 17 (.addo 0 (.t 16)), Oo 18 (.load false 1 (.t 17)), Oo 19 (.mov (.t 1)), Oo 20 (.bin .eql (.t 18) (.t 19))])
  (.cond (.t 20) (.seq (.region [Oo 21 (.mov (.t 5)), Oo 4 (.mov (.t 21))])
  .ret)
  .skip)))
  (.region [Oo 11 (.mov (.t 5)), Oo 12 (.bin .add (.t 11) (Ki 1)), Oo 5 (.mov (.t 12))])))
def h122c : HC :=
  (.seq (.region [Oo 2 (.box (.t 0)), Oo 4 (.mov (Ki 0))])
  (.seq (.seq (.region [Oo 5 (.mov (Ki 0))])
  (.block 0 (.loop [1, 0, 2] h122l0)))
  (.seq (.region [Oo 4 (.mov (Ki (-1)))])
  .ret)))
abbrev h122 : HF := ⟨h122c, [.tmp 4], 22, false⟩
theorem h122_ok : (Tryz.f122.body).bind (compileC Tryz.prog) = some h122c.er := by kernel_rfl
theorem r122_ok : Tryz.f122.results.toList.mapM (retOf Tryz.prog) = some [.tmp 4] := by kernel_rfl

/-- depository/depositoryref26.Allows -/
def h123c : HC :=
  (.seq (.region [Oo 2 (.mov (Ki 0))])
  (.seq (.seq (.region [Oo 3 (.mov (.t 0)), Oo 4 (.bin .eql (.t 3) (Ki 0))])
  (.cond (.t 4) (.seq (.region [Oo 2 (.mov (Ki 2))])
  .ret)
  .skip))
  (.seq (.seq (.region [Oo 5 (.mov (.t 0)), Oo 6 (.bin .eql (.t 5) (Ki 2))])
  (.cond (.t 6) (.seq (.region [Oo 2 (.mov (Ki 1))])
  .ret)
  .skip))
  (.seq (.region [Oo 2 (.mov (Ki 0))])
  .ret))))
abbrev h123 : HF := ⟨h123c, [.tmp 2], 7, false⟩
theorem h123_ok : (Tryz.f123.body).bind (compileC Tryz.prog) = some h123c.er := by kernel_rfl
theorem r123_ok : Tryz.f123.results.toList.mapM (retOf Tryz.prog) = some [.tmp 2] := by kernel_rfl

/-- (*depository/oplocks.file).usualErr -/
def h124c : HC :=
  (.seq (.region [Oo 3 (.box (.t 1)), Oo 4 (.mov (Ki 0))])
  (.seq (.region [Oo 8 (.addo 2 (.t 3)), Oo 9 (.load false 1 (.t 8)), Oo 10 (.bin .eql (.t 9) (Ki 0)), Oo 5 (.mov (.t 10))])
  (.seq (.seq (.region [Oo 11 (.addo 0 (.t 3)), Oo 12 (.load false 1 (.t 11)), Oo 13 (.bin .eql (.t 12) (Ki 1))])
  (.cond (.t 13) (.region [Oo 14 (.addo 2 (.t 3)), Oo 15 (.load false 1 (.t 14)), Oo 16 (.call 112 [(.t 15), (Ki 1), (Ki 3)]), Oo 5 (.mov (.t 16))])
  .skip))
  (.seq (.region [Oo 17 (.mov (.t 0)), Oo 18 (.nilc (.t 17)), Oo 19 (.addo 0 (.t 18)), Oo 20 (.addo 1 (.t 19)), Oo 21 (.load false 1 (.t 20)), Oo 22 (.mkfn 171 [(.t 3)]), Oo 23 (.call 118 [(.t 21), (.t 22)]), Oo 6 (.mov (.t 23))])
  (.seq (.region [Oo 24 (.mov (.t 0)), Oo 25 (.addo 1 (.t 3)), Oo 26 (.load false 1 (.t 25)), Oo 27 (.call 78 [(.t 24), (.t 26)]), Oo 28 (.isnil true true (.t 27)), Oo 7 (.mov (.t 28))])
  (.seq (.drawn [Qo (Oo 29 (.addo 0 (.t 3))), Qo (Oo 30 (.load false 1 (.t 29))), Qo (Oo 31 (.call 112 [(.t 30), (Ki 0), (Ki 5)])), Qo (Oo 32 (.call 55 [(.t 31), (Ki 15)])), Qo (Oo 33 (.addo 1 (.t 3))), Qo (Oo 34 (.load false 1 (.t 33))), Qo (Oo 35 (.call 111 [(.t 34)])), Qo (Oo 36 (.mov (.t 35))), Qo (Og 36 true 37 (.mov (.t 5))), Qo (Oo 38 (.pick (.t 36) (.t 37) (.k (.bool false)))), Qo (Oo 39 (.call 55 [(.t 38), (Ki 2)])), Qo (Oo 40 (.mov (.t 6))), Qo (Oo 41 (.un .not (.t 40))), Qo (Oo 42 (.call 55 [(.t 41), (Ki 18)])), Qo (Oo 43 (.addo 0 (.t 3))), Qo (Oo 44 (.load false 1 (.t 43))), Qo (Oo 45 (.bin .neq (.t 44) (Ki 0))), Qo (Oo 46 (.mov (.t 45))), Qo (Og 46 false 47 (.mov (.t 7))), Qo (Og 46 false 48 (.un .not (.t 47))), Qo (Oo 49 (.pick (.t 46) (.k (.bool true)) (.t 48))), Qo (Oo 50 (.call 55 [(.t 49), (Ki 5)])), Qo (Oo 51 (.addo 0 (.t 3))), Qo (Oo 52 (.load false 1 (.t 51))), Qo (Oo 53 (.bin .eql (.t 52) (Ki 0))), Qo (Oo 54 (.mov (.t 53))), Qo (Og 54 false 55 (.mov (.t 7))), Qo (Oo 56 (.pick (.t 54) (.k (.bool true)) (.t 55))), Qe (Oo 57 (.call 55 [(.t 56), (Ki 6)])), Qe (Oo 58 (.bslc 1 5 [Zi 0] [(0, (.t 32)), (1, (.t 39)), (2, (.t 42)), (3, (.t 50)), (4, (.t 57))])), Qe (Oo 59 (.call 117 [(.t 58)])), Qo (Oo 4 (.mov (.t 59)))])
  .ret))))))
abbrev h124 : HF := ⟨h124c, [.tmp 4], 60, false⟩
theorem h124_ok : (Tryz.f124.body).bind (compileC Tryz.prog) = some h124c.er := by kernel_rfl
theorem r124_ok : Tryz.f124.results.toList.mapM (retOf Tryz.prog) = some [.tmp 4] := by kernel_rfl

/-- (*depository/oplocks.file).mayHave -/
def h125c : HC :=
  (.seq (.region [Oo 3 (.box (.t 1)), Oo 4 (.mov (.k (.bool false)))])
  (.seq (.regR [172] [Oo 7 (.mov (.t 0)), Oo 8 (.nilc (.t 7)), Oo 9 (.addo 0 (.t 8)), Oo 10 (.addo 0 (.t 9)), Oo 11 (.load false 1 (.t 10)), Oo 12 (.call 109 [(.t 11)]), Oo 13 (.mkfn 173 [(.t 3)]), Oo 14 (.call 172 [(.t 12), (.t 13)]), Oo 5 (.alloc [(.slice none 0 0)]), On (.store 1 (.t 5) (.t 14))])
  (.seq (.region [Oo 15 (.mkfn 174 [(.t 5)]), Oo 6 (.mov (.t 15))])
  (.seq (.block 0 (.seq (.region [Oo 17 (.mov (.t 0)), Oo 18 (.nilc (.t 17)), Oo 19 (.addo 0 (.t 18)), Oo 20 (.addo 1 (.t 19)), Oo 21 (.load false 1 (.t 20)), Oo 22 (.lenL (.t 21)), Oo 23 (.bin .gtr (.t 22) (Ki 0)), Oo 16 (.mov (.t 23))])
  (.cond (.t 16) (.seq (.region [Oo 4 (.mov (.k (.bool false)))])
  .ret)
  (.seq (.region [Oo 25 (.addo 2 (.t 3)), Oo 26 (.load false 1 (.t 25)), Oo 27 (.bin .eql (.t 26) (Ki 3)), Oo 24 (.mov (.t 27))])
  (.cond (.t 24) (.seq (.region [Oo 28 (.load false 1 (.t 5)), Oo 29 (.lenL (.t 28)), Oo 30 (.bin .eql (.t 29) (Ki 0)), Oo 4 (.mov (.t 30))])
  .ret)
  (.seq (.region [Oo 32 (.addo 2 (.t 3)), Oo 33 (.load false 1 (.t 32)), Oo 34 (.bin .eql (.t 33) (Ki 2)), Oo 31 (.mov (.t 34))])
  (.cond (.t 31) (.seq (.region [Oo 35 (.mov (.t 6)), Oo 36 (.callv (.t 35) [(Ki 0)]), Oo 37 (.un .not (.t 36)), Oo 4 (.mov (.t 37))])
  .ret)
  .skip)))))))
  (.seq (.region [Oo 38 (.mov (.t 6)), Oo 39 (.callv (.t 38) [(Ki 1)]), Oo 40 (.un .not (.t 39)), Oo 4 (.mov (.t 40))])
  .ret)))))
abbrev h125 : HF := ⟨h125c, [.tmp 4], 41, false⟩
theorem h125_ok : (Tryz.f125.body).bind (compileC Tryz.prog) = some h125c.er := by kernel_rfl
theorem r125_ok : Tryz.f125.results.toList.mapM (retOf Tryz.prog) = some [.tmp 4] := by kernel_rfl

/-- (*depository/oplocks.file).place -/
def h126c : HC :=
  (.seq (.region [Oo 4 (.mov (Ki 0)), Oo 5 (.mov (.k (.bool false)))])
  (.seq (.region [Oo 6 (.mov (.t 0)), Oo 7 (.nilc (.t 6)), Oo 8 (.addo 0 (.t 7)), Oo 9 (.addo 0 (.t 8)), Oo 10 (.load false 1 (.t 9)), Oo 11 (.mov (.t 1)), Oo 12 (.call 176 [(.t 10), (.t 11), (.f 177)]), Oo 13 (.ext (.t 12) 0), Oo 14 (.ext (.t 12) 1), Oo 4 (.mov (.t 13)), Oo 5 (.mov (.t 14))])
  .ret))
abbrev h126 : HF := ⟨h126c, [.tmp 4, .tmp 5], 15, false⟩
theorem h126_ok : (Tryz.f126.body).bind (compileC Tryz.prog) = some h126c.er := by kernel_rfl
theorem r126_ok : Tryz.f126.results.toList.mapM (retOf Tryz.prog) = some [.tmp 4, .tmp 5] := by kernel_rfl

/-- (*depository/oplocks.file).through -/
def h127l0 : HC :=
  (.seq (.seq (.region [Oo 5 (.mov (.t 0)), Oo 6 (.nilc (.t 5)), Oo 7 (.addo 0 (.t 6)), Oo 8 (.addo 1 (.t 7)), Oo 9 (.load false 1 (.t 8)), Oo 10 (.lenL (.t 9)), Oo 11 (.bin .gtr (.t 10) (Ki 0))])
  (.cond (.t 11) .skip
  (.exit 0)))
  (.block 1 (.seq (.region [Oo 12 (.mov (.t 0)), Oo 13 (.nilc (.t 12)), Oo 14 (.addo 0 (.t 13)), Oo 15 (.addo 1 (.t 14)), Oo 16 (.load false 1 (.t 15)), Oo 17 (.ixL 2 (.t 16) (Ki 0)), Oo 18 (.load true 2 (.t 17)), Oo 4 (.alloc [Zi 0, Zi 0]), On (.store 2 (.t 4) (.t 18))])
  (.seq (.regR [54] [Oo 19 (.mov (.t 2)), Oo 20 (.mov (.t 0)), Oo 21 (.load true 2 (.t 4)), Oo 22 (.call 54 [(.t 20), (.t 21)]), Oo 23 (.app 2 16 [Zi 0, Zi 0] (.t 19) (.t 22)), Oo 2 (.mov (.t 23))])
  (.seq (.seq (.regR [56, 100056] [Oo 24 (.mov (.t 0)), Oo 25 (.load true 2 (.t 4)), Oo 26 (.call 56 [(.t 24), (.t 25)])])
  (.cond (.t 26) (.exit 0)
  .skip))
  (.seq (.regR [178] [Oo 27 (.mov (.t 0)), Oo 28 (.load true 2 (.t 4)), Oo 29 (.call 178 [(.t 27), (.t 28)])])
  (.drawnT [179] (.st 0 (.st 1 (.st 2 (.st 3 (.st 4 (.st 7 (.br 5 (.br 6 (.st 8 (.st 9 (.st 10 (.st 11 (.st 12 (.st 13 (.st 14 (.st 15 .nil)))))))) (.br 8 (.br 6 (.st 9 (.st 10 (.st 11 (.st 12 (.st 13 (.st 14 (.st 15 .nil))))))) (.br 9 (.st 6 (.st 10 (.st 11 (.st 12 (.st 13 (.st 14 (.st 15 .nil))))))) .stop)) .stop)) (.br 8 (.br 5 (.br 6 (.st 9 (.st 10 (.st 11 (.st 12 (.st 13 (.st 14 (.st 15 .nil))))))) (.br 9 (.st 6 (.st 10 (.st 11 (.st 12 (.st 13 (.st 14 (.st 15 .nil))))))) .stop)) (.br 9 (.st 5 (.st 6 (.st 10 (.st 11 (.st 12 (.st 13 (.st 14 (.st 15 .nil)))))))) .stop)) .stop)))))))) [Oo 30 (.mov (.t 0)), Oo 31 (.mov (.t 0)), Oo 32 (.nilc (.t 31)), Oo 33 (.addo 0 (.t 32)), Oo 34 (.addo 1 (.t 33)), Oo 35 (.load false 1 (.t 34)), Oo 36 (.call 179 [(.t 35), (Ki 0), (Ki 1)]), Oo 37 (.mov (.t 3)), Oo 38 (.load true 2 (.t 4)), Oo 39 (.bslc 2 1 [Zi 0, Zi 0] [(0, (.t 38))]), Oo 40 (.app 2 16 [Zi 0, Zi 0] (.t 37) (.t 39)), Oo 41 (.nilc (.t 30)), Oo 42 (.addo 0 (.t 41)), Oo 43 (.addo 1 (.t 42)), On (.store 1 (.t 43) (.t 36)), Oo 3 (.mov (.t 40))])))))))
def h127c : HC :=
  (.seq (.region [Oo 2 (.mov (.k (.slice none 0 0))), Oo 3 (.mov (.k (.slice none 0 0)))])
  (.gh (.nil 2 2) (.gh (.nil 3 2) (.seq (.block 0 (.loop [0, 1, 0] h127l0))
  (.seq (.region [Oo 44 (.mov (.t 2)), Oo 45 (.mov (.t 3)), Oo 2 (.mov (.t 44)), Oo 3 (.mov (.t 45))])
  .ret)))))
abbrev h127 : HF := ⟨h127c, [.tmp 2, .tmp 3], 46, false⟩
theorem h127_ok : (Tryz.f127.body).bind (compileC Tryz.prog) = some h127c.er := by kernel_rfl
theorem r127_ok : Tryz.f127.results.toList.mapM (retOf Tryz.prog) = some [.tmp 2, .tmp 3] := by kernel_rfl

/-- slices.Delete[[]depository/api.OplockGrant,depository/api.OplockGrant] -/
def h128c : HC :=
  (.seq (.region [Oo 6 (.mov (.k (.slice none 0 0)))])
  (.seq .bad
  (.seq (.seq (.region [Oo 14 (.mov (.t 1)), Oo 15 (.mov (.t 2)), Oo 16 (.bin .eql (.t 14) (.t 15))])
  (.cond (.t 16) (.seq (.region [Oo 17 (.mov (.t 0)), Oo 6 (.mov (.t 17))])
  .ret)
  .skip))
  (.seq (.region [Oo 18 (.mov (.t 0)), Oo 19 (.lenL (.t 18)), Oo 7 (.mov (.t 19))])
  (.seq (.drawn [Qo (Oo 20 (.mov (.t 0))), Qo (Oo 21 (.mov (.t 1))), Qo (Oo 22 (.slL 3 (.t 20) none (some (.t 21)))), Qo (Oo 23 (.mov (.t 0))), Qo (Oo 24 (.mov (.t 2))), Qo (Oo 25 (.slL 3 (.t 23) (some (.t 24)) none)), Qe (Oo 26 (.app 3 24 [Zi 0, Zi 0, Zi 0] (.t 22) (.t 25))), Qo (Oo 0 (.mov (.t 26)))])
  (.seq (.region [Oo 27 (.mov (.t 0)), Oo 28 (.mov (.t 0)), Oo 29 (.lenL (.t 28)), Oo 30 (.mov (.t 7)), Oo 31 (.slL 3 (.t 27) (some (.t 29)) (some (.t 30))), On (.clr 3 [Zi 0, Zi 0, Zi 0] (.t 31))])
  (.seq (.region [Oo 32 (.mov (.t 0)), Oo 6 (.mov (.t 32))])
  .ret)))))))
abbrev h128 : HF := ⟨h128c, [.tmp 6], 33, true⟩
theorem h128_ok : (Tryz.f128.body).bind (compileC Tryz.prog) = some h128c.er := by kernel_rfl
theorem r128_ok : Tryz.f128.results.toList.mapM (retOf Tryz.prog) = some [.tmp 6] := by kernel_rfl

/-- (*depository/oplocks.file).use -/
def h129c : HC :=
  (.seq (.region [Oo 3 (.box (.t 1)), Oo 4 (.mov (.k (.bool false))), Oo 5 (.mov (.k (.slice none 0 0)))])
  (.seq (.region [Oo 6 (.mov (.k (.slice none 0 0)))])
  (.seq (.seq (.region [Oo 7 (.mov (.t 0)), Oo 8 (.nilc (.t 7)), Oo 9 (.addo 0 (.t 8)), Oo 10 (.addo 1 (.t 9)), Oo 11 (.load false 1 (.t 10)), Oo 12 (.lenL (.t 11)), Oo 13 (.bin .eql (.t 12) (Ki 0))])
  (.cond (.t 13) (.seq (.regR [54] [Oo 14 (.mov (.t 0)), Oo 15 (.load true 2 (.t 3)), Oo 16 (.call 54 [(.t 14), (.t 15)]), Oo 6 (.mov (.t 16))])
  (.seq (.regR [56, 100056] [Oo 17 (.mov (.t 0)), Oo 18 (.load true 2 (.t 3)), Oo 19 (.call 56 [(.t 17), (.t 18)]), Oo 20 (.un .not (.t 19))])
  (.cond (.t 20) (.seq (.regR [178] [Oo 21 (.mov (.t 0)), Oo 22 (.load true 2 (.t 3)), Oo 23 (.call 178 [(.t 21), (.t 22)])])
  (.seq (.region [Oo 24 (.mov (.t 6)), Oo 4 (.mov (.k (.bool true))), Oo 5 (.mov (.t 24))])
  .ret))
  .skip)))
  .skip))
  (.seq (.drawn [Qo (Oo 25 (.mov (.t 0))), Qo (Oo 26 (.mov (.t 0))), Qo (Oo 27 (.nilc (.t 26))), Qo (Oo 28 (.addo 0 (.t 27))), Qo (Oo 29 (.addo 1 (.t 28))), Qo (Oo 30 (.load false 1 (.t 29))), Qo (Oo 31 (.load true 2 (.t 3))), Qe (Oo 32 (.bslc 2 1 [Zi 0, Zi 0] [(0, (.t 31))])), Qe (Oo 33 (.app 2 16 [Zi 0, Zi 0] (.t 30) (.t 32))), Qo (Oo 34 (.nilc (.t 25))), Qo (Oo 35 (.addo 0 (.t 34))), Qo (Oo 36 (.addo 1 (.t 35))), Qe (On (.store 1 (.t 36) (.t 33)))])
  (.seq (.region [Oo 37 (.mov (.t 6)), Oo 4 (.mov (.k (.bool false))), Oo 5 (.mov (.t 37))])
  .ret)))))
abbrev h129 : HF := ⟨h129c, [.tmp 4, .tmp 5], 38, false⟩
theorem h129_ok : (Tryz.f129.body).bind (compileC Tryz.prog) = some h129c.er := by kernel_rfl
theorem r129_ok : Tryz.f129.results.toList.mapM (retOf Tryz.prog) = some [.tmp 4, .tmp 5] := by kernel_rfl

/-- (*depository/oplocks.caches).alone -/
def h130c : HC :=
  (.seq (.region [Oo 3 (.box (.t 1)), Oo 4 (.mov (.k (.bool false)))])
  (.seq (.region [Oo 8 (.addo 0 (.t 3)), Oo 9 (.addo 1 (.t 8)), Oo 10 (.load false 1 (.t 9)), Oo 5 (.mov (.t 10))])
  (.seq (.region [Oo 12 (.mov (.t 0)), Oo 13 (.mov (.t 5)), Oo 14 (.call 132 [(.t 12), (.t 13)]), Oo 11 (.mov (.t 14)), Oo 15 (.ext (.t 11) 0), Oo 16 (.ext (.t 11) 1), Oo 6 (.mov (.t 15)), Oo 7 (.mov (.t 16))])
  (.seq (.block 0 (.seq (.region [Oo 18 (.addo 0 (.t 3)), Oo 19 (.addo 0 (.t 18)), Oo 20 (.load false 1 (.t 19)), Oo 21 (.bin .eql (.t 20) (Ki 2)), Oo 22 (.mov (.t 21)), Og 22 true 23 (.mov (.t 6)), Og 22 true 24 (.bin .geq (.t 23) (Ki 1)), Oo 25 (.pick (.t 22) (.t 24) (.k (.bool false))), Oo 26 (.mov (.t 25)), Og 26 true 27 (.mov (.t 0)), Og 26 true 28 (.mov (.t 5)), Og 26 true 29 (.nilc (.t 27)), Og 26 true 30 (.addo 2 (.t 29)), Og 26 true 31 (.ixA 9 1 (.t 30) (.t 28)), Og 26 true 32 (.load false 1 (.t 31)), Og 26 true 33 (.bin .neq (.t 32) (Ki (-1))), Oo 34 (.pick (.t 26) (.t 33) (.k (.bool false))), Oo 17 (.mov (.t 34))])
  (.cond (.t 17) (.drawn [Qo (Oo 35 (.mov (.t 0))), Qo (Oo 36 (.mov (.t 0))), Qo (Oo 37 (.nilc (.t 36))), Qo (Oo 38 (.addo 29 (.t 37))), Qo (Oo 39 (.load false 1 (.t 38))), Qo (Oo 40 (.mov (.t 0))), Qo (Oo 41 (.mov (.t 5))), Qo (Oo 42 (.nilc (.t 40))), Qo (Oo 43 (.addo 2 (.t 42))), Qo (Oo 44 (.ixA 9 1 (.t 43) (.t 41))), Qo (Oo 45 (.load false 1 (.t 44))), Qe (Oo 46 (.bslc 1 1 [Zi 0] [(0, (.t 45))])), Qe (Oo 47 (.app 1 8 [Zi 0] (.t 39) (.t 46))), Qo (Oo 48 (.nilc (.t 35))), Qo (Oo 49 (.addo 29 (.t 48))), Qe (On (.store 1 (.t 49) (.t 47)))])
  (.seq (.region [Oo 51 (.addo 0 (.t 3)), Oo 52 (.addo 0 (.t 51)), Oo 53 (.load false 1 (.t 52)), Oo 54 (.bin .eql (.t 53) (Ki 3)), Oo 55 (.mov (.t 54)), Og 55 true 56 (.mov (.t 6)), Og 55 true 57 (.bin .geq (.t 56) (Ki 2)), Oo 58 (.pick (.t 55) (.t 57) (.k (.bool false))), Oo 59 (.mov (.t 58)), Og 59 true 60 (.mov (.t 7)), Og 59 true 61 (.un .not (.t 60)), Oo 62 (.pick (.t 59) (.t 61) (.k (.bool false))), Oo 50 (.mov (.t 62))])
  (.cond (.t 50) (.drawnT [] (.st 0 (.st 1 (.st 2 (.st 3 (.st 4 (.st 5 (.st 6 (.st 7 (.st 8 (.st 10 (.st 11 (.st 9 (.st 12 (.st 13 .nil)))))))))))))) [Oo 63 (.mov (.t 0)), Oo 64 (.mov (.t 5)), Oo 65 (.mov (.t 0)), Oo 66 (.mov (.t 5)), Oo 67 (.addo 3 (.t 3)), Oo 68 (.load false 1 (.t 67)), Oo 69 (.nilc (.t 63)), Oo 70 (.addo 2 (.t 69)), Oo 71 (.ixA 9 1 (.t 70) (.t 64)), On (.store 1 (.t 71) (.t 68)), Oo 72 (.nilc (.t 65)), Oo 73 (.addo 11 (.t 72)), Oo 74 (.ixA 9 1 (.t 73) (.t 66)), On (.store 1 (.t 74) (.k (.bool true)))])
  (.seq (.region [Oo 4 (.mov (.k (.bool false)))])
  .ret))))))
  (.seq (.region [Oo 4 (.mov (.k (.bool true)))])
  .ret)))))
abbrev h130 : HF := ⟨h130c, [.tmp 4], 75, false⟩
theorem h130_ok : (Tryz.f130.body).bind (compileC Tryz.prog) = some h130c.er := by kernel_rfl
theorem r130_ok : Tryz.f130.results.toList.mapM (retOf Tryz.prog) = some [.tmp 4] := by kernel_rfl

/-- (*depository/oplocks.caches).effect -/
def h131c : HC :=
  (.seq (.region [Oo 3 (.box (.t 1))])
  (.seq (.seq (.region [Oo 6 (.addo 1 (.t 3)), Oo 7 (.load false 1 (.t 6))])
  (.block 0 (.seq (.region [Oo 9 (.bin .eql (.t 7) (Ki 2)), Oo 8 (.mov (.t 9))])
  (.cond (.t 8) (.drawn [Qo (Oo 10 (.mov (.t 0))), Qo (Oo 11 (.mov (.t 0))), Qo (Oo 12 (.nilc (.t 11))), Qo (Oo 13 (.addo 29 (.t 12))), Qo (Oo 14 (.load false 1 (.t 13))), Qo (Oo 15 (.mov (.t 0))), Qo (Oo 16 (.nilc (.t 15))), Qo (Oo 17 (.addo 1 (.t 16))), Qo (Oo 18 (.load false 1 (.t 17))), Qe (Oo 19 (.bslc 1 1 [Zi 0] [(0, (.t 18))])), Qe (Oo 20 (.app 1 8 [Zi 0] (.t 14) (.t 19))), Qo (Oo 21 (.nilc (.t 10))), Qo (Oo 22 (.addo 29 (.t 21))), Qe (On (.store 1 (.t 22) (.t 20)))])
  (.seq (.region [Oo 24 (.bin .eql (.t 7) (Ki 3)), Oo 23 (.mov (.t 24))])
  (.cond (.t 23) (.drawn [Qo (Oo 25 (.mov (.t 0))), Qo (Oo 26 (.mov (.t 0))), Qo (Oo 27 (.addo 0 (.t 3))), Qo (Oo 28 (.load false 1 (.t 27))), Qo (Oo 29 (.nilc (.t 26))), Qo (Oo 30 (.addo 20 (.t 29))), Qo (Oo 31 (.ixA 9 1 (.t 30) (.t 28))), Qo (Oo 32 (.load false 1 (.t 31))), Qo (Oo 33 (.nilc (.t 25))), Qo (Oo 34 (.addo 1 (.t 33))), Qe (On (.store 1 (.t 34) (.t 32)))])
  .ret))))))
  (.seq (.region [Oo 36 (.mov (.t 0)), Oo 37 (.addo 0 (.t 3)), Oo 38 (.load false 1 (.t 37)), Oo 39 (.call 132 [(.t 36), (.t 38)]), Oo 35 (.mov (.t 39)), Oo 40 (.ext (.t 35) 0), Oo 41 (.ext (.t 35) 1), Oo 4 (.mov (.t 40)), Oo 5 (.mov (.t 41))])
  (.seq (.region [Oo 42 (.mov (.t 4)), Oo 43 (.bin .geq (.t 42) (Ki 1))])
  (.cond (.t 43) (.drawnT [] (.st 0 (.st 1 (.st 2 (.st 3 (.st 4 (.st 6 (.st 7 (.st 8 (.st 9 (.st 10 (.st 11 (.st 12 (.st 14 (.st 15 (.br 5 (.st 13 (.st 16 (.st 17 .nil))) (.br 13 (.st 5 (.st 16 (.st 17 .nil))) .stop)))))))))))))))) [Oo 44 (.mov (.t 0)), Oo 45 (.addo 0 (.t 3)), Oo 46 (.load false 1 (.t 45)), Oo 47 (.mov (.t 0)), Oo 48 (.addo 0 (.t 3)), Oo 49 (.load false 1 (.t 48)), Oo 50 (.mov (.t 0)), Oo 51 (.nilc (.t 50)), Oo 52 (.addo 1 (.t 51)), Oo 53 (.load false 1 (.t 52)), Oo 54 (.nilc (.t 44)), Oo 55 (.addo 2 (.t 54)), Oo 56 (.ixA 9 1 (.t 55) (.t 46)), On (.store 1 (.t 56) (.t 53)), Oo 57 (.nilc (.t 47)), Oo 58 (.addo 11 (.t 57)), Oo 59 (.ixA 9 1 (.t 58) (.t 49)), On (.store 1 (.t 59) (.k (.bool false)))])
  .skip)))))
abbrev h131 : HF := ⟨h131c, [], 60, false⟩
theorem h131_ok : (Tryz.f131.body).bind (compileC Tryz.prog) = some h131c.er := by kernel_rfl
theorem r131_ok : Tryz.f131.results.toList.mapM (retOf Tryz.prog) = some [] := by kernel_rfl

/-- (*depository/oplocks.caches).level -/
def h132c : HC :=
  (.seq (.region [Oo 4 (.mov (Ki 0)), Oo 5 (.mov (.k (.bool false)))])
  (.seq (.region [Oo 7 (.mov (.t 0)), Oo 8 (.nilc (.t 7)), Oo 9 (.addo 0 (.t 8)), Oo 10 (.load false 1 (.t 9)), Oo 11 (.mov (.t 1)), Oo 12 (.call 78 [(.t 10), (.t 11)]), Oo 6 (.mov (.t 12))])
  (.seq (.seq (.region [Oo 13 (.mov (.t 6)), Oo 14 (.isnil true false (.t 13))])
  (.cond (.t 14) (.seq (.region [Oo 4 (.mov (Ki (-1))), Oo 5 (.mov (.k (.bool false)))])
  .ret)
  .skip))
  (.seq (.drawn [Qo (Oo 15 (.mov (.t 6))), Qo (Oo 16 (.nilc (.t 15))), Qo (Oo 17 (.addo 1 (.t 16))), Qo (Oo 18 (.load false 1 (.t 17))), Qo (Oo 19 (.mov (.t 6))), Qo (Oo 20 (.nilc (.t 19))), Qo (Oo 21 (.addo 2 (.t 20))), Qo (Oo 22 (.load false 1 (.t 21))), Qo (Oo 23 (.mov (.t 6))), Qo (Oo 24 (.nilc (.t 23))), Qo (Oo 25 (.addo 1 (.t 24))), Qo (Oo 26 (.load false 1 (.t 25))), Qo (Oo 27 (.bin .neq (.t 22) (.t 26))), Qo (Oo 4 (.mov (.t 18))), Qo (Oo 5 (.mov (.t 27)))])
  .ret))))
abbrev h132 : HF := ⟨h132c, [.tmp 4, .tmp 5], 28, false⟩
theorem h132_ok : (Tryz.f132.body).bind (compileC Tryz.prog) = some h132c.er := by kernel_rfl
theorem r132_ok : Tryz.f132.results.toList.mapM (retOf Tryz.prog) = some [.tmp 4, .tmp 5] := by kernel_rfl

/-- depository/depositoryref26.PresentErr -/
def h134c : HC :=
  (.seq (.region [Oo 2 (.box (.t 0)), Oo 3 (.box (.t 1)), Oo 4 (.mov (Ki 0))])
  (.seq (.seq (.region [Oo 6 (.load true 3 (.t 3)), Oo 7 (.call 180 [(.t 6)]), Oo 5 (.mov (.t 7))])
  (.seq (.region [Oo 8 (.mov (.t 5)), Oo 9 (.bin .neq (.t 8) (Ki 0))])
  (.cond (.t 9) (.seq (.region [Oo 10 (.mov (.t 5)), Oo 4 (.mov (.t 10))])
  .ret)
  .skip)))
  (.seq (.seq (.region [Oo 11 (.load true 2 (.t 2)), Oo 12 (.addo 1 (.t 3)), Oo 13 (.load false 1 (.t 12)), Oo 14 (.call 122 [(.t 11), (.t 13)]), Oo 15 (.bin .geq (.t 14) (Ki 0))])
  (.cond (.t 15) (.seq (.region [Oo 4 (.mov (Ki 18))])
  .ret)
  .skip))
  (.seq (.seq (.region [Oo 16 (.addo 0 (.t 3)), Oo 17 (.load false 1 (.t 16)), Oo 18 (.bin .eql (.t 17) (Ki 0)), Oo 19 (.mov (.t 18)), Og 19 true 20 (.load true 2 (.t 2)), Og 19 true 21 (.addo 1 (.t 3)), Og 19 true 22 (.load false 1 (.t 21)), Og 19 true 23 (.call 33 [(.t 20), (.t 22)]), Og 19 true 24 (.bin .geq (.t 23) (Ki 0)), Oo 25 (.pick (.t 19) (.t 24) (.k (.bool false)))])
  (.cond (.t 25) (.seq (.region [Oo 4 (.mov (Ki 5))])
  .ret)
  .skip))
  (.seq (.seq (.region [Oo 26 (.addo 0 (.t 3)), Oo 27 (.load false 1 (.t 26)), Oo 28 (.bin .neq (.t 27) (Ki 0)), Oo 29 (.mov (.t 28)), Og 29 true 30 (.load true 2 (.t 2)), Og 29 true 31 (.addo 1 (.t 3)), Og 29 true 32 (.load false 1 (.t 31)), Og 29 true 33 (.call 33 [(.t 30), (.t 32)]), Og 29 true 34 (.bin .lss (.t 33) (Ki 0)), Oo 35 (.pick (.t 29) (.t 34) (.k (.bool false)))])
  (.cond (.t 35) (.seq (.region [Oo 4 (.mov (Ki 6))])
  .ret)
  .skip))
  (.seq (.region [Oo 4 (.mov (Ki 0))])
  .ret))))))
abbrev h134 : HF := ⟨h134c, [.tmp 4], 36, false⟩
theorem h134_ok : (Tryz.f134.body).bind (compileC Tryz.prog) = some h134c.er := by kernel_rfl
theorem r134_ok : Tryz.f134.results.toList.mapM (retOf Tryz.prog) = some [.tmp 4] := by kernel_rfl

/-- depository/depositoryref26.grants -/
def h137l0 : HC :=
  (.seq (.seq (.region [Oo 11 (.mov (.t 5)), Oo 12 (.addo 0 (.t 2)), Oo 13 (.load false 1 (.t 12)), Oo 14 (.lenL (.t 13)), Oo 15 (.bin .lss (.t 11) (.t 14))])
  (.cond (.t 15) .skip
  (.exit 0)))
  (.seq (.block 1 (.seq (.region [Oo 18 (.addo 0 (.t 2)), Oo 19 (.load false 1 (.t 18)), Oo 20 (.mov (.t 5)), Oo 21 (.ixL 3 (.t 19) (.t 20)), Oo 22 (.load true 3 (.t 21)), Oo 6 (.alloc [Zi 0, Zi 0, Zi 0]), On (.store 3 (.t 6) (.t 22))])
  (.seq (.seq (.region [Oo 23 (.addo 0 (.t 6)), Oo 24 (.load false 1 (.t 23)), Oo 25 (.addo 1 (.t 3)), Oo 26 (.load false 1 (.t 25)), Oo 27 (.bin .eql (.t 24) (.t 26))])
  (.cond (.t 27) (.exit 1)
  .skip))
  (.seq (.region [Oo 28 (.addo 2 (.t 3)), Oo 29 (.load false 1 (.t 28)), Oo 30 (.bin .eql (.t 29) (Ki 1)), Oo 31 (.mov (.t 30)), Og 31 true 32 (.addo 1 (.t 6)), Og 31 true 33 (.load false 1 (.t 32)), Og 31 true 34 (.bin .gtr (.t 33) (Ki 1)), Oo 35 (.pick (.t 31) (.t 34) (.k (.bool false))), Oo 36 (.mov (.t 35)), Og 36 false 37 (.addo 2 (.t 3)), Og 36 false 38 (.load false 1 (.t 37)), Og 36 false 39 (.bin .eql (.t 38) (Ki 2)), Og 36 false 40 (.mov (.t 39)), Og 40 true 41 (.addo 1 (.t 6)), Og 40 true 42 (.load false 1 (.t 41)), Og 40 true 43 (.bin .gtr (.t 42) (Ki 0)), Og 36 false 44 (.pick (.t 40) (.t 43) (.k (.bool false))), Oo 45 (.pick (.t 36) (.k (.bool true)) (.t 44)), Oo 46 (.mov (.t 45)), Og 46 false 47 (.addo 2 (.t 3)), Og 46 false 48 (.load false 1 (.t 47)), Og 46 false 49 (.bin .eql (.t 48) (Ki 3)), Oo 50 (.pick (.t 46) (.k (.bool true)) (.t 49))])
  (.cond (.t 50) (.seq (.region [Oo 4 (.mov (.k (.bool false)))])
  .ret)
  .skip)))))
  (.region [Oo 16 (.mov (.t 5)), Oo 17 (.bin .add (.t 16) (Ki 1)), Oo 5 (.mov (.t 17))])))
def h137c : HC :=
  (.seq (.region [Oo 2 (.box (.t 0)), Oo 3 (.box (.t 1)), Oo 4 (.mov (.k (.bool false)))])
  (.seq (.seq (.region [Oo 7 (.addo 1 (.t 2)), Oo 8 (.load false 1 (.t 7)), Oo 9 (.lenL (.t 8)), Oo 10 (.bin .gtr (.t 9) (Ki 0))])
  (.cond (.t 10) (.seq (.region [Oo 4 (.mov (.k (.bool false)))])
  .ret)
  .skip))
  (.seq (.seq (.region [Oo 5 (.mov (Ki 0))])
  (.block 0 (.loop [2, 0, 1] h137l0)))
  (.seq (.region [Oo 4 (.mov (.k (.bool true)))])
  .ret))))
abbrev h137 : HF := ⟨h137c, [.tmp 4], 51, false⟩
theorem h137_ok : (Tryz.f137.body).bind (compileC Tryz.prog) = some h137c.er := by kernel_rfl
theorem r137_ok : Tryz.f137.results.toList.mapM (retOf Tryz.prog) = some [.tmp 4] := by kernel_rfl

/-- depository/depositoryref26.did -/
def h138c : HC :=
  (.seq (.region [Oo 3 (.box (.t 0)), Oo 6 (.alloc [(.slice none 0 0), (.slice none 0 0)])])
  (.seq (.seq (.region [Oo 7 (.mov (.t 2)), Oo 8 (.bin .eql (.t 7) (Ki 0))])
  (.cond (.t 8) (.seq (.region [Oo 9 (.load true 2 (.t 3)), Oo 10 (.mov (.t 1)), Oo 11 (.call 182 [(.t 9), (.t 10)]), On (.store 2 (.t 6) (.t 11))])
  .ret)
  .skip))
  (.seq (.region [Oo 12 (.load true 2 (.t 3)), On (.store 2 (.t 6) (.t 12))])
  .ret)))
abbrev h138 : HF := ⟨h138c, [.cell 6 true 2], 13, false⟩
theorem h138_ok : (Tryz.f138.body).bind (compileC Tryz.prog) = some h138c.er := by kernel_rfl
theorem r138_ok : Tryz.f138.results.toList.mapM (retOf Tryz.prog) = some [.cell 6 true 2] := by kernel_rfl

/-- cmp.Compare[int] -/
def h163c : HC :=
  (.seq (.region [Oo 4 (.mov (Ki 0))])
  (.seq (.region [Oo 7 (.mov (.t 0)), Oo 8 (.call 195 [(.t 7)]), Oo 5 (.mov (.t 8))])
  (.seq (.region [Oo 9 (.mov (.t 1)), Oo 10 (.call 195 [(.t 9)]), Oo 6 (.mov (.t 10))])
  (.seq (.seq (.region [Oo 11 (.mov (.t 5))])
  (.cond (.t 11) (.seq (.seq (.region [Oo 12 (.mov (.t 6))])
  (.cond (.t 12) (.seq (.region [Oo 4 (.mov (Ki 0))])
  .ret)
  .skip))
  (.seq (.region [Oo 4 (.mov (Ki (-1)))])
  .ret))
  .skip))
  (.seq (.seq (.region [Oo 13 (.mov (.t 6))])
  (.cond (.t 13) (.seq (.region [Oo 4 (.mov (Ki 1))])
  .ret)
  .skip))
  (.seq (.seq (.region [Oo 14 (.mov (.t 0)), Oo 15 (.mov (.t 1)), Oo 16 (.bin .lss (.t 14) (.t 15))])
  (.cond (.t 16) (.seq (.region [Oo 4 (.mov (Ki (-1)))])
  .ret)
  .skip))
  (.seq (.seq (.region [Oo 17 (.mov (.t 0)), Oo 18 (.mov (.t 1)), Oo 19 (.bin .gtr (.t 17) (.t 18))])
  (.cond (.t 19) (.seq (.region [Oo 4 (.mov (Ki 1))])
  .ret)
  .skip))
  (.seq (.region [Oo 4 (.mov (Ki 0))])
  .ret))))))))
abbrev h163 : HF := ⟨h163c, [.tmp 4], 20, false⟩
theorem h163_ok : (Tryz.f163.body).bind (compileC Tryz.prog) = some h163c.er := by kernel_rfl
theorem r163_ok : Tryz.f163.results.toList.mapM (retOf Tryz.prog) = some [.tmp 4] := by kernel_rfl

/-- slices.IndexFunc[[]depository/api.OplockGrant,depository/api.OplockGrant] -/
def h169l0 : HC :=
  (.seq (.region [Oo 9 (.bin .lss (.t 8) (.t 7))])
  (.seq (.cond (.t 9) .skip
  (.exit 0))
  (.seq (.block 1 (.seq (.region [Oo 10 (.mov (.t 8)), Oo 5 (.mov (.t 10))])
  (.seq (.region [Oo 11 (.mov (.t 1)), Oo 12 (.mov (.t 0)), Oo 13 (.mov (.t 5)), Oo 14 (.ixL 3 (.t 12) (.t 13)), Oo 15 (.load true 3 (.t 14)), Oo 16 (.callv (.t 11) [(.t 15)])])
  (.cond (.t 16) (.seq (.region [Oo 17 (.mov (.t 5)), Oo 4 (.mov (.t 17))])
  .ret)
  .skip))))
  (.region [Oo 18 (.bin .add (.t 8) (Ki 1)), Oo 8 (.mov (.t 18))]))))
def h169c : HC :=
  (.seq (.region [Oo 4 (.mov (Ki 0))])
  (.seq (.seq (.region [Oo 6 (.mov (.t 0)), Oo 7 (.lenL (.t 6)), Oo 8 (.mov (Ki 0))])
  (.block 0 (.loop [0, 0, 5, 0] h169l0)))
  (.seq (.region [Oo 4 (.mov (Ki (-1)))])
  .ret)))
abbrev h169 : HF := ⟨h169c, [.tmp 4], 19, false⟩
theorem h169_ok : (Tryz.f169.body).bind (compileC Tryz.prog) = some h169c.er := by kernel_rfl
theorem r169_ok : Tryz.f169.results.toList.mapM (retOf Tryz.prog) = some [.tmp 4] := by kernel_rfl

/-- slices.IndexFunc[[]depository/api.OplockWait,depository/api.OplockWait] -/
def h170l0 : HC :=
  (.seq (.region [Oo 9 (.bin .lss (.t 8) (.t 7))])
  (.seq (.cond (.t 9) .skip
  (.exit 0))
  (.seq (.block 1 (.seq (.region [Oo 10 (.mov (.t 8)), Oo 5 (.mov (.t 10))])
  (.seq (.region [Oo 11 (.mov (.t 1)), Oo 12 (.mov (.t 0)), Oo 13 (.mov (.t 5)), Oo 14 (.ixL 2 (.t 12) (.t 13)), Oo 15 (.load true 2 (.t 14)), Oo 16 (.callv (.t 11) [(.t 15)])])
  (.cond (.t 16) (.seq (.region [Oo 17 (.mov (.t 5)), Oo 4 (.mov (.t 17))])
  .ret)
  .skip))))
  (.region [Oo 18 (.bin .add (.t 8) (Ki 1)), Oo 8 (.mov (.t 18))]))))
def h170c : HC :=
  (.seq (.region [Oo 4 (.mov (Ki 0))])
  (.seq (.seq (.region [Oo 6 (.mov (.t 0)), Oo 7 (.lenL (.t 6)), Oo 8 (.mov (Ki 0))])
  (.block 0 (.loop [0, 0, 5, 0] h170l0)))
  (.seq (.region [Oo 4 (.mov (Ki (-1)))])
  .ret)))
abbrev h170 : HF := ⟨h170c, [.tmp 4], 19, false⟩
theorem h170_ok : (Tryz.f170.body).bind (compileC Tryz.prog) = some h170c.er := by kernel_rfl
theorem r170_ok : Tryz.f170.results.toList.mapM (retOf Tryz.prog) = some [.tmp 4] := by kernel_rfl

/-- (*depository/oplocks.file).usualErr$1 -/
def h171c : HC :=
  (.seq (.region [Oo 2 (.box (.t 0)), Oo 3 (.mov (.k (.bool false)))])
  (.seq (.region [Oo 4 (.addo 0 (.t 2)), Oo 5 (.load false 1 (.t 4)), Oo 6 (.addo 1 (.t 1)), Oo 7 (.load false 1 (.t 6)), Oo 8 (.bin .eql (.t 5) (.t 7)), Oo 3 (.mov (.t 8))])
  .ret))
abbrev h171 : HF := ⟨h171c, [.tmp 3], 9, false⟩
theorem h171_ok : (Tryz.f171.body).bind (compileC Tryz.prog) = some h171c.er := by kernel_rfl
theorem r171_ok : Tryz.f171.results.toList.mapM (retOf Tryz.prog) = some [.tmp 3] := by kernel_rfl

/-- slices.DeleteFunc[[]depository/api.OplockGrant,depository/api.OplockGrant] -/
def h172l0 : HC :=
  (.seq (.seq (.region [Oo 16 (.mov (.t 6)), Oo 17 (.mov (.t 0)), Oo 18 (.lenL (.t 17)), Oo 19 (.bin .lss (.t 16) (.t 18))])
  (.cond (.t 19) .skip
  (.exit 0)))
  (.seq (.block 1 (.seq (.region [Oo 22 (.mov (.t 0)), Oo 23 (.mov (.t 6)), Oo 24 (.ixL 3 (.t 22) (.t 23)), Oo 25 (.load true 3 (.t 24)), Oo 7 (.alloc [Zi 0, Zi 0, Zi 0]), On (.store 3 (.t 7) (.t 25))])
  (.seq (.region [Oo 26 (.mov (.t 1)), Oo 27 (.load true 3 (.t 7)), Oo 28 (.callv (.t 26) [(.t 27)]), Oo 29 (.un .not (.t 28))])
  (.cond (.t 29) (.seq (.region [Oo 30 (.mov (.t 0)), Oo 31 (.mov (.t 5)), Oo 32 (.load true 3 (.t 7)), Oo 33 (.ixL 3 (.t 30) (.t 31)), On (.store 3 (.t 33) (.t 32))])
  (.region [Oo 34 (.mov (.t 5)), Oo 35 (.bin .add (.t 34) (Ki 1)), Oo 5 (.mov (.t 35))]))
  .skip))))
  (.region [Oo 20 (.mov (.t 6)), Oo 21 (.bin .add (.t 20) (Ki 1)), Oo 6 (.mov (.t 21))])))
def h172c : HC :=
  (.seq (.region [Oo 4 (.mov (.k (.slice none 0 0)))])
  (.seq (.regR [169, 100169] [Oo 8 (.mov (.t 0)), Oo 9 (.mov (.t 1)), Oo 10 (.call 169 [(.t 8), (.t 9)]), Oo 5 (.mov (.t 10))])
  (.seq (.seq (.region [Oo 11 (.mov (.t 5)), Oo 12 (.bin .eql (.t 11) (Ki (-1)))])
  (.cond (.t 12) (.seq (.region [Oo 13 (.mov (.t 0)), Oo 4 (.mov (.t 13))])
  .ret)
  .skip))
  (.seq (.seq (.region [Oo 14 (.mov (.t 5)), Oo 15 (.bin .add (.t 14) (Ki 1)), Oo 6 (.mov (.t 15))])
  (.block 0 (.loop [0, 0, 3, 0] h172l0)))
  (.seq (.region [Oo 36 (.mov (.t 0)), Oo 37 (.mov (.t 5)), Oo 38 (.slL 3 (.t 36) (some (.t 37)) none), On (.clr 3 [Zi 0, Zi 0, Zi 0] (.t 38))])
  (.seq (.region [Oo 39 (.mov (.t 0)), Oo 40 (.mov (.t 5)), Oo 41 (.slL 3 (.t 39) none (some (.t 40))), Oo 4 (.mov (.t 41))])
  .ret))))))
abbrev h172 : HF := ⟨h172c, [.tmp 4], 42, true⟩
theorem h172_ok : (Tryz.f172.body).bind (compileC Tryz.prog) = some h172c.er := by kernel_rfl
theorem r172_ok : Tryz.f172.results.toList.mapM (retOf Tryz.prog) = some [.tmp 4] := by kernel_rfl

/-- (*depository/oplocks.file).mayHave$1 -/
def h173c : HC :=
  (.seq (.region [Oo 2 (.box (.t 0)), Oo 3 (.mov (.k (.bool false)))])
  (.seq (.region [Oo 4 (.addo 0 (.t 2)), Oo 5 (.load false 1 (.t 4)), Oo 6 (.addo 1 (.t 1)), Oo 7 (.load false 1 (.t 6)), Oo 8 (.bin .eql (.t 5) (.t 7)), Oo 3 (.mov (.t 8))])
  .ret))
abbrev h173 : HF := ⟨h173c, [.tmp 3], 9, false⟩
theorem h173_ok : (Tryz.f173.body).bind (compileC Tryz.prog) = some h173c.er := by kernel_rfl
theorem r173_ok : Tryz.f173.results.toList.mapM (retOf Tryz.prog) = some [.tmp 3] := by kernel_rfl

/-- (*depository/oplocks.file).mayHave$2 -/
def h174c : HC :=
  (.seq (.region [Oo 2 (.box (.t 0)), Oo 3 (.mov (.k (.bool false)))])
  (.seq (.region [Oo 4 (.load false 1 (.t 1)), Oo 5 (.mkfn 175 [(.t 2)]), Oo 6 (.call 114 [(.t 4), (.t 5)]), Oo 3 (.mov (.t 6))])
  .ret))
abbrev h174 : HF := ⟨h174c, [.tmp 3], 7, false⟩
theorem h174_ok : (Tryz.f174.body).bind (compileC Tryz.prog) = some h174c.er := by kernel_rfl
theorem r174_ok : Tryz.f174.results.toList.mapM (retOf Tryz.prog) = some [.tmp 3] := by kernel_rfl

/-- (*depository/oplocks.file).mayHave$2$1 -/
def h175c : HC :=
  (.seq (.region [Oo 2 (.box (.t 0)), Oo 3 (.mov (.k (.bool false)))])
  (.seq (.region [Oo 4 (.addo 1 (.t 2)), Oo 5 (.load false 1 (.t 4)), Oo 6 (.load false 1 (.t 1)), Oo 7 (.bin .gtr (.t 5) (.t 6)), Oo 3 (.mov (.t 7))])
  .ret))
abbrev h175 : HF := ⟨h175c, [.tmp 3], 8, false⟩
theorem h175_ok : (Tryz.f175.body).bind (compileC Tryz.prog) = some h175c.er := by kernel_rfl
theorem r175_ok : Tryz.f175.results.toList.mapM (retOf Tryz.prog) = some [.tmp 3] := by kernel_rfl

/-- slices.BinarySearchFunc[[]depository/api.OplockGrant,depository/api.OplockGrant,int] -/
def h176l0 : HC :=
  (.seq (.seq (.region [Oo 15 (.mov (.t 9)), Oo 16 (.mov (.t 10)), Oo 17 (.bin .lss (.t 15) (.t 16))])
  (.cond (.t 17) .skip
  (.exit 0)))
  (.block 1 (.seq (.region [Oo 18 (.mov (.t 9)), Oo 19 (.mov (.t 10)), Oo 20 (.bin .add (.t 18) (.t 19)), Oo 21 (.conv .u64 (.t 20)), Oo 22 (.bin .shr (.t 21) (.k (.int .u64 1))), Oo 23 (.conv .i64 (.t 22)), Oo 11 (.mov (.t 23))])
  (.seq (.region [Oo 24 (.mov (.t 2)), Oo 25 (.mov (.t 0)), Oo 26 (.mov (.t 11)), Oo 27 (.ixL 3 (.t 25) (.t 26)), Oo 28 (.load true 3 (.t 27)), Oo 29 (.mov (.t 1)), Oo 30 (.callv (.t 24) [(.t 28), (.t 29)]), Oo 31 (.bin .lss (.t 30) (Ki 0))])
  (.cond (.t 31) (.region [Oo 32 (.mov (.t 11)), Oo 33 (.bin .add (.t 32) (Ki 1)), Oo 9 (.mov (.t 33))])
  (.region [Oo 34 (.mov (.t 11)), Oo 10 (.mov (.t 34))]))))))
def h176c : HC :=
  (.seq (.region [Oo 6 (.mov (Ki 0)), Oo 7 (.mov (.k (.bool false)))])
  (.seq (.region [Oo 12 (.mov (.t 0)), Oo 13 (.lenL (.t 12)), Oo 8 (.mov (.t 13))])
  (.seq (.region [Oo 14 (.mov (.t 8)), Oo 9 (.mov (Ki 0)), Oo 10 (.mov (.t 14))])
  (.seq (.block 0 (.loop [0, 0, 0, 5, 0, 0] h176l0))
  (.seq (.region [Oo 35 (.mov (.t 9)), Oo 36 (.mov (.t 9)), Oo 37 (.mov (.t 8)), Oo 38 (.bin .lss (.t 36) (.t 37)), Oo 39 (.mov (.t 38)), Og 39 true 40 (.mov (.t 2)), Og 39 true 41 (.mov (.t 0)), Og 39 true 42 (.mov (.t 9)), Og 39 true 43 (.ixL 3 (.t 41) (.t 42)), Og 39 true 44 (.load true 3 (.t 43)), Og 39 true 45 (.mov (.t 1)), Og 39 true 46 (.callv (.t 40) [(.t 44), (.t 45)]), Og 39 true 47 (.bin .eql (.t 46) (Ki 0)), Oo 48 (.pick (.t 39) (.t 47) (.k (.bool false))), Oo 6 (.mov (.t 35)), Oo 7 (.mov (.t 48))])
  .ret)))))
abbrev h176 : HF := ⟨h176c, [.tmp 6, .tmp 7], 49, false⟩
theorem h176_ok : (Tryz.f176.body).bind (compileC Tryz.prog) = some h176c.er := by kernel_rfl
theorem r176_ok : Tryz.f176.results.toList.mapM (retOf Tryz.prog) = some [.tmp 6, .tmp 7] := by kernel_rfl

/-- (*depository/oplocks.file).place$1 -/
def h177c : HC :=
  (.seq (.region [Oo 2 (.box (.t 0)), Oo 4 (.mov (Ki 0))])
  (.seq (.region [Oo 5 (.addo 0 (.t 2)), Oo 6 (.load false 1 (.t 5)), Oo 7 (.mov (.t 1)), Oo 8 (.call 163 [(.t 6), (.t 7)]), Oo 4 (.mov (.t 8))])
  .ret))
abbrev h177 : HF := ⟨h177c, [.tmp 4], 9, false⟩
theorem h177_ok : (Tryz.f177.body).bind (compileC Tryz.prog) = some h177c.er := by kernel_rfl
theorem r177_ok : Tryz.f177.results.toList.mapM (retOf Tryz.prog) = some [.tmp 4] := by kernel_rfl

/-- (*depository/oplocks.file).done -/
def h178c : HC :=
  (.seq (.region [Oo 3 (.box (.t 1))])
  (.seq (.regR [126, 100126] [Oo 7 (.mov (.t 0)), Oo 8 (.addo 0 (.t 3)), Oo 9 (.load false 1 (.t 8)), Oo 10 (.call 126 [(.t 7), (.t 9)]), Oo 6 (.mov (.t 10)), Oo 11 (.ext (.t 6) 0), Oo 12 (.ext (.t 6) 1), Oo 4 (.mov (.t 11)), Oo 5 (.mov (.t 12))])
  (.seq (.region [Oo 13 (.addo 1 (.t 3)), Oo 14 (.load false 1 (.t 13)), Oo 15 (.bin .eql (.t 14) (Ki 0)), Oo 16 (.mov (.t 15)), Og 16 true 17 (.mov (.t 5)), Og 16 true 18 (.un .not (.t 17)), Oo 19 (.pick (.t 16) (.t 18) (.k (.bool false)))])
  (.cond (.t 19) (.drawnT [200] (.st 0 (.st 1 (.st 2 (.st 3 (.st 4 (.st 6 (.st 7 (.st 8 (.st 9 (.br 5 (.st 10 (.st 11 (.st 12 (.st 13 (.st 14 (.st 15 .nil)))))) (.br 10 (.st 5 (.st 11 (.st 12 (.st 13 (.st 14 (.st 15 .nil)))))) .stop))))))))))) [Oo 20 (.mov (.t 0)), Oo 21 (.mov (.t 0)), Oo 22 (.nilc (.t 21)), Oo 23 (.addo 0 (.t 22)), Oo 24 (.addo 0 (.t 23)), Oo 25 (.load false 1 (.t 24)), Oo 26 (.mov (.t 4)), Oo 27 (.addo 0 (.t 3)), Oo 28 (.load false 1 (.t 27)), Oo 29 (.build [Zi 0, Zi 0, Zi 0] [(0, 1, (.t 28))]), Oo 30 (.bslc 3 1 [Zi 0, Zi 0, Zi 0] [(0, (.t 29))]), Oo 31 (.call 200 [(.t 25), (.t 26), (.t 30)]), Oo 32 (.nilc (.t 20)), Oo 33 (.addo 0 (.t 32)), Oo 34 (.addo 0 (.t 33)), On (.store 1 (.t 34) (.t 31))])
  .skip))))
abbrev h178 : HF := ⟨h178c, [], 35, false⟩
theorem h178_ok : (Tryz.f178.body).bind (compileC Tryz.prog) = some h178c.er := by kernel_rfl
theorem r178_ok : Tryz.f178.results.toList.mapM (retOf Tryz.prog) = some [] := by kernel_rfl

/-- slices.Delete[[]depository/api.OplockWait,depository/api.OplockWait] -/
def h179c : HC :=
  (.seq (.region [Oo 6 (.mov (.k (.slice none 0 0)))])
  (.seq .bad
  (.seq (.seq (.region [Oo 14 (.mov (.t 1)), Oo 15 (.mov (.t 2)), Oo 16 (.bin .eql (.t 14) (.t 15))])
  (.cond (.t 16) (.seq (.region [Oo 17 (.mov (.t 0)), Oo 6 (.mov (.t 17))])
  .ret)
  .skip))
  (.seq (.region [Oo 18 (.mov (.t 0)), Oo 19 (.lenL (.t 18)), Oo 7 (.mov (.t 19))])
  (.seq (.drawn [Qo (Oo 20 (.mov (.t 0))), Qo (Oo 21 (.mov (.t 1))), Qo (Oo 22 (.slL 2 (.t 20) none (some (.t 21)))), Qo (Oo 23 (.mov (.t 0))), Qo (Oo 24 (.mov (.t 2))), Qo (Oo 25 (.slL 2 (.t 23) (some (.t 24)) none)), Qe (Oo 26 (.app 2 16 [Zi 0, Zi 0] (.t 22) (.t 25))), Qo (Oo 0 (.mov (.t 26)))])
  (.seq (.region [Oo 27 (.mov (.t 0)), Oo 28 (.mov (.t 0)), Oo 29 (.lenL (.t 28)), Oo 30 (.mov (.t 7)), Oo 31 (.slL 2 (.t 27) (some (.t 29)) (some (.t 30))), On (.clr 2 [Zi 0, Zi 0] (.t 31))])
  (.seq (.region [Oo 32 (.mov (.t 0)), Oo 6 (.mov (.t 32))])
  .ret)))))))
abbrev h179 : HF := ⟨h179c, [.tmp 6], 33, true⟩
theorem h179_ok : (Tryz.f179.body).bind (compileC Tryz.prog) = some h179c.er := by kernel_rfl
theorem r179_ok : Tryz.f179.results.toList.mapM (retOf Tryz.prog) = some [.tmp 6] := by kernel_rfl

/-- depository/depositoryref26.formErr -/
def h180c : HC :=
  (.seq (.region [Oo 1 (.box (.t 0)), Oo 2 (.mov (Ki 0))])
  (.seq (.seq (.region [Oo 4 (.addo 0 (.t 1)), Oo 5 (.load false 1 (.t 4)), Oo 6 (.call 39 [(.t 5), (Ki 0), (Ki 5)]), Oo 7 (.un .not (.t 6))])
  (.cond (.t 7) (.seq (.region [Oo 2 (.mov (Ki 15))])
  .ret)
  .skip))
  (.seq (.region [Oo 8 (.addo 0 (.t 1)), Oo 9 (.load false 1 (.t 8)), Oo 10 (.bin .eql (.t 9) (Ki 1)), Oo 3 (.mov (.t 10))])
  (.seq (.seq (.region [Oo 11 (.addo 1 (.t 1)), Oo 12 (.load false 1 (.t 11)), Oo 13 (.call 121 [(.t 12)]), Oo 14 (.un .not (.t 13)), Oo 15 (.mov (.t 14)), Og 15 false 16 (.mov (.t 3)), Og 15 false 17 (.mov (.t 16)), Og 17 true 18 (.addo 2 (.t 1)), Og 17 true 19 (.load false 1 (.t 18)), Og 17 true 20 (.call 39 [(.t 19), (Ki 1), (Ki 3)]), Og 17 true 21 (.un .not (.t 20)), Og 15 false 22 (.pick (.t 17) (.t 21) (.k (.bool false))), Oo 23 (.pick (.t 15) (.k (.bool true)) (.t 22)), Oo 24 (.mov (.t 23)), Og 24 false 25 (.mov (.t 3)), Og 24 false 26 (.un .not (.t 25)), Og 24 false 27 (.mov (.t 26)), Og 27 true 28 (.addo 2 (.t 1)), Og 27 true 29 (.load false 1 (.t 28)), Og 27 true 30 (.bin .neq (.t 29) (Ki 0)), Og 24 false 31 (.pick (.t 27) (.t 30) (.k (.bool false))), Oo 32 (.pick (.t 24) (.k (.bool true)) (.t 31))])
  (.cond (.t 32) (.seq (.region [Oo 2 (.mov (Ki 2))])
  .ret)
  .skip))
  (.seq (.region [Oo 2 (.mov (Ki 0))])
  .ret)))))
abbrev h180 : HF := ⟨h180c, [.tmp 2], 33, false⟩
theorem h180_ok : (Tryz.f180.body).bind (compileC Tryz.prog) = some h180c.er := by kernel_rfl
theorem r180_ok : Tryz.f180.results.toList.mapM (retOf Tryz.prog) = some [.tmp 2] := by kernel_rfl

/-- depository/depositoryref26.opened -/
def h182l0 : HC :=
  (.seq (.seq (.region [Oo 11 (.mov (.t 7)), Oo 12 (.addo 0 (.t 2)), Oo 13 (.load false 1 (.t 12)), Oo 14 (.lenL (.t 13)), Oo 15 (.bin .lss (.t 11) (.t 14))])
  (.cond (.t 15) .skip
  (.exit 0)))
  (.seq (.block 1 (.seq (.seq (.region [Oo 18 (.mov (.t 6)), Oo 19 (.un .not (.t 18)), Oo 20 (.mov (.t 19)), Og 20 true 21 (.addo 0 (.t 2)), Og 20 true 22 (.load false 1 (.t 21)), Og 20 true 23 (.mov (.t 7)), Og 20 true 24 (.ixL 3 (.t 22) (.t 23)), Og 20 true 25 (.addo 0 (.t 24)), Og 20 true 26 (.load false 1 (.t 25)), Og 20 true 27 (.mov (.t 1)), Og 20 true 28 (.bin .gtr (.t 26) (.t 27)), Oo 29 (.pick (.t 20) (.t 28) (.k (.bool false)))])
  (.cond (.t 29) (.seq (.region [Oo 30 (.addo 0 (.t 5)), Oo 31 (.load false 1 (.t 30)), Oo 32 (.mov (.t 1)), Oo 33 (.build [Zi 0, Zi 0, Zi 0] [(0, 1, (.t 32))]), Oo 34 (.bslc 3 1 [Zi 0, Zi 0, Zi 0] [(0, (.t 33))]), Oo 35 (.app 3 24 [Zi 0, Zi 0, Zi 0] (.t 31) (.t 34)), Oo 36 (.addo 0 (.t 5)), On (.store 1 (.t 36) (.t 35))])
  (.region [Oo 6 (.mov (.k (.bool true)))]))
  .skip))
  (.drawn [Qo (Oo 37 (.addo 0 (.t 5))), Qo (Oo 38 (.load false 1 (.t 37))), Qo (Oo 39 (.addo 0 (.t 2))), Qo (Oo 40 (.load false 1 (.t 39))), Qo (Oo 41 (.mov (.t 7))), Qo (Oo 42 (.ixL 3 (.t 40) (.t 41))), Qo (Oo 43 (.load true 3 (.t 42))), Qe (Oo 44 (.bslc 3 1 [Zi 0, Zi 0, Zi 0] [(0, (.t 43))])), Qe (Oo 45 (.app 3 24 [Zi 0, Zi 0, Zi 0] (.t 38) (.t 44))), Qo (Oo 46 (.addo 0 (.t 5))), Qe (On (.store 1 (.t 46) (.t 45)))])))
  (.region [Oo 16 (.mov (.t 7)), Oo 17 (.bin .add (.t 16) (Ki 1)), Oo 7 (.mov (.t 17))])))
def h182c : HC :=
  (.seq (.region [Oo 2 (.box (.t 0)), Oo 4 (.alloc [(.slice none 0 0), (.slice none 0 0)])])
  (.seq (.region [Oo 8 (.addo 1 (.t 2)), Oo 9 (.load false 1 (.t 8)), Oo 10 (.build [(.slice none 0 0), (.slice none 0 0)] [(1, 1, (.t 9))]), Oo 5 (.alloc [(.slice none 0 0), (.slice none 0 0)]), On (.store 2 (.t 5) (.t 10))])
  (.gh (.nilB 5 0 3) (.seq (.region [Oo 6 (.mov (.k (.bool false)))])
  (.seq (.seq (.region [Oo 7 (.mov (Ki 0))])
  (.block 0 (.loop [1, 0, 1, 0, 0, 0] h182l0)))
  (.seq (.seq (.region [Oo 47 (.mov (.t 6)), Oo 48 (.un .not (.t 47))])
  (.cond (.t 48) (.region [Oo 49 (.addo 0 (.t 5)), Oo 50 (.load false 1 (.t 49)), Oo 51 (.mov (.t 1)), Oo 52 (.build [Zi 0, Zi 0, Zi 0] [(0, 1, (.t 51))]), Oo 53 (.bslc 3 1 [Zi 0, Zi 0, Zi 0] [(0, (.t 52))]), Oo 54 (.app 3 24 [Zi 0, Zi 0, Zi 0] (.t 50) (.t 53)), Oo 55 (.addo 0 (.t 5)), On (.store 1 (.t 55) (.t 54))])
  .skip))
  (.seq (.region [Oo 56 (.load true 2 (.t 5)), On (.store 2 (.t 4) (.t 56))])
  .ret)))))))
abbrev h182 : HF := ⟨h182c, [.cell 4 true 2], 57, false⟩
theorem h182_ok : (Tryz.f182.body).bind (compileC Tryz.prog) = some h182c.er := by kernel_rfl
theorem r182_ok : Tryz.f182.results.toList.mapM (retOf Tryz.prog) = some [.cell 4 true 2] := by kernel_rfl

/-- cmp.isNaN[int] -/
def h195c : HC :=
  (.seq (.region [Oo 2 (.mov (.k (.bool false)))])
  (.seq (.region [Oo 3 (.mov (.t 0)), Oo 4 (.mov (.t 0)), Oo 5 (.bin .neq (.t 3) (.t 4)), Oo 2 (.mov (.t 5))])
  .ret))
abbrev h195 : HF := ⟨h195c, [.tmp 2], 6, false⟩
theorem h195_ok : (Tryz.f195.body).bind (compileC Tryz.prog) = some h195c.er := by kernel_rfl
theorem r195_ok : Tryz.f195.results.toList.mapM (retOf Tryz.prog) = some [.tmp 2] := by kernel_rfl

/-- slices.Insert[[]depository/api.OplockGrant,depository/api.OplockGrant] -/
def h200c : HC :=
  (.seq (.region [Oo 6 (.mov (.k (.slice none 0 0)))])
  (.seq (.region [Oo 10 (.mov (.t 0)), Oo 11 (.mov (.t 1)), Oo 12 (.slL 3 (.t 10) (some (.t 11)) none)])
  (.seq (.region [Oo 13 (.mov (.t 2)), Oo 14 (.lenL (.t 13)), Oo 7 (.mov (.t 14))])
  (.seq (.seq (.region [Oo 15 (.mov (.t 7)), Oo 16 (.bin .eql (.t 15) (Ki 0))])
  (.cond (.t 16) (.seq (.region [Oo 17 (.mov (.t 0)), Oo 6 (.mov (.t 17))])
  .ret)
  .skip))
  (.seq (.region [Oo 18 (.mov (.t 0)), Oo 19 (.lenL (.t 18)), Oo 8 (.mov (.t 19))])
  (.seq (.seq (.region [Oo 20 (.mov (.t 1)), Oo 21 (.mov (.t 8)), Oo 22 (.bin .eql (.t 20) (.t 21))])
  (.cond (.t 22) (.seq (.region [Oo 23 (.mov (.t 0)), Oo 24 (.mov (.t 2)), Oo 25 (.app 3 24 [Zi 0, Zi 0, Zi 0] (.t 23) (.t 24)), Oo 6 (.mov (.t 25))])
  .ret)
  .skip))
  (.seq (.seq .bad
  (.cond (.t 31) (.seq .bad
  (.seq .bad
  (.seq .bad
  (.seq (.region [Oo 55 (.mov (.t 9)), Oo 6 (.mov (.t 55))])
  .ret))))
  .skip))
  (.seq (.region [Oo 56 (.mov (.t 0)), Oo 57 (.mov (.t 8)), Oo 58 (.mov (.t 7)), Oo 59 (.bin .add (.t 57) (.t 58)), Oo 60 (.slL 3 (.t 56) none (some (.t 59))), Oo 0 (.mov (.t 60))])
  (.seq (.seq .bad
  (.cond (.t 68) (.seq .bad
  (.seq .bad
  (.seq (.region [Oo 83 (.mov (.t 0)), Oo 6 (.mov (.t 83))])
  .ret)))
  .skip))
  (.seq .bad
  (.seq (.region [Oo 89 (.mov (.t 0)), Oo 90 (.mov (.t 1)), Oo 91 (.slL 3 (.t 89) (some (.t 90)) none), Oo 92 (.mov (.t 7)), Oo 93 (.call 217 [(.t 91), (.t 92)])])
  (.seq (.region [Oo 94 (.mov (.t 0)), Oo 6 (.mov (.t 94))])
  .ret))))))))))))
abbrev h200 : HF := ⟨h200c, [.tmp 6], 95, true⟩
theorem h200_ok : (Tryz.f200.body).bind (compileC Tryz.prog) = some h200c.er := by kernel_rfl
theorem r200_ok : Tryz.f200.results.toList.mapM (retOf Tryz.prog) = some [.tmp 6] := by kernel_rfl


def Tbt : FuncId → Option HF
  | 6 => some h6
  | 11 => some h11
  | 12 => some h12
  | 13 => some h13
  | 14 => some h14
  | 15 => some h15
  | 17 => some h17
  | 18 => some h18
  | 19 => some h19
  | 22 => some h22
  | 23 => some h23
  | 24 => some h24
  | 25 => some h25
  | 26 => some h26
  | 30 => some h30
  | 31 => some h31
  | 33 => some h33
  | 34 => some h34
  | 39 => some h39
  | 47 => some h47
  | 48 => some h48
  | 49 => some h49
  | 50 => some h50
  | 51 => some h51
  | 52 => some h52
  | 53 => some h53
  | 54 => some h54
  | 55 => some h55
  | 56 => some h56
  | 57 => some h57
  | 58 => some h58
  | 59 => some h59
  | 60 => some h60
  | 61 => some h61
  | 62 => some h62
  | 63 => some h63
  | 64 => some h64
  | 65 => some h65
  | 66 => some h66
  | 67 => some h67
  | 68 => some h68
  | 72 => some h72
  | 73 => some h73
  | 74 => some h74
  | 75 => some h75
  | 76 => some h76
  | 78 => some h78
  | 80 => some h80
  | 111 => some h111
  | 112 => some h112
  | 113 => some h113
  | 114 => some h114
  | 115 => some h115
  | 116 => some h116
  | 117 => some h117
  | 118 => some h118
  | 119 => some h119
  | 120 => some h120
  | 121 => some h121
  | 122 => some h122
  | 123 => some h123
  | 124 => some h124
  | 125 => some h125
  | 126 => some h126
  | 127 => some h127
  | 129 => some h129
  | 130 => some h130
  | 131 => some h131
  | 132 => some h132
  | 134 => some h134
  | 137 => some h137
  | 138 => some h138
  | 163 => some h163
  | 169 => some h169
  | 170 => some h170
  | 171 => some h171
  | 172 => some h172
  | 173 => some h173
  | 174 => some h174
  | 175 => some h175
  | 176 => some h176
  | 177 => some h177
  | 178 => some h178
  | 180 => some h180
  | 182 => some h182
  | 195 => some h195
  | _ => none
def Tb (B : CallT) : HT := ⟨Tbt, B⟩

theorem Tb_ok (B : CallT) : HTOK Tryz.prog (Tb B) := by
  intro f h hf
  change Tbt f = some h at hf
  unfold Tbt at hf
  split at hf
  · injection hf with hf; subst hf; exact ⟨by kernel_rfl, _, Tryz.func6, Tryz.ntmps6, h6_ok, r6_ok⟩
  · injection hf with hf; subst hf; exact ⟨by kernel_rfl, _, Tryz.func11, Tryz.ntmps11, h11_ok, r11_ok⟩
  · injection hf with hf; subst hf; exact ⟨by kernel_rfl, _, Tryz.func12, Tryz.ntmps12, h12_ok, r12_ok⟩
  · injection hf with hf; subst hf; exact ⟨by kernel_rfl, _, Tryz.func13, Tryz.ntmps13, h13_ok, r13_ok⟩
  · injection hf with hf; subst hf; exact ⟨by kernel_rfl, _, Tryz.func14, Tryz.ntmps14, h14_ok, r14_ok⟩
  · injection hf with hf; subst hf; exact ⟨by kernel_rfl, _, Tryz.func15, Tryz.ntmps15, h15_ok, r15_ok⟩
  · injection hf with hf; subst hf; exact ⟨by kernel_rfl, _, Tryz.func17, Tryz.ntmps17, h17_ok, r17_ok⟩
  · injection hf with hf; subst hf; exact ⟨by kernel_rfl, _, Tryz.func18, Tryz.ntmps18, h18_ok, r18_ok⟩
  · injection hf with hf; subst hf; exact ⟨by kernel_rfl, _, Tryz.func19, Tryz.ntmps19, h19_ok, r19_ok⟩
  · injection hf with hf; subst hf; exact ⟨by kernel_rfl, _, Tryz.func22, Tryz.ntmps22, h22_ok, r22_ok⟩
  · injection hf with hf; subst hf; exact ⟨by kernel_rfl, _, Tryz.func23, Tryz.ntmps23, h23_ok, r23_ok⟩
  · injection hf with hf; subst hf; exact ⟨by kernel_rfl, _, Tryz.func24, Tryz.ntmps24, h24_ok, r24_ok⟩
  · injection hf with hf; subst hf; exact ⟨by kernel_rfl, _, Tryz.func25, Tryz.ntmps25, h25_ok, r25_ok⟩
  · injection hf with hf; subst hf; exact ⟨by kernel_rfl, _, Tryz.func26, Tryz.ntmps26, h26_ok, r26_ok⟩
  · injection hf with hf; subst hf; exact ⟨by kernel_rfl, _, Tryz.func30, Tryz.ntmps30, h30_ok, r30_ok⟩
  · injection hf with hf; subst hf; exact ⟨by kernel_rfl, _, Tryz.func31, Tryz.ntmps31, h31_ok, r31_ok⟩
  · injection hf with hf; subst hf; exact ⟨by kernel_rfl, _, Tryz.func33, Tryz.ntmps33, h33_ok, r33_ok⟩
  · injection hf with hf; subst hf; exact ⟨by kernel_rfl, _, Tryz.func34, Tryz.ntmps34, h34_ok, r34_ok⟩
  · injection hf with hf; subst hf; exact ⟨by kernel_rfl, _, Tryz.func39, Tryz.ntmps39, h39_ok, r39_ok⟩
  · injection hf with hf; subst hf; exact ⟨by kernel_rfl, _, Tryz.func47, Tryz.ntmps47, h47_ok, r47_ok⟩
  · injection hf with hf; subst hf; exact ⟨by kernel_rfl, _, Tryz.func48, Tryz.ntmps48, h48_ok, r48_ok⟩
  · injection hf with hf; subst hf; exact ⟨by kernel_rfl, _, Tryz.func49, Tryz.ntmps49, h49_ok, r49_ok⟩
  · injection hf with hf; subst hf; exact ⟨by kernel_rfl, _, Tryz.func50, Tryz.ntmps50, h50_ok, r50_ok⟩
  · injection hf with hf; subst hf; exact ⟨by kernel_rfl, _, Tryz.func51, Tryz.ntmps51, h51_ok, r51_ok⟩
  · injection hf with hf; subst hf; exact ⟨by kernel_rfl, _, Tryz.func52, Tryz.ntmps52, h52_ok, r52_ok⟩
  · injection hf with hf; subst hf; exact ⟨by kernel_rfl, _, Tryz.func53, Tryz.ntmps53, h53_ok, r53_ok⟩
  · injection hf with hf; subst hf; exact ⟨by kernel_rfl, _, Tryz.func54, Tryz.ntmps54, h54_ok, r54_ok⟩
  · injection hf with hf; subst hf; exact ⟨by kernel_rfl, _, Tryz.func55, Tryz.ntmps55, h55_ok, r55_ok⟩
  · injection hf with hf; subst hf; exact ⟨by kernel_rfl, _, Tryz.func56, Tryz.ntmps56, h56_ok, r56_ok⟩
  · injection hf with hf; subst hf; exact ⟨by kernel_rfl, _, Tryz.func57, Tryz.ntmps57, h57_ok, r57_ok⟩
  · injection hf with hf; subst hf; exact ⟨by kernel_rfl, _, Tryz.func58, Tryz.ntmps58, h58_ok, r58_ok⟩
  · injection hf with hf; subst hf; exact ⟨by kernel_rfl, _, Tryz.func59, Tryz.ntmps59, h59_ok, r59_ok⟩
  · injection hf with hf; subst hf; exact ⟨by kernel_rfl, _, Tryz.func60, Tryz.ntmps60, h60_ok, r60_ok⟩
  · injection hf with hf; subst hf; exact ⟨by kernel_rfl, _, Tryz.func61, Tryz.ntmps61, h61_ok, r61_ok⟩
  · injection hf with hf; subst hf; exact ⟨by kernel_rfl, _, Tryz.func62, Tryz.ntmps62, h62_ok, r62_ok⟩
  · injection hf with hf; subst hf; exact ⟨by kernel_rfl, _, Tryz.func63, Tryz.ntmps63, h63_ok, r63_ok⟩
  · injection hf with hf; subst hf; exact ⟨by kernel_rfl, _, Tryz.func64, Tryz.ntmps64, h64_ok, r64_ok⟩
  · injection hf with hf; subst hf; exact ⟨by kernel_rfl, _, Tryz.func65, Tryz.ntmps65, h65_ok, r65_ok⟩
  · injection hf with hf; subst hf; exact ⟨by kernel_rfl, _, Tryz.func66, Tryz.ntmps66, h66_ok, r66_ok⟩
  · injection hf with hf; subst hf; exact ⟨by kernel_rfl, _, Tryz.func67, Tryz.ntmps67, h67_ok, r67_ok⟩
  · injection hf with hf; subst hf; exact ⟨by kernel_rfl, _, Tryz.func68, Tryz.ntmps68, h68_ok, r68_ok⟩
  · injection hf with hf; subst hf; exact ⟨by kernel_rfl, _, Tryz.func72, Tryz.ntmps72, h72_ok, r72_ok⟩
  · injection hf with hf; subst hf; exact ⟨by kernel_rfl, _, Tryz.func73, Tryz.ntmps73, h73_ok, r73_ok⟩
  · injection hf with hf; subst hf; exact ⟨by kernel_rfl, _, Tryz.func74, Tryz.ntmps74, h74_ok, r74_ok⟩
  · injection hf with hf; subst hf; exact ⟨by kernel_rfl, _, Tryz.func75, Tryz.ntmps75, h75_ok, r75_ok⟩
  · injection hf with hf; subst hf; exact ⟨by kernel_rfl, _, Tryz.func76, Tryz.ntmps76, h76_ok, r76_ok⟩
  · injection hf with hf; subst hf; exact ⟨by kernel_rfl, _, Tryz.func78, Tryz.ntmps78, h78_ok, r78_ok⟩
  · injection hf with hf; subst hf; exact ⟨by kernel_rfl, _, Tryz.func80, Tryz.ntmps80, h80_ok, r80_ok⟩
  · injection hf with hf; subst hf; exact ⟨by kernel_rfl, _, Tryz.func111, Tryz.ntmps111, h111_ok, r111_ok⟩
  · injection hf with hf; subst hf; exact ⟨by kernel_rfl, _, Tryz.func112, Tryz.ntmps112, h112_ok, r112_ok⟩
  · injection hf with hf; subst hf; exact ⟨by kernel_rfl, _, Tryz.func113, Tryz.ntmps113, h113_ok, r113_ok⟩
  · injection hf with hf; subst hf; exact ⟨by kernel_rfl, _, Tryz.func114, Tryz.ntmps114, h114_ok, r114_ok⟩
  · injection hf with hf; subst hf; exact ⟨by kernel_rfl, _, Tryz.func115, Tryz.ntmps115, h115_ok, r115_ok⟩
  · injection hf with hf; subst hf; exact ⟨by kernel_rfl, _, Tryz.func116, Tryz.ntmps116, h116_ok, r116_ok⟩
  · injection hf with hf; subst hf; exact ⟨by kernel_rfl, _, Tryz.func117, Tryz.ntmps117, h117_ok, r117_ok⟩
  · injection hf with hf; subst hf; exact ⟨by kernel_rfl, _, Tryz.func118, Tryz.ntmps118, h118_ok, r118_ok⟩
  · injection hf with hf; subst hf; exact ⟨by kernel_rfl, _, Tryz.func119, Tryz.ntmps119, h119_ok, r119_ok⟩
  · injection hf with hf; subst hf; exact ⟨by kernel_rfl, _, Tryz.func120, Tryz.ntmps120, h120_ok, r120_ok⟩
  · injection hf with hf; subst hf; exact ⟨by kernel_rfl, _, Tryz.func121, Tryz.ntmps121, h121_ok, r121_ok⟩
  · injection hf with hf; subst hf; exact ⟨by kernel_rfl, _, Tryz.func122, Tryz.ntmps122, h122_ok, r122_ok⟩
  · injection hf with hf; subst hf; exact ⟨by kernel_rfl, _, Tryz.func123, Tryz.ntmps123, h123_ok, r123_ok⟩
  · injection hf with hf; subst hf; exact ⟨by kernel_rfl, _, Tryz.func124, Tryz.ntmps124, h124_ok, r124_ok⟩
  · injection hf with hf; subst hf; exact ⟨by kernel_rfl, _, Tryz.func125, Tryz.ntmps125, h125_ok, r125_ok⟩
  · injection hf with hf; subst hf; exact ⟨by kernel_rfl, _, Tryz.func126, Tryz.ntmps126, h126_ok, r126_ok⟩
  · injection hf with hf; subst hf; exact ⟨by kernel_rfl, _, Tryz.func127, Tryz.ntmps127, h127_ok, r127_ok⟩
  · injection hf with hf; subst hf; exact ⟨by kernel_rfl, _, Tryz.func129, Tryz.ntmps129, h129_ok, r129_ok⟩
  · injection hf with hf; subst hf; exact ⟨by kernel_rfl, _, Tryz.func130, Tryz.ntmps130, h130_ok, r130_ok⟩
  · injection hf with hf; subst hf; exact ⟨by kernel_rfl, _, Tryz.func131, Tryz.ntmps131, h131_ok, r131_ok⟩
  · injection hf with hf; subst hf; exact ⟨by kernel_rfl, _, Tryz.func132, Tryz.ntmps132, h132_ok, r132_ok⟩
  · injection hf with hf; subst hf; exact ⟨by kernel_rfl, _, Tryz.func134, Tryz.ntmps134, h134_ok, r134_ok⟩
  · injection hf with hf; subst hf; exact ⟨by kernel_rfl, _, Tryz.func137, Tryz.ntmps137, h137_ok, r137_ok⟩
  · injection hf with hf; subst hf; exact ⟨by kernel_rfl, _, Tryz.func138, Tryz.ntmps138, h138_ok, r138_ok⟩
  · injection hf with hf; subst hf; exact ⟨by kernel_rfl, _, Tryz.func163, Tryz.ntmps163, h163_ok, r163_ok⟩
  · injection hf with hf; subst hf; exact ⟨by kernel_rfl, _, Tryz.func169, Tryz.ntmps169, h169_ok, r169_ok⟩
  · injection hf with hf; subst hf; exact ⟨by kernel_rfl, _, Tryz.func170, Tryz.ntmps170, h170_ok, r170_ok⟩
  · injection hf with hf; subst hf; exact ⟨by kernel_rfl, _, Tryz.func171, Tryz.ntmps171, h171_ok, r171_ok⟩
  · injection hf with hf; subst hf; exact ⟨by kernel_rfl, _, Tryz.func172, Tryz.ntmps172, h172_ok, r172_ok⟩
  · injection hf with hf; subst hf; exact ⟨by kernel_rfl, _, Tryz.func173, Tryz.ntmps173, h173_ok, r173_ok⟩
  · injection hf with hf; subst hf; exact ⟨by kernel_rfl, _, Tryz.func174, Tryz.ntmps174, h174_ok, r174_ok⟩
  · injection hf with hf; subst hf; exact ⟨by kernel_rfl, _, Tryz.func175, Tryz.ntmps175, h175_ok, r175_ok⟩
  · injection hf with hf; subst hf; exact ⟨by kernel_rfl, _, Tryz.func176, Tryz.ntmps176, h176_ok, r176_ok⟩
  · injection hf with hf; subst hf; exact ⟨by kernel_rfl, _, Tryz.func177, Tryz.ntmps177, h177_ok, r177_ok⟩
  · injection hf with hf; subst hf; exact ⟨by kernel_rfl, _, Tryz.func178, Tryz.ntmps178, h178_ok, r178_ok⟩
  · injection hf with hf; subst hf; exact ⟨by kernel_rfl, _, Tryz.func180, Tryz.ntmps180, h180_ok, r180_ok⟩
  · injection hf with hf; subst hf; exact ⟨by kernel_rfl, _, Tryz.func182, Tryz.ntmps182, h182_ok, r182_ok⟩
  · injection hf with hf; subst hf; exact ⟨by kernel_rfl, _, Tryz.func195, Tryz.ntmps195, h195_ok, r195_ok⟩
  · cases hf

end Go.Proofs.YtinageiefahjfaaGreatDoor
