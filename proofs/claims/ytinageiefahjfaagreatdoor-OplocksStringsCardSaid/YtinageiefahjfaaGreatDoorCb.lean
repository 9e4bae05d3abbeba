/- The functions of the translation as codes with hints: printed by a program, held by the kernel against the translation. Conditions: none. -/
import Derived.Test.YtinageiefahjfaaGreatDoorNg
import Derived.Test.YtinageiefahjfaaGreatDoorChecked
import Derived.KernelRfl
namespace Go.Proofs.YtinageiefahjfaaGreatDoor
abbrev oA (d o x : Nat) : AOp := Oo d (.addo o (.t x))
abbrev oL (d x : Nat) : AOp := Oo d (.load false 1 (.t x))
abbrev oG (d n x : Nat) : AOp := Oo d (.load true n (.t x))
abbrev oM (d x : Nat) : AOp := Oo d (.mov (.t x))
abbrev oK (d : Nat) (n : Int) : AOp := Oo d (.mov (Ki n))
abbrev oE (d x n : Nat) : AOp := Oo d (.ext (.t x) n)
abbrev oS (n x y : Nat) : AOp := On (.store n (.t x) (.t y))
abbrev oI (d z x i : Nat) : AOp := Oo d (.ixL z (.t x) (.t i))
abbrev oB (d : Nat) (b : BinOp) (x : Nat) (n : Int) : AOp := Oo d (.bin b (.t x) (Ki n))
abbrev oC (d : Nat) (b : BinOp) (x y : Nat) : AOp := Oo d (.bin b (.t x) (.t y))
abbrev oN (d x : Nat) : AOp := Oo d (.lenL (.t x))
abbrev CK (f : Func) (h : HC) : Prop := f.body.bind (compileC Tryz.prog) = some h.er
abbrev RK (f : Func) (r : List RetV) : Prop := f.results.toList.mapM (retOf Tryz.prog) = some r
theorem tk {f : FuncId} {h k : HF} {fn : Func} (hf : some k = some h) (h0 : okF Tryz.prog f = true) (h1 : Tryz.prog.funcs[f]? = some fn) (h2 : fn.ntmps = k.nt) (h3 : CK fn k.code) (h4 : RK fn k.rs) : okF Tryz.prog f = true ∧ ∃ fn, Tryz.prog.funcs[f]? = some fn ∧ fn.ntmps = h.nt ∧ fn.body.bind (compileC Tryz.prog) = some h.code.er ∧ fn.results.toList.mapM (retOf Tryz.prog) = some h.rs := by
  cases hf
  exact ⟨h0, fn, h1, h2, h3, h4⟩
def h8c : HC :=
 (.seq (.region [Oo 2 (.box (.t 0)), Oo 4 (.mov (.k (.bool false)))])
 (.seq (.seq (.region [Oo 12 (.call 10 []), Oo 13 (.un .not (.t 12))])
 (.cond (.t 13) (.seq (.region [Oo 4 (.mov (.k (.bool false)))])
 .ret)
 .skip))
 (.seq (.seq (.region [oG 14 2 2, Oo 15 (.call 11 [(.t 14)]), Oo 16 (.un .not (.t 15)), oM 17 16, Og 17 false 18 (.mov (.t 1)), Og 17 false 19 (.lenS (.t 18)), Og 17 false 20 (.bin .gtr (.t 19) (Ki 220)), Oo 21 (.pick (.t 17) (.k (.bool true)) (.t 20))])
 (.cond (.t 21) (.seq (.region [Oo 4 (.mov (.k (.bool true)))])
 .ret)
 .skip))
 (.seq (.region [oG 22 2 2, Oo 23 (.call 13 [(.t 22)]), Oo 24 (.call 34 [(.t 23)]), oM 5 24])
 (.seq (.seq (.region [oM 25 5, oG 26 2 2, Oo 27 (.call 35 [(.t 26)]), oC 28 .neq 25 27])
 (.cond (.t 28) (.seq (.region [Oo 4 (.mov (.k (.bool false)))])
 .ret)
 .skip))
 (.seq (.seq (.region [oG 29 2 2, Oo 30 (.call 30 [(.t 29)]), oB 31 .eql 30 0])
 (.cond (.t 31) (.seq (.region [oM 33 5, Oo 34 (.call 36 [(.t 33)]), oM 32 34, oE 35 32 0, oE 36 32 1, Oo 6 (.alloc [(.slice none 0 0), (.slice none 0 0)]), oS 2 6 35, oM 7 36])
 (.seq (.region [oM 37 7, oB 38 .neq 37 0, oM 39 38, Og 39 false 40 (.load true 2 (.t 6)), Og 39 false 41 (.load true 2 (.t 2)), Og 39 false 42 (.call 17 [(.t 40), (.t 41)]), Og 39 false 43 (.un .not (.t 42)), Oo 44 (.pick (.t 39) (.k (.bool true)) (.t 43))])
 (.cond (.t 44) (.seq (.region [Oo 4 (.mov (.k (.bool false)))])
 .ret)
 .skip)))
 .skip))
 (.seq (.region [oM 46 1, Oo 47 (.call 36 [(.t 46)]), oM 45 47, oE 48 45 0, oE 49 45 1, Oo 8 (.alloc [(.slice none 0 0), (.slice none 0 0)]), oS 2 8 48, oM 9 49])
 (.seq (.region [oM 51 1, Oo 52 (.call 37 [(.t 51)]), oM 50 52, oE 53 50 0, oE 54 50 1, Oo 10 (.alloc [(.slice none 0 0), (.slice none 0 0)]), oS 2 10 53, oM 11 54])
 (.seq (.region [oM 55 9, oM 56 11, oC 57 .eql 55 56, oM 58 57, Og 58 true 59 (.load true 2 (.t 8)), Og 58 true 60 (.load true 2 (.t 10)), Og 58 true 61 (.call 17 [(.t 59), (.t 60)]), Oo 62 (.pick (.t 58) (.t 61) (.k (.bool false))), oM 4 62])
 .ret)))))))))
abbrev h8 : HF := ⟨h8c, [.tmp 4], 63, false⟩
theorem h8_ok : CK Tryz.f8 h8c := by unfold CK; kernel_rfl
theorem r8_ok : RK Tryz.f8 [.tmp 4] := by unfold RK; kernel_rfl
def h10c : HC :=
 (.seq (.region [Oo 0 (.mov (.k (.bool false)))])
 (.seq (.region [Oo 12 (.build [Zi 0, Zi 0, Zi 0] [(0, 1, (Ki 0)), (1, 1, (Ki 1))]), Oo 13 (.build [Zi 0, Zi 0, Zi 0] [(0, 1, (Ki 1)), (1, 1, (Ki 1)), (2, 1, (Ki 3))]), Oo 14 (.build [Zi 0, Zi 0, Zi 0] [(0, 1, (Ki 0)), (1, 1, (Ki 2))]), Oo 15 (.bslc 3 3 [Zi 0, Zi 0, Zi 0] [(0, (.t 12)), (1, (.t 13)), (2, (.t 14))]), Oo 16 (.call 15 [(.t 15)]), oM 11 16, oE 17 11 0, oE 18 11 1, oE 19 11 2, oE 20 11 3, Oo 1 (.alloc [(.slice none 0 0), (.slice none 0 0)]), oS 2 1 17, oM 2 18, oM 3 19, oM 4 20])
 (.seq (.region [oG 22 2 1, Oo 23 (.build [Zi 0, Zi 0, Zi 0] [(0, 1, (Ki 4)), (1, 1, (Ki 1))]), Oo 24 (.call 22 [(.t 22), (.t 23)]), oM 21 24, oE 25 21 0, oE 26 21 1, oE 27 21 2, Oo 5 (.alloc [(.slice none 0 0), (.slice none 0 0)]), Oo 6 (.alloc [(.bool false), (.slice none 0 0), (.slice none 0 0)]), oS 2 5 25, oS 3 6 26, oM 7 27])
 (.seq (.region [Oo 29 (.build [Zi 0, Zi 0, Zi 0] [(0, 1, (Ki 0)), (1, 1, (Ki 1))]), Oo 30 (.build [Zi 0, Zi 0, Zi 0, Zi 0] [(0, 3, (.t 29))]), Oo 31 (.build [Zi 0, Zi 0, Zi 0] [(0, 1, (Ki 1)), (1, 1, (Ki 1)), (2, 1, (Ki 2))]), Oo 32 (.build [Zi 0, Zi 0, Zi 0, Zi 0] [(0, 3, (.t 31))]), Oo 33 (.build [Zi 0, Zi 0, Zi 0] [(0, 1, (Ki 3)), (1, 1, (Ki 1))]), Oo 34 (.build [Zi 0, Zi 0, Zi 0, Zi 0] [(0, 3, (.t 33)), (3, 1, (Ki 5))]), Oo 35 (.build [Zi 0, Zi 0, Zi 0] [(0, 1, (Ki 0)), (1, 1, (Ki 2))]), Oo 36 (.build [Zi 0, Zi 0, Zi 0, Zi 0] [(0, 3, (.t 35))]), Oo 37 (.build [Zi 0, Zi 0, Zi 0] [(0, 1, (Ki 2)), (1, 1, (Ki 2))]), Oo 38 (.build [Zi 0, Zi 0, Zi 0, Zi 0] [(0, 3, (.t 37))]), Oo 39 (.build [Zi 0, Zi 0, Zi 0] [(0, 1, (Ki 4)), (1, 1, (Ki 1))]), Oo 40 (.build [Zi 0, Zi 0, Zi 0, Zi 0] [(0, 3, (.t 39))]), Oo 41 (.bslc 4 6 [Zi 0, Zi 0, Zi 0, Zi 0] [(0, (.t 30)), (1, (.t 32)), (2, (.t 34)), (3, (.t 36)), (4, (.t 38)), (5, (.t 40))]), Oo 42 (.call 19 [(.t 41)]), oM 28 42, oE 43 28 0, oE 44 28 1, oE 45 28 2, Oo 8 (.alloc [(.slice none 0 0), (.slice none 0 0), Zi 0, (.slice none 0 0), (.slice none 0 0), (.slice none 0 0)]), oS 6 8 43, oM 9 44, oM 10 45])
 (.seq (.region [oM 46 4, oB 47 .eql 46 0, oM 48 47, Og 48 true 49 (.mov (.t 3)), Og 48 true 50 (.bin .eql (.t 49) (Ki 3)), Oo 51 (.pick (.t 48) (.t 50) (.k (.bool false))), oM 52 51, Og 52 true 53 (.mov (.t 2)), Og 52 true 54 (.lenL (.t 53)), Og 52 true 55 (.bin .eql (.t 54) (Ki 3)), Oo 56 (.pick (.t 52) (.t 55) (.k (.bool false))), oM 57 56, Og 57 true 58 (.load true 2 (.t 1)), Og 57 true 59 (.call 34 [(.t 58)]), Og 57 true 60 (.bin .eql (.t 59) (.k (.string ⟨#[49, 58, 51, 62, 50, 59, 50, 111]⟩))), Oo 61 (.pick (.t 57) (.t 60) (.k (.bool false))), oM 62 61, Og 62 true 63 (.mov (.t 7)), Og 62 true 64 (.bin .eql (.t 63) (Ki 0)), Oo 65 (.pick (.t 62) (.t 64) (.k (.bool false))), oM 66 65, Og 66 true 67 (.addo 0 (.t 6)), Og 66 true 68 (.load false 1 (.t 67)), Oo 69 (.pick (.t 66) (.t 68) (.k (.bool false))), oM 70 69, Og 70 true 71 (.load true 2 (.t 5)), Og 70 true 72 (.call 34 [(.t 71)]), Og 70 true 73 (.bin .eql (.t 72) (.k (.string ⟨#[49, 58, 50, 62, 50, 44, 50, 58, 48, 62, 48, 59]⟩))), Oo 74 (.pick (.t 70) (.t 73) (.k (.bool false))), oM 75 74, Og 75 true 76 (.mov (.t 10)), Og 75 true 77 (.bin .eql (.t 76) (Ki 0)), Oo 78 (.pick (.t 75) (.t 77) (.k (.bool false))), oM 79 78, Og 79 true 80 (.mov (.t 9)), Og 79 true 81 (.bin .eql (.t 80) (Ki 6)), Oo 82 (.pick (.t 79) (.t 81) (.k (.bool false))), oM 83 82, Og 83 true 84 (.addo 2 (.t 8)), Og 83 true 85 (.load false 1 (.t 84)), Og 83 true 86 (.bin .eql (.t 85) (Ki 5)), Oo 87 (.pick (.t 83) (.t 86) (.k (.bool false))), oM 88 87, Og 88 true 89 (.addo 5 (.t 8)), Og 88 true 90 (.load false 1 (.t 89)), Og 88 true 91 (.bslc 1 1 [Zi 0] [(0, (Ki 5))]), Og 88 true 92 (.call 31 [(.t 90), (.t 91)]), Oo 93 (.pick (.t 88) (.t 92) (.k (.bool false))), oM 0 93])
 .ret)))))
abbrev h10 : HF := ⟨h10c, [.tmp 0], 94, false⟩
theorem h10_ok : CK Tryz.f10 h10c := by unfold CK; kernel_rfl
theorem r10_ok : RK Tryz.f10 [.tmp 0] := by unfold RK; kernel_rfl
def h11c : HC :=
 (.seq (.region [Oo 1 (.box (.t 0)), Oo 2 (.mov (.k (.bool false)))])
 (.seq (.region [oA 3 0 1, oL 4 3, oN 5 4, oB 6 .leq 5 12, oM 7 6, Og 7 true 8 (.addo 1 (.t 1)), Og 7 true 9 (.load false 1 (.t 8)), Og 7 true 10 (.lenL (.t 9)), Og 7 true 11 (.bin .leq (.t 10) (Ki 12)), Oo 12 (.pick (.t 7) (.t 11) (.k (.bool false))), oM 2 12])
 .ret))
abbrev h11 : HF := ⟨h11c, [.tmp 2], 13, false⟩
theorem h11_ok : CK Tryz.f11 h11c := by unfold CK; kernel_rfl
theorem r11_ok : RK Tryz.f11 [.tmp 2] := by unfold RK; kernel_rfl
def h12c : HC :=
 (.seq (.region [Oo 1 (.box (.t 0)), oK 2 0, oK 3 0])
 (.seq (.seq (.region [oA 10 0 1, oL 11 10, oN 12 11, oB 13 .gtr 12 8, oM 14 13, Og 14 false 15 (.addo 1 (.t 1)), Og 14 false 16 (.load false 1 (.t 15)), Og 14 false 17 (.lenL (.t 16)), Og 14 false 18 (.bin .gtr (.t 17) (Ki 8)), Oo 19 (.pick (.t 14) (.k (.bool true)) (.t 18))])
 (.cond (.t 19) (.seq (.region [oK 2 0, oK 3 8])
 .ret)
 .skip))
 (.seq (.region [oG 20 2 1, Oo 21 (.call 47 [(.t 20)]), Oo 4 (.alloc [(.pointer none)]), oS 1 4 21])
 (.seq (.seq (.regR [48, 100048] [oL 23 4, Oo 24 (.nilc (.t 23)), oA 25 0 24, oA 26 0 25, oL 27 26, Oo 28 (.mkfn 49 [(.t 4)]), Oo 29 (.call 48 [(.t 27), (.t 28)]), oM 22 29, oE 30 22 0, oE 31 22 1, oM 5 30, oM 6 31])
 (.seq (.region [oM 32 6, oB 33 .neq 32 0])
 (.cond (.t 33) (.seq (.region [oM 34 5, oM 35 6, oM 2 34, oM 3 35])
 .ret)
 .skip)))
 (.seq (.seq (.regR [51, 100051] [oL 37 4, Oo 38 (.nilc (.t 37)), oA 39 0 38, oA 40 1 39, oL 41 40, Oo 42 (.mkfn 52 [(.t 4)]), Oo 43 (.call 51 [(.t 41), (.t 42)]), oM 36 43, oE 44 36 0, oE 45 36 1, oM 7 44, oM 8 45])
 (.seq (.region [oM 46 8, oB 47 .neq 46 0])
 (.cond (.t 47) (.seq (.region [oM 48 7, oM 49 8, oM 2 48, oM 3 49])
 .ret)
 .skip)))
 (.seq (.seq (.region [oA 50 1 1, oL 51 50, oN 52 51, oB 53 .eql 52 0])
 (.cond (.t 53) (.seq (.region [oK 2 0, oK 3 0])
 .ret)
 .skip))
 (.seq (.drawnT [54] (.st 0 (.st 1 (.st 2 (.st 3 (.st 4 (.st 5 (.st 6 .nil))))))) [oL 54 4, oA 55 1 1, oL 56 55, Oo 57 (.ixL 2 (.t 56) (Ki 0)), oG 58 2 57, Oo 59 (.call 54 [(.t 54), (.t 58)]), oM 9 59])
 (.seq (.drawn [Qo (oM 60 9), Qo (oN 61 60), Qo (oB 62 .eql 61 0), Qo (oM 63 62), Qo (Og 63 true 64 (.load false 1 (.t 4))), Qo (Og 63 true 65 (.addo 1 (.t 1))), Qo (Og 63 true 66 (.load false 1 (.t 65))), Qo (Og 63 true 67 (.ixL 2 (.t 66) (Ki 0))), Qo (Og 63 true 68 (.load true 2 (.t 67))), Qe (Og 63 true 69 (.call 56 [(.t 64), (.t 68)])), Qo (Oo 70 (.pick (.t 63) (.t 69) (.k (.bool false)))), Qe (Oo 71 (.call 55 [(.t 70), (Ki 20)])), Qo (oK 2 0), Qo (oM 3 71)])
 .ret))))))))
abbrev h12 : HF := ⟨h12c, [.tmp 2, .tmp 3], 72, false⟩
theorem h12_ok : CK Tryz.f12 h12c := by unfold CK; kernel_rfl
theorem r12_ok : RK Tryz.f12 [.tmp 2, .tmp 3] := by unfold RK; kernel_rfl
def h13c : HC :=
 (.seq (.region [Oo 1 (.box (.t 0)), Oo 2 (.alloc [(.slice none 0 0), (.slice none 0 0)])])
 (.seq (.drawnT [] (.st 1 (.st 5 (.br 0 (.br 2 (.br 3 (.br 4 (.st 6 (.st 7 (.st 8 (.st 9 .nil)))) (.br 6 (.st 4 (.st 7 (.st 8 (.st 9 .nil)))) .stop)) (.br 4 (.br 3 (.st 6 (.st 7 (.st 8 (.st 9 .nil)))) (.br 6 (.st 3 (.st 7 (.st 8 (.st 9 .nil)))) .stop)) (.br 6 (.br 3 (.st 4 (.st 7 (.st 8 (.st 9 .nil)))) (.br 4 (.st 3 (.st 7 (.st 8 (.st 9 .nil)))) .stop)) .stop))) (.br 4 (.st 2 (.br 3 (.st 6 (.st 7 (.st 8 (.st 9 .nil)))) (.br 6 (.st 3 (.st 7 (.st 8 (.st 9 .nil)))) .stop))) (.br 6 (.br 2 (.br 3 (.st 4 (.st 7 (.st 8 (.st 9 .nil)))) (.br 4 (.st 3 (.st 7 (.st 8 (.st 9 .nil)))) .stop)) (.br 4 (.st 2 (.st 3 (.st 7 (.st 8 (.st 9 .nil))))) .stop)) .stop))) (.br 2 (.br 0 (.br 3 (.br 4 (.st 6 (.st 7 (.st 8 (.st 9 .nil)))) (.br 6 (.st 4 (.st 7 (.st 8 (.st 9 .nil)))) .stop)) (.br 4 (.br 3 (.st 6 (.st 7 (.st 8 (.st 9 .nil)))) (.br 6 (.st 3 (.st 7 (.st 8 (.st 9 .nil)))) .stop)) (.br 6 (.br 3 (.st 4 (.st 7 (.st 8 (.st 9 .nil)))) (.br 4 (.st 3 (.st 7 (.st 8 (.st 9 .nil)))) .stop)) .stop))) (.br 4 (.br 0 (.br 3 (.st 6 (.st 7 (.st 8 (.st 9 .nil)))) (.br 6 (.st 3 (.st 7 (.st 8 (.st 9 .nil)))) .stop)) (.br 6 (.st 0 (.st 3 (.st 7 (.st 8 (.st 9 .nil))))) .stop)) (.br 6 (.br 0 (.br 3 (.st 4 (.st 7 (.st 8 (.st 9 .nil)))) (.br 4 (.st 3 (.st 7 (.st 8 (.st 9 .nil)))) .stop)) (.br 4 (.st 0 (.st 3 (.st 7 (.st 8 (.st 9 .nil))))) .stop)) .stop))) (.br 4 (.br 0 (.st 2 (.br 3 (.st 6 (.st 7 (.st 8 (.st 9 .nil)))) (.br 6 (.st 3 (.st 7 (.st 8 (.st 9 .nil)))) .stop))) (.br 2 (.br 0 (.br 3 (.st 6 (.st 7 (.st 8 (.st 9 .nil)))) (.br 6 (.st 3 (.st 7 (.st 8 (.st 9 .nil)))) .stop)) (.br 6 (.st 0 (.st 3 (.st 7 (.st 8 (.st 9 .nil))))) .stop)) (.br 6 (.br 0 (.st 2 (.st 3 (.st 7 (.st 8 (.st 9 .nil))))) (.br 2 (.st 0 (.st 3 (.st 7 (.st 8 (.st 9 .nil))))) .stop)) .stop))) (.br 6 (.br 0 (.br 2 (.br 3 (.st 4 (.st 7 (.st 8 (.st 9 .nil)))) (.br 4 (.st 3 (.st 7 (.st 8 (.st 9 .nil)))) .stop)) (.br 4 (.st 2 (.st 3 (.st 7 (.st 8 (.st 9 .nil))))) .stop)) (.br 2 (.br 0 (.br 3 (.st 4 (.st 7 (.st 8 (.st 9 .nil)))) (.br 4 (.st 3 (.st 7 (.st 8 (.st 9 .nil)))) .stop)) (.br 4 (.st 0 (.st 3 (.st 7 (.st 8 (.st 9 .nil))))) .stop)) (.br 4 (.br 0 (.st 2 (.st 3 (.st 7 (.st 8 (.st 9 .nil))))) (.br 2 (.st 0 (.st 3 (.st 7 (.st 8 (.st 9 .nil))))) .stop)) .stop))) .stop)))))) [Oo 3 (.bslc 3 0 [Zi 0, Zi 0, Zi 0] []), oA 4 0 1, oL 5 4, Oo 6 (.app 3 24 [Zi 0, Zi 0, Zi 0] (.t 3) (.t 5)), Oo 7 (.bslc 2 0 [Zi 0, Zi 0] []), oA 8 1 1, oL 9 8, Oo 10 (.app 2 16 [Zi 0, Zi 0] (.t 7) (.t 9)), Oo 11 (.build [(.slice none 0 0), (.slice none 0 0)] [(0, 1, (.t 6)), (1, 1, (.t 10))]), oS 2 2 11])
 .ret))
abbrev h13 : HF := ⟨h13c, [.cell 2 true 2], 12, true⟩
theorem h13_ok : CK Tryz.f13 h13c := by unfold CK; kernel_rfl
theorem r13_ok : RK Tryz.f13 [.cell 2 true 2] := by unfold RK; kernel_rfl
def h14l0 : HC :=
 (.seq (.seq (.region [oM 21 4, oA 22 0 1, oL 23 22, oN 24 23, oC 25 .lss 21 24])
 (.cond (.t 25) .skip
 (.exit 0)))
 (.seq (.block 1 (.seq (.region [oG 28 2 1, oM 29 4, Oo 30 (.call 57 [(.t 28), (.t 29)]), oM 5 30])
 (.seq (.region [oM 31 5, oB 32 .neq 31 0])
 (.cond (.t 32) (.seq (.region [oM 33 4, oM 34 5, oM 2 33, oM 3 34])
 .ret)
 .skip))))
 (.region [oM 26 4, oB 27 .add 26 1, oM 4 27])))
def h14l1 : HC :=
 (.seq (.seq (.region [oM 35 6, oA 36 1 1, oL 37 36, oN 38 37, oC 39 .lss 35 38])
 (.cond (.t 39) .skip
 (.exit 2)))
 (.seq (.block 3 (.seq (.region [oG 42 2 1, oM 43 6, Oo 44 (.call 58 [(.t 42), (.t 43)]), oM 7 44])
 (.seq (.region [oM 45 7, oB 46 .neq 45 0])
 (.cond (.t 46) (.seq (.region [oM 47 6, oM 48 7, oM 2 47, oM 3 48])
 .ret)
 .skip))))
 (.region [oM 40 6, oB 41 .add 40 1, oM 6 41])))
def h14c : HC :=
 (.seq (.region [Oo 1 (.box (.t 0)), oK 2 0, oK 3 0])
 (.seq (.seq (.region [oA 11 0 1, oL 12 11, oN 13 12, oB 14 .gtr 13 8, oM 15 14, Og 15 false 16 (.addo 1 (.t 1)), Og 15 false 17 (.load false 1 (.t 16)), Og 15 false 18 (.lenL (.t 17)), Og 15 false 19 (.bin .gtr (.t 18) (Ki 8)), Oo 20 (.pick (.t 15) (.k (.bool true)) (.t 19))])
 (.cond (.t 20) (.seq (.region [oK 2 0, oK 3 8])
 .ret)
 .skip))
 (.seq (.seq (.region [oK 4 0])
 (.block 0 (.loop [1, 2] h14l0)))
 (.seq (.seq (.region [oK 6 0])
 (.block 2 (.loop [1, 4] h14l1)))
 (.seq (.seq (.region [oA 49 1 1, oL 50 49, oN 51 50, oB 52 .gtr 51 0])
 (.cond (.t 52) (.seq (.region [oA 53 1 1, oL 54 53, Oo 55 (.ixL 2 (.t 54) (Ki 0)), oG 56 2 55, Oo 8 (.alloc [Zi 0, Zi 0]), oS 2 8 56])
 (.seq (.region [oG 58 2 1, oA 59 0 8, oL 60 59, oA 61 1 8, oL 62 61, Oo 63 (.call 59 [(.t 58), (.t 60), (.t 62)]), oM 57 63, oE 64 57 0, oE 65 57 1, Oo 9 (.alloc [(.slice none 0 0), (.slice none 0 0)]), oS 2 9 64, oM 10 65])
 (.seq (.region [oM 66 10, oN 67 66, oB 68 .gtr 67 0, oM 69 68, Og 69 false 70 (.load true 2 (.t 1)), Og 69 false 71 (.addo 0 (.t 8)), Og 69 false 72 (.load false 1 (.t 71)), Og 69 false 73 (.addo 1 (.t 8)), Og 69 false 74 (.load false 1 (.t 73)), Og 69 false 75 (.call 60 [(.t 70), (.t 72), (.t 74)]), Og 69 false 76 (.un .not (.t 75)), Oo 77 (.pick (.t 69) (.k (.bool true)) (.t 76))])
 (.cond (.t 77) (.seq (.region [oK 2 0, oK 3 20])
 .ret)
 .skip))))
 .skip))
 (.seq (.region [oK 2 0, oK 3 0])
 .ret))))))
abbrev h14 : HF := ⟨h14c, [.tmp 2, .tmp 3], 78, false⟩
theorem h14_ok : CK Tryz.f14 h14c := by unfold CK; kernel_rfl
theorem r14_ok : RK Tryz.f14 [.tmp 2, .tmp 3] := by unfold RK; kernel_rfl
def h15c : HC :=
 (.seq (.region [Oo 2 (.alloc [(.slice none 0 0), (.slice none 0 0)]), Oo 3 (.mov (.k (.slice none 0 0))), oK 4 0, oK 5 0])
 (.seq (.seq (.region [oM 10 0, oN 11 10, oB 12 .gtr 11 100])
 (.cond (.t 12) (.seq (.region [Oo 13 (.build [(.slice none 0 0), (.slice none 0 0)] []), oS 2 2 13, Oo 3 (.mov (.k (.slice none 0 0))), oK 4 0, oK 5 8])
 .ret)
 .skip))
 (.seq (.region [Oo 14 (.build [(.slice none 0 0), (.slice none 0 0)] []), Oo 15 (.box (.t 14)), Oo 6 (.alloc [(.pointer none)]), oS 1 6 15])
 (.gh (.nilB 15 0 3) (.gh (.nilB 15 1 2) (.seq (.region [Oo 7 (.alloc [(.slice none 0 0)])])
 (.gh (.nilB 7 0 3) (.seq (.seq (.region [oM 17 0, Oo 18 (.mkfn 62 [(.t 6), (.t 7)]), Oo 19 (.call 61 [(.t 17), (.t 18)]), oM 16 19, oE 20 16 0, oE 21 16 1, oM 8 20, oM 9 21])
 (.seq (.region [oM 22 9, oB 23 .neq 22 0])
 (.cond (.t 23) (.seq (.region [Oo 24 (.build [(.slice none 0 0), (.slice none 0 0)] []), oM 25 8, oM 26 9, oS 2 2 24, Oo 3 (.mov (.k (.slice none 0 0))), oM 4 25, oM 5 26])
 .ret)
 .skip)))
 (.seq (.drawnF [(4, 7), (5, 7), (6, 7)] [oL 27 6, Oo 28 (.nilc (.t 27)), oA 29 0 28, oG 30 2 29, oL 31 7, oM 32 0, oN 33 32, oS 2 2 30, oM 3 31, oM 4 33, oK 5 0])
 .ret)))))))))
abbrev h15 : HF := ⟨h15c, [.cell 2 true 2, .tmp 3, .tmp 4, .tmp 5], 34, false⟩
theorem h15_ok : CK Tryz.f15 h15c := by unfold CK; kernel_rfl
theorem r15_ok : RK Tryz.f15 [.cell 2 true 2, .tmp 3, .tmp 4, .tmp 5] := by unfold RK; kernel_rfl
def h17l0 : HC :=
 (.seq (.seq (.region [oM 21 5, oA 22 0 2, oL 23 22, oN 24 23, oC 25 .lss 21 24])
 (.cond (.t 25) .skip
 (.exit 0)))
 (.seq (.block 1 (.seq (.drawn [Qo (oA 28 0 2), Qo (oL 29 28), Qo (oM 30 5), Qo (oI 31 3 29 30), Qo (oG 32 3 31), Qo (oA 33 0 3), Qo (oL 34 33), Qo (oM 35 5), Qo (oI 36 3 34 35), Qo (oG 37 3 36), Qo (Oo 38 (.eqs true [.i, .i, .i] (.t 32) (.t 37)))])
 (.cond (.t 38) (.seq (.region [Oo 4 (.mov (.k (.bool false)))])
 .ret)
 .skip)))
 (.region [oM 26 5, oB 27 .add 26 1, oM 5 27])))
def h17c : HC :=
 (.seq (.region [Oo 2 (.box (.t 0)), Oo 3 (.box (.t 1)), Oo 4 (.mov (.k (.bool false)))])
 (.seq (.seq (.region [oA 6 0 2, oL 7 6, oN 8 7, oA 9 0 3, oL 10 9, oN 11 10, oC 12 .neq 8 11, oM 13 12, Og 13 false 14 (.addo 1 (.t 2)), Og 13 false 15 (.load false 1 (.t 14)), Og 13 false 16 (.addo 1 (.t 3)), Og 13 false 17 (.load false 1 (.t 16)), Og 13 false 18 (.call 65 [(.t 15), (.t 17)]), Og 13 false 19 (.un .not (.t 18)), Oo 20 (.pick (.t 13) (.k (.bool true)) (.t 19))])
 (.cond (.t 20) (.seq (.region [Oo 4 (.mov (.k (.bool false)))])
 .ret)
 .skip))
 (.seq (.seq (.region [oK 5 0])
 (.block 0 (.loop [2, 0, 1] h17l0)))
 (.seq (.region [Oo 4 (.mov (.k (.bool true)))])
 .ret))))
abbrev h17 : HF := ⟨h17c, [.tmp 4], 39, false⟩
theorem h17_ok : CK Tryz.f17 h17c := by unfold CK; kernel_rfl
theorem r17_ok : RK Tryz.f17 [.tmp 4] := by unfold RK; kernel_rfl
def h19l0 : HC :=
 (.seq (.region [oB 18 .lss 17 9])
 (.seq (.cond (.t 18) .skip
 (.exit 0))
 (.seq (.block 1 (.seq (.region [oM 19 17, oM 6 19])
 (.region [oL 20 5, oM 21 6, Oo 22 (.nilc (.t 20)), oA 23 2 22, Oo 24 (.ixA 9 1 (.t 23) (.t 21)), On (.store 1 (.t 24) (Ki (-1)))])))
 (.region [oB 25 .add 17 1, oM 17 25]))))
def h19c : HC :=
 (.seq (.region [Oo 2 (.alloc [(.slice none 0 0), (.slice none 0 0), Zi 0, (.slice none 0 0), (.slice none 0 0), (.slice none 0 0)]), oK 3 0, oK 4 0])
 (.seq (.seq (.region [oM 9 0, oN 10 9, oB 11 .gtr 10 100])
 (.cond (.t 11) (.seq (.region [Oo 12 (.build [(.slice none 0 0), (.slice none 0 0), Zi 0, (.slice none 0 0), (.slice none 0 0), (.slice none 0 0)] []), oS 6 2 12, oK 3 0, oK 4 8])
 .ret)
 .skip))
 (.seq (.region [Oo 13 (.build [(.slice none 0 0), (.slice none 0 0)] []), Oo 14 (.box (.t 13)), Oo 15 (.build [(.pointer none), Zi 0, Zi 0, Zi 0, Zi 0, Zi 0, Zi 0, Zi 0, Zi 0, Zi 0, Zi 0, (.bool false), (.bool false), (.bool false), (.bool false), (.bool false), (.bool false), (.bool false), (.bool false), (.bool false), Zi 0, Zi 0, Zi 0, Zi 0, Zi 0, Zi 0, Zi 0, Zi 0, Zi 0, (.slice none 0 0)] [(0, 1, (.t 14))]), Oo 16 (.box (.t 15)), Oo 5 (.alloc [(.pointer none)]), oS 1 5 16])
 (.gh (.nilB 14 0 3) (.gh (.nilB 14 1 2) (.gh (.nilB 16 29 1) (.seq (.seq (.region [oK 17 0])
 (.block 0 (.loop [0, 1, 2, 11] h19l0)))
 (.seq (.seq (.region [oM 27 0, Oo 28 (.mkfn 67 [(.t 5)]), Oo 29 (.call 66 [(.t 27), (.t 28)]), oM 26 29, oE 30 26 0, oE 31 26 1, oM 7 30, oM 8 31])
 (.seq (.region [oM 32 8, oB 33 .neq 32 0])
 (.cond (.t 33) (.seq (.region [Oo 34 (.build [(.slice none 0 0), (.slice none 0 0), Zi 0, (.slice none 0 0), (.slice none 0 0), (.slice none 0 0)] []), oM 35 7, oM 36 8, oS 6 2 34, oM 3 35, oM 4 36])
 .ret)
 .skip)))
 (.seq (.drawn [Qo (oL 37 5), Qo (Oo 38 (.nilc (.t 37))), Qo (oA 39 0 38), Qo (oL 40 39), Qo (Oo 41 (.nilc (.t 40))), Qo (oA 42 0 41), Qo (oG 43 2 42), Qo (oL 44 5), Qo (Oo 45 (.nilc (.t 44))), Qo (oA 46 1 45), Qo (oL 47 46), Qo (oL 48 5), Qo (Oo 49 (.nilc (.t 48))), Qo (oA 50 2 49), Qo (Oo 51 (.slA 9 1 (.t 50) (some (Ki 1)) none)), Qo (oL 52 5), Qo (Oo 53 (.nilc (.t 52))), Qo (oA 54 11 53), Qo (Oo 55 (.slA 9 1 (.t 54) (some (Ki 1)) none)), Qo (oL 56 5), Qo (Oo 57 (.nilc (.t 56))), Qo (oA 58 29 57), Qo (oL 59 58), Qo (Oo 60 (.build [(.slice none 0 0), (.slice none 0 0), Zi 0, (.slice none 0 0), (.slice none 0 0), (.slice none 0 0)] [(0, 2, (.t 43)), (2, 1, (.t 47)), (3, 1, (.t 51)), (4, 1, (.t 55)), (5, 1, (.t 59))])), Qo (oM 61 0), Qo (oN 62 61), Qe (oS 6 2 60), Qo (oM 3 62), Qo (oK 4 0)])
 .ret)))))))))
abbrev h19 : HF := ⟨h19c, [.cell 2 true 6, .tmp 3, .tmp 4], 63, false⟩
theorem h19_ok : CK Tryz.f19 h19c := by unfold CK; kernel_rfl
theorem r19_ok : RK Tryz.f19 [.cell 2 true 6, .tmp 3, .tmp 4] := by unfold RK; kernel_rfl
def h22c : HC :=
 (.seq (.region [Oo 2 (.box (.t 0)), Oo 3 (.box (.t 1)), Oo 4 (.alloc [(.slice none 0 0), (.slice none 0 0)]), Oo 5 (.alloc [(.bool false), (.slice none 0 0), (.slice none 0 0)]), oK 6 0])
 (.seq (.region [oG 11 2 2, Oo 12 (.call 72 [(.t 11)]), oM 10 12, oE 13 10 0, oE 14 10 1, oM 7 13, oM 8 14])
 (.seq (.seq (.region [oM 15 8, oB 16 .eql 15 0])
 (.cond (.t 16) (.regR [63, 100063] [oM 17 7, oG 18 3 3, Oo 19 (.call 63 [(.t 17), (.t 18)]), oM 8 19])
 .skip))
 (.seq (.seq (.region [oM 20 8, oB 21 .neq 20 0])
 (.cond (.t 21) (.seq (.region [Oo 22 (.build [(.slice none 0 0), (.slice none 0 0)] []), Oo 23 (.build [(.bool false), (.slice none 0 0), (.slice none 0 0)] []), oM 24 8, oS 2 4 22, oS 3 5 23, oM 6 24])
 .ret)
 .skip))
 (.seq (.regR [64] [oM 25 7, oG 26 3 3, Oo 27 (.call 64 [(.t 25), (.t 26)]), Oo 9 (.alloc [(.bool false), (.slice none 0 0), (.slice none 0 0)]), oS 3 9 27])
 (.seq (.drawnF [(4, 5)] [oM 28 7, Oo 29 (.nilc (.t 28)), oA 30 0 29, oG 31 2 30, oG 32 3 9, oS 2 4 31, oS 3 5 32, oK 6 0])
 .ret))))))
abbrev h22 : HF := ⟨h22c, [.cell 4 true 2, .cell 5 true 3, .tmp 6], 33, false⟩
theorem h22_ok : CK Tryz.f22 h22c := by unfold CK; kernel_rfl
theorem r22_ok : RK Tryz.f22 [.cell 4 true 2, .cell 5 true 3, .tmp 6] := by unfold RK; kernel_rfl
def h30c : HC :=
 (.seq (.region [Oo 1 (.box (.t 0)), oK 2 0])
 (.seq (.region [oG 6 2 1, Oo 7 (.call 14 [(.t 6)]), oM 5 7, oE 8 5 0, oE 9 5 1, oM 3 8, oM 4 9])
 (.seq (.region [oM 10 4, oM 2 10])
 .ret)))
abbrev h30 : HF := ⟨h30c, [.tmp 2], 11, false⟩
theorem h30_ok : CK Tryz.f30 h30c := by unfold CK; kernel_rfl
theorem r30_ok : RK Tryz.f30 [.tmp 2] := by unfold RK; kernel_rfl
def h31l0 : HC :=
 (.seq (.seq (.region [oM 11 5, oM 12 0, oN 13 12, oC 14 .lss 11 13])
 (.cond (.t 14) .skip
 (.exit 0)))
 (.seq (.block 1 (.seq (.drawn [Qo (oM 17 0), Qo (oM 18 5), Qo (oI 19 1 17 18), Qo (oL 20 19), Qo (oM 21 1), Qo (oM 22 5), Qo (oI 23 1 21 22), Qo (oL 24 23), Qo (oC 25 .neq 20 24)])
 (.cond (.t 25) (.seq (.region [Oo 4 (.mov (.k (.bool false)))])
 .ret)
 .skip)))
 (.region [oM 15 5, oB 16 .add 15 1, oM 5 16])))
def h31c : HC :=
 (.seq (.region [Oo 4 (.mov (.k (.bool false)))])
 (.seq (.seq (.region [oM 6 0, oN 7 6, oM 8 1, oN 9 8, oC 10 .neq 7 9])
 (.cond (.t 10) (.seq (.region [Oo 4 (.mov (.k (.bool false)))])
 .ret)
 .skip))
 (.seq (.seq (.region [oK 5 0])
 (.block 0 (.loop [0, 0, 3] h31l0)))
 (.seq (.region [Oo 4 (.mov (.k (.bool true)))])
 .ret))))
abbrev h31 : HF := ⟨h31c, [.tmp 4], 26, false⟩
theorem h31_ok : CK Tryz.f31 h31c := by unfold CK; kernel_rfl
theorem r31_ok : RK Tryz.f31 [.tmp 4] := by unfold RK; kernel_rfl
def h33l0 : HC :=
 (.seq (.seq (.region [oM 6 5, oA 7 0 2, oL 8 7, oN 9 8, oC 10 .lss 6 9])
 (.cond (.t 10) .skip
 (.exit 0)))
 (.seq (.block 1 (.seq (.region [oA 13 0 2, oL 14 13, oM 15 5, oI 16 3 14 15, oA 17 0 16, oL 18 17, oM 19 1, oC 20 .eql 18 19])
 (.cond (.t 20) (.seq (.region [oM 21 5, oM 4 21])
 .ret)
 .skip)))
 (.region [oM 11 5, oB 12 .add 11 1, oM 5 12])))
def h33c : HC :=
 (.seq (.region [Oo 2 (.box (.t 0)), oK 4 0])
 (.seq (.seq (.region [oK 5 0])
 (.block 0 (.loop [1, 0, 2] h33l0)))
 (.seq (.region [Oo 4 (.mov (Ki (-1)))])
 .ret)))
abbrev h33 : HF := ⟨h33c, [.tmp 4], 22, false⟩
theorem h33_ok : CK Tryz.f33 h33c := by unfold CK; kernel_rfl
theorem r33_ok : RK Tryz.f33 [.tmp 4] := by unfold RK; kernel_rfl
def h34l0 : HC :=
 (.seq (.region [oC 13 .lss 12 11])
 (.seq (.cond (.t 13) .skip
 (.exit 0))
 (.seq (.block 1 (.seq (.region [oI 14 3 10 12, oG 15 3 14, Oo 6 (.alloc [Zi 0, Zi 0, Zi 0]), oS 3 6 15])
 (.drawn [Qo (oM 16 3), Qo (oA 17 0 6), Qo (oL 18 17), Qo (Oo 19 (.call 79 [(.t 18)])), Qo (Oo 20 (.bin .add (.t 19) (.k (.string ⟨#[58]⟩)))), Qo (oA 21 1 6), Qo (oL 22 21), Qo (Oo 23 (.call 79 [(.t 22)])), Qo (oC 24 .add 20 23), Qo (Oo 25 (.bin .add (.t 24) (.k (.string ⟨#[62]⟩)))), Qo (oA 26 2 6), Qo (oL 27 26), Qo (Oo 28 (.call 79 [(.t 27)])), Qo (oC 29 .add 25 28), Qe (Oo 30 (.bslc 1 1 [(.string ⟨#[]⟩)] [(0, (.t 29))])), Qe (Oo 31 (.app 1 16 [(.string ⟨#[]⟩)] (.t 16) (.t 30))), Qo (oM 3 31)])))
 (.region [oB 32 .add 12 1, oM 12 32]))))
def h34l1 : HC :=
 (.seq (.region [oC 37 .lss 36 35])
 (.seq (.cond (.t 37) .skip
 (.exit 2))
 (.seq (.block 3 (.seq (.region [oI 38 2 34 36, oG 39 2 38, Oo 8 (.alloc [Zi 0, Zi 0]), oS 2 8 39])
 (.drawn [Qo (oM 40 4), Qo (oA 41 0 8), Qo (oL 42 41), Qo (Oo 43 (.call 79 [(.t 42)])), Qo (oA 44 1 8), Qo (oL 45 44), Qo (Oo 46 (.call 80 [(.t 45)])), Qo (oC 47 .add 43 46), Qe (Oo 48 (.bslc 1 1 [(.string ⟨#[]⟩)] [(0, (.t 47))])), Qe (Oo 49 (.app 1 16 [(.string ⟨#[]⟩)] (.t 40) (.t 48))), Qo (oM 4 49)])))
 (.region [oB 50 .add 36 1, oM 36 50]))))
def h34c : HC :=
 (.seq (.region [Oo 1 (.box (.t 0)), Oo 2 (.mov (.k (.string ⟨#[]⟩)))])
 (.seq (.region [Oo 3 (.mov (.k (.slice none 0 0))), Oo 4 (.mov (.k (.slice none 0 0)))])
 (.gh (.nil 3 1) (.gh (.nil 4 1) (.seq (.seq (.region [oA 9 0 1, oL 10 9, oN 11 10, oK 12 0])
 (.block 0 (.loop [1, 1, 0, 5, 0, 0] h34l0)))
 (.seq (.seq (.region [oA 33 1 1, oL 34 33, oN 35 34, oK 36 0])
 (.block 2 (.loop [3, 0, 29, 0, 0] h34l1)))
 (.seq (.region [oM 51 3, Oo 52 (.call 81 [(.t 51), (.k (.string ⟨#[44]⟩))]), Oo 53 (.bin .add (.t 52) (.k (.string ⟨#[59]⟩))), oM 54 4, Oo 55 (.call 81 [(.t 54), (.k (.string ⟨#[44]⟩))]), oC 56 .add 53 55, oM 2 56])
 .ret)))))))
abbrev h34 : HF := ⟨h34c, [.tmp 2], 57, false⟩
theorem h34_ok : CK Tryz.f34 h34c := by unfold CK; kernel_rfl
theorem r34_ok : RK Tryz.f34 [.tmp 2] := by unfold RK; kernel_rfl
def h35l0 : HC :=
 (.seq (.seq (.region [oM 7 4, oA 8 0 1, oL 9 8, oN 10 9, oC 11 .lss 7 10])
 (.cond (.t 11) .skip
 (.exit 0)))
 (.seq (.block 1 (.seq (.seq (.region [oM 14 4, oB 15 .gtr 14 0])
 (.cond (.t 15) (.region [oM 16 3, Oo 17 (.bin .add (.t 16) (.k (.string ⟨#[44]⟩))), oM 3 17])
 .skip))
 (.seq (.region [oA 18 0 1, oL 19 18, oM 20 4, oI 21 3 19 20, oG 22 3 21, Oo 5 (.alloc [Zi 0, Zi 0, Zi 0]), oS 3 5 22])
 (.drawn [Qo (oM 23 3), Qo (oA 24 0 5), Qo (oL 25 24), Qo (Oo 26 (.call 82 [(.t 25)])), Qo (oC 27 .add 23 26), Qo (Oo 28 (.bin .add (.t 27) (.k (.string ⟨#[58]⟩)))), Qo (oA 29 1 5), Qo (oL 30 29), Qo (Oo 31 (.call 82 [(.t 30)])), Qo (oC 32 .add 28 31), Qo (Oo 33 (.bin .add (.t 32) (.k (.string ⟨#[62]⟩)))), Qo (oA 34 2 5), Qo (oL 35 34), Qo (Oo 36 (.call 82 [(.t 35)])), Qo (oC 37 .add 33 36), Qo (oM 3 37)]))))
 (.region [oM 12 4, oB 13 .add 12 1, oM 4 13])))
def h35l1 : HC :=
 (.seq (.seq (.region [oM 40 6, oA 41 1 1, oL 42 41, oN 43 42, oC 44 .lss 40 43])
 (.cond (.t 44) .skip
 (.exit 2)))
 (.seq (.block 3 (.seq (.seq (.region [oM 47 6, oB 48 .gtr 47 0])
 (.cond (.t 48) (.region [oM 49 3, Oo 50 (.bin .add (.t 49) (.k (.string ⟨#[44]⟩))), oM 3 50])
 .skip))
 (.drawn [Qo (oM 51 3), Qo (oA 52 1 1), Qo (oL 53 52), Qo (oM 54 6), Qo (oI 55 2 53 54), Qo (oA 56 0 55), Qo (oL 57 56), Qo (Oo 58 (.call 82 [(.t 57)])), Qo (oC 59 .add 51 58), Qo (oA 60 1 1), Qo (oL 61 60), Qo (oM 62 6), Qo (oI 63 2 61 62), Qo (oA 64 1 63), Qo (oL 65 64), Qo (Oo 66 (.call 83 [(.t 65)])), Qo (oC 67 .add 59 66), Qo (oM 3 67)])))
 (.region [oM 45 6, oB 46 .add 45 1, oM 6 46])))
def h35c : HC :=
 (.seq (.region [Oo 1 (.box (.t 0)), Oo 2 (.mov (.k (.string ⟨#[]⟩)))])
 (.seq (.region [Oo 3 (.mov (.k (.string ⟨#[]⟩)))])
 (.seq (.seq (.region [oK 4 0])
 (.block 0 (.loop [1, 1, 0] h35l0)))
 (.seq (.region [oM 38 3, Oo 39 (.bin .add (.t 38) (.k (.string ⟨#[59]⟩))), oM 3 39])
 (.seq (.seq (.region [oK 6 0])
 (.block 2 (.loop [1, 1, 2] h35l1)))
 (.seq (.region [oM 68 3, oM 2 68])
 .ret))))))
abbrev h35 : HF := ⟨h35c, [.tmp 2], 69, false⟩
theorem h35_ok : CK Tryz.f35 h35c := by unfold CK; kernel_rfl
theorem r35_ok : RK Tryz.f35 [.tmp 2] := by unfold RK; kernel_rfl
def h36l0 : HC :=
 (.seq (.region [oC 32 .lss 31 30])
 (.seq (.cond (.t 32) .skip
 (.exit 0))
 (.seq (.block 1 (.seq (.region [oI 33 1 29 31, oL 34 33, oM 9 34])
 (.seq (.region [oM 36 9, Oo 37 (.call 86 [(.t 36)]), oM 35 37, oE 38 35 0, oE 39 35 1, Oo 10 (.alloc [Zi 0, Zi 0, Zi 0]), oS 3 10 38, oM 11 39])
 (.region [oA 40 0 7, oL 41 40, oG 42 3 10, Oo 43 (.bslc 3 1 [Zi 0, Zi 0, Zi 0] [(0, (.t 42))]), Oo 44 (.app 3 24 [Zi 0, Zi 0, Zi 0] (.t 41) (.t 43)), oM 45 6, oM 46 45, Og 46 true 47 (.mov (.t 11)), Oo 48 (.pick (.t 46) (.t 47) (.k (.bool false))), oA 49 0 7, oS 1 49 44, oM 6 48]))))
 (.region [oB 50 .add 31 1, oM 31 50]))))
def h36l1 : HC :=
 (.seq (.region [oC 55 .lss 54 53])
 (.seq (.cond (.t 55) .skip
 (.exit 2))
 (.seq (.block 3 (.seq (.region [oI 56 1 52 54, oL 57 56, oM 13 57])
 (.seq (.region [oM 59 13, Oo 60 (.call 87 [(.t 59)]), oM 58 60, oE 61 58 0, oE 62 58 1, Oo 14 (.alloc [Zi 0, Zi 0]), oS 2 14 61, oM 15 62])
 (.region [oA 63 1 7, oL 64 63, oG 65 2 14, Oo 66 (.bslc 2 1 [Zi 0, Zi 0] [(0, (.t 65))]), Oo 67 (.app 2 16 [Zi 0, Zi 0] (.t 64) (.t 66)), oM 68 6, oM 69 68, Og 69 true 70 (.mov (.t 15)), Oo 71 (.pick (.t 69) (.t 70) (.k (.bool false))), oA 72 1 7, oS 1 72 67, oM 6 71]))))
 (.region [oB 73 .add 54 1, oM 54 73]))))
def h36c : HC :=
 (.seq (.region [Oo 2 (.alloc [(.slice none 0 0), (.slice none 0 0)]), oK 3 0])
 (.seq (.seq (.region [oM 18 0, Oo 19 (.lenS (.t 18)), oB 20 .gtr 19 200])
 (.cond (.t 20) (.seq (.region [Oo 21 (.build [(.slice none 0 0), (.slice none 0 0)] []), oS 2 2 21, oK 3 8])
 .ret)
 .skip))
 (.seq (.region [oM 23 0, Oo 24 (.call 84 [(.t 23), (.k (.string ⟨#[59]⟩))]), oM 22 24, oE 25 22 0, oE 26 22 1, oE 27 22 2, oM 4 25, oM 5 26, oM 6 27])
 (.seq (.region [Oo 7 (.alloc [(.slice none 0 0), (.slice none 0 0)])])
 (.gh (.nilB 7 0 3) (.gh (.nilB 7 1 2) (.seq (.seq (.region [oM 28 4, Oo 29 (.call 85 [(.t 28)]), oN 30 29, oK 31 0])
 (.block 0 (.loop [2, 2, 0, 0, 21, 0, 0] h36l0)))
 (.seq (.seq (.region [oM 51 5, Oo 52 (.call 85 [(.t 51)]), oN 53 52, oK 54 0])
 (.block 2 (.loop [2, 3, 0, 44, 0, 0] h36l1)))
 (.seq (.seq (.region [oM 74 6, Oo 75 (.un .not (.t 74))])
 (.cond (.t 75) (.seq (.region [Oo 76 (.build [(.slice none 0 0), (.slice none 0 0)] []), oS 2 2 76, oK 3 7])
 .ret)
 .skip))
 (.seq (.seq (.region [oG 78 2 7, Oo 79 (.call 12 [(.t 78)]), oM 77 79, oE 80 77 0, oE 81 77 1, oM 16 80, oM 17 81])
 (.seq (.region [oM 82 17, oB 83 .neq 82 0])
 (.cond (.t 83) (.seq (.region [Oo 84 (.build [(.slice none 0 0), (.slice none 0 0)] []), oM 85 17, oS 2 2 84, oM 3 85])
 .ret)
 .skip)))
 (.seq (.region [oG 86 2 7, oS 2 2 86, oK 3 0])
 .ret)))))))))))
abbrev h36 : HF := ⟨h36c, [.cell 2 true 2, .tmp 3], 87, false⟩
theorem h36_ok : CK Tryz.f36 h36c := by unfold CK; kernel_rfl
theorem r36_ok : RK Tryz.f36 [.cell 2 true 2, .tmp 3] := by unfold RK; kernel_rfl
def h37l0 : HC :=
 (.seq (.seq (.region [oM 40 7, oM 41 6, oN 42 41, oC 43 .lss 40 42])
 (.cond (.t 43) .skip
 (.exit 0)))
 (.seq (.block 1 (.seq (.seq (.region [oM 46 6, oM 47 7, oI 48 1 46 47, oL 49 48, Oo 50 (.lenS (.t 49)), oB 51 .neq 50 5, oM 52 51, Og 52 false 53 (.mov (.t 6)), Og 52 false 54 (.mov (.t 7)), Og 52 false 55 (.ixL 1 (.t 53) (.t 54)), Og 52 false 56 (.load false 1 (.t 55)), Og 52 false 57 (.ixS (.t 56) (Ki 1)), Og 52 false 58 (.bin .neq (.t 57) (.k (.int .u8 58))), Oo 59 (.pick (.t 52) (.k (.bool true)) (.t 58)), oM 60 59, Og 60 false 61 (.mov (.t 6)), Og 60 false 62 (.mov (.t 7)), Og 60 false 63 (.ixL 1 (.t 61) (.t 62)), Og 60 false 64 (.load false 1 (.t 63)), Og 60 false 65 (.ixS (.t 64) (Ki 3)), Og 60 false 66 (.bin .neq (.t 65) (.k (.int .u8 62))), Oo 67 (.pick (.t 60) (.k (.bool true)) (.t 66))])
 (.cond (.t 67) (.seq (.region [Oo 68 (.build [(.slice none 0 0), (.slice none 0 0)] []), oS 2 2 68, oK 3 7])
 .ret)
 .skip))
 (.seq (.region [oM 70 6, oM 71 7, oI 72 1 70 71, oL 73 72, Oo 74 (.call 89 [(.t 73), (Ki 0)]), oM 69 74, oE 75 69 0, oE 76 69 1, oM 8 75, oM 9 76])
 (.seq (.region [oM 78 6, oM 79 7, oI 80 1 78 79, oL 81 80, Oo 82 (.call 89 [(.t 81), (Ki 2)]), oM 77 82, oE 83 77 0, oE 84 77 1, oM 10 83, oM 11 84])
 (.seq (.region [oM 86 6, oM 87 7, oI 88 1 86 87, oL 89 88, Oo 90 (.call 89 [(.t 89), (Ki 4)]), oM 85 90, oE 91 85 0, oE 92 85 1, oM 12 91, oM 13 92])
 (.seq (.seq (.region [oM 93 9, Oo 94 (.un .not (.t 93)), oM 95 94, Og 95 false 96 (.mov (.t 11)), Og 95 false 97 (.un .not (.t 96)), Oo 98 (.pick (.t 95) (.k (.bool true)) (.t 97)), oM 99 98, Og 99 false 100 (.mov (.t 13)), Og 99 false 101 (.un .not (.t 100)), Oo 102 (.pick (.t 99) (.k (.bool true)) (.t 101))])
 (.cond (.t 102) (.seq (.region [Oo 103 (.build [(.slice none 0 0), (.slice none 0 0)] []), oS 2 2 103, oK 3 7])
 .ret)
 .skip))
 (.region [oA 104 0 5, oL 105 104, oM 106 8, oM 107 10, oM 108 12, Oo 109 (.build [Zi 0, Zi 0, Zi 0] [(0, 1, (.t 106)), (1, 1, (.t 107)), (2, 1, (.t 108))]), Oo 110 (.bslc 3 1 [Zi 0, Zi 0, Zi 0] [(0, (.t 109))]), Oo 111 (.app 3 24 [Zi 0, Zi 0, Zi 0] (.t 105) (.t 110)), oA 112 0 5, oS 1 112 111])))))))
 (.region [oM 44 7, oB 45 .add 44 1, oM 7 45])))
def h37l1 : HC :=
 (.seq (.seq (.region [oM 134 17, oB 135 .lss 134 6])
 (.cond (.t 135) .skip
 (.exit 4)))
 (.seq (.block 5 (.seq (.drawn [Qo (oM 138 17), Qe (Oo 139 (.call 76 [(.t 138)])), Qo (oM 140 139), Qo (Og 140 true 141 (.mov (.t 17))), Qo (Og 140 true 142 (.call 83 [(.t 141)])), Qo (Og 140 true 143 (.mov (.t 14))), Qo (Og 140 true 144 (.mov (.t 15))), Qo (Og 140 true 145 (.ixL 1 (.t 143) (.t 144))), Qo (Og 140 true 146 (.load false 1 (.t 145))), Qo (Og 140 true 147 (.slS (.t 146) (some (Ki 1)) none)), Qo (Og 140 true 148 (.bin .eql (.t 142) (.t 147))), Qo (Oo 149 (.pick (.t 140) (.t 148) (.k (.bool false))))])
 (.cond (.t 149) (.region [oM 150 17, oM 16 150])
 .skip)))
 (.region [oM 136 17, oB 137 .add 136 1, oM 17 137])))
def h37l2 : HC :=
 (.seq (.seq (.region [oM 121 15, oM 122 14, oN 123 122, oC 124 .lss 121 123])
 (.cond (.t 124) .skip
 (.exit 2)))
 (.seq (.block 3 (.seq (.seq (.region [oM 127 14, oM 128 15, oI 129 1 127 128, oL 130 129, Oo 131 (.lenS (.t 130)), oB 132 .neq 131 2])
 (.cond (.t 132) (.seq (.region [Oo 133 (.build [(.slice none 0 0), (.slice none 0 0)] []), oS 2 2 133, oK 3 7])
 .ret)
 .skip))
 (.seq (.region [Oo 16 (.mov (Ki (-1)))])
 (.seq (.seq (.region [oK 17 0])
 (.block 4 (.loop [2, 2, 8, 0, 0, 0] h37l1)))
 (.seq (.region [oM 152 14, oM 153 15, oI 154 1 152 153, oL 155 154, Oo 156 (.call 89 [(.t 155), (Ki 0)]), oM 151 156, oE 157 151 0, oE 158 151 1, oM 18 157, oM 19 158])
 (.seq (.seq (.region [oM 159 19, Oo 160 (.un .not (.t 159)), oM 161 160, Og 161 false 162 (.mov (.t 16)), Og 161 false 163 (.bin .lss (.t 162) (Ki 0)), Oo 164 (.pick (.t 161) (.k (.bool true)) (.t 163))])
 (.cond (.t 164) (.seq (.region [Oo 165 (.build [(.slice none 0 0), (.slice none 0 0)] []), oS 2 2 165, oK 3 7])
 .ret)
 .skip))
 (.region [oA 166 1 5, oL 167 166, oM 168 18, oM 169 16, Oo 170 (.build [Zi 0, Zi 0] [(0, 1, (.t 168)), (1, 1, (.t 169))]), Oo 171 (.bslc 2 1 [Zi 0, Zi 0] [(0, (.t 170))]), Oo 172 (.app 2 16 [Zi 0, Zi 0] (.t 167) (.t 171)), oA 173 1 5, oS 1 173 172])))))))
 (.region [oM 125 15, oB 126 .add 125 1, oM 15 126])))
def h37c : HC :=
 (.seq (.region [Oo 2 (.alloc [(.slice none 0 0), (.slice none 0 0)]), oK 3 0])
 (.seq (.seq (.region [oM 21 0, Oo 22 (.lenS (.t 21)), oB 23 .gtr 22 200])
 (.cond (.t 23) (.seq (.region [Oo 24 (.build [(.slice none 0 0), (.slice none 0 0)] []), oS 2 2 24, oK 3 8])
 .ret)
 .skip))
 (.seq (.region [oM 25 0, Oo 26 (.call 88 [(.t 25), (.k (.int .u8 59))]), oM 4 26])
 (.seq (.seq (.region [oM 27 4, oN 28 27, oB 29 .neq 28 2])
 (.cond (.t 29) (.seq (.region [Oo 30 (.build [(.slice none 0 0), (.slice none 0 0)] []), oS 2 2 30, oK 3 7])
 .ret)
 .skip))
 (.seq (.region [Oo 31 (.build [(.slice none 0 0), (.slice none 0 0)] []), Oo 5 (.alloc [(.slice none 0 0), (.slice none 0 0)]), oS 2 5 31])
 (.gh (.nilB 5 0 3) (.gh (.nilB 5 1 2) (.seq (.seq (.region [oM 32 4, Oo 33 (.ixL 1 (.t 32) (Ki 0)), oL 34 33, Oo 35 (.bin .neq (.t 34) (.k (.string ⟨#[]⟩)))])
 (.cond (.t 35) (.seq (.region [oM 36 4, Oo 37 (.ixL 1 (.t 36) (Ki 0)), oL 38 37, Oo 39 (.call 88 [(.t 38), (.k (.int .u8 44))]), oM 6 39])
 (.seq (.region [oK 7 0])
 (.block 0 (.loop [2, 1, 0, 0, 0] h37l0))))
 .skip))
 (.seq (.seq (.region [oM 113 4, Oo 114 (.ixL 1 (.t 113) (Ki 1)), oL 115 114, Oo 116 (.bin .neq (.t 115) (.k (.string ⟨#[]⟩)))])
 (.cond (.t 116) (.seq (.region [oM 117 4, Oo 118 (.ixL 1 (.t 117) (Ki 1)), oL 119 118, Oo 120 (.call 88 [(.t 119), (.k (.int .u8 44))]), oM 14 120])
 (.seq (.region [oK 15 0])
 (.block 2 (.loop [2, 2, 8, 0] h37l2))))
 .skip))
 (.seq (.seq (.region [oG 174 2 5, Oo 175 (.call 30 [(.t 174)]), oM 20 175])
 (.seq (.region [oM 176 20, oB 177 .neq 176 0])
 (.cond (.t 177) (.seq (.region [Oo 178 (.build [(.slice none 0 0), (.slice none 0 0)] []), oM 179 20, oS 2 2 178, oM 3 179])
 .ret)
 .skip)))
 (.seq (.region [oG 180 2 5, oS 2 2 180, oK 3 0])
 .ret)))))))))))
abbrev h37 : HF := ⟨h37c, [.cell 2 true 2, .tmp 3], 181, false⟩
theorem h37_ok : CK Tryz.f37 h37c := by unfold CK; kernel_rfl
theorem r37_ok : RK Tryz.f37 [.cell 2 true 2, .tmp 3] := by unfold RK; kernel_rfl
def h39c : HC :=
 (.seq (.region [Oo 6 (.mov (.k (.bool false)))])
 (.seq (.region [oM 7 1, oM 8 0, oC 9 .leq 7 8, oM 10 9, Og 10 true 11 (.mov (.t 0)), Og 10 true 12 (.mov (.t 2)), Og 10 true 13 (.bin .leq (.t 11) (.t 12)), Oo 14 (.pick (.t 10) (.t 13) (.k (.bool false))), oM 6 14])
 .ret))
abbrev h39 : HF := ⟨h39c, [.tmp 6], 15, false⟩
theorem h39_ok : CK Tryz.f39 h39c := by unfold CK; kernel_rfl
theorem r39_ok : RK Tryz.f39 [.tmp 6] := by unfold RK; kernel_rfl
def h47c : HC :=
 (.seq (.region [Oo 1 (.box (.t 0)), Oo 2 (.mov (.k (.pointer none)))])
 (.seq (.drawnT [] (.st 0 (.st 1 (.st 3 (.br 2 (.st 4 (.st 5 (.st 6 (.st 7 (.st 8 (.st 9 .nil)))))) (.br 4 (.st 2 (.st 5 (.st 6 (.st 7 (.st 8 (.st 9 .nil)))))) .stop))))) [oA 3 0 1, oL 4 3, Oo 5 (.call 109 [(.t 4)]), oA 6 1 1, oL 7 6, Oo 8 (.call 110 [(.t 7)]), Oo 9 (.build [(.slice none 0 0), (.slice none 0 0)] [(0, 1, (.t 5)), (1, 1, (.t 8))]), Oo 10 (.build [(.slice none 0 0), (.slice none 0 0)] [(0, 2, (.t 9))]), Oo 11 (.box (.t 10)), oM 2 11])
 .ret))
abbrev h47 : HF := ⟨h47c, [.tmp 2], 12, true⟩
theorem h47_ok : CK Tryz.f47 h47c := by unfold CK; kernel_rfl
theorem r47_ok : RK Tryz.f47 [.tmp 2] := by unfold RK; kernel_rfl
def h48l0 : HC :=
 (.seq (.region [oC 12 .lss 11 10])
 (.seq (.cond (.t 12) .skip
 (.exit 0))
 (.seq (.block 1 (.seq (.region [oM 13 11, oI 14 3 9 11, oG 15 3 14, Oo 7 (.alloc [Zi 0, Zi 0, Zi 0]), oM 6 13, oS 3 7 15])
 (.seq (.region [oM 16 1, oM 17 6, oG 18 3 7, Oo 19 (.callv (.t 16) [(.t 17), (.t 18)]), oM 8 19])
 (.seq (.region [oM 20 8, oB 21 .neq 20 0])
 (.cond (.t 21) (.seq (.region [oM 22 6, oM 23 8, oM 4 22, oM 5 23])
 .ret)
 .skip)))))
 (.region [oB 24 .add 11 1, oM 11 24]))))
def h48c : HC :=
 (.seq (.region [oK 4 0, oK 5 0])
 (.seq (.seq (.region [oM 9 0, oN 10 9, oK 11 0])
 (.block 0 (.loop [1, 7, 0, 0] h48l0)))
 (.seq (.region [oK 4 0, oK 5 0])
 .ret)))
abbrev h48 : HF := ⟨h48c, [.tmp 4, .tmp 5], 25, false⟩
theorem h48_ok : CK Tryz.f48 h48c := by unfold CK; kernel_rfl
theorem r48_ok : RK Tryz.f48 [.tmp 4, .tmp 5] := by unfold RK; kernel_rfl
def h49c : HC :=
 (.seq (.region [Oo 4 (.box (.t 1)), oK 5 0])
 (.seq (.region [oL 6 2, oM 7 0, Oo 8 (.call 50 [(.t 6), (.t 7)]), oM 5 8])
 .ret))
abbrev h49 : HF := ⟨h49c, [.tmp 5], 9, false⟩
theorem h49_ok : CK Tryz.f49 h49c := by unfold CK; kernel_rfl
theorem r49_ok : RK Tryz.f49 [.tmp 5] := by unfold RK; kernel_rfl
def h50c : HC :=
 (.seq (.region [Oo 2 (.box (.t 0)), oK 4 0])
 (.seq (.region [oL 9 2, Oo 10 (.nilc (.t 9)), oA 11 0 10, oA 12 0 11, oL 13 12, oM 14 1, oI 15 3 13 14, oG 16 3 15, Oo 5 (.alloc [Zi 0, Zi 0, Zi 0]), oS 3 5 16])
 (.seq (.region [oA 17 0 5, oL 18 17, Oo 19 (.call 111 [(.t 18)]), oM 20 19, Og 20 true 21 (.addo 1 (.t 5)), Og 20 true 22 (.load false 1 (.t 21)), Og 20 true 23 (.call 112 [(.t 22), (Ki 0), (Ki 3)]), Oo 24 (.pick (.t 20) (.t 23) (.k (.bool false))), oM 25 24, Og 25 true 26 (.addo 2 (.t 5)), Og 25 true 27 (.load false 1 (.t 26)), Og 25 true 28 (.addo 1 (.t 5)), Og 25 true 29 (.load false 1 (.t 28)), Og 25 true 30 (.call 112 [(.t 27), (Ki 0), (.t 29)]), Oo 31 (.pick (.t 25) (.t 30) (.k (.bool false))), oM 6 31])
 (.seq (.region [Oo 32 (.mkfn 113 [(.t 2), (.t 5)]), oM 7 32])
 (.seq (.region [oA 33 1 5, oL 34 33, oB 35 .geq 34 2, oM 36 35, Og 36 true 37 (.mov (.t 7)), Og 36 true 38 (.callv (.t 37) [(Ki 1)]), Oo 39 (.pick (.t 36) (.t 38) (.k (.bool false))), oM 40 39, Og 40 false 41 (.addo 1 (.t 5)), Og 40 false 42 (.load false 1 (.t 41)), Og 40 false 43 (.bin .eql (.t 42) (Ki 3)), Og 40 false 44 (.mov (.t 43)), Og 44 true 45 (.load false 1 (.t 2)), Og 44 true 46 (.nilc (.t 45)), Og 44 true 47 (.addo 0 (.t 46)), Og 44 true 48 (.addo 0 (.t 47)), Og 44 true 49 (.load false 1 (.t 48)), Og 44 true 50 (.mkfn 116 [(.t 5)]), Og 44 true 51 (.call 114 [(.t 49), (.t 50)]), Og 40 false 52 (.pick (.t 44) (.t 51) (.k (.bool false))), Oo 53 (.pick (.t 40) (.k (.bool true)) (.t 52)), oM 8 53])
 (.seq (.drawn [Qo (oM 54 6), Qo (Oo 55 (.call 55 [(.t 54), (Ki 2)])), Qo (oM 56 1), Qo (oB 57 .eql 56 0), Qo (oM 58 57), Qo (Og 58 false 59 (.load false 1 (.t 2))), Qo (Og 58 false 60 (.nilc (.t 59))), Qo (Og 58 false 61 (.addo 0 (.t 60))), Qo (Og 58 false 62 (.addo 0 (.t 61))), Qo (Og 58 false 63 (.load false 1 (.t 62))), Qo (Og 58 false 64 (.mov (.t 1))), Qo (Og 58 false 65 (.bin .sub (.t 64) (Ki 1))), Qo (Og 58 false 66 (.max2 (Ki 0) (.t 65))), Qo (Og 58 false 67 (.ixL 3 (.t 63) (.t 66))), Qo (Og 58 false 68 (.addo 0 (.t 67))), Qo (Og 58 false 69 (.load false 1 (.t 68))), Qo (Og 58 false 70 (.addo 0 (.t 5))), Qo (Og 58 false 71 (.load false 1 (.t 70))), Qo (Og 58 false 72 (.bin .lss (.t 69) (.t 71))), Qo (Oo 73 (.pick (.t 58) (.k (.bool true)) (.t 72))), Qo (Oo 74 (.call 55 [(.t 73), (Ki 9)])), Qo (oA 75 1 5), Qo (oL 76 75), Qo (oB 77 .neq 76 1), Qo (oM 78 77), Qo (Og 78 false 79 (.addo 2 (.t 5))), Qo (Og 78 false 80 (.load false 1 (.t 79))), Qo (Og 78 false 81 (.addo 1 (.t 5))), Qo (Og 78 false 82 (.load false 1 (.t 81))), Qo (Og 78 false 83 (.bin .eql (.t 80) (.t 82))), Qo (Oo 84 (.pick (.t 78) (.k (.bool true)) (.t 83))), Qo (Oo 85 (.call 55 [(.t 84), (Ki 20)])), Qo (oM 86 8), Qo (Oo 87 (.un .not (.t 86))), Qe (Oo 88 (.call 55 [(.t 87), (Ki 13)])), Qe (Oo 89 (.bslc 1 4 [Zi 0] [(0, (.t 55)), (1, (.t 74)), (2, (.t 85)), (3, (.t 88))])), Qe (Oo 90 (.call 117 [(.t 89)])), Qo (oM 4 90)])
 .ret))))))
abbrev h50 : HF := ⟨h50c, [.tmp 4], 91, false⟩
theorem h50_ok : CK Tryz.f50 h50c := by unfold CK; kernel_rfl
theorem r50_ok : RK Tryz.f50 [.tmp 4] := by unfold RK; kernel_rfl
def h51l0 : HC :=
 (.seq (.region [oC 12 .lss 11 10])
 (.seq (.cond (.t 12) .skip
 (.exit 0))
 (.seq (.block 1 (.seq (.region [oM 13 11, oI 14 2 9 11, oG 15 2 14, Oo 7 (.alloc [Zi 0, Zi 0]), oM 6 13, oS 2 7 15])
 (.seq (.region [oM 16 1, oM 17 6, oG 18 2 7, Oo 19 (.callv (.t 16) [(.t 17), (.t 18)]), oM 8 19])
 (.seq (.region [oM 20 8, oB 21 .neq 20 0])
 (.cond (.t 21) (.seq (.region [oM 22 6, oM 23 8, oM 4 22, oM 5 23])
 .ret)
 .skip)))))
 (.region [oB 24 .add 11 1, oM 11 24]))))
def h51c : HC :=
 (.seq (.region [oK 4 0, oK 5 0])
 (.seq (.seq (.region [oM 9 0, oN 10 9, oK 11 0])
 (.block 0 (.loop [1, 7, 0, 0] h51l0)))
 (.seq (.region [oK 4 0, oK 5 0])
 .ret)))
abbrev h51 : HF := ⟨h51c, [.tmp 4, .tmp 5], 25, false⟩
theorem h51_ok : CK Tryz.f51 h51c := by unfold CK; kernel_rfl
theorem r51_ok : RK Tryz.f51 [.tmp 4, .tmp 5] := by unfold RK; kernel_rfl
def h52c : HC :=
 (.seq (.region [Oo 4 (.box (.t 1)), oK 5 0])
 (.seq (.region [oL 6 2, oM 7 0, Oo 8 (.call 53 [(.t 6), (.t 7)]), oM 5 8])
 .ret))
abbrev h52 : HF := ⟨h52c, [.tmp 5], 9, false⟩
theorem h52_ok : CK Tryz.f52 h52c := by unfold CK; kernel_rfl
theorem r52_ok : RK Tryz.f52 [.tmp 5] := by unfold RK; kernel_rfl
def h53c : HC :=
 (.seq (.region [oK 4 0])
 (.seq (.region [oM 8 0, Oo 9 (.nilc (.t 8)), oA 10 0 9, oA 11 1 10, oL 12 11, oM 13 1, oI 14 2 12 13, oG 15 2 14, Oo 5 (.alloc [Zi 0, Zi 0]), oS 2 5 15])
 (.seq (.region [oM 16 0, Oo 17 (.nilc (.t 16)), oA 18 0 17, oA 19 1 18, oL 20 19, oM 21 1, Oo 22 (.slL 2 (.t 20) none (some (.t 21))), Oo 23 (.mkfn 119 [(.t 5)]), Oo 24 (.call 118 [(.t 22), (.t 23)]), oM 6 24])
 (.seq (.region [oM 25 0, oA 26 0 5, oL 27 26, Oo 28 (.call 78 [(.t 25), (.t 27)]), Oo 29 (.isnil true true (.t 28)), oM 7 29])
 (.seq (.drawn [Qo (oA 30 0 5), Qo (oL 31 30), Qo (Oo 32 (.call 111 [(.t 31)])), Qo (Oo 33 (.call 55 [(.t 32), (Ki 2)])), Qo (oA 34 1 5), Qo (oL 35 34), Qo (Oo 36 (.call 75 [(.t 35)])), Qo (Oo 37 (.call 55 [(.t 36), (Ki 15)])), Qo (oM 38 6), Qo (Oo 39 (.un .not (.t 38))), Qo (Oo 40 (.call 55 [(.t 39), (Ki 23)])), Qo (oA 41 1 5), Qo (oL 42 41), Qo (oB 43 .neq 42 0), Qo (oM 44 43), Qo (Og 44 false 45 (.mov (.t 7))), Qo (Og 44 false 46 (.un .not (.t 45))), Qo (Oo 47 (.pick (.t 44) (.k (.bool true)) (.t 46))), Qo (Oo 48 (.call 55 [(.t 47), (Ki 5)])), Qo (oA 49 1 5), Qo (oL 50 49), Qo (oB 51 .eql 50 0), Qo (oM 52 51), Qo (Og 52 false 53 (.mov (.t 7))), Qo (Oo 54 (.pick (.t 52) (.k (.bool true)) (.t 53))), Qe (Oo 55 (.call 55 [(.t 54), (Ki 6)])), Qe (Oo 56 (.bslc 1 5 [Zi 0] [(0, (.t 33)), (1, (.t 37)), (2, (.t 40)), (3, (.t 48)), (4, (.t 55))])), Qe (Oo 57 (.call 117 [(.t 56)])), Qo (oM 4 57)])
 .ret)))))
abbrev h53 : HF := ⟨h53c, [.tmp 4], 58, false⟩
theorem h53_ok : CK Tryz.f53 h53c := by unfold CK; kernel_rfl
theorem r53_ok : RK Tryz.f53 [.tmp 4] := by unfold RK; kernel_rfl
def h54l0 : HC :=
 (.seq (.region [oC 20 .lss 19 18])
 (.seq (.cond (.t 20) .skip
 (.exit 0))
 (.seq (.block 1 (.seq (.region [oM 21 19, oM 7 21])
 (.seq (.region [oM 22 0, Oo 23 (.nilc (.t 22)), oA 24 0 23, oA 25 0 24, oL 26 25, oM 27 7, oI 28 3 26 27, oM 8 28])
 (.seq (.block 2 (.seq (.drawn [Qo (oM 34 8), Qo (Oo 35 (.nilc (.t 34))), Qo (oA 36 0 35), Qo (oL 37 36), Qo (oA 38 0 3), Qo (oL 39 38), Qo (oC 40 .eql 37 39), Qo (oM 41 40), Qo (Og 41 false 42 (.mov (.t 8))), Qo (Og 41 false 43 (.nilc (.t 42))), Qo (Og 41 false 44 (.addo 1 (.t 43))), Qo (Og 41 false 45 (.load false 1 (.t 44))), Qo (Og 41 false 46 (.mov (.t 6))), Qo (Og 41 false 47 (.bin .leq (.t 45) (.t 46))), Qo (Oo 48 (.pick (.t 41) (.k (.bool true)) (.t 47))), Qo (oM 33 48)])
 (.cond (.t 33) (.exit 1)
 (.seq (.region [oM 50 8, Oo 51 (.nilc (.t 50)), oA 52 1 51, oL 53 52, oB 54 .eql 53 1, oM 49 54])
 (.cond (.t 49) (.region [oM 55 8, oM 56 8, Oo 57 (.nilc (.t 55)), oA 58 1 57, On (.store 1 (.t 58) (Ki 0)), Oo 59 (.nilc (.t 56)), oA 60 2 59, On (.store 1 (.t 60) (Ki 0))])
 (.seq (.region [oM 62 8, Oo 63 (.nilc (.t 62)), oA 64 2 63, oL 65 64, oM 66 6, oC 67 .leq 65 66, oM 61 67])
 (.cond (.t 61) (.exit 1)
 (.region [oM 29 8, oM 30 6, Oo 31 (.nilc (.t 29)), oA 32 2 31, oS 1 32 30]))))))))
 (.drawn [Qo (oM 68 5), Qo (oM 69 8), Qo (Oo 70 (.nilc (.t 69))), Qo (oA 71 0 70), Qo (oL 72 71), Qo (oM 73 8), Qo (Oo 74 (.nilc (.t 73))), Qo (oA 75 2 74), Qo (oL 76 75), Qo (Oo 77 (.build [Zi 0, Zi 0] [(0, 1, (.t 72)), (1, 1, (.t 76))])), Qe (Oo 78 (.bslc 2 1 [Zi 0, Zi 0] [(0, (.t 77))])), Qe (Oo 79 (.app 2 16 [Zi 0, Zi 0] (.t 68) (.t 78))), Qo (oM 5 79)])))))
 (.region [oB 80 .add 19 1, oM 19 80]))))
def h54c : HC :=
 (.seq (.region [Oo 3 (.box (.t 1)), Oo 4 (.mov (.k (.slice none 0 0)))])
 (.seq (.region [Oo 5 (.mov (.k (.slice none 0 0)))])
 (.gh (.nil 5 2) (.seq (.region [oA 9 1 3, oL 10 9, Oo 11 (.ixA 4 1 (.g 0) (.t 10)), oL 12 11, oM 6 12])
 (.seq (.seq (.region [oM 13 0, Oo 14 (.nilc (.t 13)), oA 15 0 14, oA 16 0 15, oL 17 16, oN 18 17, oK 19 0])
 (.block 0 (.loop [0, 2, 1, 0, 11, 0] h54l0)))
 (.seq (.region [oM 81 5, oM 4 81])
 .ret))))))
abbrev h54 : HF := ⟨h54c, [.tmp 4], 82, false⟩
theorem h54_ok : CK Tryz.f54 h54c := by unfold CK; kernel_rfl
theorem r54_ok : RK Tryz.f54 [.tmp 4] := by unfold RK; kernel_rfl
def h55c : HC :=
 (.seq (.region [oK 4 0])
 (.seq (.seq (.region [oM 5 0])
 (.cond (.t 5) (.seq (.region [oK 4 0])
 .ret)
 .skip))
 (.seq (.region [oM 6 1, oM 4 6])
 .ret)))
abbrev h55 : HF := ⟨h55c, [.tmp 4], 7, false⟩
theorem h55_ok : CK Tryz.f55 h55c := by unfold CK; kernel_rfl
theorem r55_ok : RK Tryz.f55 [.tmp 4] := by unfold RK; kernel_rfl
def h56c : HC :=
 (.seq (.region [Oo 3 (.box (.t 1)), Oo 4 (.mov (.k (.bool false)))])
 (.seq (.region [oM 5 0, Oo 6 (.nilc (.t 5)), oA 7 0 6, oA 8 0 7, oL 9 8, Oo 10 (.mkfn 120 [(.t 3)]), Oo 11 (.call 114 [(.t 9), (.t 10)]), oM 4 11])
 .ret))
abbrev h56 : HF := ⟨h56c, [.tmp 4], 12, false⟩
theorem h56_ok : CK Tryz.f56 h56c := by unfold CK; kernel_rfl
theorem r56_ok : RK Tryz.f56 [.tmp 4] := by unfold RK; kernel_rfl
def h57l0 : HC :=
 (.seq (.seq (.region [oM 54 6, oA 55 0 2, oL 56 55, oN 57 56, oC 58 .lss 54 57])
 (.cond (.t 58) .skip
 (.exit 0)))
 (.seq (.block 1 (.seq (.drawn [Qo (oA 61 0 2), Qo (oL 62 61), Qo (oM 63 6), Qo (oI 64 3 62 63), Qo (oA 65 0 64), Qo (oL 66 65), Qo (oA 67 0 5), Qo (oL 68 67), Qo (oC 69 .neq 66 68), Qo (oM 70 69), Qo (Og 70 true 71 (.addo 1 (.t 5))), Qo (Og 70 true 72 (.load false 1 (.t 71))), Qo (Og 70 true 73 (.bin .geq (.t 72) (Ki 2))), Qo (Og 70 true 74 (.mov (.t 73))), Qo (Og 74 true 75 (.addo 0 (.t 2))), Qo (Og 74 true 76 (.load false 1 (.t 75))), Qo (Og 74 true 77 (.mov (.t 6))), Qo (Og 74 true 78 (.ixL 3 (.t 76) (.t 77))), Qo (Og 74 true 79 (.addo 1 (.t 78))), Qo (Og 74 true 80 (.load false 1 (.t 79))), Qo (Og 74 true 81 (.bin .gtr (.t 80) (Ki 0))), Qo (Og 70 true 82 (.pick (.t 74) (.t 81) (.k (.bool false)))), Qo (Og 70 true 83 (.mov (.t 82))), Qo (Og 83 false 84 (.addo 1 (.t 5))), Qo (Og 83 false 85 (.load false 1 (.t 84))), Qo (Og 83 false 86 (.bin .eql (.t 85) (Ki 3))), Qo (Og 70 true 87 (.pick (.t 83) (.k (.bool true)) (.t 86))), Qo (Oo 88 (.pick (.t 70) (.t 87) (.k (.bool false))))])
 (.cond (.t 88) (.seq (.region [oK 4 13])
 .ret)
 .skip)))
 (.region [oM 59 6, oB 60 .add 59 1, oM 6 60])))
def h57c : HC :=
 (.seq (.region [Oo 2 (.box (.t 0)), oK 4 0])
 (.seq (.region [oA 7 0 2, oL 8 7, oM 9 1, oI 10 3 8 9, oG 11 3 10, Oo 5 (.alloc [Zi 0, Zi 0, Zi 0]), oS 3 5 11])
 (.seq (.seq (.region [oA 12 0 5, oL 13 12, Oo 14 (.call 121 [(.t 13)]), Oo 15 (.un .not (.t 14)), oM 16 15, Og 16 false 17 (.addo 1 (.t 5)), Og 16 false 18 (.load false 1 (.t 17)), Og 16 false 19 (.call 39 [(.t 18), (Ki 0), (Ki 3)]), Og 16 false 20 (.un .not (.t 19)), Oo 21 (.pick (.t 16) (.k (.bool true)) (.t 20)), oM 22 21, Og 22 false 23 (.addo 2 (.t 5)), Og 22 false 24 (.load false 1 (.t 23)), Og 22 false 25 (.addo 1 (.t 5)), Og 22 false 26 (.load false 1 (.t 25)), Og 22 false 27 (.call 39 [(.t 24), (Ki 0), (.t 26)]), Og 22 false 28 (.un .not (.t 27)), Oo 29 (.pick (.t 22) (.k (.bool true)) (.t 28))])
 (.cond (.t 29) (.seq (.region [oK 4 2])
 .ret)
 .skip))
 (.seq (.seq (.drawn [Qo (oM 30 1), Qo (oB 31 .gtr 30 0), Qo (oM 32 31), Qo (Og 32 true 33 (.addo 0 (.t 5))), Qo (Og 32 true 34 (.load false 1 (.t 33))), Qo (Og 32 true 35 (.addo 0 (.t 2))), Qo (Og 32 true 36 (.load false 1 (.t 35))), Qo (Og 32 true 37 (.mov (.t 1))), Qo (Og 32 true 38 (.bin .sub (.t 37) (Ki 1))), Qo (Og 32 true 39 (.ixL 3 (.t 36) (.t 38))), Qo (Og 32 true 40 (.addo 0 (.t 39))), Qo (Og 32 true 41 (.load false 1 (.t 40))), Qo (Og 32 true 42 (.bin .leq (.t 34) (.t 41))), Qo (Oo 43 (.pick (.t 32) (.t 42) (.k (.bool false))))])
 (.cond (.t 43) (.seq (.region [oK 4 9])
 .ret)
 .skip))
 (.seq (.seq (.region [oA 44 1 5, oL 45 44, oB 46 .eql 45 1, oM 47 46, Og 47 true 48 (.addo 2 (.t 5)), Og 47 true 49 (.load false 1 (.t 48)), Og 47 true 50 (.addo 1 (.t 5)), Og 47 true 51 (.load false 1 (.t 50)), Og 47 true 52 (.bin .neq (.t 49) (.t 51)), Oo 53 (.pick (.t 47) (.t 52) (.k (.bool false)))])
 (.cond (.t 53) (.seq (.region [oK 4 20])
 .ret)
 .skip))
 (.seq (.seq (.region [oK 6 0])
 (.block 0 (.loop [2, 2, 0] h57l0)))
 (.seq (.region [oK 4 0])
 .ret)))))))
abbrev h57 : HF := ⟨h57c, [.tmp 4], 89, false⟩
theorem h57_ok : CK Tryz.f57 h57c := by unfold CK; kernel_rfl
theorem r57_ok : RK Tryz.f57 [.tmp 4] := by unfold RK; kernel_rfl
def h58c : HC :=
 (.seq (.region [Oo 2 (.box (.t 0)), oK 4 0])
 (.seq (.region [oA 6 1 2, oL 7 6, oM 8 1, oI 9 2 7 8, oG 10 2 9, Oo 5 (.alloc [Zi 0, Zi 0]), oS 2 5 10])
 (.seq (.seq (.region [oA 11 0 5, oL 12 11, Oo 13 (.call 121 [(.t 12)]), Oo 14 (.un .not (.t 13))])
 (.cond (.t 14) (.seq (.region [oK 4 2])
 .ret)
 .skip))
 (.seq (.seq (.region [oA 15 1 5, oL 16 15, Oo 17 (.call 76 [(.t 16)]), Oo 18 (.un .not (.t 17))])
 (.cond (.t 18) (.seq (.region [oK 4 15])
 .ret)
 .skip))
 (.seq (.seq (.region [oG 19 2 2, oA 20 0 5, oL 21 20, Oo 22 (.call 122 [(.t 19), (.t 21)]), oM 23 1, oC 24 .lss 22 23])
 (.cond (.t 24) (.seq (.region [oK 4 23])
 .ret)
 .skip))
 (.seq (.seq (.region [oA 25 1 5, oL 26 25, oB 27 .eql 26 0, oM 28 27, Og 28 true 29 (.load true 2 (.t 2)), Og 28 true 30 (.addo 0 (.t 5)), Og 28 true 31 (.load false 1 (.t 30)), Og 28 true 32 (.call 33 [(.t 29), (.t 31)]), Og 28 true 33 (.bin .geq (.t 32) (Ki 0)), Oo 34 (.pick (.t 28) (.t 33) (.k (.bool false)))])
 (.cond (.t 34) (.seq (.region [oK 4 5])
 .ret)
 .skip))
 (.seq (.seq (.region [oA 35 1 5, oL 36 35, oB 37 .neq 36 0, oM 38 37, Og 38 true 39 (.load true 2 (.t 2)), Og 38 true 40 (.addo 0 (.t 5)), Og 38 true 41 (.load false 1 (.t 40)), Og 38 true 42 (.call 33 [(.t 39), (.t 41)]), Og 38 true 43 (.bin .lss (.t 42) (Ki 0)), Oo 44 (.pick (.t 38) (.t 43) (.k (.bool false)))])
 (.cond (.t 44) (.seq (.region [oK 4 6])
 .ret)
 .skip))
 (.seq (.region [oK 4 0])
 .ret))))))))
abbrev h58 : HF := ⟨h58c, [.tmp 4], 45, false⟩
theorem h58_ok : CK Tryz.f58 h58c := by unfold CK; kernel_rfl
theorem r58_ok : RK Tryz.f58 [.tmp 4] := by unfold RK; kernel_rfl
def h59l0 : HC :=
 (.seq (.seq (.region [oM 17 11, oA 18 0 8, oL 19 18, oN 20 19, oC 21 .lss 17 20])
 (.cond (.t 21) .skip
 (.exit 0)))
 (.seq (.block 1 (.seq (.region [oA 24 0 8, oL 25 24, oM 26 11, oI 27 3 25 26, oG 28 3 27, Oo 12 (.alloc [Zi 0, Zi 0, Zi 0]), oS 3 12 28])
 (.seq (.seq (.region [oA 29 0 12, oL 30 29, oM 31 1, oC 32 .eql 30 31, oM 33 32, Og 33 false 34 (.addo 1 (.t 12)), Og 33 false 35 (.load false 1 (.t 34)), Og 33 false 36 (.mov (.t 10)), Og 33 false 37 (.bin .leq (.t 35) (.t 36)), Oo 38 (.pick (.t 33) (.k (.bool true)) (.t 37))])
 (.cond (.t 38) (.exit 1)
 .skip))
 (.seq (.region [oA 39 1 12, oL 40 39, oB 41 .eql 40 1])
 (.cond (.t 41) (.seq (.region [oA 42 0 8, oL 43 42, oM 44 11, oA 45 0 12, oL 46 45, Oo 47 (.build [Zi 0, Zi 0, Zi 0] [(0, 1, (.t 46))]), oI 48 3 43 44, oS 3 48 47])
 (.region [oM 49 9, oA 50 0 12, oL 51 50, Oo 52 (.build [Zi 0, Zi 0] [(0, 1, (.t 51)), (1, 1, (Ki 0))]), Oo 53 (.bslc 2 1 [Zi 0, Zi 0] [(0, (.t 52))]), Oo 54 (.app 2 16 [Zi 0, Zi 0] (.t 49) (.t 53)), oM 9 54]))
 (.seq (.region [oA 55 2 12, oL 56 55, oM 57 10, oC 58 .gtr 56 57])
 (.cond (.t 58) (.seq (.region [oA 59 0 8, oL 60 59, oM 61 11, oM 62 10, oI 63 3 60 61, oA 64 2 63, oS 1 64 62])
 (.region [oM 65 9, oA 66 0 12, oL 67 66, oM 68 10, Oo 69 (.build [Zi 0, Zi 0] [(0, 1, (.t 67)), (1, 1, (.t 68))]), Oo 70 (.bslc 2 1 [Zi 0, Zi 0] [(0, (.t 69))]), Oo 71 (.app 2 16 [Zi 0, Zi 0] (.t 65) (.t 70)), oM 9 71]))
 .skip)))))))
 (.region [oM 22 11, oB 23 .add 22 1, oM 11 23])))
def h59c : HC :=
 (.seq (.region [Oo 3 (.box (.t 0)), Oo 6 (.alloc [(.slice none 0 0), (.slice none 0 0)]), Oo 7 (.mov (.k (.slice none 0 0)))])
 (.seq (.region [oG 13 2 3, Oo 14 (.call 13 [(.t 13)]), Oo 8 (.alloc [(.slice none 0 0), (.slice none 0 0)]), oS 2 8 14])
 (.seq (.region [Oo 9 (.mov (.k (.slice none 0 0)))])
 (.gh (.nil 9 2) (.seq (.region [oM 15 2, Oo 16 (.call 123 [(.t 15)]), oM 10 16])
 (.seq (.seq (.region [oK 11 0])
 (.block 0 (.loop [1, 4, 1, 0, 0, 0] h59l0)))
 (.seq (.region [oG 72 2 8, oM 73 9, oS 2 6 72, oM 7 73])
 .ret)))))))
abbrev h59 : HF := ⟨h59c, [.cell 6 true 2, .tmp 7], 74, true⟩
theorem h59_ok : CK Tryz.f59 h59c := by unfold CK; kernel_rfl
theorem r59_ok : RK Tryz.f59 [.cell 6 true 2, .tmp 7] := by unfold RK; kernel_rfl
def h60l0 : HC :=
 (.seq (.seq (.region [oM 8 7, oA 9 0 3, oL 10 9, oN 11 10, oC 12 .lss 8 11])
 (.cond (.t 12) .skip
 (.exit 0)))
 (.seq (.block 1 (.seq (.drawn [Qo (oA 15 0 3), Qo (oL 16 15), Qo (oM 17 7), Qo (oI 18 3 16 17), Qo (oA 19 0 18), Qo (oL 20 19), Qo (oM 21 1), Qo (oC 22 .neq 20 21), Qo (oM 23 22), Qo (Og 23 true 24 (.addo 0 (.t 3))), Qo (Og 23 true 25 (.load false 1 (.t 24))), Qo (Og 23 true 26 (.mov (.t 7))), Qo (Og 23 true 27 (.ixL 3 (.t 25) (.t 26))), Qo (Og 23 true 28 (.addo 1 (.t 27))), Qo (Og 23 true 29 (.load false 1 (.t 28))), Qo (Og 23 true 30 (.mov (.t 2))), Qo (Og 23 true 31 (.call 123 [(.t 30)])), Qo (Og 23 true 32 (.bin .gtr (.t 29) (.t 31))), Qo (Oo 33 (.pick (.t 23) (.t 32) (.k (.bool false))))])
 (.cond (.t 33) (.seq (.region [Oo 6 (.mov (.k (.bool true)))])
 .ret)
 .skip)))
 (.region [oM 13 7, oB 14 .add 13 1, oM 7 14])))
def h60c : HC :=
 (.seq (.region [Oo 3 (.box (.t 0)), Oo 6 (.mov (.k (.bool false)))])
 (.seq (.seq (.region [oK 7 0])
 (.block 0 (.loop [1, 0, 0, 3] h60l0)))
 (.seq (.region [Oo 6 (.mov (.k (.bool false)))])
 .ret)))
abbrev h60 : HF := ⟨h60c, [.tmp 6], 34, false⟩
theorem h60_ok : CK Tryz.f60 h60c := by unfold CK; kernel_rfl
theorem r60_ok : RK Tryz.f60 [.tmp 6] := by unfold RK; kernel_rfl
def h61l0 : HC :=
 (.seq (.region [oC 12 .lss 11 10])
 (.seq (.cond (.t 12) .skip
 (.exit 0))
 (.seq (.block 1 (.seq (.region [oM 13 11, oI 14 3 9 11, oG 15 3 14, Oo 7 (.alloc [Zi 0, Zi 0, Zi 0]), oM 6 13, oS 3 7 15])
 (.seq (.region [oM 16 1, oM 17 6, oG 18 3 7, Oo 19 (.callv (.t 16) [(.t 17), (.t 18)]), oM 8 19])
 (.seq (.region [oM 20 8, oB 21 .neq 20 0])
 (.cond (.t 21) (.seq (.region [oM 22 6, oM 23 8, oM 4 22, oM 5 23])
 .ret)
 .skip)))))
 (.region [oB 24 .add 11 1, oM 11 24]))))
def h61c : HC :=
 (.seq (.region [oK 4 0, oK 5 0])
 (.seq (.seq (.region [oM 9 0, oN 10 9, oK 11 0])
 (.block 0 (.loop [1, 7, 0, 0] h61l0)))
 (.seq (.region [oK 4 0, oK 5 0])
 .ret)))
abbrev h61 : HF := ⟨h61c, [.tmp 4, .tmp 5], 25, false⟩
theorem h61_ok : CK Tryz.f61 h61c := by unfold CK; kernel_rfl
theorem r61_ok : RK Tryz.f61 [.tmp 4, .tmp 5] := by unfold RK; kernel_rfl
def h62c : HC :=
 (.seq (.region [Oo 5 (.box (.t 1)), oK 6 0])
 (.seq (.regR [63, 100063] [oL 8 2, oG 9 3 5, Oo 10 (.call 63 [(.t 8), (.t 9)]), oM 7 10])
 (.seq (.seq (.region [oM 11 7, oB 12 .eql 11 0])
 (.cond (.t 12) (.drawnT [64] (.st 1 (.st 2 (.br 0 (.st 3 (.st 4 (.st 5 (.st 6 .nil)))) (.br 3 (.br 0 (.st 4 (.st 5 (.st 6 .nil))) (.br 4 (.st 0 (.st 5 (.st 6 .nil))) .stop)) .stop)))) [oL 13 3, oL 14 2, oG 15 3 5, Oo 16 (.call 64 [(.t 14), (.t 15)]), Oo 17 (.bslc 3 1 [(.bool false), (.slice none 0 0), (.slice none 0 0)] [(0, (.t 16))]), Oo 18 (.app 3 56 [(.bool false), (.slice none 0 0), (.slice none 0 0)] (.t 13) (.t 17)), oS 1 3 18])
 .skip))
 (.seq (.region [oM 19 7, oM 6 19])
 .ret))))
abbrev h62 : HF := ⟨h62c, [.tmp 6], 20, false⟩
theorem h62_ok : CK Tryz.f62 h62c := by unfold CK; kernel_rfl
theorem r62_ok : RK Tryz.f62 [.tmp 6] := by unfold RK; kernel_rfl
def h63c : HC :=
 (.seq (.region [Oo 3 (.box (.t 1)), oK 4 0])
 (.seq (.seq (.region [oM 9 0, oG 10 3 3, Oo 11 (.call 124 [(.t 9), (.t 10)]), oM 5 11])
 (.seq (.region [oM 12 5, oB 13 .neq 12 0])
 (.cond (.t 13) (.seq (.region [oM 14 5, oM 4 14])
 .ret)
 .skip)))
 (.seq (.seq (.region [oM 15 0, oA 16 1 3, oL 17 16, Oo 18 (.call 78 [(.t 15), (.t 17)]), oM 6 18])
 (.seq (.region [oM 19 6, Oo 20 (.isnil true true (.t 19))])
 (.cond (.t 20) (.seq (.drawn [Qo (oM 21 6), Qo (Oo 22 (.nilc (.t 21))), Qo (oA 23 2 22), Qo (oL 24 23), Qo (oM 25 6), Qo (Oo 26 (.nilc (.t 25))), Qo (oA 27 1 26), Qo (oL 28 27), Qo (oC 29 .neq 24 28), Qo (oM 7 29)])
 (.seq (.region [oM 30 7, oM 8 30])
 (.seq (.seq (.region [oA 31 0 3, oL 32 31])
 (.block 0 (.seq (.region [oB 34 .eql 32 4, oM 33 34])
 (.cond (.t 33) (.region [oM 35 7, Oo 36 (.un .not (.t 35)), oM 8 36])
 (.seq (.region [oB 38 .eql 32 5, oM 37 38])
 (.cond (.t 37) (.region [Oo 8 (.mov (.k (.bool false)))])
 (.seq (.region [oB 40 .eql 32 1, oM 39 40])
 (.cond (.t 39) (.drawn [Qo (oM 41 7), Qo (oM 42 41), Qo (Og 42 false 43 (.addo 2 (.t 3))), Qo (Og 42 false 44 (.load false 1 (.t 43))), Qo (Og 42 false 45 (.mov (.t 6))), Qo (Og 42 false 46 (.nilc (.t 45))), Qo (Og 42 false 47 (.addo 1 (.t 46))), Qo (Og 42 false 48 (.load false 1 (.t 47))), Qo (Og 42 false 49 (.bin .leq (.t 44) (.t 48))), Qo (Oo 50 (.pick (.t 42) (.k (.bool true)) (.t 49))), Qo (oM 8 50)])
 .skip))))))))
 (.seq (.region [oM 51 8])
 (.cond (.t 51) (.seq (.region [oK 4 20])
 .ret)
 .skip)))))
 .skip)))
 (.seq (.seq (.region [oA 52 0 3, oL 53 52, oB 54 .eql 53 1, oM 55 54, Og 55 true 56 (.mov (.t 0)), Og 55 true 57 (.load true 3 (.t 3)), Og 55 true 58 (.call 125 [(.t 56), (.t 57)]), Og 55 true 59 (.un .not (.t 58)), Oo 60 (.pick (.t 55) (.t 59) (.k (.bool false)))])
 (.cond (.t 60) (.seq (.region [oK 4 24])
 .ret)
 .skip))
 (.seq (.seq (.region [oA 61 0 3, oL 62 61, Oo 63 (.call 75 [(.t 62)]), oM 64 63, Og 64 true 65 (.mov (.t 0)), Og 64 true 66 (.nilc (.t 65)), Og 64 true 67 (.addo 0 (.t 66)), Og 64 true 68 (.addo 1 (.t 67)), Og 64 true 69 (.load false 1 (.t 68)), Og 64 true 70 (.lenL (.t 69)), Og 64 true 71 (.bin .eql (.t 70) (Ki 8)), Oo 72 (.pick (.t 64) (.t 71) (.k (.bool false)))])
 (.cond (.t 72) (.seq (.region [oK 4 16])
 .ret)
 .skip))
 (.seq (.region [oK 4 0])
 .ret))))))
abbrev h63 : HF := ⟨h63c, [.tmp 4], 73, false⟩
theorem h63_ok : CK Tryz.f63 h63c := by unfold CK; kernel_rfl
theorem r63_ok : RK Tryz.f63 [.tmp 4] := by unfold RK; kernel_rfl
def h64c : HC :=
 (.seq (.region [Oo 3 (.box (.t 1)), Oo 4 (.alloc [(.bool false), (.slice none 0 0), (.slice none 0 0)])])
 (.seq (.region [Oo 8 (.build [(.bool false), (.slice none 0 0), (.slice none 0 0)] [(0, 1, (.k (.bool true)))]), Oo 5 (.alloc [(.bool false), (.slice none 0 0), (.slice none 0 0)]), oS 3 5 8])
 (.seq (.regR [126, 100126] [oM 10 0, oA 11 1 3, oL 12 11, Oo 13 (.call 126 [(.t 10), (.t 12)]), oM 9 13, oE 14 9 0, oE 15 9 1, oM 6 14, oM 7 15])
 (.seq (.seq (.region [oA 16 0 3, oL 17 16])
 (.block 0 (.seq (.region [oB 31 .eql 17 1, oM 30 31])
 (.cond (.t 30) (.drawnT [] (.st 0 (.st 1 (.st 2 (.st 3 (.st 4 (.st 5 (.st 6 (.st 7 (.st 8 (.st 9 (.st 10 (.st 11 (.st 12 (.st 13 (.st 14 (.st 16 (.st 17 (.br 15 (.st 18 (.st 19 (.st 20 (.st 21 .nil)))) (.br 18 (.st 15 (.st 19 (.st 20 (.st 21 .nil)))) .stop))))))))))))))))))) [oM 32 0, Oo 33 (.nilc (.t 32)), oA 34 0 33, oA 35 0 34, oL 36 35, oM 37 6, oM 38 0, Oo 39 (.nilc (.t 38)), oA 40 0 39, oA 41 0 40, oL 42 41, oM 43 6, oA 44 2 3, oL 45 44, oA 46 2 3, oL 47 46, oI 48 3 36 37, oA 49 1 48, oS 1 49 45, oI 50 3 42 43, oA 51 2 50, oS 1 51 47])
 (.seq (.region [oB 53 .eql 17 4, oM 52 53])
 (.cond (.t 52) (.seq (.drawnT [] (.st 0 (.st 1 (.st 2 (.st 3 (.st 4 (.st 5 (.st 6 (.st 7 (.st 8 (.st 9 (.st 10 (.st 11 (.st 12 (.st 13 (.st 14 (.st 15 (.st 16 (.st 17 .nil)))))))))))))))))) [oM 54 0, Oo 55 (.nilc (.t 54)), oA 56 0 55, oA 57 0 56, oL 58 57, oM 59 6, oM 60 0, Oo 61 (.nilc (.t 60)), oA 62 0 61, oA 63 0 62, oL 64 63, oM 65 6, oI 66 3 64 65, oA 67 2 66, oL 68 67, oI 69 3 58 59, oA 70 1 69, oS 1 70 68])
 (.regR [127] [oM 72 0, Oo 73 (.call 127 [(.t 72)]), oM 71 73, oE 74 71 0, oE 75 71 1, oA 76 1 5, oS 1 76 74, oA 77 2 5, oS 1 77 75]))
 (.seq (.region [oB 79 .eql 17 5, oM 78 79])
 (.cond (.t 78) (.seq (.regR [128] [oM 80 0, oM 81 0, Oo 82 (.nilc (.t 81)), oA 83 0 82, oA 84 0 83, oL 85 84, oM 86 6, oM 87 6, oB 88 .add 87 1, Oo 89 (.call 128 [(.t 85), (.t 86), (.t 88)]), Oo 90 (.nilc (.t 80)), oA 91 0 90, oA 92 0 91, oS 1 92 89])
 (.regR [127] [oM 94 0, Oo 95 (.call 127 [(.t 94)]), oM 93 95, oE 96 93 0, oE 97 93 1, oA 98 1 5, oS 1 98 96, oA 99 2 5, oS 1 99 97]))
 (.regR [129] [oM 19 0, oA 20 1 3, oL 21 20, oA 22 0 3, oL 23 22, Oo 24 (.build [Zi 0, Zi 0] [(0, 1, (.t 21)), (1, 1, (.t 23))]), Oo 25 (.call 129 [(.t 19), (.t 24)]), oM 18 25, oE 26 18 0, oE 27 18 1, oA 28 0 5, oS 1 28 26, oA 29 1 5, oS 1 29 27])))))))))
 (.seq (.region [oG 100 3 5, oS 3 4 100])
 .ret)))))
abbrev h64 : HF := ⟨h64c, [.cell 4 true 3], 101, false⟩
theorem h64_ok : CK Tryz.f64 h64c := by unfold CK; kernel_rfl
theorem r64_ok : RK Tryz.f64 [.cell 4 true 3] := by unfold RK; kernel_rfl
def h65l0 : HC :=
 (.seq (.seq (.region [oM 11 5, oM 12 0, oN 13 12, oC 14 .lss 11 13])
 (.cond (.t 14) .skip
 (.exit 0)))
 (.seq (.block 1 (.seq (.drawn [Qo (oM 17 0), Qo (oM 18 5), Qo (oI 19 2 17 18), Qo (oG 20 2 19), Qo (oM 21 1), Qo (oM 22 5), Qo (oI 23 2 21 22), Qo (oG 24 2 23), Qo (Oo 25 (.eqs true [.i, .i] (.t 20) (.t 24)))])
 (.cond (.t 25) (.seq (.region [Oo 4 (.mov (.k (.bool false)))])
 .ret)
 .skip)))
 (.region [oM 15 5, oB 16 .add 15 1, oM 5 16])))
def h65c : HC :=
 (.seq (.region [Oo 4 (.mov (.k (.bool false)))])
 (.seq (.seq (.region [oM 6 0, oN 7 6, oM 8 1, oN 9 8, oC 10 .neq 7 9])
 (.cond (.t 10) (.seq (.region [Oo 4 (.mov (.k (.bool false)))])
 .ret)
 .skip))
 (.seq (.seq (.region [oK 5 0])
 (.block 0 (.loop [0, 0, 3] h65l0)))
 (.seq (.region [Oo 4 (.mov (.k (.bool true)))])
 .ret))))
abbrev h65 : HF := ⟨h65c, [.tmp 4], 26, false⟩
theorem h65_ok : CK Tryz.f65 h65c := by unfold CK; kernel_rfl
theorem r65_ok : RK Tryz.f65 [.tmp 4] := by unfold RK; kernel_rfl
def h66l0 : HC :=
 (.seq (.region [oC 12 .lss 11 10])
 (.seq (.cond (.t 12) .skip
 (.exit 0))
 (.seq (.block 1 (.seq (.region [oM 13 11, oI 14 4 9 11, oG 15 4 14, Oo 7 (.alloc [Zi 0, Zi 0, Zi 0, Zi 0]), oM 6 13, oS 4 7 15])
 (.seq (.region [oM 16 1, oM 17 6, oG 18 4 7, Oo 19 (.callv (.t 16) [(.t 17), (.t 18)]), oM 8 19])
 (.seq (.region [oM 20 8, oB 21 .neq 20 0])
 (.cond (.t 21) (.seq (.region [oM 22 6, oM 23 8, oM 4 22, oM 5 23])
 .ret)
 .skip)))))
 (.region [oB 24 .add 11 1, oM 11 24]))))
def h66c : HC :=
 (.seq (.region [oK 4 0, oK 5 0])
 (.seq (.seq (.region [oM 9 0, oN 10 9, oK 11 0])
 (.block 0 (.loop [1, 7, 0, 0] h66l0)))
 (.seq (.region [oK 4 0, oK 5 0])
 .ret)))
abbrev h66 : HF := ⟨h66c, [.tmp 4, .tmp 5], 25, false⟩
theorem h66_ok : CK Tryz.f66 h66c := by unfold CK; kernel_rfl
theorem r66_ok : RK Tryz.f66 [.tmp 4, .tmp 5] := by unfold RK; kernel_rfl
def h67c : HC :=
 (.seq (.region [Oo 4 (.box (.t 1)), oK 5 0])
 (.seq (.region [oL 6 2, oG 7 4 4, Oo 8 (.call 68 [(.t 6), (.t 7)]), oM 5 8])
 .ret))
abbrev h67 : HF := ⟨h67c, [.tmp 5], 9, false⟩
theorem h67_ok : CK Tryz.f67 h67c := by unfold CK; kernel_rfl
theorem r67_ok : RK Tryz.f67 [.tmp 5] := by unfold RK; kernel_rfl
def h68l0 : HC :=
 (.seq (.region [oC 111 .lss 110 109])
 (.seq (.cond (.t 111) .skip
 (.exit 0))
 (.seq (.block 1 (.seq (.region [oI 112 2 108 110, oG 113 2 112, Oo 11 (.alloc [Zi 0, Zi 0]), oS 2 11 113])
 (.regR [131] [oM 114 0, oG 115 2 11, Oo 116 (.call 131 [(.t 114), (.t 115)])])))
 (.region [oB 117 .add 110 1, oM 110 117]))))
def h68l1 : HC :=
 (.seq (.region [oB 119 .lss 118 9])
 (.seq (.cond (.t 119) .skip
 (.exit 2))
 (.seq (.block 3 (.seq (.region [oM 120 118, oM 12 120])
 (.seq (.region [oM 122 0, oM 123 12, Oo 124 (.call 132 [(.t 122), (.t 123)]), oM 121 124, oE 125 121 0, oE 126 121 1, oM 13 125, oM 14 126])
 (.seq (.region [oM 127 13, oB 128 .lss 127 1])
 (.cond (.t 128) (.drawnT [] (.st 0 (.st 1 (.st 2 (.st 3 (.st 4 (.st 5 (.st 6 (.st 8 (.st 9 (.st 7 (.st 10 (.st 11 .nil)))))))))))) [oM 129 0, oM 130 12, oM 131 0, oM 132 12, Oo 133 (.nilc (.t 129)), oA 134 2 133, Oo 135 (.ixA 9 1 (.t 134) (.t 130)), On (.store 1 (.t 135) (Ki (-1))), Oo 136 (.nilc (.t 131)), oA 137 11 136, Oo 138 (.ixA 9 1 (.t 137) (.t 132)), On (.store 1 (.t 138) (.k (.bool false)))])
 .skip)))))
 (.region [oB 139 .add 118 1, oM 118 139]))))
def h68c : HC :=
 (.seq (.region [Oo 3 (.box (.t 1)), oK 4 0])
 (.seq (.region [oK 5 0])
 (.seq (.seq (.region [oA 15 0 3, oA 16 0 15, oL 17 16, oB 18 .eql 17 3])
 (.cond (.t 18) (.region [oK 5 999])
 .skip))
 (.seq (.seq (.drawn [Qo (oA 19 3 3), Qo (oL 20 19), Qo (oM 21 5), Qo (Oo 22 (.call 112 [(.t 20), (Ki 0), (.t 21)])), Qo (Oo 23 (.call 55 [(.t 22), (Ki 2)])), Qo (oM 24 0), Qo (Oo 25 (.nilc (.t 24))), Qo (oA 26 0 25), Qo (oL 27 26), Qo (oA 28 0 3), Qo (oG 29 3 28), Qe (Oo 30 (.call 124 [(.t 27), (.t 29)])), Qe (Oo 31 (.bslc 1 2 [Zi 0] [(0, (.t 23)), (1, (.t 30))])), Qe (Oo 32 (.call 117 [(.t 31)])), Qo (oM 6 32)])
 (.seq (.region [oM 33 6, oB 34 .neq 33 0])
 (.cond (.t 34) (.seq (.region [oM 35 6, oM 4 35])
 .ret)
 .skip)))
 (.seq (.seq (.regR [130] [oM 36 0, oG 37 4 3, Oo 38 (.call 130 [(.t 36), (.t 37)])])
 (.cond (.t 38) (.seq (.region [oK 4 0])
 .ret)
 .skip))
 (.seq (.seq (.drawn [Qo (oM 39 0), Qo (Oo 40 (.nilc (.t 39))), Qo (oA 41 0 40), Qo (oL 42 41), Qo (oA 43 0 3), Qo (oG 44 3 43), Qe (Oo 45 (.call 63 [(.t 42), (.t 44)])), Qo (oM 7 45)])
 (.seq (.region [oM 46 7, oB 47 .neq 46 0])
 (.cond (.t 47) (.seq (.region [oM 48 7, oM 4 48])
 .ret)
 .skip)))
 (.seq (.region [oA 49 0 3, oA 50 1 49, oL 51 50, oM 8 51])
 (.seq (.seq (.region [oA 52 0 3, oA 53 0 52, oL 54 53, oB 55 .eql 54 4, oM 56 55, Og 56 false 57 (.addo 0 (.t 3)), Og 56 false 58 (.addo 0 (.t 57)), Og 56 false 59 (.load false 1 (.t 58)), Og 56 false 60 (.bin .eql (.t 59) (Ki 5)), Oo 61 (.pick (.t 56) (.k (.bool true)) (.t 60)), oM 62 61, Og 62 true 63 (.mov (.t 0)), Og 62 true 64 (.mov (.t 8)), Og 62 true 65 (.nilc (.t 63)), Og 62 true 66 (.addo 11 (.t 65)), Og 62 true 67 (.ixA 9 1 (.t 66) (.t 64)), Og 62 true 68 (.load false 1 (.t 67)), Oo 69 (.pick (.t 62) (.t 68) (.k (.bool false)))])
 (.cond (.t 69) (.drawnT [] (.st 0 (.st 1 (.st 2 (.st 3 (.st 4 (.st 5 (.st 6 (.st 7 (.st 8 (.st 9 (.st 10 (.st 12 (.st 13 (.st 11 (.st 14 (.st 15 .nil)))))))))))))))) [oM 70 0, oM 71 0, oM 72 8, oM 73 0, oM 74 8, Oo 75 (.nilc (.t 73)), oA 76 2 75, Oo 77 (.ixA 9 1 (.t 76) (.t 74)), oL 78 77, Oo 79 (.nilc (.t 70)), oA 80 1 79, oS 1 80 78, Oo 81 (.nilc (.t 71)), oA 82 11 81, Oo 83 (.ixA 9 1 (.t 82) (.t 72)), On (.store 1 (.t 83) (.k (.bool false)))])
 .skip))
 (.seq (.drawn [Qo (oM 84 0), Qo (oM 85 8), Qo (oA 86 3 3), Qo (oL 87 86), Qo (Oo 88 (.nilc (.t 84))), Qo (oA 89 20 88), Qo (Oo 90 (.ixA 9 1 (.t 89) (.t 85))), Qe (oS 1 90 87)])
 (.seq (.drawnT [64] (.st 0 (.st 1 (.st 2 (.st 4 (.br 3 (.br 5 (.br 6 (.st 7 (.st 8 .nil)) (.br 7 (.st 6 (.st 8 .nil)) .stop)) (.br 7 (.st 5 (.st 6 (.st 8 .nil))) .stop)) (.br 5 (.br 3 (.br 6 (.st 7 (.st 8 .nil)) (.br 7 (.st 6 (.st 8 .nil)) .stop)) (.br 7 (.st 3 (.st 6 (.st 8 .nil))) .stop)) (.br 7 (.st 3 (.st 5 (.st 6 (.st 8 .nil)))) .stop))))))) [oM 91 0, Oo 92 (.nilc (.t 91)), oA 93 0 92, oL 94 93, oA 95 0 3, oG 96 3 95, Oo 97 (.call 64 [(.t 94), (.t 96)]), Oo 9 (.alloc [(.bool false), (.slice none 0 0), (.slice none 0 0)]), oS 3 9 97])
 (.seq (.seq (.region [oA 98 0 9, oL 99 98])
 (.cond (.t 99) (.regR [131] [oM 100 0, oM 101 8, oA 102 0 3, oA 103 0 102, oL 104 103, Oo 105 (.build [Zi 0, Zi 0] [(0, 1, (.t 101)), (1, 1, (.t 104))]), Oo 106 (.call 131 [(.t 100), (.t 105)])])
 .skip))
 (.seq (.seq (.region [oA 107 2 9, oL 108 107, oN 109 108, oK 110 0])
 (.block 0 (.loop [0, 107, 0, 0] h68l0)))
 (.seq (.seq (.region [oK 118 0])
 (.block 2 (.loop [0, 117] h68l1)))
 (.seq (.region [oK 4 0])
 .ret))))))))))))))
abbrev h68 : HF := ⟨h68c, [.tmp 4], 140, false⟩
theorem h68_ok : CK Tryz.f68 h68c := by unfold CK; kernel_rfl
theorem r68_ok : RK Tryz.f68 [.tmp 4] := by unfold RK; kernel_rfl
def h72c : HC :=
 (.seq (.region [Oo 1 (.box (.t 0)), Oo 2 (.mov (.k (.pointer none))), oK 3 0])
 (.seq (.seq (.region [oG 7 2 1, Oo 8 (.call 12 [(.t 7)]), oM 6 8, oE 9 6 0, oE 10 6 1, oM 4 9, oM 5 10])
 (.seq (.region [oM 11 5, oB 12 .neq 11 0])
 (.cond (.t 12) (.seq (.region [oM 13 5, Oo 2 (.mov (.k (.pointer none))), oM 3 13])
 .ret)
 .skip)))
 (.seq (.region [oG 14 2 1, Oo 15 (.call 47 [(.t 14)]), oM 2 15, oK 3 0])
 .ret)))
abbrev h72 : HF := ⟨h72c, [.tmp 2, .tmp 3], 16, true⟩
theorem h72_ok : CK Tryz.f72 h72c := by unfold CK; kernel_rfl
theorem r72_ok : RK Tryz.f72 [.tmp 2, .tmp 3] := by unfold RK; kernel_rfl
def h75c : HC :=
 (.seq (.region [Oo 2 (.mov (.k (.bool false)))])
 (.seq (.region [oM 3 0, oB 4 .eql 3 0, oM 5 4, Og 5 false 6 (.mov (.t 0)), Og 5 false 7 (.bin .eql (.t 6) (Ki 2)), Oo 8 (.pick (.t 5) (.k (.bool true)) (.t 7)), oM 9 8, Og 9 false 10 (.mov (.t 0)), Og 9 false 11 (.bin .eql (.t 10) (Ki 3)), Oo 12 (.pick (.t 9) (.k (.bool true)) (.t 11)), oM 2 12])
 .ret))
abbrev h75 : HF := ⟨h75c, [.tmp 2], 13, false⟩
theorem h75_ok : CK Tryz.f75 h75c := by unfold CK; kernel_rfl
theorem r75_ok : RK Tryz.f75 [.tmp 2] := by unfold RK; kernel_rfl
def h76c : HC :=
 (.seq (.region [Oo 2 (.mov (.k (.bool false)))])
 (.seq (.region [oM 3 0, oB 4 .eql 3 0, oM 5 4, Og 5 false 6 (.mov (.t 0)), Og 5 false 7 (.bin .eql (.t 6) (Ki 2)), Oo 8 (.pick (.t 5) (.k (.bool true)) (.t 7)), oM 9 8, Og 9 false 10 (.mov (.t 0)), Og 9 false 11 (.bin .eql (.t 10) (Ki 3)), Oo 12 (.pick (.t 9) (.k (.bool true)) (.t 11)), oM 2 12])
 .ret))
abbrev h76 : HF := ⟨h76c, [.tmp 2], 13, false⟩
theorem h76_ok : CK Tryz.f76 h76c := by unfold CK; kernel_rfl
theorem r76_ok : RK Tryz.f76 [.tmp 2] := by unfold RK; kernel_rfl
def h78c : HC :=
 (.seq (.region [Oo 4 (.mov (.k (.pointer none)))])
 (.seq (.regR [126, 100126] [oM 8 0, oM 9 1, Oo 10 (.call 126 [(.t 8), (.t 9)]), oM 7 10, oE 11 7 0, oE 12 7 1, oM 5 11, oM 6 12])
 (.seq (.seq (.region [oM 13 6, Oo 14 (.un .not (.t 13))])
 (.cond (.t 14) (.seq (.region [Oo 4 (.mov (.k (.pointer none)))])
 .ret)
 .skip))
 (.seq (.region [oM 15 0, Oo 16 (.nilc (.t 15)), oA 17 0 16, oA 18 0 17, oL 19 18, oM 20 5, oI 21 3 19 20, oM 4 21])
 .ret))))
abbrev h78 : HF := ⟨h78c, [.tmp 4], 22, true⟩
theorem h78_ok : CK Tryz.f78 h78c := by unfold CK; kernel_rfl
theorem r78_ok : RK Tryz.f78 [.tmp 4] := by unfold RK; kernel_rfl
def h79c : HC :=
 (.seq (.region [Oo 2 (.mov (.k (.string ⟨#[]⟩)))])
 (.seq (.region [oM 3 0, Oo 4 (.call 139 [(.t 3)]), oM 2 4])
 .ret))
abbrev h79 : HF := ⟨h79c, [.tmp 2], 5, false⟩
theorem h79_ok : CK Tryz.f79 h79c := by unfold CK; kernel_rfl
theorem r79_ok : RK Tryz.f79 [.tmp 2] := by unfold RK; kernel_rfl
def h80c : HC :=
 (.seq (.region [Oo 2 (.mov (.k (.string ⟨#[]⟩)))])
 (.seq (.seq (.region [oM 3 0])
 (.block 0 (.seq (.region [oB 5 .eql 3 0, oM 4 5])
 (.cond (.t 4) (.seq (.region [Oo 2 (.mov (.k (.string ⟨#[111]⟩)))])
 .ret)
 (.seq (.region [oB 7 .eql 3 2, oM 6 7])
 (.cond (.t 6) (.seq (.region [Oo 2 (.mov (.k (.string ⟨#[114]⟩)))])
 .ret)
 (.seq (.region [oB 9 .eql 3 3, oM 8 9])
 (.cond (.t 8) (.seq (.region [Oo 2 (.mov (.k (.string ⟨#[119]⟩)))])
 .ret)
 .skip))))))))
 (.seq (.region [Oo 2 (.mov (.k (.string ⟨#[63]⟩)))])
 .ret)))
abbrev h80 : HF := ⟨h80c, [.tmp 2], 10, false⟩
theorem h80_ok : CK Tryz.f80 h80c := by unfold CK; kernel_rfl
theorem r80_ok : RK Tryz.f80 [.tmp 2] := by unfold RK; kernel_rfl
def h81l0 : HC :=
 (.seq (.region [oC 42 .lss 41 40])
 (.seq (.cond (.t 42) .skip
 (.exit 1))
 (.seq (.block 2 (.seq (.region [oI 43 1 39 41, oL 44 43, oM 7 44])
 (.seq (.seq (.region [oM 45 7, Oo 46 (.lenS (.t 45)), oM 47 5, Oo 48 (.bin .sub (Ki 9223372036854775807) (.t 47)), oC 49 .gtr 46 48])
 (.cond (.t 49) .bad
 .skip))
 (.region [oM 51 5, oM 52 7, Oo 53 (.lenS (.t 52)), oC 54 .add 51 53, oM 5 54]))))
 (.region [oB 55 .add 41 1, oM 41 55]))))
def h81l1 : HC :=
 (.seq (.region [oC 66 .lss 65 64])
 (.seq (.cond (.t 66) .skip
 (.exit 3))
 (.seq (.block 4 (.seq (.region [oI 67 1 63 65, oL 68 67, oM 10 68])
 (.seq (.region [oM 69 1, Oo 70 (.call 141 [(.t 8), (.t 69)])])
 (.region [oM 71 10, Oo 72 (.call 141 [(.t 8), (.t 71)])]))))
 (.region [oB 73 .add 65 1, oM 65 73]))))
def h81c : HC :=
 (.seq (.region [Oo 4 (.mov (.k (.string ⟨#[]⟩)))])
 (.seq (.seq (.region [oM 11 0, oN 12 11])
 (.block 0 (.seq (.region [oB 14 .eql 12 0, oM 13 14])
 (.cond (.t 13) (.seq (.region [Oo 4 (.mov (.k (.string ⟨#[]⟩)))])
 .ret)
 (.seq (.region [oB 16 .eql 12 1, oM 15 16])
 (.cond (.t 15) (.seq (.region [oM 17 0, Oo 18 (.ixL 1 (.t 17) (Ki 0)), oL 19 18, oM 4 19])
 .ret)
 .skip))))))
 (.seq (.region [oK 5 0])
 (.seq (.seq (.region [oM 20 1, Oo 21 (.lenS (.t 20)), oB 22 .gtr 21 0])
 (.cond (.t 22) (.seq (.seq (.region [oM 23 1, Oo 24 (.lenS (.t 23)), oM 25 0, oN 26 25, oB 27 .sub 26 1, Oo 28 (.bin .quo (Ki 9223372036854775807) (.t 27)), oC 29 .geq 24 28])
 (.cond (.t 29) .bad
 .skip))
 (.region [oM 31 5, oM 32 1, Oo 33 (.lenS (.t 32)), oM 34 0, oN 35 34, oB 36 .sub 35 1, oC 37 .mul 33 36, oC 38 .add 31 37, oM 5 38]))
 .skip))
 (.seq (.seq (.region [oM 39 0, oN 40 39, oK 41 0])
 (.block 1 (.loop [0, 0, 3, 33, 0, 0] h81l0)))
 (.seq (.region [Oo 8 (.alloc [(.pointer none), (.slice none 0 0)])])
 (.seq (.region [oM 56 5, Oo 57 (.call 140 [(.t 8), (.t 56)])])
 (.seq (.region [oM 58 0, Oo 59 (.ixL 1 (.t 58) (Ki 0)), oL 60 59, Oo 61 (.call 141 [(.t 8), (.t 60)])])
 (.seq (.seq (.region [oM 62 0, Oo 63 (.slL 1 (.t 62) (some (Ki 1)) none), oN 64 63, oK 65 0])
 (.block 3 (.loop [1, 6, 54, 0, 0] h81l1)))
 (.seq (.region [Oo 74 (.call 142 [(.t 8)]), oM 4 74])
 .ret))))))))))
abbrev h81 : HF := ⟨h81c, [.tmp 4], 75, false⟩
theorem h81_ok : CK Tryz.f81 h81c := by unfold CK; kernel_rfl
theorem r81_ok : RK Tryz.f81 [.tmp 4] := by unfold RK; kernel_rfl
def h82l0 : HC :=
 (.seq (.seq (.region [oM 10 0, oB 11 .neq 10 0])
 (.cond (.t 11) .skip
 (.exit 0)))
 (.block 1 (.seq (.region [oM 12 0, oB 13 .rem 12 10, oM 5 13])
 (.seq (.region [oM 14 5, Oo 15 (.call 143 [(.t 14)]), Oo 16 (.bin .add (Ki 48) (.t 15)), Oo 17 (.conv .u8 (.t 16)), Oo 18 (.bslc 1 1 [(.int .u8 0)] [(0, (.t 17))]), Oo 19 (.cvbs (.t 18)), oM 20 3, oC 21 .add 19 20, oM 3 21])
 (.region [oM 22 0, oB 23 .quo 22 10, oM 0 23])))))
def h82c : HC :=
 (.seq (.region [Oo 2 (.mov (.k (.string ⟨#[]⟩)))])
 (.seq (.seq (.region [oM 6 0, oB 7 .eql 6 0])
 (.cond (.t 7) (.seq (.region [Oo 2 (.mov (.k (.string ⟨#[48]⟩)))])
 .ret)
 .skip))
 (.seq (.region [Oo 3 (.mov (.k (.string ⟨#[]⟩))), Oo 4 (.mov (.k (.string ⟨#[]⟩)))])
 (.seq (.seq (.region [oM 8 0, oB 9 .lss 8 0])
 (.cond (.t 9) (.region [Oo 4 (.mov (.k (.string ⟨#[45]⟩)))])
 .skip))
 (.seq (.block 0 (.loop [0, 2, 0] h82l0))
 (.seq (.region [oM 24 4, oM 25 3, oC 26 .add 24 25, oM 2 26])
 .ret))))))
abbrev h82 : HF := ⟨h82c, [.tmp 2], 27, false⟩
theorem h82_ok : CK Tryz.f82 h82c := by unfold CK; kernel_rfl
theorem r82_ok : RK Tryz.f82 [.tmp 2] := by unfold RK; kernel_rfl
def h83c : HC :=
 (.seq (.region [Oo 2 (.mov (.k (.string ⟨#[]⟩)))])
 (.seq (.seq (.region [oM 3 0, oB 4 .eql 3 0])
 (.cond (.t 4) (.seq (.region [Oo 2 (.mov (.k (.string ⟨#[111]⟩)))])
 .ret)
 .skip))
 (.seq (.seq (.region [oM 5 0, oB 6 .eql 5 2])
 (.cond (.t 6) (.seq (.region [Oo 2 (.mov (.k (.string ⟨#[114]⟩)))])
 .ret)
 .skip))
 (.seq (.seq (.region [oM 7 0, oB 8 .eql 7 3])
 (.cond (.t 8) (.seq (.region [Oo 2 (.mov (.k (.string ⟨#[119]⟩)))])
 .ret)
 .skip))
 (.seq (.region [Oo 2 (.mov (.k (.string ⟨#[63]⟩)))])
 .ret)))))
abbrev h83 : HF := ⟨h83c, [.tmp 2], 9, false⟩
theorem h83_ok : CK Tryz.f83 h83c := by unfold CK; kernel_rfl
theorem r83_ok : RK Tryz.f83 [.tmp 2] := by unfold RK; kernel_rfl
def h84c : HC :=
 (.seq (.region [Oo 4 (.mov (.k (.string ⟨#[]⟩))), Oo 5 (.mov (.k (.string ⟨#[]⟩))), Oo 6 (.mov (.k (.bool false)))])
 (.seq (.region [oM 7 0, oM 8 1, Oo 9 (.call 144 [(.t 7), (.t 8)]), oE 10 9 0, oE 11 9 1, oE 12 9 2, oM 4 10, oM 5 11, oM 6 12])
 .ret))
abbrev h84 : HF := ⟨h84c, [.tmp 4, .tmp 5, .tmp 6], 13, false⟩
theorem h84_ok : CK Tryz.f84 h84c := by unfold CK; kernel_rfl
theorem r84_ok : RK Tryz.f84 [.tmp 4, .tmp 5, .tmp 6] := by unfold RK; kernel_rfl
def h85c : HC :=
 (.seq (.region [Oo 2 (.mov (.k (.slice none 0 0)))])
 (.seq (.seq (.region [oM 3 0, Oo 4 (.bin .eql (.t 3) (.k (.string ⟨#[]⟩)))])
 (.cond (.t 4) (.seq (.region [Oo 2 (.mov (.k (.slice none 0 0)))])
 .ret)
 .skip))
 (.seq (.region [oM 5 0, Oo 6 (.call 145 [(.t 5), (.k (.string ⟨#[44]⟩))]), oM 2 6])
 .ret)))
abbrev h85 : HF := ⟨h85c, [.tmp 2], 7, false⟩
theorem h85_ok : CK Tryz.f85 h85c := by unfold CK; kernel_rfl
theorem r85_ok : RK Tryz.f85 [.tmp 2] := by unfold RK; kernel_rfl
def h86c : HC :=
 (.seq (.region [Oo 2 (.alloc [Zi 0, Zi 0, Zi 0]), Oo 3 (.mov (.k (.bool false)))])
 (.seq (.seq (.region [oM 10 0, Oo 11 (.lenS (.t 10)), oB 12 .neq 11 5, oM 13 12, Og 13 false 14 (.mov (.t 0)), Og 13 false 15 (.slS (.t 14) (some (Ki 1)) (some (Ki 2))), Og 13 false 16 (.bin .neq (.t 15) (.k (.string ⟨#[58]⟩))), Oo 17 (.pick (.t 13) (.k (.bool true)) (.t 16)), oM 18 17, Og 18 false 19 (.mov (.t 0)), Og 18 false 20 (.slS (.t 19) (some (Ki 3)) (some (Ki 4))), Og 18 false 21 (.bin .neq (.t 20) (.k (.string ⟨#[62]⟩))), Oo 22 (.pick (.t 18) (.k (.bool true)) (.t 21))])
 (.cond (.t 22) (.seq (.region [Oo 23 (.build [Zi 0, Zi 0, Zi 0] []), oS 3 2 23, Oo 3 (.mov (.k (.bool false)))])
 .ret)
 .skip))
 (.seq (.region [oM 25 0, Oo 26 (.ixS (.t 25) (Ki 0)), Oo 27 (.call 146 [(.t 26)]), oM 24 27, oE 28 24 0, oE 29 24 1, oM 4 28, oM 5 29])
 (.seq (.region [oM 31 0, Oo 32 (.ixS (.t 31) (Ki 2)), Oo 33 (.call 146 [(.t 32)]), oM 30 33, oE 34 30 0, oE 35 30 1, oM 6 34, oM 7 35])
 (.seq (.region [oM 37 0, Oo 38 (.ixS (.t 37) (Ki 4)), Oo 39 (.call 146 [(.t 38)]), oM 36 39, oE 40 36 0, oE 41 36 1, oM 8 40, oM 9 41])
 (.seq (.region [oM 42 4, oM 43 6, oM 44 8, Oo 45 (.build [Zi 0, Zi 0, Zi 0] [(0, 1, (.t 42)), (1, 1, (.t 43)), (2, 1, (.t 44))]), oM 46 5, oM 47 46, Og 47 true 48 (.mov (.t 7)), Oo 49 (.pick (.t 47) (.t 48) (.k (.bool false))), oM 50 49, Og 50 true 51 (.mov (.t 9)), Oo 52 (.pick (.t 50) (.t 51) (.k (.bool false))), oS 3 2 45, oM 3 52])
 .ret))))))
abbrev h86 : HF := ⟨h86c, [.cell 2 true 3, .tmp 3], 53, false⟩
theorem h86_ok : CK Tryz.f86 h86c := by unfold CK; kernel_rfl
theorem r86_ok : RK Tryz.f86 [.cell 2 true 3, .tmp 3] := by unfold RK; kernel_rfl
def h87l0 : HC :=
 (.seq (.region [oB 18 .lss 17 6])
 (.seq (.cond (.t 18) .skip
 (.exit 0))
 (.seq (.block 1 (.seq (.region [oM 19 17, oM 6 19])
 (.seq (.drawn [Qo (oM 20 6), Qe (Oo 21 (.call 75 [(.t 20)])), Qo (oM 22 21), Qo (Og 22 true 23 (.mov (.t 0))), Qo (Og 22 true 24 (.slS (.t 23) (some (Ki 1)) none)), Qo (Og 22 true 25 (.mov (.t 6))), Qo (Og 22 true 26 (.call 80 [(.t 25)])), Qo (Og 22 true 27 (.bin .eql (.t 24) (.t 26))), Qo (Oo 28 (.pick (.t 22) (.t 27) (.k (.bool false))))])
 (.cond (.t 28) (.seq (.region [oM 29 4, oM 30 6, Oo 31 (.build [Zi 0, Zi 0] [(0, 1, (.t 29)), (1, 1, (.t 30))]), oM 32 5, oS 2 2 31, oM 3 32])
 .ret)
 .skip))))
 (.region [oB 33 .add 17 1, oM 17 33]))))
def h87c : HC :=
 (.seq (.region [Oo 2 (.alloc [Zi 0, Zi 0]), Oo 3 (.mov (.k (.bool false)))])
 (.seq (.seq (.region [oM 7 0, Oo 8 (.lenS (.t 7)), oB 9 .neq 8 2])
 (.cond (.t 9) (.seq (.region [Oo 10 (.build [Zi 0, Zi 0] []), oS 2 2 10, Oo 3 (.mov (.k (.bool false)))])
 .ret)
 .skip))
 (.seq (.region [oM 12 0, Oo 13 (.ixS (.t 12) (Ki 0)), Oo 14 (.call 146 [(.t 13)]), oM 11 14, oE 15 11 0, oE 16 11 1, oM 4 15, oM 5 16])
 (.seq (.seq (.region [oK 17 0])
 (.block 0 (.loop [0, 1, 1, 0, 11] h87l0)))
 (.seq (.region [Oo 34 (.build [Zi 0, Zi 0] []), oS 2 2 34, Oo 3 (.mov (.k (.bool false)))])
 .ret)))))
abbrev h87 : HF := ⟨h87c, [.cell 2 true 2, .tmp 3], 35, false⟩
theorem h87_ok : CK Tryz.f87 h87c := by unfold CK; kernel_rfl
theorem r87_ok : RK Tryz.f87 [.cell 2 true 2, .tmp 3] := by unfold RK; kernel_rfl
def h88l0 : HC :=
 (.seq (.seq (.region [oM 8 7, oM 9 0, Oo 10 (.lenS (.t 9)), oC 11 .lss 8 10])
 (.cond (.t 11) .skip
 (.exit 0)))
 (.seq (.block 1 (.seq (.region [oM 14 0, oM 15 7, Oo 16 (.ixS (.t 14) (.t 15)), oM 17 1, oC 18 .eql 16 17])
 (.cond (.t 18) (.seq (.region [oM 19 5, oM 20 0, oM 21 6, oM 22 7, Oo 23 (.slS (.t 20) (some (.t 21)) (some (.t 22))), Oo 24 (.bslc 1 1 [(.string ⟨#[]⟩)] [(0, (.t 23))]), Oo 25 (.app 1 16 [(.string ⟨#[]⟩)] (.t 19) (.t 24)), oM 5 25])
 (.region [oM 26 7, oB 27 .add 26 1, oM 6 27]))
 .skip)))
 (.region [oM 12 7, oB 13 .add 12 1, oM 7 13])))
def h88c : HC :=
 (.seq (.region [Oo 4 (.mov (.k (.slice none 0 0)))])
 (.seq (.region [Oo 5 (.mov (.k (.slice none 0 0)))])
 (.gh (.nil 5 1) (.seq (.region [oK 6 0])
 (.seq (.seq (.region [oK 7 0])
 (.block 0 (.loop [0, 0, 3, 0, 0] h88l0)))
 (.seq (.region [oM 28 5, oM 29 0, oM 30 6, Oo 31 (.slS (.t 29) (some (.t 30)) none), Oo 32 (.bslc 1 1 [(.string ⟨#[]⟩)] [(0, (.t 31))]), Oo 33 (.app 1 16 [(.string ⟨#[]⟩)] (.t 28) (.t 32)), oM 4 33])
 .ret))))))
abbrev h88 : HF := ⟨h88c, [.tmp 4], 34, false⟩
theorem h88_ok : CK Tryz.f88 h88c := by unfold CK; kernel_rfl
theorem r88_ok : RK Tryz.f88 [.tmp 4] := by unfold RK; kernel_rfl
def h89c : HC :=
 (.seq (.region [oK 4 0, Oo 5 (.mov (.k (.bool false)))])
 (.seq (.drawn [Qo (oM 6 0), Qo (oM 7 1), Qo (Oo 8 (.ixS (.t 6) (.t 7))), Qo (Oo 9 (.conv .i64 (.t 8))), Qo (oB 10 .sub 9 48), Qo (oM 11 0), Qo (oM 12 1), Qo (Oo 13 (.ixS (.t 11) (.t 12))), Qo (Oo 14 (.bin .geq (.t 13) (.k (.int .u8 48)))), Qo (oM 15 14), Qo (Og 15 true 16 (.mov (.t 0))), Qo (Og 15 true 17 (.mov (.t 1))), Qo (Og 15 true 18 (.ixS (.t 16) (.t 17))), Qo (Og 15 true 19 (.bin .leq (.t 18) (.k (.int .u8 57)))), Qo (Oo 20 (.pick (.t 15) (.t 19) (.k (.bool false)))), Qo (oM 4 10), Qo (oM 5 20)])
 .ret))
abbrev h89 : HF := ⟨h89c, [.tmp 4, .tmp 5], 21, false⟩
theorem h89_ok : CK Tryz.f89 h89c := by unfold CK; kernel_rfl
theorem r89_ok : RK Tryz.f89 [.tmp 4, .tmp 5] := by unfold RK; kernel_rfl
def h109c : HC :=
 (.seq (.region [Oo 2 (.mov (.k (.slice none 0 0)))])
 (.seq (.seq (.region [oM 3 0, Oo 4 (.isnil false false (.t 3))])
 (.cond (.t 4) (.seq (.region [Oo 2 (.mov (.k (.slice none 0 0)))])
 .ret)
 .skip))
 (.seq (.region [Oo 5 (.bslc 3 0 [Zi 0, Zi 0, Zi 0] []), oM 6 0, Oo 7 (.app 3 24 [Zi 0, Zi 0, Zi 0] (.t 5) (.t 6)), oM 2 7])
 .ret)))
abbrev h109 : HF := ⟨h109c, [.tmp 2], 8, true⟩
theorem h109_ok : CK Tryz.f109 h109c := by unfold CK; kernel_rfl
theorem r109_ok : RK Tryz.f109 [.tmp 2] := by unfold RK; kernel_rfl
def h110c : HC :=
 (.seq (.region [Oo 2 (.mov (.k (.slice none 0 0)))])
 (.seq (.seq (.region [oM 3 0, Oo 4 (.isnil false false (.t 3))])
 (.cond (.t 4) (.seq (.region [Oo 2 (.mov (.k (.slice none 0 0)))])
 .ret)
 .skip))
 (.seq (.region [Oo 5 (.bslc 2 0 [Zi 0, Zi 0] []), oM 6 0, Oo 7 (.app 2 16 [Zi 0, Zi 0] (.t 5) (.t 6)), oM 2 7])
 .ret)))
abbrev h110 : HF := ⟨h110c, [.tmp 2], 8, true⟩
theorem h110_ok : CK Tryz.f110 h110c := by unfold CK; kernel_rfl
theorem r110_ok : RK Tryz.f110 [.tmp 2] := by unfold RK; kernel_rfl
def h111c : HC :=
 (.seq (.region [Oo 2 (.mov (.k (.bool false)))])
 (.seq (.region [oM 3 0, Oo 4 (.call 112 [(.t 3), (Ki 1), (Ki 8)]), oM 2 4])
 .ret))
abbrev h111 : HF := ⟨h111c, [.tmp 2], 5, false⟩
theorem h111_ok : CK Tryz.f111 h111c := by unfold CK; kernel_rfl
theorem r111_ok : RK Tryz.f111 [.tmp 2] := by unfold RK; kernel_rfl
def h112c : HC :=
 (.seq (.region [Oo 6 (.mov (.k (.bool false)))])
 (.seq (.region [oM 7 1, oM 8 0, oC 9 .leq 7 8, oM 10 9, Og 10 true 11 (.mov (.t 0)), Og 10 true 12 (.mov (.t 2)), Og 10 true 13 (.bin .leq (.t 11) (.t 12)), Oo 14 (.pick (.t 10) (.t 13) (.k (.bool false))), oM 6 14])
 .ret))
abbrev h112 : HF := ⟨h112c, [.tmp 6], 15, false⟩
theorem h112_ok : CK Tryz.f112 h112c := by unfold CK; kernel_rfl
theorem r112_ok : RK Tryz.f112 [.tmp 6] := by unfold RK; kernel_rfl
def h113c : HC :=
 (.seq (.region [Oo 3 (.box (.t 0)), Oo 4 (.mov (.k (.bool false)))])
 (.seq (.region [oL 5 1, Oo 6 (.nilc (.t 5)), oA 7 0 6, oA 8 0 7, oL 9 8, Oo 10 (.mkfn 115 [(.t 2), (.t 3)]), Oo 11 (.call 114 [(.t 9), (.t 10)]), oM 4 11])
 .ret))
abbrev h113 : HF := ⟨h113c, [.tmp 4], 12, false⟩
theorem h113_ok : CK Tryz.f113 h113c := by unfold CK; kernel_rfl
theorem r113_ok : RK Tryz.f113 [.tmp 4] := by unfold RK; kernel_rfl
def h114c : HC :=
 (.seq (.region [Oo 4 (.mov (.k (.bool false)))])
 (.seq (.region [oM 5 0, oM 6 1, Oo 7 (.call 169 [(.t 5), (.t 6)]), oB 8 .geq 7 0, oM 4 8])
 .ret))
abbrev h114 : HF := ⟨h114c, [.tmp 4], 9, false⟩
theorem h114_ok : CK Tryz.f114 h114c := by unfold CK; kernel_rfl
theorem r114_ok : RK Tryz.f114 [.tmp 4] := by unfold RK; kernel_rfl
def h115c : HC :=
 (.seq (.region [Oo 3 (.box (.t 0)), Oo 4 (.mov (.k (.bool false)))])
 (.seq (.region [oA 5 0 3, oL 6 5, oA 7 0 1, oL 8 7, oC 9 .neq 6 8, oM 10 9, Og 10 true 11 (.addo 1 (.t 3)), Og 10 true 12 (.load false 1 (.t 11)), Og 10 true 13 (.load false 1 (.t 2)), Og 10 true 14 (.bin .geq (.t 12) (.t 13)), Oo 15 (.pick (.t 10) (.t 14) (.k (.bool false))), oM 4 15])
 .ret))
abbrev h115 : HF := ⟨h115c, [.tmp 4], 16, false⟩
theorem h115_ok : CK Tryz.f115 h115c := by unfold CK; kernel_rfl
theorem r115_ok : RK Tryz.f115 [.tmp 4] := by unfold RK; kernel_rfl
def h116c : HC :=
 (.seq (.region [Oo 2 (.box (.t 0)), Oo 3 (.mov (.k (.bool false)))])
 (.seq (.region [oA 4 0 2, oL 5 4, oA 6 0 1, oL 7 6, oC 8 .neq 5 7, oM 3 8])
 .ret))
abbrev h116 : HF := ⟨h116c, [.tmp 3], 9, false⟩
theorem h116_ok : CK Tryz.f116 h116c := by unfold CK; kernel_rfl
theorem r116_ok : RK Tryz.f116 [.tmp 3] := by unfold RK; kernel_rfl
def h117l0 : HC :=
 (.seq (.region [oC 8 .lss 7 6])
 (.seq (.cond (.t 8) .skip
 (.exit 0))
 (.seq (.block 1 (.seq (.region [oI 9 1 5 7, oL 10 9, oM 4 10])
 (.seq (.region [oM 11 4, oB 12 .neq 11 0])
 (.cond (.t 12) (.seq (.region [oM 13 4, oM 2 13])
 .ret)
 .skip))))
 (.region [oB 14 .add 7 1, oM 7 14]))))
def h117c : HC :=
 (.seq (.region [oK 2 0])
 (.seq (.seq (.region [oM 5 0, oN 6 5, oK 7 0])
 (.block 0 (.loop [5, 0, 0] h117l0)))
 (.seq (.region [oK 2 0])
 .ret)))
abbrev h117 : HF := ⟨h117c, [.tmp 2], 15, false⟩
theorem h117_ok : CK Tryz.f117 h117c := by unfold CK; kernel_rfl
theorem r117_ok : RK Tryz.f117 [.tmp 2] := by unfold RK; kernel_rfl
def h118c : HC :=
 (.seq (.region [Oo 4 (.mov (.k (.bool false)))])
 (.seq (.region [oM 5 0, oM 6 1, Oo 7 (.call 170 [(.t 5), (.t 6)]), oB 8 .geq 7 0, oM 4 8])
 .ret))
abbrev h118 : HF := ⟨h118c, [.tmp 4], 9, false⟩
theorem h118_ok : CK Tryz.f118 h118c := by unfold CK; kernel_rfl
theorem r118_ok : RK Tryz.f118 [.tmp 4] := by unfold RK; kernel_rfl
def h119c : HC :=
 (.seq (.region [Oo 2 (.box (.t 0)), Oo 3 (.mov (.k (.bool false)))])
 (.seq (.region [oA 4 0 2, oL 5 4, oA 6 0 1, oL 7 6, oC 8 .eql 5 7, oM 3 8])
 .ret))
abbrev h119 : HF := ⟨h119c, [.tmp 3], 9, false⟩
theorem h119_ok : CK Tryz.f119 h119c := by unfold CK; kernel_rfl
theorem r119_ok : RK Tryz.f119 [.tmp 3] := by unfold RK; kernel_rfl
def h120c : HC :=
 (.seq (.region [Oo 2 (.box (.t 0)), Oo 3 (.mov (.k (.bool false)))])
 (.seq (.drawn [Qo (oA 4 0 2), Qo (oL 5 4), Qo (oA 6 0 1), Qo (oL 7 6), Qo (oC 8 .neq 5 7), Qo (oM 9 8), Qo (Og 9 true 10 (.addo 1 (.t 2))), Qo (Og 9 true 11 (.load false 1 (.t 10))), Qo (Og 9 true 12 (.addo 1 (.t 1))), Qo (Og 9 true 13 (.load false 1 (.t 12))), Qo (Og 9 true 14 (.ixA 4 1 (.g 0) (.t 13))), Qo (Og 9 true 15 (.load false 1 (.t 14))), Qo (Og 9 true 16 (.bin .gtr (.t 11) (.t 15))), Qo (Oo 17 (.pick (.t 9) (.t 16) (.k (.bool false)))), Qo (oM 3 17)])
 .ret))
abbrev h120 : HF := ⟨h120c, [.tmp 3], 18, false⟩
theorem h120_ok : CK Tryz.f120 h120c := by unfold CK; kernel_rfl
theorem r120_ok : RK Tryz.f120 [.tmp 3] := by unfold RK; kernel_rfl
def h121c : HC :=
 (.seq (.region [Oo 2 (.mov (.k (.bool false)))])
 (.seq (.region [oM 3 0, Oo 4 (.call 39 [(.t 3), (Ki 1), (Ki 8)]), oM 2 4])
 .ret))
abbrev h121 : HF := ⟨h121c, [.tmp 2], 5, false⟩
theorem h121_ok : CK Tryz.f121 h121c := by unfold CK; kernel_rfl
theorem r121_ok : RK Tryz.f121 [.tmp 2] := by unfold RK; kernel_rfl
def h122l0 : HC :=
 (.seq (.seq (.region [oM 6 5, oA 7 1 2, oL 8 7, oN 9 8, oC 10 .lss 6 9])
 (.cond (.t 10) .skip
 (.exit 0)))
 (.seq (.block 1 (.seq (.region [oA 13 1 2, oL 14 13, oM 15 5, oI 16 2 14 15, oA 17 0 16, oL 18 17, oM 19 1, oC 20 .eql 18 19])
 (.cond (.t 20) (.seq (.region [oM 21 5, oM 4 21])
 .ret)
 .skip)))
 (.region [oM 11 5, oB 12 .add 11 1, oM 5 12])))
def h122c : HC :=
 (.seq (.region [Oo 2 (.box (.t 0)), oK 4 0])
 (.seq (.seq (.region [oK 5 0])
 (.block 0 (.loop [1, 0, 2] h122l0)))
 (.seq (.region [Oo 4 (.mov (Ki (-1)))])
 .ret)))
abbrev h122 : HF := ⟨h122c, [.tmp 4], 22, false⟩
theorem h122_ok : CK Tryz.f122 h122c := by unfold CK; kernel_rfl
theorem r122_ok : RK Tryz.f122 [.tmp 4] := by unfold RK; kernel_rfl
def h123c : HC :=
 (.seq (.region [oK 2 0])
 (.seq (.seq (.region [oM 3 0, oB 4 .eql 3 0])
 (.cond (.t 4) (.seq (.region [oK 2 2])
 .ret)
 .skip))
 (.seq (.seq (.region [oM 5 0, oB 6 .eql 5 2])
 (.cond (.t 6) (.seq (.region [oK 2 1])
 .ret)
 .skip))
 (.seq (.region [oK 2 0])
 .ret))))
abbrev h123 : HF := ⟨h123c, [.tmp 2], 7, false⟩
theorem h123_ok : CK Tryz.f123 h123c := by unfold CK; kernel_rfl
theorem r123_ok : RK Tryz.f123 [.tmp 2] := by unfold RK; kernel_rfl
def h124c : HC :=
 (.seq (.region [Oo 3 (.box (.t 1)), oK 4 0])
 (.seq (.region [oA 8 2 3, oL 9 8, oB 10 .eql 9 0, oM 5 10])
 (.seq (.seq (.region [oA 11 0 3, oL 12 11, oB 13 .eql 12 1])
 (.cond (.t 13) (.region [oA 14 2 3, oL 15 14, Oo 16 (.call 112 [(.t 15), (Ki 1), (Ki 3)]), oM 5 16])
 .skip))
 (.seq (.region [oM 17 0, Oo 18 (.nilc (.t 17)), oA 19 0 18, oA 20 1 19, oL 21 20, Oo 22 (.mkfn 171 [(.t 3)]), Oo 23 (.call 118 [(.t 21), (.t 22)]), oM 6 23])
 (.seq (.region [oM 24 0, oA 25 1 3, oL 26 25, Oo 27 (.call 78 [(.t 24), (.t 26)]), Oo 28 (.isnil true true (.t 27)), oM 7 28])
 (.seq (.drawn [Qo (oA 29 0 3), Qo (oL 30 29), Qo (Oo 31 (.call 112 [(.t 30), (Ki 0), (Ki 5)])), Qo (Oo 32 (.call 55 [(.t 31), (Ki 15)])), Qo (oA 33 1 3), Qo (oL 34 33), Qo (Oo 35 (.call 111 [(.t 34)])), Qo (oM 36 35), Qo (Og 36 true 37 (.mov (.t 5))), Qo (Oo 38 (.pick (.t 36) (.t 37) (.k (.bool false)))), Qo (Oo 39 (.call 55 [(.t 38), (Ki 2)])), Qo (oM 40 6), Qo (Oo 41 (.un .not (.t 40))), Qo (Oo 42 (.call 55 [(.t 41), (Ki 18)])), Qo (oA 43 0 3), Qo (oL 44 43), Qo (oB 45 .neq 44 0), Qo (oM 46 45), Qo (Og 46 false 47 (.mov (.t 7))), Qo (Og 46 false 48 (.un .not (.t 47))), Qo (Oo 49 (.pick (.t 46) (.k (.bool true)) (.t 48))), Qo (Oo 50 (.call 55 [(.t 49), (Ki 5)])), Qo (oA 51 0 3), Qo (oL 52 51), Qo (oB 53 .eql 52 0), Qo (oM 54 53), Qo (Og 54 false 55 (.mov (.t 7))), Qo (Oo 56 (.pick (.t 54) (.k (.bool true)) (.t 55))), Qe (Oo 57 (.call 55 [(.t 56), (Ki 6)])), Qe (Oo 58 (.bslc 1 5 [Zi 0] [(0, (.t 32)), (1, (.t 39)), (2, (.t 42)), (3, (.t 50)), (4, (.t 57))])), Qe (Oo 59 (.call 117 [(.t 58)])), Qo (oM 4 59)])
 .ret))))))
abbrev h124 : HF := ⟨h124c, [.tmp 4], 60, false⟩
theorem h124_ok : CK Tryz.f124 h124c := by unfold CK; kernel_rfl
theorem r124_ok : RK Tryz.f124 [.tmp 4] := by unfold RK; kernel_rfl
def h125c : HC :=
 (.seq (.region [Oo 3 (.box (.t 1)), Oo 4 (.mov (.k (.bool false)))])
 (.seq (.regR [172] [oM 7 0, Oo 8 (.nilc (.t 7)), oA 9 0 8, oA 10 0 9, oL 11 10, Oo 12 (.call 109 [(.t 11)]), Oo 13 (.mkfn 173 [(.t 3)]), Oo 14 (.call 172 [(.t 12), (.t 13)]), Oo 5 (.alloc [(.slice none 0 0)]), oS 1 5 14])
 (.seq (.region [Oo 15 (.mkfn 174 [(.t 5)]), oM 6 15])
 (.seq (.block 0 (.seq (.region [oM 17 0, Oo 18 (.nilc (.t 17)), oA 19 0 18, oA 20 1 19, oL 21 20, oN 22 21, oB 23 .gtr 22 0, oM 16 23])
 (.cond (.t 16) (.seq (.region [Oo 4 (.mov (.k (.bool false)))])
 .ret)
 (.seq (.region [oA 25 2 3, oL 26 25, oB 27 .eql 26 3, oM 24 27])
 (.cond (.t 24) (.seq (.region [oL 28 5, oN 29 28, oB 30 .eql 29 0, oM 4 30])
 .ret)
 (.seq (.region [oA 32 2 3, oL 33 32, oB 34 .eql 33 2, oM 31 34])
 (.cond (.t 31) (.seq (.region [oM 35 6, Oo 36 (.callv (.t 35) [(Ki 0)]), Oo 37 (.un .not (.t 36)), oM 4 37])
 .ret)
 .skip)))))))
 (.seq (.region [oM 38 6, Oo 39 (.callv (.t 38) [(Ki 1)]), Oo 40 (.un .not (.t 39)), oM 4 40])
 .ret)))))
abbrev h125 : HF := ⟨h125c, [.tmp 4], 41, false⟩
theorem h125_ok : CK Tryz.f125 h125c := by unfold CK; kernel_rfl
theorem r125_ok : RK Tryz.f125 [.tmp 4] := by unfold RK; kernel_rfl
def h126c : HC :=
 (.seq (.region [oK 4 0, Oo 5 (.mov (.k (.bool false)))])
 (.seq (.region [oM 6 0, Oo 7 (.nilc (.t 6)), oA 8 0 7, oA 9 0 8, oL 10 9, oM 11 1, Oo 12 (.call 176 [(.t 10), (.t 11), (.f 177)]), oE 13 12 0, oE 14 12 1, oM 4 13, oM 5 14])
 .ret))
abbrev h126 : HF := ⟨h126c, [.tmp 4, .tmp 5], 15, false⟩
theorem h126_ok : CK Tryz.f126 h126c := by unfold CK; kernel_rfl
theorem r126_ok : RK Tryz.f126 [.tmp 4, .tmp 5] := by unfold RK; kernel_rfl
def h127l0 : HC :=
 (.seq (.seq (.region [oM 5 0, Oo 6 (.nilc (.t 5)), oA 7 0 6, oA 8 1 7, oL 9 8, oN 10 9, oB 11 .gtr 10 0])
 (.cond (.t 11) .skip
 (.exit 0)))
 (.block 1 (.seq (.region [oM 12 0, Oo 13 (.nilc (.t 12)), oA 14 0 13, oA 15 1 14, oL 16 15, Oo 17 (.ixL 2 (.t 16) (Ki 0)), oG 18 2 17, Oo 4 (.alloc [Zi 0, Zi 0]), oS 2 4 18])
 (.seq (.regR [54] [oM 19 2, oM 20 0, oG 21 2 4, Oo 22 (.call 54 [(.t 20), (.t 21)]), Oo 23 (.app 2 16 [Zi 0, Zi 0] (.t 19) (.t 22)), oM 2 23])
 (.seq (.seq (.regR [56, 100056] [oM 24 0, oG 25 2 4, Oo 26 (.call 56 [(.t 24), (.t 25)])])
 (.cond (.t 26) (.exit 0)
 .skip))
 (.seq (.regR [178] [oM 27 0, oG 28 2 4, Oo 29 (.call 178 [(.t 27), (.t 28)])])
 (.drawnT [179] (.st 0 (.st 1 (.st 2 (.st 3 (.st 4 (.st 7 (.br 5 (.br 6 (.st 8 (.st 9 (.st 10 (.st 11 (.st 12 (.st 13 (.st 14 (.st 15 .nil)))))))) (.br 8 (.br 6 (.st 9 (.st 10 (.st 11 (.st 12 (.st 13 (.st 14 (.st 15 .nil))))))) (.br 9 (.st 6 (.st 10 (.st 11 (.st 12 (.st 13 (.st 14 (.st 15 .nil))))))) .stop)) .stop)) (.br 8 (.br 5 (.br 6 (.st 9 (.st 10 (.st 11 (.st 12 (.st 13 (.st 14 (.st 15 .nil))))))) (.br 9 (.st 6 (.st 10 (.st 11 (.st 12 (.st 13 (.st 14 (.st 15 .nil))))))) .stop)) (.br 9 (.st 5 (.st 6 (.st 10 (.st 11 (.st 12 (.st 13 (.st 14 (.st 15 .nil)))))))) .stop)) .stop)))))))) [oM 30 0, oM 31 0, Oo 32 (.nilc (.t 31)), oA 33 0 32, oA 34 1 33, oL 35 34, Oo 36 (.call 179 [(.t 35), (Ki 0), (Ki 1)]), oM 37 3, oG 38 2 4, Oo 39 (.bslc 2 1 [Zi 0, Zi 0] [(0, (.t 38))]), Oo 40 (.app 2 16 [Zi 0, Zi 0] (.t 37) (.t 39)), Oo 41 (.nilc (.t 30)), oA 42 0 41, oA 43 1 42, oS 1 43 36, oM 3 40])))))))
def h127c : HC :=
 (.seq (.region [Oo 2 (.mov (.k (.slice none 0 0))), Oo 3 (.mov (.k (.slice none 0 0)))])
 (.gh (.nil 2 2) (.gh (.nil 3 2) (.seq (.block 0 (.loop [0, 1, 0] h127l0))
 (.seq (.region [oM 44 2, oM 45 3, oM 2 44, oM 3 45])
 .ret)))))
abbrev h127 : HF := ⟨h127c, [.tmp 2, .tmp 3], 46, false⟩
theorem h127_ok : CK Tryz.f127 h127c := by unfold CK; kernel_rfl
theorem r127_ok : RK Tryz.f127 [.tmp 2, .tmp 3] := by unfold RK; kernel_rfl
def h128c : HC :=
 (.seq (.region [Oo 6 (.mov (.k (.slice none 0 0)))])
 (.seq .bad
 (.seq (.seq (.region [oM 14 1, oM 15 2, oC 16 .eql 14 15])
 (.cond (.t 16) (.seq (.region [oM 17 0, oM 6 17])
 .ret)
 .skip))
 (.seq (.region [oM 18 0, oN 19 18, oM 7 19])
 (.seq (.drawn [Qo (oM 20 0), Qo (oM 21 1), Qo (Oo 22 (.slL 3 (.t 20) none (some (.t 21)))), Qo (oM 23 0), Qo (oM 24 2), Qo (Oo 25 (.slL 3 (.t 23) (some (.t 24)) none)), Qe (Oo 26 (.app 3 24 [Zi 0, Zi 0, Zi 0] (.t 22) (.t 25))), Qo (oM 0 26)])
 (.seq (.region [oM 27 0, oM 28 0, oN 29 28, oM 30 7, Oo 31 (.slL 3 (.t 27) (some (.t 29)) (some (.t 30))), On (.clr 3 [Zi 0, Zi 0, Zi 0] (.t 31))])
 (.seq (.region [oM 32 0, oM 6 32])
 .ret)))))))
abbrev h128 : HF := ⟨h128c, [.tmp 6], 33, true⟩
theorem h128_ok : CK Tryz.f128 h128c := by unfold CK; kernel_rfl
theorem r128_ok : RK Tryz.f128 [.tmp 6] := by unfold RK; kernel_rfl
def h129c : HC :=
 (.seq (.region [Oo 3 (.box (.t 1)), Oo 4 (.mov (.k (.bool false))), Oo 5 (.mov (.k (.slice none 0 0)))])
 (.seq (.region [Oo 6 (.mov (.k (.slice none 0 0)))])
 (.seq (.seq (.region [oM 7 0, Oo 8 (.nilc (.t 7)), oA 9 0 8, oA 10 1 9, oL 11 10, oN 12 11, oB 13 .eql 12 0])
 (.cond (.t 13) (.seq (.regR [54] [oM 14 0, oG 15 2 3, Oo 16 (.call 54 [(.t 14), (.t 15)]), oM 6 16])
 (.seq (.regR [56, 100056] [oM 17 0, oG 18 2 3, Oo 19 (.call 56 [(.t 17), (.t 18)]), Oo 20 (.un .not (.t 19))])
 (.cond (.t 20) (.seq (.regR [178] [oM 21 0, oG 22 2 3, Oo 23 (.call 178 [(.t 21), (.t 22)])])
 (.seq (.region [oM 24 6, Oo 4 (.mov (.k (.bool true))), oM 5 24])
 .ret))
 .skip)))
 .skip))
 (.seq (.drawn [Qo (oM 25 0), Qo (oM 26 0), Qo (Oo 27 (.nilc (.t 26))), Qo (oA 28 0 27), Qo (oA 29 1 28), Qo (oL 30 29), Qo (oG 31 2 3), Qe (Oo 32 (.bslc 2 1 [Zi 0, Zi 0] [(0, (.t 31))])), Qe (Oo 33 (.app 2 16 [Zi 0, Zi 0] (.t 30) (.t 32))), Qo (Oo 34 (.nilc (.t 25))), Qo (oA 35 0 34), Qo (oA 36 1 35), Qe (oS 1 36 33)])
 (.seq (.region [oM 37 6, Oo 4 (.mov (.k (.bool false))), oM 5 37])
 .ret)))))
abbrev h129 : HF := ⟨h129c, [.tmp 4, .tmp 5], 38, false⟩
theorem h129_ok : CK Tryz.f129 h129c := by unfold CK; kernel_rfl
theorem r129_ok : RK Tryz.f129 [.tmp 4, .tmp 5] := by unfold RK; kernel_rfl
def h130c : HC :=
 (.seq (.region [Oo 3 (.box (.t 1)), Oo 4 (.mov (.k (.bool false)))])
 (.seq (.region [oA 8 0 3, oA 9 1 8, oL 10 9, oM 5 10])
 (.seq (.region [oM 12 0, oM 13 5, Oo 14 (.call 132 [(.t 12), (.t 13)]), oM 11 14, oE 15 11 0, oE 16 11 1, oM 6 15, oM 7 16])
 (.seq (.block 0 (.seq (.region [oA 18 0 3, oA 19 0 18, oL 20 19, oB 21 .eql 20 2, oM 22 21, Og 22 true 23 (.mov (.t 6)), Og 22 true 24 (.bin .geq (.t 23) (Ki 1)), Oo 25 (.pick (.t 22) (.t 24) (.k (.bool false))), oM 26 25, Og 26 true 27 (.mov (.t 0)), Og 26 true 28 (.mov (.t 5)), Og 26 true 29 (.nilc (.t 27)), Og 26 true 30 (.addo 2 (.t 29)), Og 26 true 31 (.ixA 9 1 (.t 30) (.t 28)), Og 26 true 32 (.load false 1 (.t 31)), Og 26 true 33 (.bin .neq (.t 32) (Ki (-1))), Oo 34 (.pick (.t 26) (.t 33) (.k (.bool false))), oM 17 34])
 (.cond (.t 17) (.drawn [Qo (oM 35 0), Qo (oM 36 0), Qo (Oo 37 (.nilc (.t 36))), Qo (oA 38 29 37), Qo (oL 39 38), Qo (oM 40 0), Qo (oM 41 5), Qo (Oo 42 (.nilc (.t 40))), Qo (oA 43 2 42), Qo (Oo 44 (.ixA 9 1 (.t 43) (.t 41))), Qo (oL 45 44), Qe (Oo 46 (.bslc 1 1 [Zi 0] [(0, (.t 45))])), Qe (Oo 47 (.app 1 8 [Zi 0] (.t 39) (.t 46))), Qo (Oo 48 (.nilc (.t 35))), Qo (oA 49 29 48), Qe (oS 1 49 47)])
 (.seq (.region [oA 51 0 3, oA 52 0 51, oL 53 52, oB 54 .eql 53 3, oM 55 54, Og 55 true 56 (.mov (.t 6)), Og 55 true 57 (.bin .geq (.t 56) (Ki 2)), Oo 58 (.pick (.t 55) (.t 57) (.k (.bool false))), oM 59 58, Og 59 true 60 (.mov (.t 7)), Og 59 true 61 (.un .not (.t 60)), Oo 62 (.pick (.t 59) (.t 61) (.k (.bool false))), oM 50 62])
 (.cond (.t 50) (.drawnT [] (.st 0 (.st 1 (.st 2 (.st 3 (.st 4 (.st 5 (.st 6 (.st 7 (.st 8 (.st 10 (.st 11 (.st 9 (.st 12 (.st 13 .nil)))))))))))))) [oM 63 0, oM 64 5, oM 65 0, oM 66 5, oA 67 3 3, oL 68 67, Oo 69 (.nilc (.t 63)), oA 70 2 69, Oo 71 (.ixA 9 1 (.t 70) (.t 64)), oS 1 71 68, Oo 72 (.nilc (.t 65)), oA 73 11 72, Oo 74 (.ixA 9 1 (.t 73) (.t 66)), On (.store 1 (.t 74) (.k (.bool true)))])
 (.seq (.region [Oo 4 (.mov (.k (.bool false)))])
 .ret))))))
 (.seq (.region [Oo 4 (.mov (.k (.bool true)))])
 .ret)))))
abbrev h130 : HF := ⟨h130c, [.tmp 4], 75, false⟩
theorem h130_ok : CK Tryz.f130 h130c := by unfold CK; kernel_rfl
theorem r130_ok : RK Tryz.f130 [.tmp 4] := by unfold RK; kernel_rfl
def h131c : HC :=
 (.seq (.region [Oo 3 (.box (.t 1))])
 (.seq (.seq (.region [oA 6 1 3, oL 7 6])
 (.block 0 (.seq (.region [oB 9 .eql 7 2, oM 8 9])
 (.cond (.t 8) (.drawn [Qo (oM 10 0), Qo (oM 11 0), Qo (Oo 12 (.nilc (.t 11))), Qo (oA 13 29 12), Qo (oL 14 13), Qo (oM 15 0), Qo (Oo 16 (.nilc (.t 15))), Qo (oA 17 1 16), Qo (oL 18 17), Qe (Oo 19 (.bslc 1 1 [Zi 0] [(0, (.t 18))])), Qe (Oo 20 (.app 1 8 [Zi 0] (.t 14) (.t 19))), Qo (Oo 21 (.nilc (.t 10))), Qo (oA 22 29 21), Qe (oS 1 22 20)])
 (.seq (.region [oB 24 .eql 7 3, oM 23 24])
 (.cond (.t 23) (.drawn [Qo (oM 25 0), Qo (oM 26 0), Qo (oA 27 0 3), Qo (oL 28 27), Qo (Oo 29 (.nilc (.t 26))), Qo (oA 30 20 29), Qo (Oo 31 (.ixA 9 1 (.t 30) (.t 28))), Qo (oL 32 31), Qo (Oo 33 (.nilc (.t 25))), Qo (oA 34 1 33), Qe (oS 1 34 32)])
 .ret))))))
 (.seq (.region [oM 36 0, oA 37 0 3, oL 38 37, Oo 39 (.call 132 [(.t 36), (.t 38)]), oM 35 39, oE 40 35 0, oE 41 35 1, oM 4 40, oM 5 41])
 (.seq (.region [oM 42 4, oB 43 .geq 42 1])
 (.cond (.t 43) (.drawnT [] (.st 0 (.st 1 (.st 2 (.st 3 (.st 4 (.st 6 (.st 7 (.st 8 (.st 9 (.st 10 (.st 11 (.st 12 (.st 14 (.st 15 (.br 5 (.st 13 (.st 16 (.st 17 .nil))) (.br 13 (.st 5 (.st 16 (.st 17 .nil))) .stop)))))))))))))))) [oM 44 0, oA 45 0 3, oL 46 45, oM 47 0, oA 48 0 3, oL 49 48, oM 50 0, Oo 51 (.nilc (.t 50)), oA 52 1 51, oL 53 52, Oo 54 (.nilc (.t 44)), oA 55 2 54, Oo 56 (.ixA 9 1 (.t 55) (.t 46)), oS 1 56 53, Oo 57 (.nilc (.t 47)), oA 58 11 57, Oo 59 (.ixA 9 1 (.t 58) (.t 49)), On (.store 1 (.t 59) (.k (.bool false)))])
 .skip)))))
abbrev h131 : HF := ⟨h131c, [], 60, false⟩
theorem h131_ok : CK Tryz.f131 h131c := by unfold CK; kernel_rfl
theorem r131_ok : RK Tryz.f131 [] := by unfold RK; kernel_rfl
def h132c : HC :=
 (.seq (.region [oK 4 0, Oo 5 (.mov (.k (.bool false)))])
 (.seq (.region [oM 7 0, Oo 8 (.nilc (.t 7)), oA 9 0 8, oL 10 9, oM 11 1, Oo 12 (.call 78 [(.t 10), (.t 11)]), oM 6 12])
 (.seq (.seq (.region [oM 13 6, Oo 14 (.isnil true false (.t 13))])
 (.cond (.t 14) (.seq (.region [Oo 4 (.mov (Ki (-1))), Oo 5 (.mov (.k (.bool false)))])
 .ret)
 .skip))
 (.seq (.drawn [Qo (oM 15 6), Qo (Oo 16 (.nilc (.t 15))), Qo (oA 17 1 16), Qo (oL 18 17), Qo (oM 19 6), Qo (Oo 20 (.nilc (.t 19))), Qo (oA 21 2 20), Qo (oL 22 21), Qo (oM 23 6), Qo (Oo 24 (.nilc (.t 23))), Qo (oA 25 1 24), Qo (oL 26 25), Qo (oC 27 .neq 22 26), Qo (oM 4 18), Qo (oM 5 27)])
 .ret))))
abbrev h132 : HF := ⟨h132c, [.tmp 4, .tmp 5], 28, false⟩
theorem h132_ok : CK Tryz.f132 h132c := by unfold CK; kernel_rfl
theorem r132_ok : RK Tryz.f132 [.tmp 4, .tmp 5] := by unfold RK; kernel_rfl
def h143c : HC :=
 (.seq (.region [oK 2 0])
 (.seq (.region [oM 3 0, oM 4 0, Oo 5 (.un .neg (.t 4)), Oo 6 (.max2 (.t 3) (.t 5)), oM 2 6])
 .ret))
abbrev h143 : HF := ⟨h143c, [.tmp 2], 7, false⟩
theorem h143_ok : CK Tryz.f143 h143c := by unfold CK; kernel_rfl
theorem r143_ok : RK Tryz.f143 [.tmp 2] := by unfold RK; kernel_rfl
def h146c : HC :=
 (.seq (.region [oK 2 0, Oo 3 (.mov (.k (.bool false)))])
 (.seq (.region [oM 4 0, Oo 5 (.conv .i64 (.t 4)), oB 6 .sub 5 48, oM 7 0, Oo 8 (.bin .leq (.k (.int .u8 48)) (.t 7)), oM 9 8, Og 9 true 10 (.mov (.t 0)), Og 9 true 11 (.bin .leq (.t 10) (.k (.int .u8 57))), Oo 12 (.pick (.t 9) (.t 11) (.k (.bool false))), oM 2 6, oM 3 12])
 .ret))
abbrev h146 : HF := ⟨h146c, [.tmp 2, .tmp 3], 13, false⟩
theorem h146_ok : CK Tryz.f146 h146c := by unfold CK; kernel_rfl
theorem r146_ok : RK Tryz.f146 [.tmp 2, .tmp 3] := by unfold RK; kernel_rfl
def h163c : HC :=
 (.seq (.region [oK 4 0])
 (.seq (.region [oM 7 0, Oo 8 (.call 195 [(.t 7)]), oM 5 8])
 (.seq (.region [oM 9 1, Oo 10 (.call 195 [(.t 9)]), oM 6 10])
 (.seq (.seq (.region [oM 11 5])
 (.cond (.t 11) (.seq (.seq (.region [oM 12 6])
 (.cond (.t 12) (.seq (.region [oK 4 0])
 .ret)
 .skip))
 (.seq (.region [Oo 4 (.mov (Ki (-1)))])
 .ret))
 .skip))
 (.seq (.seq (.region [oM 13 6])
 (.cond (.t 13) (.seq (.region [oK 4 1])
 .ret)
 .skip))
 (.seq (.seq (.region [oM 14 0, oM 15 1, oC 16 .lss 14 15])
 (.cond (.t 16) (.seq (.region [Oo 4 (.mov (Ki (-1)))])
 .ret)
 .skip))
 (.seq (.seq (.region [oM 17 0, oM 18 1, oC 19 .gtr 17 18])
 (.cond (.t 19) (.seq (.region [oK 4 1])
 .ret)
 .skip))
 (.seq (.region [oK 4 0])
 .ret))))))))
abbrev h163 : HF := ⟨h163c, [.tmp 4], 20, false⟩
theorem h163_ok : CK Tryz.f163 h163c := by unfold CK; kernel_rfl
theorem r163_ok : RK Tryz.f163 [.tmp 4] := by unfold RK; kernel_rfl
def h169l0 : HC :=
 (.seq (.region [oC 9 .lss 8 7])
 (.seq (.cond (.t 9) .skip
 (.exit 0))
 (.seq (.block 1 (.seq (.region [oM 10 8, oM 5 10])
 (.seq (.region [oM 11 1, oM 12 0, oM 13 5, oI 14 3 12 13, oG 15 3 14, Oo 16 (.callv (.t 11) [(.t 15)])])
 (.cond (.t 16) (.seq (.region [oM 17 5, oM 4 17])
 .ret)
 .skip))))
 (.region [oB 18 .add 8 1, oM 8 18]))))
def h169c : HC :=
 (.seq (.region [oK 4 0])
 (.seq (.seq (.region [oM 6 0, oN 7 6, oK 8 0])
 (.block 0 (.loop [0, 0, 5, 0] h169l0)))
 (.seq (.region [Oo 4 (.mov (Ki (-1)))])
 .ret)))
abbrev h169 : HF := ⟨h169c, [.tmp 4], 19, false⟩
theorem h169_ok : CK Tryz.f169 h169c := by unfold CK; kernel_rfl
theorem r169_ok : RK Tryz.f169 [.tmp 4] := by unfold RK; kernel_rfl
def h170l0 : HC :=
 (.seq (.region [oC 9 .lss 8 7])
 (.seq (.cond (.t 9) .skip
 (.exit 0))
 (.seq (.block 1 (.seq (.region [oM 10 8, oM 5 10])
 (.seq (.region [oM 11 1, oM 12 0, oM 13 5, oI 14 2 12 13, oG 15 2 14, Oo 16 (.callv (.t 11) [(.t 15)])])
 (.cond (.t 16) (.seq (.region [oM 17 5, oM 4 17])
 .ret)
 .skip))))
 (.region [oB 18 .add 8 1, oM 8 18]))))
def h170c : HC :=
 (.seq (.region [oK 4 0])
 (.seq (.seq (.region [oM 6 0, oN 7 6, oK 8 0])
 (.block 0 (.loop [0, 0, 5, 0] h170l0)))
 (.seq (.region [Oo 4 (.mov (Ki (-1)))])
 .ret)))
abbrev h170 : HF := ⟨h170c, [.tmp 4], 19, false⟩
theorem h170_ok : CK Tryz.f170 h170c := by unfold CK; kernel_rfl
theorem r170_ok : RK Tryz.f170 [.tmp 4] := by unfold RK; kernel_rfl
def h171c : HC :=
 (.seq (.region [Oo 2 (.box (.t 0)), Oo 3 (.mov (.k (.bool false)))])
 (.seq (.region [oA 4 0 2, oL 5 4, oA 6 1 1, oL 7 6, oC 8 .eql 5 7, oM 3 8])
 .ret))
abbrev h171 : HF := ⟨h171c, [.tmp 3], 9, false⟩
theorem h171_ok : CK Tryz.f171 h171c := by unfold CK; kernel_rfl
theorem r171_ok : RK Tryz.f171 [.tmp 3] := by unfold RK; kernel_rfl
def h172l0 : HC :=
 (.seq (.seq (.region [oM 16 6, oM 17 0, oN 18 17, oC 19 .lss 16 18])
 (.cond (.t 19) .skip
 (.exit 0)))
 (.seq (.block 1 (.seq (.region [oM 22 0, oM 23 6, oI 24 3 22 23, oG 25 3 24, Oo 7 (.alloc [Zi 0, Zi 0, Zi 0]), oS 3 7 25])
 (.seq (.region [oM 26 1, oG 27 3 7, Oo 28 (.callv (.t 26) [(.t 27)]), Oo 29 (.un .not (.t 28))])
 (.cond (.t 29) (.seq (.region [oM 30 0, oM 31 5, oG 32 3 7, oI 33 3 30 31, oS 3 33 32])
 (.region [oM 34 5, oB 35 .add 34 1, oM 5 35]))
 .skip))))
 (.region [oM 20 6, oB 21 .add 20 1, oM 6 21])))
def h172c : HC :=
 (.seq (.region [Oo 4 (.mov (.k (.slice none 0 0)))])
 (.seq (.regR [169, 100169] [oM 8 0, oM 9 1, Oo 10 (.call 169 [(.t 8), (.t 9)]), oM 5 10])
 (.seq (.seq (.region [oM 11 5, Oo 12 (.bin .eql (.t 11) (Ki (-1)))])
 (.cond (.t 12) (.seq (.region [oM 13 0, oM 4 13])
 .ret)
 .skip))
 (.seq (.seq (.region [oM 14 5, oB 15 .add 14 1, oM 6 15])
 (.block 0 (.loop [0, 0, 3, 0] h172l0)))
 (.seq (.region [oM 36 0, oM 37 5, Oo 38 (.slL 3 (.t 36) (some (.t 37)) none), On (.clr 3 [Zi 0, Zi 0, Zi 0] (.t 38))])
 (.seq (.region [oM 39 0, oM 40 5, Oo 41 (.slL 3 (.t 39) none (some (.t 40))), oM 4 41])
 .ret))))))
abbrev h172 : HF := ⟨h172c, [.tmp 4], 42, true⟩
theorem h172_ok : CK Tryz.f172 h172c := by unfold CK; kernel_rfl
theorem r172_ok : RK Tryz.f172 [.tmp 4] := by unfold RK; kernel_rfl
def h173c : HC :=
 (.seq (.region [Oo 2 (.box (.t 0)), Oo 3 (.mov (.k (.bool false)))])
 (.seq (.region [oA 4 0 2, oL 5 4, oA 6 1 1, oL 7 6, oC 8 .eql 5 7, oM 3 8])
 .ret))
abbrev h173 : HF := ⟨h173c, [.tmp 3], 9, false⟩
theorem h173_ok : CK Tryz.f173 h173c := by unfold CK; kernel_rfl
theorem r173_ok : RK Tryz.f173 [.tmp 3] := by unfold RK; kernel_rfl
def h174c : HC :=
 (.seq (.region [Oo 2 (.box (.t 0)), Oo 3 (.mov (.k (.bool false)))])
 (.seq (.region [oL 4 1, Oo 5 (.mkfn 175 [(.t 2)]), Oo 6 (.call 114 [(.t 4), (.t 5)]), oM 3 6])
 .ret))
abbrev h174 : HF := ⟨h174c, [.tmp 3], 7, false⟩
theorem h174_ok : CK Tryz.f174 h174c := by unfold CK; kernel_rfl
theorem r174_ok : RK Tryz.f174 [.tmp 3] := by unfold RK; kernel_rfl
def h175c : HC :=
 (.seq (.region [Oo 2 (.box (.t 0)), Oo 3 (.mov (.k (.bool false)))])
 (.seq (.region [oA 4 1 2, oL 5 4, oL 6 1, oC 7 .gtr 5 6, oM 3 7])
 .ret))
abbrev h175 : HF := ⟨h175c, [.tmp 3], 8, false⟩
theorem h175_ok : CK Tryz.f175 h175c := by unfold CK; kernel_rfl
theorem r175_ok : RK Tryz.f175 [.tmp 3] := by unfold RK; kernel_rfl
def h176l0 : HC :=
 (.seq (.seq (.region [oM 15 9, oM 16 10, oC 17 .lss 15 16])
 (.cond (.t 17) .skip
 (.exit 0)))
 (.block 1 (.seq (.region [oM 18 9, oM 19 10, oC 20 .add 18 19, Oo 21 (.conv .u64 (.t 20)), Oo 22 (.bin .shr (.t 21) (.k (.int .u64 1))), Oo 23 (.conv .i64 (.t 22)), oM 11 23])
 (.seq (.region [oM 24 2, oM 25 0, oM 26 11, oI 27 3 25 26, oG 28 3 27, oM 29 1, Oo 30 (.callv (.t 24) [(.t 28), (.t 29)]), oB 31 .lss 30 0])
 (.cond (.t 31) (.region [oM 32 11, oB 33 .add 32 1, oM 9 33])
 (.region [oM 34 11, oM 10 34]))))))
def h176c : HC :=
 (.seq (.region [oK 6 0, Oo 7 (.mov (.k (.bool false)))])
 (.seq (.region [oM 12 0, oN 13 12, oM 8 13])
 (.seq (.region [oM 14 8, oK 9 0, oM 10 14])
 (.seq (.block 0 (.loop [0, 0, 0, 5, 0, 0] h176l0))
 (.seq (.region [oM 35 9, oM 36 9, oM 37 8, oC 38 .lss 36 37, oM 39 38, Og 39 true 40 (.mov (.t 2)), Og 39 true 41 (.mov (.t 0)), Og 39 true 42 (.mov (.t 9)), Og 39 true 43 (.ixL 3 (.t 41) (.t 42)), Og 39 true 44 (.load true 3 (.t 43)), Og 39 true 45 (.mov (.t 1)), Og 39 true 46 (.callv (.t 40) [(.t 44), (.t 45)]), Og 39 true 47 (.bin .eql (.t 46) (Ki 0)), Oo 48 (.pick (.t 39) (.t 47) (.k (.bool false))), oM 6 35, oM 7 48])
 .ret)))))
abbrev h176 : HF := ⟨h176c, [.tmp 6, .tmp 7], 49, false⟩
theorem h176_ok : CK Tryz.f176 h176c := by unfold CK; kernel_rfl
theorem r176_ok : RK Tryz.f176 [.tmp 6, .tmp 7] := by unfold RK; kernel_rfl
def h177c : HC :=
 (.seq (.region [Oo 2 (.box (.t 0)), oK 4 0])
 (.seq (.region [oA 5 0 2, oL 6 5, oM 7 1, Oo 8 (.call 163 [(.t 6), (.t 7)]), oM 4 8])
 .ret))
abbrev h177 : HF := ⟨h177c, [.tmp 4], 9, false⟩
theorem h177_ok : CK Tryz.f177 h177c := by unfold CK; kernel_rfl
theorem r177_ok : RK Tryz.f177 [.tmp 4] := by unfold RK; kernel_rfl
def h178c : HC :=
 (.seq (.region [Oo 3 (.box (.t 1))])
 (.seq (.regR [126, 100126] [oM 7 0, oA 8 0 3, oL 9 8, Oo 10 (.call 126 [(.t 7), (.t 9)]), oM 6 10, oE 11 6 0, oE 12 6 1, oM 4 11, oM 5 12])
 (.seq (.region [oA 13 1 3, oL 14 13, oB 15 .eql 14 0, oM 16 15, Og 16 true 17 (.mov (.t 5)), Og 16 true 18 (.un .not (.t 17)), Oo 19 (.pick (.t 16) (.t 18) (.k (.bool false)))])
 (.cond (.t 19) (.drawnT [200] (.st 0 (.st 1 (.st 2 (.st 3 (.st 4 (.st 6 (.st 7 (.st 8 (.st 9 (.br 5 (.st 10 (.st 11 (.st 12 (.st 13 (.st 14 (.st 15 .nil)))))) (.br 10 (.st 5 (.st 11 (.st 12 (.st 13 (.st 14 (.st 15 .nil)))))) .stop))))))))))) [oM 20 0, oM 21 0, Oo 22 (.nilc (.t 21)), oA 23 0 22, oA 24 0 23, oL 25 24, oM 26 4, oA 27 0 3, oL 28 27, Oo 29 (.build [Zi 0, Zi 0, Zi 0] [(0, 1, (.t 28))]), Oo 30 (.bslc 3 1 [Zi 0, Zi 0, Zi 0] [(0, (.t 29))]), Oo 31 (.call 200 [(.t 25), (.t 26), (.t 30)]), Oo 32 (.nilc (.t 20)), oA 33 0 32, oA 34 0 33, oS 1 34 31])
 .skip))))
abbrev h178 : HF := ⟨h178c, [], 35, false⟩
theorem h178_ok : CK Tryz.f178 h178c := by unfold CK; kernel_rfl
theorem r178_ok : RK Tryz.f178 [] := by unfold RK; kernel_rfl
def h179c : HC :=
 (.seq (.region [Oo 6 (.mov (.k (.slice none 0 0)))])
 (.seq .bad
 (.seq (.seq (.region [oM 14 1, oM 15 2, oC 16 .eql 14 15])
 (.cond (.t 16) (.seq (.region [oM 17 0, oM 6 17])
 .ret)
 .skip))
 (.seq (.region [oM 18 0, oN 19 18, oM 7 19])
 (.seq (.drawn [Qo (oM 20 0), Qo (oM 21 1), Qo (Oo 22 (.slL 2 (.t 20) none (some (.t 21)))), Qo (oM 23 0), Qo (oM 24 2), Qo (Oo 25 (.slL 2 (.t 23) (some (.t 24)) none)), Qe (Oo 26 (.app 2 16 [Zi 0, Zi 0] (.t 22) (.t 25))), Qo (oM 0 26)])
 (.seq (.region [oM 27 0, oM 28 0, oN 29 28, oM 30 7, Oo 31 (.slL 2 (.t 27) (some (.t 29)) (some (.t 30))), On (.clr 2 [Zi 0, Zi 0] (.t 31))])
 (.seq (.region [oM 32 0, oM 6 32])
 .ret)))))))
abbrev h179 : HF := ⟨h179c, [.tmp 6], 33, true⟩
theorem h179_ok : CK Tryz.f179 h179c := by unfold CK; kernel_rfl
theorem r179_ok : RK Tryz.f179 [.tmp 6] := by unfold RK; kernel_rfl
def h195c : HC :=
 (.seq (.region [Oo 2 (.mov (.k (.bool false)))])
 (.seq (.region [oM 3 0, oM 4 0, oC 5 .neq 3 4, oM 2 5])
 .ret))
abbrev h195 : HF := ⟨h195c, [.tmp 2], 6, false⟩
theorem h195_ok : CK Tryz.f195 h195c := by unfold CK; kernel_rfl
theorem r195_ok : RK Tryz.f195 [.tmp 2] := by unfold RK; kernel_rfl
def h200c : HC :=
 (.seq (.region [Oo 6 (.mov (.k (.slice none 0 0)))])
 (.seq (.region [oM 10 0, oM 11 1, Oo 12 (.slL 3 (.t 10) (some (.t 11)) none)])
 (.seq (.region [oM 13 2, oN 14 13, oM 7 14])
 (.seq (.seq (.region [oM 15 7, oB 16 .eql 15 0])
 (.cond (.t 16) (.seq (.region [oM 17 0, oM 6 17])
 .ret)
 .skip))
 (.seq (.region [oM 18 0, oN 19 18, oM 8 19])
 (.seq (.seq (.region [oM 20 1, oM 21 8, oC 22 .eql 20 21])
 (.cond (.t 22) (.seq (.region [oM 23 0, oM 24 2, Oo 25 (.app 3 24 [Zi 0, Zi 0, Zi 0] (.t 23) (.t 24)), oM 6 25])
 .ret)
 .skip))
 (.seq (.seq .bad
 (.cond (.t 31) (.seq .bad
 (.seq .bad
 (.seq .bad
 (.seq (.region [oM 55 9, oM 6 55])
 .ret))))
 .skip))
 (.seq (.region [oM 56 0, oM 57 8, oM 58 7, oC 59 .add 57 58, Oo 60 (.slL 3 (.t 56) none (some (.t 59))), oM 0 60])
 (.seq (.seq .bad
 (.cond (.t 68) (.seq .bad
 (.seq .bad
 (.seq (.region [oM 83 0, oM 6 83])
 .ret)))
 .skip))
 (.seq .bad
 (.seq (.region [oM 89 0, oM 90 1, Oo 91 (.slL 3 (.t 89) (some (.t 90)) none), oM 92 7, Oo 93 (.call 217 [(.t 91), (.t 92)])])
 (.seq (.region [oM 94 0, oM 6 94])
 .ret))))))))))))
abbrev h200 : HF := ⟨h200c, [.tmp 6], 95, true⟩
theorem h200_ok : CK Tryz.f200 h200c := by unfold CK; kernel_rfl
theorem r200_ok : RK Tryz.f200 [.tmp 6] := by unfold RK; kernel_rfl
def Tbt : FuncId → Option HF
  | 8 => some h8
  | 11 => some h11
  | 12 => some h12
  | 13 => some h13
  | 14 => some h14
  | 15 => some h15
  | 17 => some h17
  | 19 => some h19
  | 22 => some h22
  | 30 => some h30
  | 31 => some h31
  | 33 => some h33
  | 34 => some h34
  | 35 => some h35
  | 36 => some h36
  | 37 => some h37
  | 39 => some h39
  | 47 => some h47
  | 48 => some h48
  | 49 => some h49
  | 50 => some h50
  | 51 => some h51
  | 52 => some h52
  | 53 => some h53
  | 54 => some h54
  | 55 => some h55
  | 56 => some h56
  | 57 => some h57
  | 58 => some h58
  | 59 => some h59
  | 60 => some h60
  | 61 => some h61
  | 62 => some h62
  | 63 => some h63
  | 64 => some h64
  | 65 => some h65
  | 66 => some h66
  | 67 => some h67
  | 68 => some h68
  | 72 => some h72
  | 75 => some h75
  | 76 => some h76
  | 78 => some h78
  | 80 => some h80
  | 82 => some h82
  | 83 => some h83
  | 85 => some h85
  | 86 => some h86
  | 87 => some h87
  | 88 => some h88
  | 89 => some h89
  | 111 => some h111
  | 112 => some h112
  | 113 => some h113
  | 114 => some h114
  | 115 => some h115
  | 116 => some h116
  | 117 => some h117
  | 118 => some h118
  | 119 => some h119
  | 120 => some h120
  | 121 => some h121
  | 122 => some h122
  | 123 => some h123
  | 124 => some h124
  | 125 => some h125
  | 126 => some h126
  | 127 => some h127
  | 129 => some h129
  | 130 => some h130
  | 131 => some h131
  | 132 => some h132
  | 143 => some h143
  | 146 => some h146
  | 163 => some h163
  | 169 => some h169
  | 170 => some h170
  | 171 => some h171
  | 172 => some h172
  | 173 => some h173
  | 174 => some h174
  | 175 => some h175
  | 176 => some h176
  | 177 => some h177
  | 178 => some h178
  | 195 => some h195
  | _ => none
def Tb (B : CallT) : HT := ⟨Tbt, B⟩
theorem Tb_ok (B : CallT) : HTOK Tryz.prog (Tb B) := by
  intro f h hf
  change Tbt f = some h at hf
  unfold Tbt at hf
  split at hf
  · exact tk hf (by kernel_rfl) Tryz.func8 Tryz.ntmps8 h8_ok r8_ok
  · exact tk hf (by kernel_rfl) Tryz.func11 Tryz.ntmps11 h11_ok r11_ok
  · exact tk hf (by kernel_rfl) Tryz.func12 Tryz.ntmps12 h12_ok r12_ok
  · exact tk hf (by kernel_rfl) Tryz.func13 Tryz.ntmps13 h13_ok r13_ok
  · exact tk hf (by kernel_rfl) Tryz.func14 Tryz.ntmps14 h14_ok r14_ok
  · exact tk hf (by kernel_rfl) Tryz.func15 Tryz.ntmps15 h15_ok r15_ok
  · exact tk hf (by kernel_rfl) Tryz.func17 Tryz.ntmps17 h17_ok r17_ok
  · exact tk hf (by kernel_rfl) Tryz.func19 Tryz.ntmps19 h19_ok r19_ok
  · exact tk hf (by kernel_rfl) Tryz.func22 Tryz.ntmps22 h22_ok r22_ok
  · exact tk hf (by kernel_rfl) Tryz.func30 Tryz.ntmps30 h30_ok r30_ok
  · exact tk hf (by kernel_rfl) Tryz.func31 Tryz.ntmps31 h31_ok r31_ok
  · exact tk hf (by kernel_rfl) Tryz.func33 Tryz.ntmps33 h33_ok r33_ok
  · exact tk hf (by kernel_rfl) Tryz.func34 Tryz.ntmps34 h34_ok r34_ok
  · exact tk hf (by kernel_rfl) Tryz.func35 Tryz.ntmps35 h35_ok r35_ok
  · exact tk hf (by kernel_rfl) Tryz.func36 Tryz.ntmps36 h36_ok r36_ok
  · exact tk hf (by kernel_rfl) Tryz.func37 Tryz.ntmps37 h37_ok r37_ok
  · exact tk hf (by kernel_rfl) Tryz.func39 Tryz.ntmps39 h39_ok r39_ok
  · exact tk hf (by kernel_rfl) Tryz.func47 Tryz.ntmps47 h47_ok r47_ok
  · exact tk hf (by kernel_rfl) Tryz.func48 Tryz.ntmps48 h48_ok r48_ok
  · exact tk hf (by kernel_rfl) Tryz.func49 Tryz.ntmps49 h49_ok r49_ok
  · exact tk hf (by kernel_rfl) Tryz.func50 Tryz.ntmps50 h50_ok r50_ok
  · exact tk hf (by kernel_rfl) Tryz.func51 Tryz.ntmps51 h51_ok r51_ok
  · exact tk hf (by kernel_rfl) Tryz.func52 Tryz.ntmps52 h52_ok r52_ok
  · exact tk hf (by kernel_rfl) Tryz.func53 Tryz.ntmps53 h53_ok r53_ok
  · exact tk hf (by kernel_rfl) Tryz.func54 Tryz.ntmps54 h54_ok r54_ok
  · exact tk hf (by kernel_rfl) Tryz.func55 Tryz.ntmps55 h55_ok r55_ok
  · exact tk hf (by kernel_rfl) Tryz.func56 Tryz.ntmps56 h56_ok r56_ok
  · exact tk hf (by kernel_rfl) Tryz.func57 Tryz.ntmps57 h57_ok r57_ok
  · exact tk hf (by kernel_rfl) Tryz.func58 Tryz.ntmps58 h58_ok r58_ok
  · exact tk hf (by kernel_rfl) Tryz.func59 Tryz.ntmps59 h59_ok r59_ok
  · exact tk hf (by kernel_rfl) Tryz.func60 Tryz.ntmps60 h60_ok r60_ok
  · exact tk hf (by kernel_rfl) Tryz.func61 Tryz.ntmps61 h61_ok r61_ok
  · exact tk hf (by kernel_rfl) Tryz.func62 Tryz.ntmps62 h62_ok r62_ok
  · exact tk hf (by kernel_rfl) Tryz.func63 Tryz.ntmps63 h63_ok r63_ok
  · exact tk hf (by kernel_rfl) Tryz.func64 Tryz.ntmps64 h64_ok r64_ok
  · exact tk hf (by kernel_rfl) Tryz.func65 Tryz.ntmps65 h65_ok r65_ok
  · exact tk hf (by kernel_rfl) Tryz.func66 Tryz.ntmps66 h66_ok r66_ok
  · exact tk hf (by kernel_rfl) Tryz.func67 Tryz.ntmps67 h67_ok r67_ok
  · exact tk hf (by kernel_rfl) Tryz.func68 Tryz.ntmps68 h68_ok r68_ok
  · exact tk hf (by kernel_rfl) Tryz.func72 Tryz.ntmps72 h72_ok r72_ok
  · exact tk hf (by kernel_rfl) Tryz.func75 Tryz.ntmps75 h75_ok r75_ok
  · exact tk hf (by kernel_rfl) Tryz.func76 Tryz.ntmps76 h76_ok r76_ok
  · exact tk hf (by kernel_rfl) Tryz.func78 Tryz.ntmps78 h78_ok r78_ok
  · exact tk hf (by kernel_rfl) Tryz.func80 Tryz.ntmps80 h80_ok r80_ok
  · exact tk hf (by kernel_rfl) Tryz.func82 Tryz.ntmps82 h82_ok r82_ok
  · exact tk hf (by kernel_rfl) Tryz.func83 Tryz.ntmps83 h83_ok r83_ok
  · exact tk hf (by kernel_rfl) Tryz.func85 Tryz.ntmps85 h85_ok r85_ok
  · exact tk hf (by kernel_rfl) Tryz.func86 Tryz.ntmps86 h86_ok r86_ok
  · exact tk hf (by kernel_rfl) Tryz.func87 Tryz.ntmps87 h87_ok r87_ok
  · exact tk hf (by kernel_rfl) Tryz.func88 Tryz.ntmps88 h88_ok r88_ok
  · exact tk hf (by kernel_rfl) Tryz.func89 Tryz.ntmps89 h89_ok r89_ok
  · exact tk hf (by kernel_rfl) Tryz.func111 Tryz.ntmps111 h111_ok r111_ok
  · exact tk hf (by kernel_rfl) Tryz.func112 Tryz.ntmps112 h112_ok r112_ok
  · exact tk hf (by kernel_rfl) Tryz.func113 Tryz.ntmps113 h113_ok r113_ok
  · exact tk hf (by kernel_rfl) Tryz.func114 Tryz.ntmps114 h114_ok r114_ok
  · exact tk hf (by kernel_rfl) Tryz.func115 Tryz.ntmps115 h115_ok r115_ok
  · exact tk hf (by kernel_rfl) Tryz.func116 Tryz.ntmps116 h116_ok r116_ok
  · exact tk hf (by kernel_rfl) Tryz.func117 Tryz.ntmps117 h117_ok r117_ok
  · exact tk hf (by kernel_rfl) Tryz.func118 Tryz.ntmps118 h118_ok r118_ok
  · exact tk hf (by kernel_rfl) Tryz.func119 Tryz.ntmps119 h119_ok r119_ok
  · exact tk hf (by kernel_rfl) Tryz.func120 Tryz.ntmps120 h120_ok r120_ok
  · exact tk hf (by kernel_rfl) Tryz.func121 Tryz.ntmps121 h121_ok r121_ok
  · exact tk hf (by kernel_rfl) Tryz.func122 Tryz.ntmps122 h122_ok r122_ok
  · exact tk hf (by kernel_rfl) Tryz.func123 Tryz.ntmps123 h123_ok r123_ok
  · exact tk hf (by kernel_rfl) Tryz.func124 Tryz.ntmps124 h124_ok r124_ok
  · exact tk hf (by kernel_rfl) Tryz.func125 Tryz.ntmps125 h125_ok r125_ok
  · exact tk hf (by kernel_rfl) Tryz.func126 Tryz.ntmps126 h126_ok r126_ok
  · exact tk hf (by kernel_rfl) Tryz.func127 Tryz.ntmps127 h127_ok r127_ok
  · exact tk hf (by kernel_rfl) Tryz.func129 Tryz.ntmps129 h129_ok r129_ok
  · exact tk hf (by kernel_rfl) Tryz.func130 Tryz.ntmps130 h130_ok r130_ok
  · exact tk hf (by kernel_rfl) Tryz.func131 Tryz.ntmps131 h131_ok r131_ok
  · exact tk hf (by kernel_rfl) Tryz.func132 Tryz.ntmps132 h132_ok r132_ok
  · exact tk hf (by kernel_rfl) Tryz.func143 Tryz.ntmps143 h143_ok r143_ok
  · exact tk hf (by kernel_rfl) Tryz.func146 Tryz.ntmps146 h146_ok r146_ok
  · exact tk hf (by kernel_rfl) Tryz.func163 Tryz.ntmps163 h163_ok r163_ok
  · exact tk hf (by kernel_rfl) Tryz.func169 Tryz.ntmps169 h169_ok r169_ok
  · exact tk hf (by kernel_rfl) Tryz.func170 Tryz.ntmps170 h170_ok r170_ok
  · exact tk hf (by kernel_rfl) Tryz.func171 Tryz.ntmps171 h171_ok r171_ok
  · exact tk hf (by kernel_rfl) Tryz.func172 Tryz.ntmps172 h172_ok r172_ok
  · exact tk hf (by kernel_rfl) Tryz.func173 Tryz.ntmps173 h173_ok r173_ok
  · exact tk hf (by kernel_rfl) Tryz.func174 Tryz.ntmps174 h174_ok r174_ok
  · exact tk hf (by kernel_rfl) Tryz.func175 Tryz.ntmps175 h175_ok r175_ok
  · exact tk hf (by kernel_rfl) Tryz.func176 Tryz.ntmps176 h176_ok r176_ok
  · exact tk hf (by kernel_rfl) Tryz.func177 Tryz.ntmps177 h177_ok r177_ok
  · exact tk hf (by kernel_rfl) Tryz.func178 Tryz.ntmps178 h178_ok r178_ok
  · exact tk hf (by kernel_rfl) Tryz.func195 Tryz.ntmps195 h195_ok r195_ok
  · cases hf
end Go.Proofs.YtinageiefahjfaaGreatDoor
