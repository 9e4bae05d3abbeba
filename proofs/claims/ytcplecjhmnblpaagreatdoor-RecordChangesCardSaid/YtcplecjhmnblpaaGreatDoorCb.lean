/- The functions of the translation as codes with hints: printed by a program, held by the kernel against the translation. Conditions: none. -/
import Derived.Test.YtcplecjhmnblpaaGreatDoorNd
import Derived.Test.YtcplecjhmnblpaaGreatDoorChecked
import Derived.KernelRfl
namespace Go.Proofs.YtcplecjhmnblpaaGreatDoor
abbrev oA (d o x:Nat):AOp:=Oo d (.addo o (.t x))
abbrev oL (d x:Nat):AOp:=Oo d (.load false 1 (.t x))
abbrev oG (d n x:Nat):AOp:=Oo d (.load true n (.t x))
abbrev oM (d x:Nat):AOp:=Oo d (.mov (.t x))
abbrev oK (d:Nat) (n:Int):AOp:=Oo d (.mov (Ki n))
abbrev oE (d x n:Nat):AOp:=Oo d (.ext (.t x) n)
abbrev oS (n x y:Nat):AOp:=On (.store n (.t x) (.t y))
abbrev oI (d z x i:Nat):AOp:=Oo d (.ixL z (.t x) (.t i))
abbrev oB (d:Nat) (b:BinOp) (x:Nat) (n:Int):AOp:=Oo d (.bin b (.t x) (Ki n))
abbrev oC (d:Nat) (b:BinOp) (x y:Nat):AOp:=Oo d (.bin b (.t x) (.t y))
abbrev oN (d x:Nat):AOp:=Oo d (.lenL (.t x))
abbrev CK (f:Func) (h:HC):Prop:=f.body.bind (compileC Tryz.prog)=some h.er
abbrev RK (f:Func) (r:List RetV):Prop:=f.results.toList.mapM (retOf Tryz.prog)=some r
theorem tk {f:FuncId} {h k:HF} {fn:Func} (hf:some k=some h) (h0:okF Tryz.prog f=true) (h1:Tryz.prog.funcs[f]?=some fn) (h2:fn.ntmps=k.nt) (h3:CK fn k.code) (h4:RK fn k.rs):okF Tryz.prog f=true∧∃ fn,Tryz.prog.funcs[f]?=some fn∧fn.ntmps=h.nt∧fn.body.bind (compileC Tryz.prog)=some h.code.er∧fn.results.toList.mapM (retOf Tryz.prog)=some h.rs:=by
  cases hf
  exact ⟨h0,fn,h1,h2,h3,h4⟩
def h4c:HC:=
 (.seq (.region [Oo 2 (.box (.t 0)),Oo 3 (.box (.t 1)),Oo 4 (.mov (.k (.bool false)))])
 (.seq (.seq (.region [Oo 14 (.call 11 []),Oo 15 (.un .not (.t 14))])
 (.cond (.t 15) (.seq (.region [Oo 4 (.mov (.k (.bool false)))])
 .ret)
 .skip))
 (.seq (.seq (.region [oG 16 8 2,Oo 17 (.call 12 [(.t 16)]),Oo 18 (.un .not (.t 17)),oM 19 18,Og 19 false 20 (.load true 11 (.t 3)),Og 19 false 21 (.call 25 [(.t 20)]),Og 19 false 22 (.un .not (.t 21)),Oo 23 (.pick (.t 19) (.k (.bool true)) (.t 22))])
 (.cond (.t 23) (.seq (.region [Oo 4 (.mov (.k (.bool true)))])
 .ret)
 .skip))
 (.seq (.drawn [Qo (oG 25 8 2),Qo (Oo 26 (.call 14 [(.t 25)])),Qo (oG 27 11 3),Qo (Oo 28 (.call 27 [(.t 27)])),Qo (Oo 29 (.call 26 [(.t 26),(.t 28)])),Qo (oM 24 29),Qo (oE 30 24 0),Qo (oE 31 24 1),Qe (Oo 5 (.alloc [Zi 0,Zi 0,Zi 0,Zi 0,Zi 0,Zi 0,Zi 0,(.slice none 0 0)])),Qe (oS 8 5 30),Qo (oM 6 31)])
 (.seq (.drawn [Qo (oG 33 8 2),Qo (Oo 34 (.call 14 [(.t 33)])),Qo (oG 35 11 3),Qo (Oo 36 (.call 27 [(.t 35)])),Qo (Oo 37 (.call 28 [(.t 34),(.t 36)])),Qo (oM 32 37),Qo (oE 38 32 0),Qo (oE 39 32 1),Qe (Oo 7 (.alloc [Zi 0,Zi 0,Zi 0,Zi 0,Zi 0,Zi 0,Zi 0,(.slice none 0 0)])),Qe (oS 8 7 38),Qo (oM 8 39)])
 (.seq (.seq (.region [oG 40 8 2,Oo 41 (.call 29 [(.t 40)]),oM 9 41])
 (.seq (.region [oM 42 9,oB 43 .neq 42 0])
 (.cond (.t 43) (.seq (.region [oG 44 8 5,oM 45 6,Oo 46 (.build [Zi 0,Zi 0,Zi 0,Zi 0,Zi 0,Zi 0,Zi 0,(.slice none 0 0)] []),oM 47 9,Oo 48 (.call 21 [(.t 44),(.t 45),(.t 46),(.t 47)]),oM 49 48,Og 49 true 50 (.load true 8 (.t 7)),Og 49 true 51 (.mov (.t 8)),Og 49 true 52 (.build [Zi 0,Zi 0,Zi 0,Zi 0,Zi 0,Zi 0,Zi 0,(.slice none 0 0)] []),Og 49 true 53 (.mov (.t 9)),Og 49 true 54 (.call 21 [(.t 50),(.t 51),(.t 52),(.t 53)]),Oo 55 (.pick (.t 49) (.t 54) (.k (.bool false))),oM 4 55])
 .ret)
 .skip)))
 (.seq (.region [oG 57 8 2,oG 58 11 3,Oo 59 (.call 30 [(.t 57),(.t 58)]),oM 56 59,oE 60 56 0,oE 61 56 1,Oo 10 (.alloc [Zi 0,Zi 0,Zi 0,Zi 0,Zi 0,Zi 0,Zi 0,(.slice none 0 0)]),oS 8 10 60,oM 11 61])
 (.seq (.region [oG 63 8 2,oG 64 11 3,Oo 65 (.call 31 [(.t 63),(.t 64)]),oM 62 65,oE 66 62 0,oE 67 62 1,Oo 12 (.alloc [Zi 0,Zi 0,Zi 0,Zi 0,Zi 0,Zi 0,Zi 0,(.slice none 0 0)]),oS 8 12 66,oM 13 67])
 (.seq (.region [oG 68 8 5,oM 69 6,oG 70 8 10,oM 71 11,Oo 72 (.call 21 [(.t 68),(.t 69),(.t 70),(.t 71)]),oM 73 72,Og 73 true 74 (.load true 8 (.t 7)),Og 73 true 75 (.mov (.t 8)),Og 73 true 76 (.load true 8 (.t 12)),Og 73 true 77 (.mov (.t 13)),Og 73 true 78 (.call 21 [(.t 74),(.t 75),(.t 76),(.t 77)]),Oo 79 (.pick (.t 73) (.t 78) (.k (.bool false))),oM 4 79])
 .ret)))))))))
abbrev h4:HF:=⟨h4c,[.tmp 4],80,false⟩
theorem h4_ok:CK Tryz.f4 h4c:=by unfold CK;kernel_rfl
theorem r4_ok:RK Tryz.f4 [.tmp 4]:=by unfold RK;kernel_rfl
def h11c:HC:=
 (.seq (.region [Oo 0 (.mov (.k (.bool false)))])
 (.seq (.region [Oo 12 (.build [Zi 0,Zi 0] []),Oo 13 (.call 16 [(Ki 3),(Ki 1),(.t 12)]),oM 11 13,oE 14 11 0,oE 15 11 1,Oo 1 (.alloc [Zi 0,Zi 0,Zi 0,Zi 0,Zi 0,Zi 0,Zi 0,(.slice none 0 0)]),oS 8 1 14,oM 2 15])
 (.seq (.region [oG 17 8 1,Oo 18 (.build [Zi 0,(.string ⟨#[]⟩),Zi 0,Zi 0,(.bool false),(.string ⟨#[]⟩),Zi 0,(.slice none 0 0),Zi 0,Zi 0,Zi 0] [(0,1,(Ki 128)),(2,1,(Ki 2)),(4,1,(.k (.bool true))),(5,1,(.k (.string ⟨#[97,98,99]⟩)))]),Oo 19 (.call 26 [(.t 17),(.t 18)]),oM 16 19,oE 20 16 0,oE 21 16 1,Oo 3 (.alloc [Zi 0,Zi 0,Zi 0,Zi 0,Zi 0,Zi 0,Zi 0,(.slice none 0 0)]),oS 8 3 20,oM 4 21])
 (.seq (.region [Oo 23 (.call 56 []),Oo 24 (.call 15 [(.t 23)]),oM 22 24,oE 25 22 0,oE 26 22 1,oM 5 25,oM 6 26])
 (.seq (.region [Oo 28 (.call 56 []),Oo 29 (.build [Zi 0,Zi 0,Zi 0,Zi 0,Zi 0,Zi 0,Zi 0,(.slice none 0 0),Zi 0] [(0,8,(.t 28)),(8,1,(Ki 7))]),Oo 30 (.call 41 [(.t 29)]),oM 27 30,oE 31 27 0,oE 32 27 1,oM 7 31,oM 8 32])
 (.seq (.region [Oo 34 (.call 56 []),Oo 35 (.call 17 [(.t 34)]),oM 33 35,oE 36 33 0,oE 37 33 1,Oo 9 (.alloc [Zi 0,Zi 0,Zi 0,Zi 0,Zi 0,Zi 0,Zi 0,(.slice none 0 0)]),oS 8 9 36,oM 10 37])
 (.seq (.drawn [Qo (oM 38 2),Qo (oB 39 .eql 38 0),Qo (oM 40 39),Qo (Og 40 true 41 (.mov (.t 4))),Qo (Og 40 true 42 (.bin .eql (.t 41) (Ki 0))),Qo (Oo 43 (.pick (.t 40) (.t 42) (.k (.bool false)))),Qo (oM 44 43),Qo (Og 44 true 45 (.load true 8 (.t 3))),Qo (Og 44 true 46 (.call 56 [])),Qe (Og 44 true 47 (.call 39 [(.t 45),(.t 46)])),Qo (Oo 48 (.pick (.t 44) (.t 47) (.k (.bool false)))),Qo (oM 49 48),Qo (Og 49 true 50 (.mov (.t 6))),Qo (Og 49 true 51 (.bin .eql (.t 50) (Ki 0))),Qo (Oo 52 (.pick (.t 49) (.t 51) (.k (.bool false)))),Qo (oM 53 52),Qo (Og 53 true 54 (.mov (.t 5))),Qo (Og 53 true 55 (.bin .eql (.t 54) (Ki 408))),Qo (Oo 56 (.pick (.t 53) (.t 55) (.k (.bool false)))),Qo (oM 57 56),Qo (Og 57 true 58 (.mov (.t 8))),Qo (Og 57 true 59 (.bin .eql (.t 58) (Ki 0))),Qo (Oo 60 (.pick (.t 57) (.t 59) (.k (.bool false)))),Qo (oM 61 60),Qo (Og 61 true 62 (.mov (.t 7))),Qo (Og 61 true 63 (.lenS (.t 62))),Qo (Og 61 true 64 (.bin .eql (.t 63) (Ki 512))),Qo (Oo 65 (.pick (.t 61) (.t 64) (.k (.bool false)))),Qo (oM 66 65),Qo (Og 66 true 67 (.mov (.t 7))),Qo (Og 66 true 68 (.slS (.t 67) (some (Ki 40)) (some (Ki 44)))),Qo (Og 66 true 69 (.bin .eql (.t 68) (.k (.string ⟨#[7,0,0,0]⟩)))),Qo (Oo 70 (.pick (.t 66) (.t 69) (.k (.bool false)))),Qo (oM 71 70),Qo (Og 71 true 72 (.mov (.t 7))),Qo (Og 71 true 73 (.slS (.t 72) (some (Ki 62)) (some (Ki 64)))),Qo (Og 71 true 74 (.bin .eql (.t 73) (.k (.string ⟨#[7,0]⟩)))),Qo (Oo 75 (.pick (.t 71) (.t 74) (.k (.bool false)))),Qo (oM 76 75),Qo (Og 76 true 77 (.mov (.t 7))),Qe (Og 76 true 78 (.call 57 [(.t 77),(Ki 24),(Ki 4)])),Qo (Og 76 true 79 (.bin .eql (.t 78) (Ki 100))),Qo (Oo 80 (.pick (.t 76) (.t 79) (.k (.bool false)))),Qo (oM 81 80),Qo (Og 81 true 82 (.mov (.t 10))),Qo (Og 81 true 83 (.bin .eql (.t 82) (Ki 0))),Qo (Oo 84 (.pick (.t 81) (.t 83) (.k (.bool false)))),Qo (oM 85 84),Qo (Og 85 true 86 (.addo 0 (.t 9))),Qo (Og 85 true 87 (.load false 1 (.t 86))),Qo (Og 85 true 88 (.bin .eql (.t 87) (Ki 4))),Qo (Oo 89 (.pick (.t 85) (.t 88) (.k (.bool false)))),Qo (oM 90 89),Qo (Og 90 true 91 (.build [Zi 0,Zi 0] [(0,1,(Ki 17)),(1,1,(Ki 2))])),Qe (Og 90 true 92 (.call 51 [(.t 91)])),Qo (Og 90 true 93 (.bin .eql (.t 92) (.k (.string ⟨#[49,55,35,50]⟩)))),Qo (Oo 94 (.pick (.t 90) (.t 93) (.k (.bool false)))),Qo (oM 0 94)])
 .ret)))))))
abbrev h11:HF:=⟨h11c,[.tmp 0],95,false⟩
theorem h11_ok:CK Tryz.f11 h11c:=by unfold CK;kernel_rfl
theorem r11_ok:RK Tryz.f11 [.tmp 0]:=by unfold RK;kernel_rfl
def h12l0:HC:=
 (.seq (.seq (.region [oM 4 3,oA 5 7 1,oL 6 5,oN 7 6,oC 8 .lss 4 7])
 (.cond (.t 8) .skip
 (.exit 0)))
 (.seq (.block 1 (.seq (.region [oA 11 7 1,oL 12 11,oM 13 3,oI 14 11 12 13,oG 15 11 14,Oo 16 (.call 25 [(.t 15)]),Oo 17 (.un .not (.t 16))])
 (.cond (.t 17) (.seq (.region [Oo 2 (.mov (.k (.bool false)))])
 .ret)
 .skip)))
 (.region [oM 9 3,oB 10 .add 9 1,oM 3 10])))
def h12c:HC:=
 (.seq (.region [Oo 1 (.box (.t 0)),Oo 2 (.mov (.k (.bool false)))])
 (.seq (.seq (.region [oK 3 0])
 (.block 0 (.loop [1,1] h12l0)))
 (.seq (.region [oA 18 7 1,oL 19 18,oN 20 19,oB 21 .leq 20 40,oM 2 21])
 .ret)))
abbrev h12:HF:=⟨h12c,[.tmp 2],22,false⟩
theorem h12_ok:CK Tryz.f12 h12c:=by unfold CK;kernel_rfl
theorem r12_ok:RK Tryz.f12 [.tmp 2]:=by unfold RK;kernel_rfl
def h13c:HC:=
 (.seq (.region [Oo 1 (.box (.t 0)),oK 2 0,oK 3 0])
 (.seq (.region [oA 10 0 1,oL 11 10,Oo 12 (.call 58 [(.t 11),(Ki 1),(Ki 65535)]),oM 13 12,Og 13 true 14 (.addo 1 (.t 1)),Og 13 true 15 (.load false 1 (.t 14)),Og 13 true 16 (.call 58 [(.t 15),(Ki 0),(Ki 65535)]),Oo 17 (.pick (.t 13) (.t 16) (.k (.bool false))),oM 18 17,Og 18 true 19 (.addo 2 (.t 1)),Og 18 true 20 (.load false 1 (.t 19)),Og 18 true 21 (.call 58 [(.t 20),(Ki 0),(Ki 3)]),Oo 22 (.pick (.t 18) (.t 21) (.k (.bool false))),oM 23 22,Og 23 true 24 (.addo 5 (.t 1)),Og 23 true 25 (.load false 1 (.t 24)),Og 23 true 26 (.call 58 [(.t 25),(Ki 0),(Ki 65535)]),Oo 27 (.pick (.t 23) (.t 26) (.k (.bool false))),oM 28 27,Og 28 true 29 (.addo 6 (.t 1)),Og 28 true 30 (.load false 1 (.t 29)),Og 28 true 31 (.call 58 [(.t 30),(Ki 0),(Ki 2147483647)]),Oo 32 (.pick (.t 28) (.t 31) (.k (.bool false))),oM 4 32])
 (.trm [1,2] (.seq (.region [oA 33 2 1,oL 34 33,oB 35 .eql 34 0,oM 36 35,Og 36 true 37 (.addo 7 (.t 1)),Og 36 true 38 (.load false 1 (.t 37)),Og 36 true 39 (.lenL (.t 38)),Og 36 true 40 (.bin .eql (.t 39) (Ki 0)),Oo 41 (.pick (.t 36) (.t 40) (.k (.bool false))),oM 42 41,Og 42 true 43 (.addo 1 (.t 1)),Og 42 true 44 (.load false 1 (.t 43)),Og 42 true 45 (.bin .eql (.t 44) (Ki 0)),Oo 46 (.pick (.t 42) (.t 45) (.k (.bool false))),oM 47 46,Og 47 true 48 (.addo 3 (.t 1)),Og 47 true 49 (.load true 2 (.t 48)),Og 47 true 50 (.build [Zi 0,Zi 0] []),Og 47 true 51 (.eqs false [.i,.i] (.t 49) (.t 50)),Oo 52 (.pick (.t 47) (.t 51) (.k (.bool false))),oM 53 52,Og 53 true 54 (.addo 5 (.t 1)),Og 53 true 55 (.load false 1 (.t 54)),Og 53 true 56 (.bin .eql (.t 55) (Ki 0)),Oo 57 (.pick (.t 53) (.t 56) (.k (.bool false))),oM 5 57])
 (.trm [1,2,0] (.seq (.seq (.drawn [Qo (oM 58 4),Qo (Oo 59 (.call 60 [(.t 58),(Ki 2)])),Qo (oA 60 3 1),Qo (oG 61 2 60),Qo (Oo 62 (.call 61 [(.t 61)])),Qo (oG 63 8 1),Qe (Oo 64 (.call 62 [(.t 63)])),Qo (oM 65 64),Qo (Og 65 false 66 (.mov (.t 5))),Qo (Oo 67 (.pick (.t 65) (.k (.bool true)) (.t 66))),Qe (Oo 68 (.call 60 [(.t 67),(Ki 3)])),Qe (Oo 69 (.bslc 1 3 [Zi 0] [(0,(.t 59)),(1,(.t 62)),(2,(.t 68))])),Qe (Oo 70 (.call 59 [(.t 69)])),Qo (oM 6 70)])
 (.seq (.region [oM 71 6,oB 72 .neq 71 0])
 (.cond (.t 72) (.seq (.region [oM 73 6,oK 2 0,oM 3 73])
 .ret)
 .skip)))
 (.seq (.seq (.region [oA 75 7 1,oL 76 75,Oo 77 (.call 63 [(.t 76)]),oM 74 77,oE 78 74 0,oE 79 74 1,oM 7 78,oM 8 79])
 (.seq (.region [oM 80 8,oB 81 .neq 80 0])
 (.cond (.t 81) (.seq (.region [oM 82 7,oM 83 8,oM 2 82,oM 3 83])
 .ret)
 .skip)))
 (.seq (.seq (.region [oA 84 7 1,oL 85 84,Oo 86 (.mkfn 65 [(.t 1)]),Oo 87 (.call 64 [(.t 85),(.t 86)]),oM 9 87])
 (.seq (.region [oM 88 9,oB 89 .geq 88 0])
 (.cond (.t 89) (.seq (.region [oM 90 9,oM 2 90,oK 3 9])
 .ret)
 .skip)))
 (.seq (.region [oA 91 7 1,oL 92 91,Oo 93 (.call 66 [(.t 92)]),oB 94 .leq 93 440,Oo 95 (.call 60 [(.t 94),(Ki 16)]),oK 2 0,oM 3 95])
 .ret)))))))))
abbrev h13:HF:=⟨h13c,[.tmp 2,.tmp 3],96,false⟩
theorem h13_ok:CK Tryz.f13 h13c:=by unfold CK;kernel_rfl
theorem r13_ok:RK Tryz.f13 [.tmp 2,.tmp 3]:=by unfold RK;kernel_rfl
def h14c:HC:=
 (.seq (.region [Oo 1 (.box (.t 0)),Oo 2 (.alloc [Zi 0,Zi 0,Zi 0,Zi 0,Zi 0,Zi 0,Zi 0,(.slice none 0 0)])])
 (.seq (.region [oA 3 7 1,oL 4 3,Oo 5 (.call 67 [(.t 4)]),oA 6 7 1,oS 1 6 5])
 (.seq (.region [oG 7 8 1,oS 8 2 7])
 .ret)))
abbrev h14:HF:=⟨h14c,[.cell 2 true 8],8,false⟩
theorem h14_ok:CK Tryz.f14 h14c:=by unfold CK;kernel_rfl
theorem r14_ok:RK Tryz.f14 [.cell 2 true 8]:=by unfold RK;kernel_rfl
def h15c:HC:=
 (.seq (.region [Oo 1 (.box (.t 0)),oK 2 0,oK 3 0])
 (.seq (.seq (.region [oG 5 8 1,Oo 6 (.call 68 [(.t 5)]),oM 4 6])
 (.seq (.region [oM 7 4,oB 8 .neq 7 0])
 (.cond (.t 8) (.seq (.region [oM 9 4,oK 2 0,oM 3 9])
 .ret)
 .skip)))
 (.seq (.region [oA 10 7 1,oL 11 10,Oo 12 (.call 66 [(.t 11)]),Oo 13 (.bin .sub (Ki 440) (.t 12)),oM 2 13,oK 3 0])
 .ret)))
abbrev h15:HF:=⟨h15c,[.tmp 2,.tmp 3],14,false⟩
theorem h15_ok:CK Tryz.f15 h15c:=by unfold CK;kernel_rfl
theorem r15_ok:RK Tryz.f15 [.tmp 2,.tmp 3]:=by unfold RK;kernel_rfl
def h16c:HC:=
 (.seq (.region [Oo 5 (.box (.t 2)),Oo 6 (.alloc [Zi 0,Zi 0,Zi 0,Zi 0,Zi 0,Zi 0,Zi 0,(.slice none 0 0)]),oK 7 0])
 (.seq (.region [oM 10 1,oB 11 .eql 10 1,oM 12 11,Og 12 false 13 (.mov (.t 1)),Og 12 false 14 (.bin .eql (.t 13) (Ki 3)),Oo 15 (.pick (.t 12) (.k (.bool true)) (.t 14)),oM 8 15])
 (.seq (.seq (.drawn [Qo (oM 16 0),Qo (Oo 17 (.call 58 [(.t 16),(Ki 1),(Ki 65535)])),Qo (oM 18 17),Qo (Og 18 true 19 (.mov (.t 8))),Qo (Oo 20 (.pick (.t 18) (.t 19) (.k (.bool false)))),Qo (Oo 21 (.call 60 [(.t 20),(Ki 2)])),Qo (oG 22 2 5),Qe (Oo 23 (.call 61 [(.t 22)])),Qe (Oo 24 (.bslc 1 2 [Zi 0] [(0,(.t 21)),(1,(.t 23))])),Qe (Oo 25 (.call 59 [(.t 24)])),Qo (oM 9 25)])
 (.seq (.region [oM 26 9,oB 27 .neq 26 0])
 (.cond (.t 27) (.seq (.region [Oo 28 (.build [Zi 0,Zi 0,Zi 0,Zi 0,Zi 0,Zi 0,Zi 0,(.slice none 0 0)] []),oM 29 9,oS 8 6 28,oM 7 29])
 .ret)
 .skip)))
 (.seq (.region [oM 30 0,oM 31 1,oG 32 2 5,Oo 33 (.build [Zi 0,Zi 0,Zi 0,Zi 0,Zi 0,Zi 0,Zi 0,(.slice none 0 0)] [(0,1,(.t 30)),(2,1,(.t 31)),(3,2,(.t 32))]),oS 8 6 33,oK 7 0])
 .ret))))
abbrev h16:HF:=⟨h16c,[.cell 6 true 8,.tmp 7],34,false⟩
theorem h16_ok:CK Tryz.f16 h16c:=by unfold CK;kernel_rfl
theorem r16_ok:RK Tryz.f16 [.cell 6 true 8,.tmp 7]:=by unfold RK;kernel_rfl
def h17c:HC:=
 (.seq (.region [Oo 1 (.box (.t 0)),Oo 2 (.alloc [Zi 0,Zi 0,Zi 0,Zi 0,Zi 0,Zi 0,Zi 0,(.slice none 0 0)]),oK 3 0])
 (.seq (.seq (.drawn [Qo (oG 5 8 1),Qo (Oo 6 (.call 68 [(.t 5)])),Qo (oG 7 8 1),Qe (Oo 8 (.call 62 [(.t 7)])),Qe (Oo 9 (.call 60 [(.t 8),(Ki 20)])),Qe (Oo 10 (.bslc 1 2 [Zi 0] [(0,(.t 6)),(1,(.t 9))])),Qe (Oo 11 (.call 59 [(.t 10)])),Qo (oM 4 11)])
 (.seq (.region [oM 12 4,oB 13 .neq 12 0])
 (.cond (.t 13) (.seq (.region [Oo 14 (.build [Zi 0,Zi 0,Zi 0,Zi 0,Zi 0,Zi 0,Zi 0,(.slice none 0 0)] []),oM 15 4,oS 8 2 14,oM 3 15])
 .ret)
 .skip)))
 (.seq (.drawn [Qo (oA 16 0 1),Qo (oL 17 16),Qo (Oo 18 (.call 69 [(.t 17),(Ki 65535)])),Qo (oA 19 6 1),Qo (oL 20 19),Qo (Oo 21 (.build [Zi 0,Zi 0,Zi 0,Zi 0,Zi 0,Zi 0,Zi 0,(.slice none 0 0)] [(0,1,(.t 18)),(6,1,(.t 20))])),Qe (oS 8 2 21),Qo (oK 3 0)])
 .ret)))
abbrev h17:HF:=⟨h17c,[.cell 2 true 8,.tmp 3],22,false⟩
theorem h17_ok:CK Tryz.f17 h17c:=by unfold CK;kernel_rfl
theorem r17_ok:RK Tryz.f17 [.cell 2 true 8,.tmp 3]:=by unfold RK;kernel_rfl
def h18l0:HC:=
 (.seq (.seq (.region [oM 82 7,oA 83 7 1,oL 84 83,oN 85 84,oC 86 .lss 82 85])
 (.cond (.t 86) .skip
 (.exit 0)))
 (.seq (.block 1 (.seq (.drawn [Qo (oA 89 7 1),Qo (oL 90 89),Qo (oM 91 7),Qo (oI 92 11 90 91),Qo (oA 93 2 92),Qo (oL 94 93),Qo (oA 95 5 1),Qo (oL 96 95),Qo (oC 97 .geq 94 96)])
 (.cond (.t 97) (.seq (.region [oM 98 7,oM 2 98,oK 3 9])
 .ret)
 .skip)))
 (.region [oM 87 7,oB 88 .add 87 1,oM 7 88])))
def h18c:HC:=
 (.seq (.region [Oo 1 (.box (.t 0)),oK 2 0,oK 3 0])
 (.seq (.seq (.region [oA 8 0 1,oL 9 8,Oo 10 (.call 19 [(.t 9),(Ki 1),(Ki 65535)]),Oo 11 (.un .not (.t 10)),oM 12 11,Og 12 false 13 (.addo 1 (.t 1)),Og 12 false 14 (.load false 1 (.t 13)),Og 12 false 15 (.call 19 [(.t 14),(Ki 0),(Ki 65535)]),Og 12 false 16 (.un .not (.t 15)),Oo 17 (.pick (.t 12) (.k (.bool true)) (.t 16)),oM 18 17,Og 18 false 19 (.addo 2 (.t 1)),Og 18 false 20 (.load false 1 (.t 19)),Og 18 false 21 (.call 19 [(.t 20),(Ki 0),(Ki 3)]),Og 18 false 22 (.un .not (.t 21)),Oo 23 (.pick (.t 18) (.k (.bool true)) (.t 22)),oM 24 23,Og 24 false 25 (.addo 5 (.t 1)),Og 24 false 26 (.load false 1 (.t 25)),Og 24 false 27 (.call 19 [(.t 26),(Ki 0),(Ki 65535)]),Og 24 false 28 (.un .not (.t 27)),Oo 29 (.pick (.t 24) (.k (.bool true)) (.t 28)),oM 30 29,Og 30 false 31 (.addo 6 (.t 1)),Og 30 false 32 (.load false 1 (.t 31)),Og 30 false 33 (.call 19 [(.t 32),(Ki 0),(Ki 2147483647)]),Og 30 false 34 (.un .not (.t 33)),Oo 35 (.pick (.t 30) (.k (.bool true)) (.t 34))])
 (.cond (.t 35) (.seq (.region [oK 2 0,oK 3 2])
 .ret)
 .skip))
 (.seq (.seq (.region [oA 36 3 1,oG 37 2 36,Oo 38 (.call 20 [(.t 37)]),oM 4 38])
 (.seq (.region [oM 39 4,oB 40 .neq 39 0])
 (.cond (.t 40) (.seq (.region [oM 41 4,oK 2 0,oM 3 41])
 .ret)
 .skip)))
 (.seq (.seq (.region [oG 42 8 1,Oo 43 (.call 23 [(.t 42)]),Oo 44 (.un .not (.t 43)),oM 45 44,Og 45 true 46 (.addo 7 (.t 1)),Og 45 true 47 (.load false 1 (.t 46)),Og 45 true 48 (.lenL (.t 47)),Og 45 true 49 (.bin .gtr (.t 48) (Ki 0)),Og 45 true 50 (.mov (.t 49)),Og 50 false 51 (.addo 1 (.t 1)),Og 50 false 52 (.load false 1 (.t 51)),Og 50 false 53 (.bin .neq (.t 52) (Ki 0)),Og 45 true 54 (.pick (.t 50) (.k (.bool true)) (.t 53)),Og 45 true 55 (.mov (.t 54)),Og 55 false 56 (.addo 3 (.t 1)),Og 55 false 57 (.load true 2 (.t 56)),Og 55 false 58 (.build [Zi 0,Zi 0] []),Og 55 false 59 (.eqs true [.i,.i] (.t 57) (.t 58)),Og 45 true 60 (.pick (.t 55) (.k (.bool true)) (.t 59)),Og 45 true 61 (.mov (.t 60)),Og 61 false 62 (.addo 2 (.t 1)),Og 61 false 63 (.load false 1 (.t 62)),Og 61 false 64 (.bin .neq (.t 63) (Ki 0)),Og 45 true 65 (.pick (.t 61) (.k (.bool true)) (.t 64)),Og 45 true 66 (.mov (.t 65)),Og 66 false 67 (.addo 5 (.t 1)),Og 66 false 68 (.load false 1 (.t 67)),Og 66 false 69 (.bin .neq (.t 68) (Ki 0)),Og 45 true 70 (.pick (.t 66) (.k (.bool true)) (.t 69)),Oo 71 (.pick (.t 45) (.t 70) (.k (.bool false)))])
 (.cond (.t 71) (.seq (.region [oK 2 0,oK 3 3])
 .ret)
 .skip))
 (.seq (.seq (.region [oA 73 7 1,oL 74 73,Oo 75 (.call 70 [(.t 74)]),oM 72 75,oE 76 72 0,oE 77 72 1,oM 5 76,oM 6 77])
 (.seq (.region [oM 78 6,oB 79 .neq 78 0])
 (.cond (.t 79) (.seq (.region [oM 80 5,oM 81 6,oM 2 80,oM 3 81])
 .ret)
 .skip)))
 (.seq (.seq (.region [oK 7 0])
 (.block 0 (.loop [1,5] h18l0)))
 (.seq (.seq (.region [oA 99 7 1,oL 100 99,Oo 101 (.call 22 [(.t 100)]),oB 102 .gtr 101 440])
 (.cond (.t 102) (.seq (.region [oK 2 0,oK 3 16])
 .ret)
 .skip))
 (.seq (.region [oK 2 0,oK 3 0])
 .ret))))))))
abbrev h18:HF:=⟨h18c,[.tmp 2,.tmp 3],103,false⟩
theorem h18_ok:CK Tryz.f18 h18c:=by unfold CK;kernel_rfl
theorem r18_ok:RK Tryz.f18 [.tmp 2,.tmp 3]:=by unfold RK;kernel_rfl
def h19c:HC:=
 (.seq (.region [Oo 6 (.mov (.k (.bool false)))])
 (.seq (.region [oM 7 1,oM 8 0,oC 9 .leq 7 8,oM 10 9,Og 10 true 11 (.mov (.t 0)),Og 10 true 12 (.mov (.t 2)),Og 10 true 13 (.bin .leq (.t 11) (.t 12)),Oo 14 (.pick (.t 10) (.t 13) (.k (.bool false))),oM 6 14])
 .ret))
abbrev h19:HF:=⟨h19c,[.tmp 6],15,false⟩
theorem h19_ok:CK Tryz.f19 h19c:=by unfold CK;kernel_rfl
theorem r19_ok:RK Tryz.f19 [.tmp 6]:=by unfold RK;kernel_rfl
def h20c:HC:=
 (.seq (.region [Oo 1 (.box (.t 0)),oK 2 0])
 (.seq (.seq (.region [oG 3 2 1,Oo 4 (.build [Zi 0,Zi 0] []),Oo 5 (.eqs false [.i,.i] (.t 3) (.t 4))])
 (.cond (.t 5) (.seq (.region [oK 2 0])
 .ret)
 .skip))
 (.seq (.region [oG 6 2 1,Oo 7 (.call 55 [(.t 6)]),oM 2 7])
 .ret)))
abbrev h20:HF:=⟨h20c,[.tmp 2],8,false⟩
theorem h20_ok:CK Tryz.f20 h20c:=by unfold CK;kernel_rfl
theorem r20_ok:RK Tryz.f20 [.tmp 2]:=by unfold RK;kernel_rfl
def h21c:HC:=
 (.seq (.region [Oo 4 (.box (.t 0)),Oo 6 (.box (.t 2)),Oo 8 (.mov (.k (.bool false)))])
 (.seq (.region [oM 9 1,oM 10 3,oC 11 .eql 9 10,oM 12 11,Og 12 true 13 (.mov (.t 3)),Og 12 true 14 (.bin .neq (.t 13) (Ki 0)),Og 12 true 15 (.mov (.t 14)),Og 15 true 16 (.load true 8 (.t 4)),Og 15 true 17 (.build [Zi 0,Zi 0,Zi 0,Zi 0,Zi 0,Zi 0,Zi 0,(.slice none 0 0)] []),Og 15 true 18 (.call 39 [(.t 16),(.t 17)]),Og 12 true 19 (.pick (.t 15) (.t 18) (.k (.bool false))),Og 12 true 20 (.mov (.t 19)),Og 20 false 21 (.mov (.t 3)),Og 20 false 22 (.bin .eql (.t 21) (Ki 0)),Og 20 false 23 (.mov (.t 22)),Og 23 true 24 (.load true 8 (.t 4)),Og 23 true 25 (.load true 8 (.t 6)),Og 23 true 26 (.call 39 [(.t 24),(.t 25)]),Og 20 false 27 (.pick (.t 23) (.t 26) (.k (.bool false))),Og 12 true 28 (.pick (.t 20) (.k (.bool true)) (.t 27)),Oo 29 (.pick (.t 12) (.t 28) (.k (.bool false))),oM 8 29])
 .ret))
abbrev h21:HF:=⟨h21c,[.tmp 8],30,false⟩
theorem h21_ok:CK Tryz.f21 h21c:=by unfold CK;kernel_rfl
theorem r21_ok:RK Tryz.f21 [.tmp 8]:=by unfold RK;kernel_rfl
def h22l0:HC:=
 (.seq (.seq (.region [oM 5 4,oM 6 0,oN 7 6,oC 8 .lss 5 7])
 (.cond (.t 8) .skip
 (.exit 0)))
 (.seq (.block 1 (.region [oM 11 3,oM 12 0,oM 13 4,oI 14 11 12 13,oG 15 11 14,Oo 16 (.call 38 [(.t 15)]),Oo 17 (.lenS (.t 16)),oC 18 .add 11 17,oM 3 18]))
 (.region [oM 9 4,oB 10 .add 9 1,oM 4 10])))
def h22c:HC:=
 (.seq (.region [oK 2 0])
 (.seq (.region [oK 3 0])
 (.seq (.seq (.region [oK 4 0])
 (.block 0 (.loop [0,2,0] h22l0)))
 (.seq (.region [oM 19 3,oM 2 19])
 .ret))))
abbrev h22:HF:=⟨h22c,[.tmp 2],20,false⟩
theorem h22_ok:CK Tryz.f22 h22c:=by unfold CK;kernel_rfl
theorem r22_ok:RK Tryz.f22 [.tmp 2]:=by unfold RK;kernel_rfl
def h23c:HC:=
 (.seq (.region [Oo 1 (.box (.t 0)),Oo 2 (.mov (.k (.bool false)))])
 (.seq (.region [oA 3 2 1,oL 4 3,oB 5 .rem 4 2,oB 6 .eql 5 1,oM 2 6])
 .ret))
abbrev h23:HF:=⟨h23c,[.tmp 2],7,false⟩
theorem h23_ok:CK Tryz.f23 h23c:=by unfold CK;kernel_rfl
theorem r23_ok:RK Tryz.f23 [.tmp 2]:=by unfold RK;kernel_rfl
def h25c:HC:=
 (.seq (.region [Oo 1 (.box (.t 0)),Oo 2 (.mov (.k (.bool false)))])
 (.seq (.region [oA 3 7 1,oL 4 3,oN 5 4,oB 6 .leq 5 80,oM 7 6,Og 7 true 8 (.addo 5 (.t 1)),Og 7 true 9 (.load false 1 (.t 8)),Og 7 true 10 (.lenS (.t 9)),Og 7 true 11 (.bin .leq (.t 10) (Ki 500)),Oo 12 (.pick (.t 7) (.t 11) (.k (.bool false))),oM 13 12,Og 13 true 14 (.addo 1 (.t 1)),Og 13 true 15 (.load false 1 (.t 14)),Og 13 true 16 (.lenS (.t 15)),Og 13 true 17 (.bin .leq (.t 16) (Ki 60)),Oo 18 (.pick (.t 13) (.t 17) (.k (.bool false))),oM 2 18])
 .ret))
abbrev h25:HF:=⟨h25c,[.tmp 2],19,false⟩
theorem h25_ok:CK Tryz.f25 h25c:=by unfold CK;kernel_rfl
theorem r25_ok:RK Tryz.f25 [.tmp 2]:=by unfold RK;kernel_rfl
def h26c:HC:=
 (.seq (.region [Oo 2 (.box (.t 0)),Oo 3 (.box (.t 1)),Oo 4 (.alloc [Zi 0,Zi 0,Zi 0,Zi 0,Zi 0,Zi 0,Zi 0,(.slice none 0 0)]),oK 5 0])
 (.seq (.region [oA 9 5 2,oL 10 9,oA 11 2 3,oS 1 11 10])
 (.seq (.seq (.drawn [Qo (oG 12 8 2),Qo (Oo 13 (.call 68 [(.t 12)])),Qo (oG 14 8 2),Qo (Oo 15 (.call 62 [(.t 14)])),Qo (Oo 16 (.call 60 [(.t 15),(Ki 20)])),Qo (oA 17 5 2),Qo (oL 18 17),Qo (oB 19 .lss 18 65535),Qe (Oo 20 (.call 60 [(.t 19),(Ki 16)])),Qe (Oo 21 (.bslc 1 3 [Zi 0] [(0,(.t 13)),(1,(.t 16)),(2,(.t 20))])),Qe (Oo 22 (.call 59 [(.t 21)])),Qo (oM 6 22)])
 (.seq (.region [oM 23 6,oB 24 .neq 23 0])
 (.cond (.t 24) (.seq (.region [Oo 25 (.build [Zi 0,Zi 0,Zi 0,Zi 0,Zi 0,Zi 0,Zi 0,(.slice none 0 0)] []),oM 26 6,oS 8 4 25,oM 5 26])
 .ret)
 .skip)))
 (.seq (.seq (.drawn [Qo (oG 27 11 3),Qo (Oo 28 (.call 72 [(.t 27)])),Qo (oG 29 8 2),Qo (oG 30 11 3),Qo (Oo 31 (.call 73 [(.t 29),(.t 30)])),Qo (Oo 32 (.un .not (.t 31))),Qo (Oo 33 (.call 60 [(.t 32),(Ki 5)])),Qo (oA 34 7 2),Qo (oL 35 34),Qo (oN 36 35),Qo (oB 37 .lss 36 32),Qe (Oo 38 (.call 60 [(.t 37),(Ki 8)])),Qe (Oo 39 (.bslc 1 3 [Zi 0] [(0,(.t 28)),(1,(.t 33)),(2,(.t 38))])),Qe (Oo 40 (.call 59 [(.t 39)])),Qo (oM 7 40)])
 (.seq (.region [oM 41 7,oB 42 .neq 41 0])
 (.cond (.t 42) (.seq (.region [Oo 43 (.build [Zi 0,Zi 0,Zi 0,Zi 0,Zi 0,Zi 0,Zi 0,(.slice none 0 0)] []),oM 44 7,oS 8 4 43,oM 5 44])
 .ret)
 .skip)))
 (.seq (.region [oG 45 8 2,Oo 46 (.call 74 [(.t 45)]),Oo 8 (.alloc [Zi 0,Zi 0,Zi 0,Zi 0,Zi 0,Zi 0,Zi 0,(.slice none 0 0)]),oS 8 8 46])
 (.seq (.region [oA 47 5 8,oL 48 47,oB 49 .add 48 1,oA 50 5 8,oS 1 50 49])
 (.seq (.region [oA 52 7 8,oL 53 52,oG 54 11 3,Oo 55 (.bslc 11 1 [Zi 0,(.string ⟨#[]⟩),Zi 0,Zi 0,(.bool false),(.string ⟨#[]⟩),Zi 0,(.slice none 0 0),Zi 0,Zi 0,Zi 0] [(0,(.t 54))]),Oo 56 (.app 11 120 [Zi 0,(.string ⟨#[]⟩),Zi 0,Zi 0,(.bool false),(.string ⟨#[]⟩),Zi 0,(.slice none 0 0),Zi 0,Zi 0,Zi 0] (.t 53) (.t 55)),Oo 57 (.call 75 [(.t 56)]),oM 51 57,oE 58 51 0,oE 59 51 1,oA 60 7 8,oS 1 60 58])
 (.seq (.seq (.region [oA 61 7 8,oL 62 61,Oo 63 (.call 66 [(.t 62)]),oB 64 .gtr 63 440])
 (.cond (.t 64) (.seq (.region [Oo 65 (.build [Zi 0,Zi 0,Zi 0,Zi 0,Zi 0,Zi 0,Zi 0,(.slice none 0 0)] []),oS 8 4 65,oK 5 16])
 .ret)
 .skip))
 (.seq (.region [oG 66 8 8,oS 8 4 66,oK 5 0])
 .ret)))))))))
abbrev h26:HF:=⟨h26c,[.cell 4 true 8,.tmp 5],67,false⟩
theorem h26_ok:CK Tryz.f26 h26c:=by unfold CK;kernel_rfl
theorem r26_ok:RK Tryz.f26 [.cell 4 true 8,.tmp 5]:=by unfold RK;kernel_rfl
def h27c:HC:=
 (.seq (.region [Oo 1 (.box (.t 0)),Oo 2 (.alloc [Zi 0,(.string ⟨#[]⟩),Zi 0,Zi 0,(.bool false),(.string ⟨#[]⟩),Zi 0,(.slice none 0 0),Zi 0,Zi 0,Zi 0])])
 (.seq (.region [oA 3 7 1,oL 4 3,Oo 5 (.call 76 [(.t 4)]),oA 6 7 1,oS 1 6 5])
 (.seq (.region [oG 7 11 1,oS 11 2 7])
 .ret)))
abbrev h27:HF:=⟨h27c,[.cell 2 true 11],8,false⟩
theorem h27_ok:CK Tryz.f27 h27c:=by unfold CK;kernel_rfl
theorem r27_ok:RK Tryz.f27 [.cell 2 true 11]:=by unfold RK;kernel_rfl
def h28c:HC:=
 (.seq (.region [Oo 2 (.box (.t 0)),Oo 3 (.box (.t 1)),Oo 4 (.alloc [Zi 0,Zi 0,Zi 0,Zi 0,Zi 0,Zi 0,Zi 0,(.slice none 0 0)]),oK 5 0])
 (.seq (.region [oG 11 8 2,oA 12 2 3,oL 13 12,Oo 14 (.call 77 [(.t 11),(.t 13)]),oM 10 14,oE 15 10 0,oE 16 10 1,oM 6 15,oM 7 16])
 (.seq (.seq (.region [oM 17 7,oG 18 11 3,Oo 19 (.call 72 [(.t 18)]),Oo 20 (.bslc 1 2 [Zi 0] [(0,(.t 17)),(1,(.t 19))]),Oo 21 (.call 59 [(.t 20)]),oM 7 21])
 (.seq (.region [oM 22 7,oB 23 .neq 22 0])
 (.cond (.t 23) (.seq (.region [Oo 24 (.build [Zi 0,Zi 0,Zi 0,Zi 0,Zi 0,Zi 0,Zi 0,(.slice none 0 0)] []),oM 25 7,oS 8 4 24,oM 5 25])
 .ret)
 .skip)))
 (.seq (.seq (.region [oA 26 7 2,oL 27 26,oM 28 6,oI 29 11 27 28,oG 30 11 29,Oo 8 (.alloc [Zi 0,(.string ⟨#[]⟩),Zi 0,Zi 0,(.bool false),(.string ⟨#[]⟩),Zi 0,(.slice none 0 0),Zi 0,Zi 0,Zi 0]),oS 11 8 30])
 (.seq (.region [oA 31 0 3,oL 32 31,oA 33 0 8,oL 34 33,oC 35 .neq 32 34,oM 36 35,Og 36 false 37 (.addo 1 (.t 3)),Og 36 false 38 (.load false 1 (.t 37)),Og 36 false 39 (.addo 1 (.t 8)),Og 36 false 40 (.load false 1 (.t 39)),Og 36 false 41 (.bin .neq (.t 38) (.t 40)),Oo 42 (.pick (.t 36) (.k (.bool true)) (.t 41)),oM 43 42,Og 43 false 44 (.addo 6 (.t 3)),Og 43 false 45 (.load false 1 (.t 44)),Og 43 false 46 (.addo 6 (.t 8)),Og 43 false 47 (.load false 1 (.t 46)),Og 43 false 48 (.bin .neq (.t 45) (.t 47)),Oo 49 (.pick (.t 43) (.k (.bool true)) (.t 48))])
 (.cond (.t 49) (.seq (.region [Oo 50 (.build [Zi 0,Zi 0,Zi 0,Zi 0,Zi 0,Zi 0,Zi 0,(.slice none 0 0)] []),oS 8 4 50,oK 5 13])
 .ret)
 .skip)))
 (.seq (.region [oG 51 8 2,Oo 52 (.call 74 [(.t 51)]),Oo 9 (.alloc [Zi 0,Zi 0,Zi 0,Zi 0,Zi 0,Zi 0,Zi 0,(.slice none 0 0)]),oS 8 9 52])
 (.seq (.region [oA 53 7 3,oL 54 53,Oo 55 (.call 78 [(.t 54)]),oA 56 7 3,oS 1 56 55])
 (.gh (.frz 55) (.seq (.region [oA 57 7 9,oL 58 57,oM 59 6,oG 60 11 3,oI 61 11 58 59,oS 11 61 60])
 (.seq (.seq (.region [oA 62 7 9,oL 63 62,Oo 64 (.call 66 [(.t 63)]),oB 65 .gtr 64 440])
 (.cond (.t 65) (.seq (.region [Oo 66 (.build [Zi 0,Zi 0,Zi 0,Zi 0,Zi 0,Zi 0,Zi 0,(.slice none 0 0)] []),oS 8 4 66,oK 5 16])
 .ret)
 .skip))
 (.seq (.region [oG 67 8 9,oS 8 4 67,oK 5 0])
 .ret))))))))))
abbrev h28:HF:=⟨h28c,[.cell 4 true 8,.tmp 5],68,false⟩
theorem h28_ok:CK Tryz.f28 h28c:=by unfold CK;kernel_rfl
theorem r28_ok:RK Tryz.f28 [.cell 4 true 8,.tmp 5]:=by unfold RK;kernel_rfl
def h29c:HC:=
 (.seq (.region [Oo 1 (.box (.t 0)),oK 2 0])
 (.seq (.region [oG 6 8 1,Oo 7 (.call 18 [(.t 6)]),oM 5 7,oE 8 5 0,oE 9 5 1,oM 3 8,oM 4 9])
 (.seq (.region [oM 10 4,oM 2 10])
 .ret)))
abbrev h29:HF:=⟨h29c,[.tmp 2],11,false⟩
theorem h29_ok:CK Tryz.f29 h29c:=by unfold CK;kernel_rfl
theorem r29_ok:RK Tryz.f29 [.tmp 2]:=by unfold RK;kernel_rfl
def h30c:HC:=
 (.seq (.region [Oo 2 (.box (.t 0)),Oo 3 (.box (.t 1)),Oo 4 (.alloc [Zi 0,Zi 0,Zi 0,Zi 0,Zi 0,Zi 0,Zi 0,(.slice none 0 0)]),oK 5 0])
 (.seq (.seq (.region [oG 8 8 2,Oo 9 (.call 23 [(.t 8)]),Oo 10 (.un .not (.t 9))])
 (.cond (.t 10) (.seq (.region [Oo 11 (.build [Zi 0,Zi 0,Zi 0,Zi 0,Zi 0,Zi 0,Zi 0,(.slice none 0 0)] []),oS 8 4 11,oK 5 20])
 .ret)
 .skip))
 (.seq (.seq (.region [oA 12 5 2,oL 13 12,oB 14 .eql 13 65535])
 (.cond (.t 14) (.seq (.region [Oo 15 (.build [Zi 0,Zi 0,Zi 0,Zi 0,Zi 0,Zi 0,Zi 0,(.slice none 0 0)] []),oS 8 4 15,oK 5 16])
 .ret)
 .skip))
 (.seq (.region [oA 16 5 2,oL 17 16,oA 18 2 3,oS 1 18 17])
 (.seq (.seq (.region [oG 19 11 3,Oo 20 (.call 37 [(.t 19)]),oM 6 20])
 (.seq (.region [oM 21 6,oB 22 .neq 21 0])
 (.cond (.t 22) (.seq (.region [Oo 23 (.build [Zi 0,Zi 0,Zi 0,Zi 0,Zi 0,Zi 0,Zi 0,(.slice none 0 0)] []),oM 24 6,oS 8 4 23,oM 5 24])
 .ret)
 .skip)))
 (.seq (.seq (.drawn [Qo (oA 25 0 3),Qo (oL 26 25),Qo (oB 27 .neq 26 48),Qo (oM 28 27),Qo (Og 28 true 29 (.addo 7 (.t 2))),Qo (Og 28 true 30 (.load false 1 (.t 29))),Qo (Og 28 true 31 (.load true 11 (.t 3))),Qo (Og 28 true 32 (.call 80 [(.t 31)])),Qe (Og 28 true 33 (.call 79 [(.t 30),(.t 32)])),Qo (Og 28 true 34 (.bin .geq (.t 33) (Ki 0))),Qo (Oo 35 (.pick (.t 28) (.t 34) (.k (.bool false))))])
 (.cond (.t 35) (.seq (.region [Oo 36 (.build [Zi 0,Zi 0,Zi 0,Zi 0,Zi 0,Zi 0,Zi 0,(.slice none 0 0)] []),oS 8 4 36,oK 5 5])
 .ret)
 .skip))
 (.seq (.seq (.region [oA 37 7 2,oL 38 37,oN 39 38,oB 40 .eql 39 32])
 (.cond (.t 40) (.seq (.region [Oo 41 (.build [Zi 0,Zi 0,Zi 0,Zi 0,Zi 0,Zi 0,Zi 0,(.slice none 0 0)] []),oS 8 4 41,oK 5 8])
 .ret)
 .skip))
 (.seq (.region [oG 42 8 2,Oo 43 (.call 14 [(.t 42)]),Oo 7 (.alloc [Zi 0,Zi 0,Zi 0,Zi 0,Zi 0,Zi 0,Zi 0,(.slice none 0 0)]),oS 8 7 43])
 (.seq (.drawnT [] (.st 0 (.st 2 (.br 1 (.st 3 (.st 4 (.st 5 (.st 6 (.st 7 (.st 8 .nil)))))) (.br 3 (.br 1 (.st 4 (.st 5 (.st 6 (.st 7 (.st 8 .nil))))) (.br 4 (.st 1 (.st 5 (.st 6 (.st 7 (.st 8 .nil))))) .stop)) .stop)))) [oA 44 7 7,oL 45 44,oG 46 11 3,Oo 47 (.call 27 [(.t 46)]),Oo 48 (.bslc 11 1 [Zi 0,(.string ⟨#[]⟩),Zi 0,Zi 0,(.bool false),(.string ⟨#[]⟩),Zi 0,(.slice none 0 0),Zi 0,Zi 0,Zi 0] [(0,(.t 47))]),Oo 49 (.app 11 120 [Zi 0,(.string ⟨#[]⟩),Zi 0,Zi 0,(.bool false),(.string ⟨#[]⟩),Zi 0,(.slice none 0 0),Zi 0,Zi 0,Zi 0] (.t 45) (.t 48)),Oo 50 (.call 81 [(.t 49)]),oA 51 7 7,oS 1 51 50])
 (.seq (.region [oA 52 5 2,oL 53 52,oB 54 .add 53 1,oA 55 5 7,oS 1 55 54])
 (.seq (.seq (.region [oA 56 7 7,oL 57 56,Oo 58 (.call 22 [(.t 57)]),oB 59 .gtr 58 440])
 (.cond (.t 59) (.seq (.region [Oo 60 (.build [Zi 0,Zi 0,Zi 0,Zi 0,Zi 0,Zi 0,Zi 0,(.slice none 0 0)] []),oS 8 4 60,oK 5 16])
 .ret)
 .skip))
 (.seq (.region [oG 61 8 7,oS 8 4 61,oK 5 0])
 .ret))))))))))))
abbrev h30:HF:=⟨h30c,[.cell 4 true 8,.tmp 5],62,false⟩
theorem h30_ok:CK Tryz.f30 h30c:=by unfold CK;kernel_rfl
theorem r30_ok:RK Tryz.f30 [.cell 4 true 8,.tmp 5]:=by unfold RK;kernel_rfl
def h31c:HC:=
 (.seq (.region [Oo 2 (.box (.t 0)),Oo 3 (.box (.t 1)),Oo 4 (.alloc [Zi 0,Zi 0,Zi 0,Zi 0,Zi 0,Zi 0,Zi 0,(.slice none 0 0)]),oK 5 0])
 (.seq (.region [oA 9 7 2,oL 10 9,oA 11 2 3,oL 12 11,Oo 13 (.call 34 [(.t 10),(.t 12)]),oM 6 13])
 (.seq (.seq (.region [oM 14 6,oB 15 .lss 14 0])
 (.cond (.t 15) (.seq (.region [Oo 16 (.build [Zi 0,Zi 0,Zi 0,Zi 0,Zi 0,Zi 0,Zi 0,(.slice none 0 0)] []),oS 8 4 16,oK 5 6])
 .ret)
 .skip))
 (.seq (.seq (.region [oG 17 11 3,Oo 18 (.call 37 [(.t 17)]),oM 7 18])
 (.seq (.region [oM 19 7,oB 20 .neq 19 0])
 (.cond (.t 20) (.seq (.region [Oo 21 (.build [Zi 0,Zi 0,Zi 0,Zi 0,Zi 0,Zi 0,Zi 0,(.slice none 0 0)] []),oM 22 7,oS 8 4 21,oM 5 22])
 .ret)
 .skip)))
 (.seq (.seq (.drawn [Qo (oG 23 11 3),Qo (Oo 24 (.call 80 [(.t 23)])),Qo (oA 25 7 2),Qo (oL 26 25),Qo (oM 27 6),Qo (oI 28 11 26 27),Qo (oG 29 11 28),Qe (Oo 30 (.call 80 [(.t 29)])),Qo (Oo 31 (.eqs true [.i,.s,.i] (.t 24) (.t 30)))])
 (.cond (.t 31) (.seq (.region [Oo 32 (.build [Zi 0,Zi 0,Zi 0,Zi 0,Zi 0,Zi 0,Zi 0,(.slice none 0 0)] []),oS 8 4 32,oK 5 13])
 .ret)
 .skip))
 (.seq (.region [oG 33 8 2,Oo 34 (.call 14 [(.t 33)]),Oo 8 (.alloc [Zi 0,Zi 0,Zi 0,Zi 0,Zi 0,Zi 0,Zi 0,(.slice none 0 0)]),oS 8 8 34])
 (.seq (.drawn [Qo (oA 35 7 8),Qo (oL 36 35),Qo (oM 37 6),Qo (oG 38 11 3),Qo (Oo 39 (.call 27 [(.t 38)])),Qo (oI 40 11 36 37),Qe (oS 11 40 39)])
 (.seq (.seq (.region [oA 41 7 8,oL 42 41,Oo 43 (.call 22 [(.t 42)]),oB 44 .gtr 43 440])
 (.cond (.t 44) (.seq (.region [Oo 45 (.build [Zi 0,Zi 0,Zi 0,Zi 0,Zi 0,Zi 0,Zi 0,(.slice none 0 0)] []),oS 8 4 45,oK 5 16])
 .ret)
 .skip))
 (.seq (.region [oG 46 8 8,oS 8 4 46,oK 5 0])
 .ret)))))))))
abbrev h31:HF:=⟨h31c,[.cell 4 true 8,.tmp 5],47,false⟩
theorem h31_ok:CK Tryz.f31 h31c:=by unfold CK;kernel_rfl
theorem r31_ok:RK Tryz.f31 [.cell 4 true 8,.tmp 5]:=by unfold RK;kernel_rfl
def h34l0:HC:=
 (.seq (.seq (.region [oM 6 5,oM 7 0,oN 8 7,oC 9 .lss 6 8])
 (.cond (.t 9) .skip
 (.exit 0)))
 (.seq (.block 1 (.seq (.region [oM 12 0,oM 13 5,oI 14 11 12 13,oA 15 2 14,oL 16 15,oM 17 1,oC 18 .eql 16 17])
 (.cond (.t 18) (.seq (.region [oM 19 5,oM 4 19])
 .ret)
 .skip)))
 (.region [oM 10 5,oB 11 .add 10 1,oM 5 11])))
def h34c:HC:=
 (.seq (.region [oK 4 0])
 (.seq (.seq (.region [oK 5 0])
 (.block 0 (.loop [0,0,3] h34l0)))
 (.seq (.region [Oo 4 (.mov (Ki (-1)))])
 .ret)))
abbrev h34:HF:=⟨h34c,[.tmp 4],20,false⟩
theorem h34_ok:CK Tryz.f34 h34c:=by unfold CK;kernel_rfl
theorem r34_ok:RK Tryz.f34 [.tmp 4]:=by unfold RK;kernel_rfl
def h35c:HC:=
 (.seq (.region [Oo 2 (.box (.t 0)),Oo 3 (.box (.t 1)),Oo 4 (.mov (.k (.bool false)))])
 (.seq (.region [oA 5 0 2,oL 6 5,oA 7 0 3,oL 8 7,oC 9 .eql 6 8,oM 10 9,Og 10 true 11 (.addo 1 (.t 2)),Og 10 true 12 (.load false 1 (.t 11)),Og 10 true 13 (.addo 1 (.t 3)),Og 10 true 14 (.load false 1 (.t 13)),Og 10 true 15 (.bin .eql (.t 12) (.t 14)),Oo 16 (.pick (.t 10) (.t 15) (.k (.bool false))),oM 17 16,Og 17 true 18 (.addo 2 (.t 2)),Og 17 true 19 (.load false 1 (.t 18)),Og 17 true 20 (.addo 2 (.t 3)),Og 17 true 21 (.load false 1 (.t 20)),Og 17 true 22 (.bin .eql (.t 19) (.t 21)),Oo 23 (.pick (.t 17) (.t 22) (.k (.bool false))),oM 24 23,Og 24 true 25 (.addo 3 (.t 2)),Og 24 true 26 (.load false 1 (.t 25)),Og 24 true 27 (.addo 3 (.t 3)),Og 24 true 28 (.load false 1 (.t 27)),Og 24 true 29 (.bin .eql (.t 26) (.t 28)),Oo 30 (.pick (.t 24) (.t 29) (.k (.bool false))),oM 31 30,Og 31 true 32 (.addo 4 (.t 2)),Og 31 true 33 (.load false 1 (.t 32)),Og 31 true 34 (.addo 4 (.t 3)),Og 31 true 35 (.load false 1 (.t 34)),Og 31 true 36 (.binb false (.t 33) (.t 35)),Oo 37 (.pick (.t 31) (.t 36) (.k (.bool false))),oM 38 37,Og 38 true 39 (.addo 5 (.t 2)),Og 38 true 40 (.load false 1 (.t 39)),Og 38 true 41 (.addo 5 (.t 3)),Og 38 true 42 (.load false 1 (.t 41)),Og 38 true 43 (.bin .eql (.t 40) (.t 42)),Oo 44 (.pick (.t 38) (.t 43) (.k (.bool false))),oM 45 44,Og 45 true 46 (.addo 6 (.t 2)),Og 45 true 47 (.load false 1 (.t 46)),Og 45 true 48 (.addo 6 (.t 3)),Og 45 true 49 (.load false 1 (.t 48)),Og 45 true 50 (.bin .eql (.t 47) (.t 49)),Oo 51 (.pick (.t 45) (.t 50) (.k (.bool false))),oM 52 51,Og 52 true 53 (.addo 7 (.t 2)),Og 52 true 54 (.load false 1 (.t 53)),Og 52 true 55 (.addo 7 (.t 3)),Og 52 true 56 (.load false 1 (.t 55)),Og 52 true 57 (.call 83 [(.t 54),(.t 56)]),Oo 58 (.pick (.t 52) (.t 57) (.k (.bool false))),oM 59 58,Og 59 true 60 (.addo 8 (.t 2)),Og 59 true 61 (.load false 1 (.t 60)),Og 59 true 62 (.addo 8 (.t 3)),Og 59 true 63 (.load false 1 (.t 62)),Og 59 true 64 (.bin .eql (.t 61) (.t 63)),Oo 65 (.pick (.t 59) (.t 64) (.k (.bool false))),oM 66 65,Og 66 true 67 (.addo 9 (.t 2)),Og 66 true 68 (.load false 1 (.t 67)),Og 66 true 69 (.addo 9 (.t 3)),Og 66 true 70 (.load false 1 (.t 69)),Og 66 true 71 (.bin .eql (.t 68) (.t 70)),Oo 72 (.pick (.t 66) (.t 71) (.k (.bool false))),oM 73 72,Og 73 true 74 (.addo 10 (.t 2)),Og 73 true 75 (.load false 1 (.t 74)),Og 73 true 76 (.addo 10 (.t 3)),Og 73 true 77 (.load false 1 (.t 76)),Og 73 true 78 (.bin .eql (.t 75) (.t 77)),Oo 79 (.pick (.t 73) (.t 78) (.k (.bool false))),oM 4 79])
 .ret))
abbrev h35:HF:=⟨h35c,[.tmp 4],80,false⟩
theorem h35_ok:CK Tryz.f35 h35c:=by unfold CK;kernel_rfl
theorem r35_ok:RK Tryz.f35 [.tmp 4]:=by unfold RK;kernel_rfl
def h36c:HC:=
 (.seq (.region [Oo 4 (.mov (.k (.slice none 0 0)))])
 (.seq (.drawn [Qo (oM 5 0),Qo (oM 6 1),Qo (Oo 7 (.slL 11 (.t 5) none (some (.t 6)))),Qo (oM 9 0),Qo (oM 10 1),Qo (oB 11 .add 10 1),Qo (Oo 12 (.slL 11 (.t 9) (some (.t 11)) none)),Qe (Oo 8 (.call 67 [(.t 7)])),Qe (Oo 13 (.call 67 [(.t 12)])),Qe (Oo 14 (.app 11 120 [Zi 0,(.string ⟨#[]⟩),Zi 0,Zi 0,(.bool false),(.string ⟨#[]⟩),Zi 0,(.slice none 0 0),Zi 0,Zi 0,Zi 0] (.t 8) (.t 13))),Qo (oM 4 14)])
 .ret))
abbrev h36:HF:=⟨h36c,[.tmp 4],15,false⟩
theorem h36_ok:CK Tryz.f36 h36c:=by unfold CK;kernel_rfl
theorem r36_ok:RK Tryz.f36 [.tmp 4]:=by unfold RK;kernel_rfl
def h37c:HC:=
 (.seq (.region [Oo 1 (.box (.t 0)),oK 2 0])
 (.seq (.seq (.region [oA 4 0 1,oL 5 4,Oo 6 (.call 84 [(.t 5)]),Oo 7 (.un .not (.t 6))])
 (.cond (.t 7) (.seq (.region [oK 2 15])
 .ret)
 .skip))
 (.seq (.seq (.region [oA 8 1 1,oL 9 8,Oo 10 (.call 85 [(.t 9)]),Oo 11 (.un .not (.t 10))])
 (.cond (.t 11) (.seq (.region [oK 2 4])
 .ret)
 .skip))
 (.seq (.seq (.region [oA 12 2 1,oL 13 12,Oo 14 (.call 19 [(.t 13),(Ki 0),(Ki 65535)]),Oo 15 (.un .not (.t 14)),oM 16 15,Og 16 false 17 (.addo 3 (.t 1)),Og 16 false 18 (.load false 1 (.t 17)),Og 16 false 19 (.call 19 [(.t 18),(Ki 0),(Ki 7)]),Og 16 false 20 (.un .not (.t 19)),Oo 21 (.pick (.t 16) (.k (.bool true)) (.t 20))])
 (.cond (.t 21) (.seq (.region [oK 2 2])
 .ret)
 .skip))
 (.seq (.region [oG 22 11 1,Oo 23 (.call 86 [(.t 22)]),oM 3 23])
 (.seq (.seq (.region [oA 24 4 1,oL 25 24])
 (.cond (.t 25) (.region [oG 26 11 1,Oo 27 (.call 87 [(.t 26)]),oM 3 27])
 .skip))
 (.seq (.seq (.region [oM 28 3,oB 29 .eql 28 0,oM 30 29,Og 30 true 31 (.load true 11 (.t 1)),Og 30 true 32 (.call 38 [(.t 31)]),Og 30 true 33 (.lenS (.t 32)),Og 30 true 34 (.bin .gtr (.t 33) (Ki 440)),Oo 35 (.pick (.t 30) (.t 34) (.k (.bool false)))])
 (.cond (.t 35) (.region [oK 3 16])
 .skip))
 (.seq (.region [oM 36 3,oM 2 36])
 .ret))))))))
abbrev h37:HF:=⟨h37c,[.tmp 2],37,false⟩
theorem h37_ok:CK Tryz.f37 h37c:=by unfold CK;kernel_rfl
theorem r37_ok:RK Tryz.f37 [.tmp 2]:=by unfold RK;kernel_rfl
def h38c:HC:=
 (.seq (.region [Oo 1 (.box (.t 0)),Oo 2 (.mov (.k (.string ⟨#[]⟩)))])
 (.seq (.drawn [Qo (oA 9 5 1),Qo (oL 10 9),Qo (oK 3 24),Qo (oM 4 10)])
 (.seq (.seq (.region [oA 11 4 1,oL 12 11,Oo 13 (.un .not (.t 12))])
 (.cond (.t 13) (.region [oA 14 7 1,oL 15 14,Oo 16 (.call 88 [(.t 15)]),oK 3 40,oM 4 16])
 .skip))
 (.seq (.region [oM 17 3,oA 18 1 1,oL 19 18,Oo 20 (.lenS (.t 19)),oC 21 .add 17 20,Oo 22 (.call 89 [(.t 21),(Ki 8)]),Oo 23 (.bin .mul (Ki 8) (.t 22)),oM 5 23])
 (.seq (.drawn [Qo (oA 24 4 1),Qo (oL 25 24),Qo (Oo 26 (.un .not (.t 25))),Qo (Oo 27 (.call 91 [(.t 26)])),Qo (Oo 28 (.call 90 [(.t 27),(Ki 1)])),Qo (oA 29 1 1),Qo (oL 30 29),Qo (Oo 31 (.lenS (.t 30))),Qo (Oo 32 (.call 90 [(.t 31),(Ki 1)])),Qo (oC 33 .add 28 32),Qo (oM 34 3),Qo (Oo 35 (.call 90 [(.t 34),(Ki 2)])),Qo (oC 36 .add 33 35),Qo (oA 37 3 1),Qo (oL 38 37),Qo (Oo 39 (.call 90 [(.t 38),(Ki 2)])),Qo (oC 40 .add 36 39),Qo (oA 41 2 1),Qo (oL 42 41),Qo (Oo 43 (.call 90 [(.t 42),(Ki 2)])),Qo (oC 44 .add 40 43),Qo (oM 6 44)])
 (.seq (.seq (.region [oA 45 4 1,oL 46 45])
 (.cond (.t 46) (.region [oM 47 6,oA 48 5 1,oL 49 48,Oo 50 (.lenS (.t 49)),Oo 51 (.call 90 [(.t 50),(Ki 4)]),oC 52 .add 47 51,oM 53 5,Oo 54 (.call 90 [(.t 53),(Ki 4)]),oC 55 .add 52 54,oM 6 55])
 (.seq (.drawn [Qo (oA 56 6 1),Qo (oL 57 56),Qo (oA 58 7 1),Qo (oL 59 58),Qo (Oo 60 (.call 92 [(.t 59)])),Qo (oC 61 .add 57 60),Qo (oB 62 .sub 61 1),Qe (Oo 63 (.call 45 [(.t 62),(Ki 4294967296)])),Qo (oM 7 63)])
 (.drawn [Qo (oM 64 6),Qo (oA 65 6 1),Qo (oL 66 65),Qo (Oo 67 (.call 90 [(.t 66),(Ki 4)])),Qo (oC 68 .add 64 67),Qo (oM 69 7),Qo (Oo 70 (.call 90 [(.t 69),(Ki 4)])),Qo (oC 71 .add 68 70),Qo (oM 72 5),Qo (Oo 73 (.call 90 [(.t 72),(Ki 2)])),Qo (oC 74 .add 71 73),Qo (Oo 75 (.call 93 [(Ki 2)])),Qo (oC 76 .add 74 75),Qo (oA 77 8 1),Qo (oL 78 77),Qo (Oo 79 (.call 90 [(.t 78),(Ki 4)])),Qo (oC 80 .add 76 79),Qo (oA 81 9 1),Qo (oL 82 81),Qo (Oo 83 (.call 90 [(.t 82),(Ki 4)])),Qo (oC 84 .add 80 83),Qo (oA 85 10 1),Qo (oL 86 85),Qo (Oo 87 (.call 90 [(.t 86),(Ki 4)])),Qo (oC 88 .add 84 87),Qo (oM 6 88)]))))
 (.seq (.drawn [Qo (oM 89 6),Qo (oA 90 1 1),Qo (oL 91 90),Qo (oC 92 .add 89 91),Qo (oM 93 5),Qo (oM 94 3),Qo (oC 95 .sub 93 94),Qo (oA 96 1 1),Qo (oL 97 96),Qo (Oo 98 (.lenS (.t 97))),Qo (oC 99 .sub 95 98),Qo (Oo 100 (.call 93 [(.t 99)])),Qo (oC 101 .add 92 100),Qo (oM 102 4),Qo (oC 103 .add 101 102),Qe (Oo 104 (.call 94 [(.t 103)])),Qo (Oo 105 (.bin .add (.t 104) (.k (.string ⟨#[]⟩)))),Qo (oM 6 105)])
 (.seq (.region [oM 106 6,Oo 107 (.lenS (.t 106)),oB 108 .add 107 8,Oo 109 (.call 89 [(.t 108),(Ki 8)]),Oo 110 (.bin .mul (Ki 8) (.t 109)),oM 8 110])
 (.seq (.region [oA 111 0 1,oL 112 111,Oo 113 (.call 90 [(.t 112),(Ki 4)]),oM 114 8,Oo 115 (.call 90 [(.t 114),(Ki 4)]),oC 116 .add 113 115,oM 117 6,oC 118 .add 116 117,oM 2 118])
 .ret)))))))))
abbrev h38:HF:=⟨h38c,[.tmp 2],119,false⟩
theorem h38_ok:CK Tryz.f38 h38c:=by unfold CK;kernel_rfl
theorem r38_ok:RK Tryz.f38 [.tmp 2]:=by unfold RK;kernel_rfl
def h39c:HC:=
 (.seq (.region [Oo 2 (.box (.t 0)),Oo 3 (.box (.t 1)),Oo 4 (.mov (.k (.bool false)))])
 (.seq (.region [oA 5 0 2,oL 6 5,oA 7 0 3,oL 8 7,oC 9 .eql 6 8,oM 10 9,Og 10 true 11 (.addo 1 (.t 2)),Og 10 true 12 (.load false 1 (.t 11)),Og 10 true 13 (.addo 1 (.t 3)),Og 10 true 14 (.load false 1 (.t 13)),Og 10 true 15 (.bin .eql (.t 12) (.t 14)),Oo 16 (.pick (.t 10) (.t 15) (.k (.bool false))),oM 17 16,Og 17 true 18 (.addo 2 (.t 2)),Og 17 true 19 (.load false 1 (.t 18)),Og 17 true 20 (.addo 2 (.t 3)),Og 17 true 21 (.load false 1 (.t 20)),Og 17 true 22 (.bin .eql (.t 19) (.t 21)),Oo 23 (.pick (.t 17) (.t 22) (.k (.bool false))),oM 24 23,Og 24 true 25 (.addo 3 (.t 2)),Og 24 true 26 (.load true 2 (.t 25)),Og 24 true 27 (.addo 3 (.t 3)),Og 24 true 28 (.load true 2 (.t 27)),Og 24 true 29 (.eqs false [.i,.i] (.t 26) (.t 28)),Oo 30 (.pick (.t 24) (.t 29) (.k (.bool false))),oM 31 30,Og 31 true 32 (.addo 5 (.t 2)),Og 31 true 33 (.load false 1 (.t 32)),Og 31 true 34 (.addo 5 (.t 3)),Og 31 true 35 (.load false 1 (.t 34)),Og 31 true 36 (.bin .eql (.t 33) (.t 35)),Oo 37 (.pick (.t 31) (.t 36) (.k (.bool false))),oM 38 37,Og 38 true 39 (.addo 6 (.t 2)),Og 38 true 40 (.load false 1 (.t 39)),Og 38 true 41 (.addo 6 (.t 3)),Og 38 true 42 (.load false 1 (.t 41)),Og 38 true 43 (.bin .eql (.t 40) (.t 42)),Oo 44 (.pick (.t 38) (.t 43) (.k (.bool false))),oM 45 44,Og 45 true 46 (.addo 7 (.t 2)),Og 45 true 47 (.load false 1 (.t 46)),Og 45 true 48 (.addo 7 (.t 3)),Og 45 true 49 (.load false 1 (.t 48)),Og 45 true 50 (.call 95 [(.t 47),(.t 49)]),Oo 51 (.pick (.t 45) (.t 50) (.k (.bool false))),oM 4 51])
 .ret))
abbrev h39:HF:=⟨h39c,[.tmp 4],52,false⟩
theorem h39_ok:CK Tryz.f39 h39c:=by unfold CK;kernel_rfl
theorem r39_ok:RK Tryz.f39 [.tmp 4]:=by unfold RK;kernel_rfl
def h41l0:HC:=
 (.seq (.region [oC 27 .lss 26 25])
 (.seq (.cond (.t 27) .skip
 (.exit 0))
 (.seq (.block 1 (.seq (.region [oI 28 11 24 26,oG 29 11 28,Oo 7 (.alloc [Zi 0,(.string ⟨#[]⟩),Zi 0,Zi 0,(.bool false),(.string ⟨#[]⟩),Zi 0,(.slice none 0 0),Zi 0,Zi 0,Zi 0]),oS 11 7 29])
 (.seq (.region [oG 31 11 7,Oo 32 (.call 102 [(.t 31)]),oM 30 32,oE 33 30 0,oE 34 30 1,oM 8 33,oM 9 34])
 (.region [oM 35 5,oM 36 8,oC 37 .add 35 36,oM 5 37]))))
 (.region [oB 38 .add 26 1,oM 26 38]))))
def h41c:HC:=
 (.seq (.region [Oo 1 (.box (.t 0)),Oo 2 (.mov (.k (.string ⟨#[]⟩))),oK 3 0])
 (.seq (.seq (.drawn [Qo (oA 10 0 1),Qo (oG 11 8 10),Qo (Oo 12 (.call 68 [(.t 11)])),Qo (oA 13 8 1),Qo (oL 14 13),Qe (Oo 15 (.call 58 [(.t 14),(Ki 1),(Ki 65535)])),Qe (Oo 16 (.call 60 [(.t 15),(Ki 2)])),Qe (Oo 17 (.bslc 1 2 [Zi 0] [(0,(.t 12)),(1,(.t 16))])),Qe (Oo 18 (.call 59 [(.t 17)])),Qo (oM 4 18)])
 (.seq (.region [oM 19 4,oB 20 .neq 19 0])
 (.cond (.t 20) (.seq (.region [oM 21 4,Oo 2 (.mov (.k (.string ⟨#[]⟩))),oM 3 21])
 .ret)
 .skip)))
 (.seq (.region [Oo 5 (.mov (.k (.string ⟨#[]⟩)))])
 (.seq (.seq (.region [oA 22 0 1,oA 23 7 22,oL 24 23,oN 25 24,oK 26 0])
 (.block 0 (.loop [1,3,18,0,0] h41l0)))
 (.seq (.drawn [Qo (oA 39 0 1),Qo (oG 40 8 39),Qo (oM 41 5),Qo (Oo 42 (.call 99 [(.t 40),(.t 41)])),Qo (oA 43 8 1),Qo (oL 44 43),Qe (Oo 45 (.call 103 [(.t 42),(.t 44)])),Qo (oE 46 45 0),Qo (oE 47 45 1),Qo (oM 2 46),Qo (oM 3 47)])
 .ret)))))
abbrev h41:HF:=⟨h41c,[.tmp 2,.tmp 3],48,false⟩
theorem h41_ok:CK Tryz.f41 h41c:=by unfold CK;kernel_rfl
theorem r41_ok:RK Tryz.f41 [.tmp 2,.tmp 3]:=by unfold RK;kernel_rfl
def h45c:HC:=
 (.seq (.region [oK 4 0])
 (.seq (.region [oM 5 0,oM 6 1,oC 7 .rem 5 6,oM 0 7])
 (.seq (.seq (.region [oM 8 0,oB 9 .lss 8 0])
 (.cond (.t 9) (.region [oM 10 0,oM 11 1,oC 12 .add 10 11,oM 0 12])
 .skip))
 (.seq (.region [oM 13 0,oM 4 13])
 .ret))))
abbrev h45:HF:=⟨h45c,[.tmp 4],14,false⟩
theorem h45_ok:CK Tryz.f45 h45c:=by unfold CK;kernel_rfl
theorem r45_ok:RK Tryz.f45 [.tmp 4]:=by unfold RK;kernel_rfl
def h51c:HC:=
 (.seq (.region [Oo 1 (.box (.t 0)),Oo 2 (.mov (.k (.string ⟨#[]⟩)))])
 (.seq (.drawn [Qo (oA 3 0 1),Qo (oL 4 3),Qo (Oo 5 (.call 109 [(.t 4)])),Qo (Oo 6 (.bin .add (.t 5) (.k (.string ⟨#[35]⟩)))),Qo (oA 7 1 1),Qo (oL 8 7),Qo (Oo 9 (.call 109 [(.t 8)])),Qo (oC 10 .add 6 9),Qo (oM 2 10)])
 .ret))
abbrev h51:HF:=⟨h51c,[.tmp 2],11,false⟩
theorem h51_ok:CK Tryz.f51 h51c:=by unfold CK;kernel_rfl
theorem r51_ok:RK Tryz.f51 [.tmp 2]:=by unfold RK;kernel_rfl
def h55c:HC:=
 (.seq (.region [Oo 1 (.box (.t 0)),oK 2 0])
 (.seq (.seq (.region [oA 3 0 1,oL 4 3,Oo 5 (.call 19 [(.t 4),(Ki 0),(Ki 95)]),Oo 6 (.un .not (.t 5)),oM 7 6,Og 7 false 8 (.addo 1 (.t 1)),Og 7 false 9 (.load false 1 (.t 8)),Og 7 false 10 (.call 19 [(.t 9),(Ki 1),(Ki 65535)]),Og 7 false 11 (.un .not (.t 10)),Oo 12 (.pick (.t 7) (.k (.bool true)) (.t 11))])
 (.cond (.t 12) (.seq (.region [oK 2 2])
 .ret)
 .skip))
 (.seq (.region [oK 2 0])
 .ret)))
abbrev h55:HF:=⟨h55c,[.tmp 2],13,false⟩
theorem h55_ok:CK Tryz.f55 h55c:=by unfold CK;kernel_rfl
theorem r55_ok:RK Tryz.f55 [.tmp 2]:=by unfold RK;kernel_rfl
def h56c:HC:=
 (.seq (.region [Oo 0 (.alloc [Zi 0,Zi 0,Zi 0,Zi 0,Zi 0,Zi 0,Zi 0,(.slice none 0 0)])])
 (.seq (.region [Oo 1 (.build [Zi 0,(.string ⟨#[]⟩),Zi 0,Zi 0,(.bool false),(.string ⟨#[]⟩),Zi 0,(.slice none 0 0),Zi 0,Zi 0,Zi 0] [(0,1,(Ki 128)),(4,1,(.k (.bool true))),(5,1,(.k (.string ⟨#[97,98,99]⟩)))]),Oo 2 (.bslc 11 1 [Zi 0,(.string ⟨#[]⟩),Zi 0,Zi 0,(.bool false),(.string ⟨#[]⟩),Zi 0,(.slice none 0 0),Zi 0,Zi 0,Zi 0] [(0,(.t 1))]),Oo 3 (.build [Zi 0,Zi 0,Zi 0,Zi 0,Zi 0,Zi 0,Zi 0,(.slice none 0 0)] [(0,1,(Ki 3)),(2,1,(Ki 1)),(5,1,(Ki 1)),(7,1,(.t 2))]),oS 8 0 3])
 .ret))
abbrev h56:HF:=⟨h56c,[.cell 0 true 8],4,false⟩
theorem h56_ok:CK Tryz.f56 h56c:=by unfold CK;kernel_rfl
theorem r56_ok:RK Tryz.f56 [.cell 0 true 8]:=by unfold RK;kernel_rfl
def h57l0:HC:=
 (.seq (.seq (.region [oM 11 8,oB 12 .geq 11 0])
 (.cond (.t 12) .skip
 (.exit 0)))
 (.seq (.block 1 (.region [oM 15 7,oB 16 .mul 15 256,oM 17 0,oM 18 1,oM 19 8,oC 20 .add 18 19,Oo 21 (.ixS (.t 17) (.t 20)),Oo 22 (.conv .i64 (.t 21)),oC 23 .add 16 22,oM 7 23]))
 (.region [oM 13 8,oB 14 .sub 13 1,oM 8 14])))
def h57c:HC:=
 (.seq (.region [oK 6 0])
 (.seq (.region [oK 7 0])
 (.seq (.seq (.region [oM 9 2,oB 10 .sub 9 1,oM 8 10])
 (.block 0 (.loop [0,0,5,0] h57l0)))
 (.seq (.region [oM 24 7,oM 6 24])
 .ret))))
abbrev h57:HF:=⟨h57c,[.tmp 6],25,false⟩
theorem h57_ok:CK Tryz.f57 h57c:=by unfold CK;kernel_rfl
theorem r57_ok:RK Tryz.f57 [.tmp 6]:=by unfold RK;kernel_rfl
def h58c:HC:=
 (.seq (.region [Oo 6 (.mov (.k (.bool false)))])
 (.seq (.region [oM 7 1,oM 8 0,oC 9 .leq 7 8,oM 10 9,Og 10 true 11 (.mov (.t 0)),Og 10 true 12 (.mov (.t 2)),Og 10 true 13 (.bin .leq (.t 11) (.t 12)),Oo 14 (.pick (.t 10) (.t 13) (.k (.bool false))),oM 6 14])
 .ret))
abbrev h58:HF:=⟨h58c,[.tmp 6],15,false⟩
theorem h58_ok:CK Tryz.f58 h58c:=by unfold CK;kernel_rfl
theorem r58_ok:RK Tryz.f58 [.tmp 6]:=by unfold RK;kernel_rfl
def h59l0:HC:=
 (.seq (.region [oC 8 .lss 7 6])
 (.seq (.cond (.t 8) .skip
 (.exit 0))
 (.seq (.block 1 (.seq (.region [oI 9 1 5 7,oL 10 9,oM 4 10])
 (.seq (.region [oM 11 4,oB 12 .neq 11 0])
 (.cond (.t 12) (.seq (.region [oM 13 4,oM 2 13])
 .ret)
 .skip))))
 (.region [oB 14 .add 7 1,oM 7 14]))))
def h59c:HC:=
 (.seq (.region [oK 2 0])
 (.seq (.seq (.region [oM 5 0,oN 6 5,oK 7 0])
 (.block 0 (.loop [5,0,0] h59l0)))
 (.seq (.region [oK 2 0])
 .ret)))
abbrev h59:HF:=⟨h59c,[.tmp 2],15,false⟩
theorem h59_ok:CK Tryz.f59 h59c:=by unfold CK;kernel_rfl
theorem r59_ok:RK Tryz.f59 [.tmp 2]:=by unfold RK;kernel_rfl
def h60c:HC:=
 (.seq (.region [oK 4 0])
 (.seq (.seq (.region [oM 5 0])
 (.cond (.t 5) (.seq (.region [oK 4 0])
 .ret)
 .skip))
 (.seq (.region [oM 6 1,oM 4 6])
 .ret)))
abbrev h60:HF:=⟨h60c,[.tmp 4],7,false⟩
theorem h60_ok:CK Tryz.f60 h60c:=by unfold CK;kernel_rfl
theorem r60_ok:RK Tryz.f60 [.tmp 4]:=by unfold RK;kernel_rfl
def h61c:HC:=
 (.seq (.region [Oo 1 (.box (.t 0)),oK 2 0])
 (.seq (.seq (.region [oG 3 2 1,Oo 4 (.build [Zi 0,Zi 0] []),Oo 5 (.eqs false [.i,.i] (.t 3) (.t 4))])
 (.cond (.t 5) (.seq (.region [oK 2 0])
 .ret)
 .skip))
 (.seq (.region [oG 6 2 1,Oo 7 (.call 112 [(.t 6)]),oM 2 7])
 .ret)))
abbrev h61:HF:=⟨h61c,[.tmp 2],8,false⟩
theorem h61_ok:CK Tryz.f61 h61c:=by unfold CK;kernel_rfl
theorem r61_ok:RK Tryz.f61 [.tmp 2]:=by unfold RK;kernel_rfl
def h62c:HC:=
 (.seq (.region [Oo 1 (.box (.t 0)),Oo 2 (.mov (.k (.bool false)))])
 (.seq (.region [oA 3 2 1,oL 4 3,oB 5 .and 4 1,oB 6 .neq 5 0,oM 2 6])
 .ret))
abbrev h62:HF:=⟨h62c,[.tmp 2],7,false⟩
theorem h62_ok:CK Tryz.f62 h62c:=by unfold CK;kernel_rfl
theorem r62_ok:RK Tryz.f62 [.tmp 2]:=by unfold RK;kernel_rfl
def h63l0:HC:=
 (.seq (.region [oC 14 .lss 13 12])
 (.seq (.cond (.t 14) .skip
 (.exit 0))
 (.seq (.block 1 (.seq (.region [oM 15 13,oI 16 11 11 13,oG 17 11 16,Oo 5 (.alloc [Zi 0,(.string ⟨#[]⟩),Zi 0,Zi 0,(.bool false),(.string ⟨#[]⟩),Zi 0,(.slice none 0 0),Zi 0,Zi 0,Zi 0]),oM 4 15,oS 11 5 17])
 (.seq (.region [oM 18 0,oM 19 4,Oo 20 (.call 116 [(.t 18),(.t 19)]),oM 6 20])
 (.seq (.seq (.region [oM 21 4,oB 22 .gtr 21 0])
 (.cond (.t 22) (.seq (.region [oM 23 0,oM 24 4,oB 25 .sub 24 1,oI 26 11 23 25,oG 27 11 26,Oo 7 (.alloc [Zi 0,(.string ⟨#[]⟩),Zi 0,Zi 0,(.bool false),(.string ⟨#[]⟩),Zi 0,(.slice none 0 0),Zi 0,Zi 0,Zi 0]),oS 11 7 27])
 (.drawn [Qo (oM 28 6),Qo (oG 29 11 7),Qo (oG 30 11 5),Qo (Oo 31 (.call 119 [(.t 29),(.t 30)])),Qo (oB 32 .leq 31 0),Qo (Oo 33 (.call 118 [(.t 32),(Ki 9)])),Qo (oG 34 11 7),Qo (oG 35 11 5),Qo (Oo 36 (.call 120 [(.t 34),(.t 35)])),Qo (Oo 37 (.un .not (.t 36))),Qo (oM 38 37),Qo (Og 38 false 39 (.addo 0 (.t 5))),Qo (Og 38 false 40 (.load false 1 (.t 39))),Qo (Og 38 false 41 (.bin .eql (.t 40) (Ki 48))),Qo (Oo 42 (.pick (.t 38) (.k (.bool true)) (.t 41))),Qo (Oo 43 (.call 118 [(.t 42),(Ki 5)])),Qe (Oo 44 (.bslc 1 3 [Zi 0] [(0,(.t 28)),(1,(.t 33)),(2,(.t 43))])),Qe (Oo 45 (.call 117 [(.t 44)])),Qo (oM 6 45)]))
 .skip))
 (.seq (.region [oM 46 6,oB 47 .neq 46 0])
 (.cond (.t 47) (.seq (.region [oM 48 4,oM 49 6,oM 2 48,oM 3 49])
 .ret)
 .skip))))))
 (.region [oB 50 .add 13 1,oM 13 50]))))
def h63c:HC:=
 (.seq (.region [oK 2 0,oK 3 0])
 (.seq (.seq (.region [oM 8 0,oN 9 8,oB 10 .gtr 9 32])
 (.cond (.t 10) (.seq (.region [oK 2 0,oK 3 8])
 .ret)
 .skip))
 (.seq (.seq (.region [oM 11 0,oN 12 11,oK 13 0])
 (.block 0 (.loop [0,10,0,0] h63l0)))
 (.seq (.region [oK 2 0,oK 3 0])
 .ret))))
abbrev h63:HF:=⟨h63c,[.tmp 2,.tmp 3],51,false⟩
theorem h63_ok:CK Tryz.f63 h63c:=by unfold CK;kernel_rfl
theorem r63_ok:RK Tryz.f63 [.tmp 2,.tmp 3]:=by unfold RK;kernel_rfl
def h64l0:HC:=
 (.seq (.region [oC 9 .lss 8 7])
 (.seq (.cond (.t 9) .skip
 (.exit 0))
 (.seq (.block 1 (.seq (.region [oM 10 8,oM 5 10])
 (.seq (.region [oM 11 1,oM 12 0,oM 13 5,oI 14 11 12 13,oG 15 11 14,Oo 16 (.callv (.t 11) [(.t 15)])])
 (.cond (.t 16) (.seq (.region [oM 17 5,oM 4 17])
 .ret)
 .skip))))
 (.region [oB 18 .add 8 1,oM 8 18]))))
def h64c:HC:=
 (.seq (.region [oK 4 0])
 (.seq (.seq (.region [oM 6 0,oN 7 6,oK 8 0])
 (.block 0 (.loop [0,0,5,0] h64l0)))
 (.seq (.region [Oo 4 (.mov (Ki (-1)))])
 .ret)))
abbrev h64:HF:=⟨h64c,[.tmp 4],19,false⟩
theorem h64_ok:CK Tryz.f64 h64c:=by unfold CK;kernel_rfl
theorem r64_ok:RK Tryz.f64 [.tmp 4]:=by unfold RK;kernel_rfl
def h65c:HC:=
 (.seq (.region [Oo 2 (.box (.t 0)),Oo 3 (.mov (.k (.bool false)))])
 (.seq (.region [oA 4 2 2,oL 5 4,oA 6 5 1,oL 7 6,oC 8 .geq 5 7,oM 3 8])
 .ret))
abbrev h65:HF:=⟨h65c,[.tmp 3],9,false⟩
theorem h65_ok:CK Tryz.f65 h65c:=by unfold CK;kernel_rfl
theorem r65_ok:RK Tryz.f65 [.tmp 3]:=by unfold RK;kernel_rfl
def h66l0:HC:=
 (.seq (.region [oC 11 .lss 10 9])
 (.seq (.cond (.t 11) .skip
 (.exit 0))
 (.seq (.block 1 (.seq (.region [oI 12 11 8 10,oG 13 11 12,Oo 5 (.alloc [Zi 0,(.string ⟨#[]⟩),Zi 0,Zi 0,(.bool false),(.string ⟨#[]⟩),Zi 0,(.slice none 0 0),Zi 0,Zi 0,Zi 0]),oS 11 5 13])
 (.seq (.region [oG 15 11 5,Oo 16 (.call 121 [(.t 15)]),oM 14 16,oE 17 14 0,oE 18 14 1,oM 6 17,oM 7 18])
 (.region [oM 19 3,oM 20 6,oC 21 .add 19 20,oM 3 21]))))
 (.region [oB 22 .add 10 1,oM 10 22]))))
def h66c:HC:=
 (.seq (.region [oK 2 0])
 (.seq (.region [oK 3 0])
 (.seq (.seq (.region [oM 8 0,oN 9 8,oK 10 0])
 (.block 0 (.loop [3,4,0,0] h66l0)))
 (.seq (.region [oM 23 3,oM 2 23])
 .ret))))
abbrev h66:HF:=⟨h66c,[.tmp 2],24,false⟩
theorem h66_ok:CK Tryz.f66 h66c:=by unfold CK;kernel_rfl
theorem r66_ok:RK Tryz.f66 [.tmp 2]:=by unfold RK;kernel_rfl
def h67l0:HC:=
 (.seq (.seq (.region [oM 5 4,oM 6 0,oN 7 6,oC 8 .lss 5 7])
 (.cond (.t 8) .skip
 (.exit 0)))
 (.seq (.block 1 (.region [oM 11 3,oM 12 0,oM 13 4,oI 14 11 12 13,oG 15 11 14,Oo 16 (.call 27 [(.t 15)]),Oo 17 (.bslc 11 1 [Zi 0,(.string ⟨#[]⟩),Zi 0,Zi 0,(.bool false),(.string ⟨#[]⟩),Zi 0,(.slice none 0 0),Zi 0,Zi 0,Zi 0] [(0,(.t 16))]),Oo 18 (.app 11 120 [Zi 0,(.string ⟨#[]⟩),Zi 0,Zi 0,(.bool false),(.string ⟨#[]⟩),Zi 0,(.slice none 0 0),Zi 0,Zi 0,Zi 0] (.t 11) (.t 17)),oM 3 18]))
 (.region [oM 9 4,oB 10 .add 9 1,oM 4 10])))
def h67c:HC:=
 (.seq (.region [Oo 2 (.mov (.k (.slice none 0 0)))])
 (.seq (.region [Oo 3 (.mov (.k (.slice none 0 0)))])
 (.gh (.nil 3 11) (.seq (.seq (.region [oK 4 0])
 (.block 0 (.loop [0,2,0] h67l0)))
 (.seq (.region [oM 19 3,oM 2 19])
 .ret)))))
abbrev h67:HF:=⟨h67c,[.tmp 2],20,false⟩
theorem h67_ok:CK Tryz.f67 h67c:=by unfold CK;kernel_rfl
theorem r67_ok:RK Tryz.f67 [.tmp 2]:=by unfold RK;kernel_rfl
def h68c:HC:=
 (.seq (.region [Oo 1 (.box (.t 0)),oK 2 0])
 (.seq (.region [oG 6 8 1,Oo 7 (.call 13 [(.t 6)]),oM 5 7,oE 8 5 0,oE 9 5 1,oM 3 8,oM 4 9])
 (.seq (.region [oM 10 4,oM 2 10])
 .ret)))
abbrev h68:HF:=⟨h68c,[.tmp 2],11,false⟩
theorem h68_ok:CK Tryz.f68 h68c:=by unfold CK;kernel_rfl
theorem r68_ok:RK Tryz.f68 [.tmp 2]:=by unfold RK;kernel_rfl
def h69c:HC:=
 (.seq (.region [oK 4 0])
 (.seq (.region [oM 5 0,oM 6 1,oC 7 .rem 5 6,oB 8 .add 7 1,oM 4 8])
 .ret))
abbrev h69:HF:=⟨h69c,[.tmp 4],9,false⟩
theorem h69_ok:CK Tryz.f69 h69c:=by unfold CK;kernel_rfl
theorem r69_ok:RK Tryz.f69 [.tmp 4]:=by unfold RK;kernel_rfl
def h70l0:HC:=
 (.seq (.seq (.region [oM 9 4,oM 10 0,oN 11 10,oC 12 .lss 9 11])
 (.cond (.t 12) .skip
 (.exit 0)))
 (.seq (.block 1 (.seq (.seq (.region [oM 15 0,oM 16 4,Oo 17 (.call 122 [(.t 15),(.t 16)]),oM 5 17])
 (.seq (.region [oM 18 5,oB 19 .neq 18 0])
 (.cond (.t 19) (.seq (.region [oM 20 4,oM 21 5,oM 2 20,oM 3 21])
 .ret)
 .skip)))
 (.seq (.seq (.drawn [Qo (oM 22 4),Qo (oB 23 .gtr 22 0),Qo (oM 24 23),Qo (Og 24 true 25 (.mov (.t 0))),Qo (Og 24 true 26 (.mov (.t 4))),Qo (Og 24 true 27 (.bin .sub (.t 26) (Ki 1))),Qo (Og 24 true 28 (.ixL 11 (.t 25) (.t 27))),Qo (Og 24 true 29 (.load true 11 (.t 28))),Qo (Og 24 true 30 (.mov (.t 0))),Qo (Og 24 true 31 (.mov (.t 4))),Qo (Og 24 true 32 (.ixL 11 (.t 30) (.t 31))),Qo (Og 24 true 33 (.load true 11 (.t 32))),Qe (Og 24 true 34 (.call 123 [(.t 29),(.t 33)])),Qo (Og 24 true 35 (.bin .gtr (.t 34) (Ki 0))),Qo (Oo 36 (.pick (.t 24) (.t 35) (.k (.bool false))))])
 (.cond (.t 36) (.seq (.region [oM 37 4,oM 2 37,oK 3 9])
 .ret)
 .skip))
 (.seq (.drawn [Qo (oM 38 4),Qo (oB 39 .gtr 38 0),Qo (oM 40 39),Qo (Og 40 true 41 (.mov (.t 0))),Qo (Og 40 true 42 (.mov (.t 4))),Qo (Og 40 true 43 (.bin .sub (.t 42) (Ki 1))),Qo (Og 40 true 44 (.ixL 11 (.t 41) (.t 43))),Qo (Og 40 true 45 (.load true 11 (.t 44))),Qo (Og 40 true 46 (.call 80 [(.t 45)])),Qo (Og 40 true 47 (.mov (.t 0))),Qo (Og 40 true 48 (.mov (.t 4))),Qo (Og 40 true 49 (.ixL 11 (.t 47) (.t 48))),Qo (Og 40 true 50 (.load true 11 (.t 49))),Qe (Og 40 true 51 (.call 80 [(.t 50)])),Qo (Og 40 true 52 (.eqs false [.i,.s,.i] (.t 46) (.t 51))),Qo (Oo 53 (.pick (.t 40) (.t 52) (.k (.bool false)))),Qo (oM 54 53),Qo (Og 54 true 55 (.mov (.t 0))),Qo (Og 54 true 56 (.mov (.t 4))),Qo (Og 54 true 57 (.ixL 11 (.t 55) (.t 56))),Qo (Og 54 true 58 (.addo 0 (.t 57))),Qo (Og 54 true 59 (.load false 1 (.t 58))),Qo (Og 54 true 60 (.bin .neq (.t 59) (Ki 48))),Qo (Oo 61 (.pick (.t 54) (.t 60) (.k (.bool false))))])
 (.cond (.t 61) (.seq (.region [oM 62 4,oM 2 62,oK 3 5])
 .ret)
 .skip)))))
 (.region [oM 13 4,oB 14 .add 13 1,oM 4 14])))
def h70c:HC:=
 (.seq (.region [oK 2 0,oK 3 0])
 (.seq (.seq (.region [oM 6 0,oN 7 6,oB 8 .gtr 7 32])
 (.cond (.t 8) (.seq (.region [oK 2 0,oK 3 8])
 .ret)
 .skip))
 (.seq (.seq (.region [oK 4 0])
 (.block 0 (.loop [0,3] h70l0)))
 (.seq (.region [oK 2 0,oK 3 0])
 .ret))))
abbrev h70:HF:=⟨h70c,[.tmp 2,.tmp 3],63,false⟩
theorem h70_ok:CK Tryz.f70 h70c:=by unfold CK;kernel_rfl
theorem r70_ok:RK Tryz.f70 [.tmp 2,.tmp 3]:=by unfold RK;kernel_rfl
def h72c:HC:=
 (.seq (.region [Oo 1 (.box (.t 0)),oK 2 0])
 (.seq (.drawn [Qo (oA 4 0 1),Qo (oL 5 4),Qo (Oo 6 (.call 124 [(.t 5)])),Qo (Oo 7 (.call 118 [(.t 6),(Ki 15)])),Qo (oA 8 1 1),Qo (oL 9 8),Qo (Oo 10 (.call 125 [(.t 9)])),Qo (oA 11 2 1),Qo (oL 12 11),Qe (Oo 13 (.call 126 [(.t 12),(Ki 0),(Ki 65535)])),Qo (oM 14 13),Qo (Og 14 true 15 (.addo 3 (.t 1))),Qo (Og 14 true 16 (.load false 1 (.t 15))),Qe (Og 14 true 17 (.call 126 [(.t 16),(Ki 0),(Ki 7)])),Qo (Oo 18 (.pick (.t 14) (.t 17) (.k (.bool false)))),Qe (Oo 19 (.call 118 [(.t 18),(Ki 2)])),Qe (Oo 20 (.bslc 1 3 [Zi 0] [(0,(.t 7)),(1,(.t 10)),(2,(.t 19))])),Qe (Oo 21 (.call 117 [(.t 20)])),Qo (oM 3 21)])
 (.seq (.seq (.region [oM 22 3,oB 23 .neq 22 0])
 (.cond (.t 23) (.seq (.region [oM 24 3,oM 2 24])
 .ret)
 .skip))
 (.seq (.seq (.region [oA 25 4 1,oL 26 25])
 (.cond (.t 26) (.region [oG 27 11 1,Oo 28 (.call 127 [(.t 27)]),oM 3 28])
 (.region [oG 29 11 1,Oo 30 (.call 128 [(.t 29)]),oM 3 30])))
 (.seq (.seq (.region [oM 31 3,oB 32 .neq 31 0])
 (.cond (.t 32) (.seq (.region [oM 33 3,oM 2 33])
 .ret)
 .skip))
 (.seq (.region [oG 34 11 1,Oo 35 (.call 129 [(.t 34)]),Oo 36 (.lenS (.t 35)),oB 37 .leq 36 440,Oo 38 (.call 118 [(.t 37),(Ki 16)]),oM 2 38])
 .ret))))))
abbrev h72:HF:=⟨h72c,[.tmp 2],39,false⟩
theorem h72_ok:CK Tryz.f72 h72c:=by unfold CK;kernel_rfl
theorem r72_ok:RK Tryz.f72 [.tmp 2]:=by unfold RK;kernel_rfl
def h73c:HC:=
 (.seq (.region [Oo 2 (.box (.t 0)),Oo 3 (.box (.t 1)),Oo 4 (.mov (.k (.bool false)))])
 (.seq (.region [oA 5 0 3,oL 6 5,oB 7 .neq 6 48,oM 8 7,Og 8 true 9 (.addo 7 (.t 2)),Og 8 true 10 (.load false 1 (.t 9)),Og 8 true 11 (.mkfn 131 [(.t 3)]),Og 8 true 12 (.call 130 [(.t 10),(.t 11)]),Oo 13 (.pick (.t 8) (.t 12) (.k (.bool false))),oM 4 13])
 .ret))
abbrev h73:HF:=⟨h73c,[.tmp 4],14,false⟩
theorem h73_ok:CK Tryz.f73 h73c:=by unfold CK;kernel_rfl
theorem r73_ok:RK Tryz.f73 [.tmp 4]:=by unfold RK;kernel_rfl
def h74l0:HC:=
 (.seq (.region [oC 12 .lss 11 10])
 (.seq (.cond (.t 12) .skip
 (.exit 0))
 (.seq (.block 1 (.seq (.region [oM 13 11,oM 3 13])
 (.drawn [Qo (oA 14 7 1),Qo (oL 15 14),Qo (oM 16 3),Qo (oA 17 7 1),Qo (oL 18 17),Qo (oM 19 3),Qo (oI 20 11 18 19),Qo (oA 21 7 20),Qo (oL 22 21),Qo (Oo 23 (.call 78 [(.t 22)])),Qo (oI 24 11 15 16),Qo (oA 25 7 24),Qe (oS 1 25 23)])))
 (.region [oB 26 .add 11 1,oM 11 26]))))
def h74c:HC:=
 (.seq (.region [Oo 1 (.box (.t 0)),Oo 2 (.alloc [Zi 0,Zi 0,Zi 0,Zi 0,Zi 0,Zi 0,Zi 0,(.slice none 0 0)])])
 (.seq (.region [oA 4 7 1,oL 5 4,Oo 6 (.call 132 [(.t 5)]),oA 7 7 1,oS 1 7 6])
 (.seq (.seq (.region [oA 8 7 1,oL 9 8,oN 10 9,oK 11 0])
 (.block 0 (.loop [1,0,7,0] h74l0)))
 (.seq (.region [oG 27 8 1,oS 8 2 27])
 .ret))))
abbrev h74:HF:=⟨h74c,[.cell 2 true 8],28,true⟩
theorem h74_ok:CK Tryz.f74 h74c:=by unfold CK;kernel_rfl
theorem r74_ok:RK Tryz.f74 [.cell 2 true 8]:=by unfold RK;kernel_rfl
def h75l0:HC:=
 (.seq (.region [oC 14 .lss 13 12])
 (.seq (.cond (.t 14) .skip
 (.exit 0))
 (.seq (.block 1 (.seq (.region [oM 15 13,oI 16 11 11 13,oG 17 11 16,Oo 6 (.alloc [Zi 0,(.string ⟨#[]⟩),Zi 0,Zi 0,(.bool false),(.string ⟨#[]⟩),Zi 0,(.slice none 0 0),Zi 0,Zi 0,Zi 0]),oM 5 15,oS 11 6 17])
 (.seq (.seq (.region [oM 18 0,oM 19 5,Oo 20 (.call 116 [(.t 18),(.t 19)]),oM 7 20])
 (.seq (.region [oM 21 7,oB 22 .neq 21 0])
 (.cond (.t 22) (.seq (.region [oM 23 7,Oo 2 (.mov (.k (.slice none 0 0))),oM 3 23])
 .ret)
 .skip)))
 (.region [oM 24 4,oG 25 11 6,Oo 26 (.call 133 [(.t 25)]),Oo 27 (.bslc 11 1 [Zi 0,(.string ⟨#[]⟩),Zi 0,Zi 0,(.bool false),(.string ⟨#[]⟩),Zi 0,(.slice none 0 0),Zi 0,Zi 0,Zi 0] [(0,(.t 26))]),Oo 28 (.app 11 120 [Zi 0,(.string ⟨#[]⟩),Zi 0,Zi 0,(.bool false),(.string ⟨#[]⟩),Zi 0,(.slice none 0 0),Zi 0,Zi 0,Zi 0] (.t 24) (.t 27)),oM 4 28]))))
 (.region [oB 29 .add 13 1,oM 13 29]))))
def h75c:HC:=
 (.seq (.region [Oo 2 (.mov (.k (.slice none 0 0))),oK 3 0])
 (.seq (.seq (.region [oM 8 0,oN 9 8,oB 10 .gtr 9 32])
 (.cond (.t 10) (.seq (.region [Oo 2 (.mov (.k (.slice none 0 0))),oK 3 8])
 .ret)
 .skip))
 (.seq (.region [Oo 4 (.mov (.k (.slice none 0 0)))])
 (.gh (.nil 4 11) (.seq (.seq (.region [oM 11 0,oN 12 11,oK 13 0])
 (.block 0 (.loop [0,3,6,0,0] h75l0)))
 (.gh (.bv 4) (.seq (.regR [134] [oM 30 4,Oo 31 (.call 134 [(.t 30),(.f 119)])])
 (.seq (.region [oM 32 4,oM 2 32,oK 3 0])
 .ret))))))))
abbrev h75:HF:=⟨h75c,[.tmp 2,.tmp 3],33,false⟩
theorem h75_ok:CK Tryz.f75 h75c:=by unfold CK;kernel_rfl
theorem r75_ok:RK Tryz.f75 [.tmp 2,.tmp 3]:=by unfold RK;kernel_rfl
def h76c:HC:=
 (.seq (.region [Oo 2 (.mov (.k (.slice none 0 0)))])
 (.seq (.region [Oo 3 (.bslc 2 0 [Zi 0,Zi 0] []),oM 4 0,Oo 5 (.app 2 16 [Zi 0,Zi 0] (.t 3) (.t 4)),oM 2 5])
 .ret))
abbrev h76:HF:=⟨h76c,[.tmp 2],6,true⟩
theorem h76_ok:CK Tryz.f76 h76c:=by unfold CK;kernel_rfl
theorem r76_ok:RK Tryz.f76 [.tmp 2]:=by unfold RK;kernel_rfl
def h77c:HC:=
 (.seq (.region [Oo 2 (.box (.t 0)),Oo 3 (.box (.t 1)),oK 4 0,oK 5 0])
 (.seq (.seq (.region [oG 8 8 2,Oo 9 (.call 68 [(.t 8)]),oM 6 9])
 (.seq (.region [oM 10 6,oB 11 .neq 10 0])
 (.cond (.t 11) (.seq (.region [oM 12 6,oK 4 0,oM 5 12])
 .ret)
 .skip)))
 (.seq (.region [oA 13 7 2,oL 14 13,Oo 15 (.mkfn 135 [(.t 3)]),Oo 16 (.call 64 [(.t 14),(.t 15)]),oM 7 16])
 (.seq (.region [oM 17 7,oM 18 7,oB 19 .geq 18 0,Oo 20 (.call 60 [(.t 19),(Ki 6)]),oM 4 17,oM 5 20])
 .ret))))
abbrev h77:HF:=⟨h77c,[.tmp 4,.tmp 5],21,false⟩
theorem h77_ok:CK Tryz.f77 h77c:=by unfold CK;kernel_rfl
theorem r77_ok:RK Tryz.f77 [.tmp 4,.tmp 5]:=by unfold RK;kernel_rfl
def h78c:HC:=
 (.seq (.region [Oo 2 (.mov (.k (.slice none 0 0)))])
 (.seq (.seq (.region [oM 3 0,Oo 4 (.isnil false false (.t 3))])
 (.cond (.t 4) (.seq (.region [Oo 2 (.mov (.k (.slice none 0 0)))])
 .ret)
 .skip))
 (.seq (.region [Oo 5 (.bslc 2 0 [Zi 0,Zi 0] []),oM 6 0,Oo 7 (.app 2 16 [Zi 0,Zi 0] (.t 5) (.t 6)),oM 2 7])
 .ret)))
abbrev h78:HF:=⟨h78c,[.tmp 2],8,true⟩
theorem h78_ok:CK Tryz.f78 h78c:=by unfold CK;kernel_rfl
theorem r78_ok:RK Tryz.f78 [.tmp 2]:=by unfold RK;kernel_rfl
def h79l0:HC:=
 (.seq (.seq (.region [oM 6 5,oM 7 0,oN 8 7,oC 9 .lss 6 8])
 (.cond (.t 9) .skip
 (.exit 0)))
 (.seq (.block 1 (.seq (.drawn [Qo (oM 12 0),Qo (oM 13 5),Qo (oI 14 11 12 13),Qo (oG 15 11 14),Qo (Oo 16 (.call 80 [(.t 15)])),Qo (oG 17 3 3),Qo (Oo 18 (.eqs false [.i,.s,.i] (.t 16) (.t 17)))])
 (.cond (.t 18) (.seq (.region [oM 19 5,oM 4 19])
 .ret)
 .skip)))
 (.region [oM 10 5,oB 11 .add 10 1,oM 5 11])))
def h79c:HC:=
 (.seq (.region [Oo 3 (.box (.t 1)),oK 4 0])
 (.seq (.seq (.region [oK 5 0])
 (.block 0 (.loop [0,2,1] h79l0)))
 (.seq (.region [Oo 4 (.mov (Ki (-1)))])
 .ret)))
abbrev h79:HF:=⟨h79c,[.tmp 4],20,false⟩
theorem h79_ok:CK Tryz.f79 h79c:=by unfold CK;kernel_rfl
theorem r79_ok:RK Tryz.f79 [.tmp 4]:=by unfold RK;kernel_rfl
def h80c:HC:=
 (.seq (.region [Oo 1 (.box (.t 0)),Oo 2 (.alloc [Zi 0,(.string ⟨#[]⟩),Zi 0])])
 (.seq (.region [oA 3 0 1,oL 4 3,oA 5 1 1,oL 6 5,oA 7 6 1,oL 8 7,Oo 9 (.build [Zi 0,(.string ⟨#[]⟩),Zi 0] [(0,1,(.t 4)),(1,1,(.t 6)),(2,1,(.t 8))]),oS 3 2 9])
 .ret))
abbrev h80:HF:=⟨h80c,[.cell 2 true 3],10,false⟩
theorem h80_ok:CK Tryz.f80 h80c:=by unfold CK;kernel_rfl
theorem r80_ok:RK Tryz.f80 [.cell 2 true 3]:=by unfold RK;kernel_rfl
def h81l0:HC:=
 (.seq (.seq (.drawn [Qo (oM 15 5),Qo (oB 16 .gtr 15 0),Qo (oM 17 16),Qo (Og 17 true 18 (.mov (.t 3))),Qo (Og 17 true 19 (.mov (.t 5))),Qo (Og 17 true 20 (.bin .sub (.t 19) (Ki 1))),Qo (Og 17 true 21 (.ixL 11 (.t 18) (.t 20))),Qo (Og 17 true 22 (.load true 11 (.t 21))),Qo (Og 17 true 23 (.mov (.t 3))),Qo (Og 17 true 24 (.mov (.t 5))),Qo (Og 17 true 25 (.ixL 11 (.t 23) (.t 24))),Qo (Og 17 true 26 (.load true 11 (.t 25))),Qe (Og 17 true 27 (.call 123 [(.t 22),(.t 26)])),Qo (Og 17 true 28 (.bin .gtr (.t 27) (Ki 0))),Qo (Oo 29 (.pick (.t 17) (.t 28) (.k (.bool false))))])
 (.cond (.t 29) .skip
 (.exit 2)))
 (.seq (.block 3 (.drawn [Qo (oM 32 3),Qo (oM 33 5),Qo (oB 34 .sub 33 1),Qo (oM 35 3),Qo (oM 36 5),Qo (oM 37 3),Qo (oM 38 5),Qo (oI 39 11 37 38),Qo (oG 40 11 39),Qo (oM 41 3),Qo (oM 42 5),Qo (oB 43 .sub 42 1),Qo (oI 44 11 41 43),Qo (oG 45 11 44),Qo (oI 46 11 32 34),Qe (oS 11 46 40),Qo (oI 47 11 35 36),Qe (oS 11 47 45)]))
 (.region [oM 30 5,oB 31 .sub 30 1,oM 5 31])))
def h81l1:HC:=
 (.seq (.seq (.region [oM 8 4,oM 9 3,oN 10 9,oC 11 .lss 8 10])
 (.cond (.t 11) .skip
 (.exit 0)))
 (.seq (.block 1 (.seq (.region [oM 14 4,oM 5 14])
 (.block 2 (.loop [3,0,0] h81l0))))
 (.region [oM 12 4,oB 13 .add 12 1,oM 4 13])))
def h81c:HC:=
 (.seq (.region [Oo 2 (.mov (.k (.slice none 0 0)))])
 (.seq (.region [oM 6 0,Oo 7 (.call 67 [(.t 6)]),oM 3 7])
 (.seq (.seq (.region [oK 4 0])
 (.block 0 (.loop [3,0] h81l1)))
 (.seq (.region [oM 48 3,oM 2 48])
 .ret))))
abbrev h81:HF:=⟨h81c,[.tmp 2],49,false⟩
theorem h81_ok:CK Tryz.f81 h81c:=by unfold CK;kernel_rfl
theorem r81_ok:RK Tryz.f81 [.tmp 2]:=by unfold RK;kernel_rfl
def h83l0:HC:=
 (.seq (.seq (.region [oM 11 5,oM 12 0,oN 13 12,oC 14 .lss 11 13])
 (.cond (.t 14) .skip
 (.exit 0)))
 (.seq (.block 1 (.seq (.drawn [Qo (oM 17 0),Qo (oM 18 5),Qo (oI 19 2 17 18),Qo (oG 20 2 19),Qo (oM 21 1),Qo (oM 22 5),Qo (oI 23 2 21 22),Qo (oG 24 2 23),Qo (Oo 25 (.eqs true [.i,.i] (.t 20) (.t 24)))])
 (.cond (.t 25) (.seq (.region [Oo 4 (.mov (.k (.bool false)))])
 .ret)
 .skip)))
 (.region [oM 15 5,oB 16 .add 15 1,oM 5 16])))
def h83c:HC:=
 (.seq (.region [Oo 4 (.mov (.k (.bool false)))])
 (.seq (.seq (.region [oM 6 0,oN 7 6,oM 8 1,oN 9 8,oC 10 .neq 7 9])
 (.cond (.t 10) (.seq (.region [Oo 4 (.mov (.k (.bool false)))])
 .ret)
 .skip))
 (.seq (.seq (.region [oK 5 0])
 (.block 0 (.loop [0,0,3] h83l0)))
 (.seq (.region [Oo 4 (.mov (.k (.bool true)))])
 .ret))))
abbrev h83:HF:=⟨h83c,[.tmp 4],26,false⟩
theorem h83_ok:CK Tryz.f83 h83c:=by unfold CK;kernel_rfl
theorem r83_ok:RK Tryz.f83 [.tmp 4]:=by unfold RK;kernel_rfl
def h84c:HC:=
 (.seq (.region [Oo 2 (.mov (.k (.bool false)))])
 (.seq (.region [Oo 3 (.bslc 1 11 [Zi 0] [(0,(Ki 16)),(1,(Ki 32)),(2,(Ki 48)),(3,(Ki 64)),(4,(Ki 96)),(5,(Ki 112)),(6,(Ki 128)),(7,(Ki 144)),(8,(Ki 160)),(9,(Ki 176)),(10,(Ki 192))]),oM 4 0,Oo 5 (.call 136 [(.t 3),(.t 4)]),oM 2 5])
 .ret))
abbrev h84:HF:=⟨h84c,[.tmp 2],6,false⟩
theorem h84_ok:CK Tryz.f84 h84c:=by unfold CK;kernel_rfl
theorem r84_ok:RK Tryz.f84 [.tmp 2]:=by unfold RK;kernel_rfl
def h85c:HC:=
 (.seq (.region [Oo 2 (.mov (.k (.bool false)))])
 (.seq (.region [oM 3 0,Oo 4 (.bin .eql (.t 3) (.k (.string ⟨#[]⟩))),oM 5 4,Og 5 false 6 (.mov (.t 0)),Og 5 false 7 (.call 137 [(.t 6)]),Og 5 false 8 (.bin .eql (.t 7) (Ki 0)),Oo 9 (.pick (.t 5) (.k (.bool true)) (.t 8)),oM 2 9])
 .ret))
abbrev h85:HF:=⟨h85c,[.tmp 2],10,false⟩
theorem h85_ok:CK Tryz.f85 h85c:=by unfold CK;kernel_rfl
theorem r85_ok:RK Tryz.f85 [.tmp 2]:=by unfold RK;kernel_rfl
def h86c:HC:=
 (.seq (.region [Oo 1 (.box (.t 0)),oK 2 0])
 (.seq (.seq (.region [oA 5 0 1,oL 6 5,Oo 7 (.call 138 [(.t 6)])])
 (.cond (.t 7) (.seq (.region [oK 2 20])
 .ret)
 .skip))
 (.seq (.seq (.region [oA 8 5 1,oL 9 8,Oo 10 (.bin .neq (.t 9) (.k (.string ⟨#[]⟩)))])
 (.cond (.t 10) (.seq (.region [oK 2 3])
 .ret)
 .skip))
 (.seq (.seq (.region [oA 11 6 1,oL 12 11,Oo 13 (.call 19 [(.t 12),(Ki 0),(Ki 4096)]),Oo 14 (.un .not (.t 13))])
 (.cond (.t 14) (.seq (.region [oK 2 2])
 .ret)
 .skip))
 (.seq (.seq (.region [oA 15 7 1,oL 16 15,Oo 17 (.call 139 [(.t 16)]),oM 3 17])
 (.seq (.region [oM 18 3,oB 19 .neq 18 0])
 (.cond (.t 19) (.seq (.region [oM 20 3,oM 2 20])
 .ret)
 .skip)))
 (.seq (.seq (.region [oA 21 6 1,oL 22 21,oB 23 .gtr 22 0,oM 24 23,Og 24 true 25 (.addo 7 (.t 1)),Og 24 true 26 (.load false 1 (.t 25)),Og 24 true 27 (.lenL (.t 26)),Og 24 true 28 (.bin .eql (.t 27) (Ki 0)),Oo 29 (.pick (.t 24) (.t 28) (.k (.bool false)))])
 (.cond (.t 29) (.seq (.region [oK 2 17])
 .ret)
 .skip))
 (.seq (.seq (.drawn [Qo (oA 30 6 1),Qo (oL 31 30),Qo (oA 32 7 1),Qo (oL 33 32),Qo (Oo 34 (.call 92 [(.t 33)])),Qo (oC 35 .add 31 34),Qo (oB 36 .gtr 35 4096)])
 (.cond (.t 36) (.seq (.region [oK 2 8])
 .ret)
 .skip))
 (.seq (.seq (.region [oA 37 6 1,oL 38 37,oB 39 .gtr 38 0,oM 40 39,Og 40 true 41 (.addo 8 (.t 1)),Og 40 true 42 (.load false 1 (.t 41)),Og 40 true 43 (.bin .neq (.t 42) (Ki 0)),Og 40 true 44 (.mov (.t 43)),Og 44 false 45 (.addo 9 (.t 1)),Og 44 false 46 (.load false 1 (.t 45)),Og 44 false 47 (.bin .neq (.t 46) (Ki 0)),Og 40 true 48 (.pick (.t 44) (.k (.bool true)) (.t 47)),Og 40 true 49 (.mov (.t 48)),Og 49 false 50 (.addo 10 (.t 1)),Og 49 false 51 (.load false 1 (.t 50)),Og 49 false 52 (.bin .neq (.t 51) (Ki 0)),Og 40 true 53 (.pick (.t 49) (.k (.bool true)) (.t 52)),Oo 54 (.pick (.t 40) (.t 53) (.k (.bool false)))])
 (.cond (.t 54) (.seq (.region [oK 2 3])
 .ret)
 .skip))
 (.seq (.region [oK 4 1048576])
 (.seq (.seq (.region [oA 55 8 1,oL 56 55,oM 57 4,Oo 58 (.call 19 [(.t 56),(Ki 0),(.t 57)]),Oo 59 (.un .not (.t 58)),oM 60 59,Og 60 false 61 (.addo 9 (.t 1)),Og 60 false 62 (.load false 1 (.t 61)),Og 60 false 63 (.mov (.t 4)),Og 60 false 64 (.call 19 [(.t 62),(Ki 0),(.t 63)]),Og 60 false 65 (.un .not (.t 64)),Oo 66 (.pick (.t 60) (.k (.bool true)) (.t 65)),oM 67 66,Og 67 false 68 (.addo 10 (.t 1)),Og 67 false 69 (.load false 1 (.t 68)),Og 67 false 70 (.mov (.t 4)),Og 67 false 71 (.call 19 [(.t 69),(Ki 0),(.t 70)]),Og 67 false 72 (.un .not (.t 71)),Oo 73 (.pick (.t 67) (.k (.bool true)) (.t 72))])
 (.cond (.t 73) (.seq (.region [oK 2 2])
 .ret)
 .skip))
 (.seq (.seq (.region [oA 74 10 1,oL 75 74,oA 76 9 1,oL 77 76,oC 78 .gtr 75 77])
 (.cond (.t 78) (.seq (.region [oK 2 9])
 .ret)
 .skip))
 (.seq (.region [oK 2 0])
 .ret))))))))))))
abbrev h86:HF:=⟨h86c,[.tmp 2],79,false⟩
theorem h86_ok:CK Tryz.f86 h86c:=by unfold CK;kernel_rfl
theorem r86_ok:RK Tryz.f86 [.tmp 2]:=by unfold RK;kernel_rfl
def h87c:HC:=
 (.seq (.region [Oo 1 (.box (.t 0)),oK 2 0])
 (.seq (.seq (.region [oA 3 7 1,oL 4 3,oN 5 4,oB 6 .gtr 5 0,oM 7 6,Og 7 false 8 (.addo 6 (.t 1)),Og 7 false 9 (.load false 1 (.t 8)),Og 7 false 10 (.bin .neq (.t 9) (Ki 0)),Oo 11 (.pick (.t 7) (.k (.bool true)) (.t 10)),oM 12 11,Og 12 false 13 (.addo 8 (.t 1)),Og 12 false 14 (.load false 1 (.t 13)),Og 12 false 15 (.bin .neq (.t 14) (Ki 0)),Oo 16 (.pick (.t 12) (.k (.bool true)) (.t 15)),oM 17 16,Og 17 false 18 (.addo 9 (.t 1)),Og 17 false 19 (.load false 1 (.t 18)),Og 17 false 20 (.bin .neq (.t 19) (Ki 0)),Oo 21 (.pick (.t 17) (.k (.bool true)) (.t 20)),oM 22 21,Og 22 false 23 (.addo 10 (.t 1)),Og 22 false 24 (.load false 1 (.t 23)),Og 22 false 25 (.bin .neq (.t 24) (Ki 0)),Oo 26 (.pick (.t 22) (.k (.bool true)) (.t 25))])
 (.cond (.t 26) (.seq (.region [oK 2 3])
 .ret)
 .skip))
 (.seq (.seq (.region [oA 27 5 1,oL 28 27,Oo 29 (.lenS (.t 28)),oB 30 .gtr 29 400])
 (.cond (.t 30) (.seq (.region [oK 2 8])
 .ret)
 .skip))
 (.seq (.region [oK 2 0])
 .ret))))
abbrev h87:HF:=⟨h87c,[.tmp 2],31,false⟩
theorem h87_ok:CK Tryz.f87 h87c:=by unfold CK;kernel_rfl
theorem r87_ok:RK Tryz.f87 [.tmp 2]:=by unfold RK;kernel_rfl
def h88l0:HC:=
 (.seq (.seq (.region [oM 8 5,oM 9 0,oN 10 9,oC 11 .lss 8 10])
 (.cond (.t 11) .skip
 (.exit 0)))
 (.seq (.block 1 (.seq (.region [oM 14 0,oM 15 5,oI 16 2 14 15,oA 17 1 16,oL 18 17,Oo 19 (.call 140 [(.t 18)]),oM 6 19])
 (.seq (.seq (.region [oM 20 0,oM 21 5,oI 22 2 20 21,oA 23 0 22,oL 24 23,Oo 25 (.bin .eql (.t 24) (Ki (-1)))])
 (.cond (.t 25) (.seq (.region [oM 26 3,oM 27 6,Oo 28 (.lenS (.t 27)),Oo 29 (.call 90 [(.t 28),(Ki 1)]),oC 30 .add 26 29,oM 31 6,oC 32 .add 30 31,oM 3 32])
 (.exit 1))
 .skip))
 (.seq (.region [oM 33 0,oM 34 5,oI 35 2 33 34,oA 36 0 35,oL 37 36,oM 38 4,oC 39 .sub 37 38,Oo 40 (.call 140 [(.t 39)]),oM 7 40])
 (.seq (.region [oM 41 0,oM 42 5,oI 43 2 41 42,oA 44 0 43,oL 45 44,oM 4 45])
 (.region [oM 46 3,oM 47 6,Oo 48 (.lenS (.t 47)),oM 49 7,Oo 50 (.lenS (.t 49)),Oo 51 (.bin .mul (Ki 16) (.t 50)),oC 52 .add 48 51,Oo 53 (.call 90 [(.t 52),(Ki 1)]),oC 54 .add 46 53,oM 55 6,oC 56 .add 54 55,oM 57 7,oC 58 .add 56 57,oM 3 58]))))))
 (.region [oM 12 5,oB 13 .add 12 1,oM 5 13])))
def h88c:HC:=
 (.seq (.region [Oo 2 (.mov (.k (.string ⟨#[]⟩)))])
 (.seq (.region [Oo 3 (.mov (.k (.string ⟨#[]⟩))),oK 4 0])
 (.seq (.seq (.region [oK 5 0])
 (.block 0 (.loop [0,2,0,0] h88l0)))
 (.seq (.region [oM 59 3,Oo 60 (.call 93 [(Ki 1)]),oC 61 .add 59 60,oM 2 61])
 .ret))))
abbrev h88:HF:=⟨h88c,[.tmp 2],62,false⟩
theorem h88_ok:CK Tryz.f88 h88c:=by unfold CK;kernel_rfl
theorem r88_ok:RK Tryz.f88 [.tmp 2]:=by unfold RK;kernel_rfl
def h89c:HC:=
 (.seq (.region [oK 4 0])
 (.seq (.region [oM 5 0,Oo 6 (.un .neg (.t 5)),oM 7 1,Oo 8 (.call 141 [(.t 6),(.t 7)]),Oo 9 (.un .neg (.t 8)),oM 4 9])
 .ret))
abbrev h89:HF:=⟨h89c,[.tmp 4],10,false⟩
theorem h89_ok:CK Tryz.f89 h89c:=by unfold CK;kernel_rfl
theorem r89_ok:RK Tryz.f89 [.tmp 4]:=by unfold RK;kernel_rfl
def h90l0:HC:=
 (.seq (.seq (.region [oM 7 6,oM 8 1,oC 9 .lss 7 8])
 (.cond (.t 9) .skip
 (.exit 0)))
 (.seq (.block 1 (.seq (.region [oM 12 5,oM 13 0,oB 14 .rem 13 256,Oo 15 (.conv .u8 (.t 14)),Oo 16 (.bslc 1 1 [(.int .u8 0)] [(0,(.t 15))]),Oo 17 (.app 1 1 [(.int .u8 0)] (.t 12) (.t 16)),oM 5 17])
 (.region [oM 18 0,oB 19 .quo 18 256,oM 0 19])))
 (.region [oM 10 6,oB 11 .add 10 1,oM 6 11])))
def h90c:HC:=
 (.seq (.region [Oo 4 (.mov (.k (.string ⟨#[]⟩)))])
 (.seq (.region [Oo 5 (.mov (.k (.slice none 0 0)))])
 (.gh (.nil 5 1) (.seq (.seq (.region [oK 6 0])
 (.block 0 (.loop [0,0,3,0] h90l0)))
 (.seq (.region [oM 20 5,Oo 21 (.cvbs (.t 20)),oM 4 21])
 .ret)))))
abbrev h90:HF:=⟨h90c,[.tmp 4],22,false⟩
theorem h90_ok:CK Tryz.f90 h90c:=by unfold CK;kernel_rfl
theorem r90_ok:RK Tryz.f90 [.tmp 4]:=by unfold RK;kernel_rfl
def h91c:HC:=
 (.seq (.region [oK 2 0])
 (.seq (.seq (.region [oM 3 0])
 (.cond (.t 3) (.seq (.region [oK 2 1])
 .ret)
 .skip))
 (.seq (.region [oK 2 0])
 .ret)))
abbrev h91:HF:=⟨h91c,[.tmp 2],4,false⟩
theorem h91_ok:CK Tryz.f91 h91c:=by unfold CK;kernel_rfl
theorem r91_ok:RK Tryz.f91 [.tmp 2]:=by unfold RK;kernel_rfl
def h92l0:HC:=
 (.seq (.seq (.region [oM 5 4,oM 6 0,oN 7 6,oC 8 .lss 5 7])
 (.cond (.t 8) .skip
 (.exit 0)))
 (.seq (.block 1 (.region [oM 11 3,oM 12 0,oM 13 4,oI 14 2 12 13,oA 15 1 14,oL 16 15,oC 17 .add 11 16,oM 3 17]))
 (.region [oM 9 4,oB 10 .add 9 1,oM 4 10])))
def h92c:HC:=
 (.seq (.region [oK 2 0])
 (.seq (.region [oK 3 0])
 (.seq (.seq (.region [oK 4 0])
 (.block 0 (.loop [0,2,0] h92l0)))
 (.seq (.region [oM 18 3,oM 2 18])
 .ret))))
abbrev h92:HF:=⟨h92c,[.tmp 2],19,false⟩
theorem h92_ok:CK Tryz.f92 h92c:=by unfold CK;kernel_rfl
theorem r92_ok:RK Tryz.f92 [.tmp 2]:=by unfold RK;kernel_rfl
def h93c:HC:=
 (.seq (.region [Oo 2 (.mov (.k (.string ⟨#[]⟩)))])
 (.seq (.region [oM 3 0,Oo 4 (.min2 (.t 3) (Ki 200000)),Oo 5 (.max2 (Ki 0) (.t 4)),Oo 6 (.mk 1 1 [(.int .u8 0)] (.t 5) (.t 5)),Oo 7 (.cvbs (.t 6)),oM 2 7])
 .ret))
abbrev h93:HF:=⟨h93c,[.tmp 2],8,false⟩
theorem h93_ok:CK Tryz.f93 h93c:=by unfold CK;kernel_rfl
theorem r93_ok:RK Tryz.f93 [.tmp 2]:=by unfold RK;kernel_rfl
def h94c:HC:=
 (.seq (.region [Oo 2 (.mov (.k (.string ⟨#[]⟩)))])
 (.seq (.region [oM 3 0,oM 4 0,Oo 5 (.lenS (.t 4)),Oo 6 (.call 89 [(.t 5),(Ki 8)]),Oo 7 (.bin .mul (Ki 8) (.t 6)),oM 8 0,Oo 9 (.lenS (.t 8)),oC 10 .sub 7 9,Oo 11 (.call 93 [(.t 10)]),oC 12 .add 3 11,oM 2 12])
 .ret))
abbrev h94:HF:=⟨h94c,[.tmp 2],13,false⟩
theorem h94_ok:CK Tryz.f94 h94c:=by unfold CK;kernel_rfl
theorem r94_ok:RK Tryz.f94 [.tmp 2]:=by unfold RK;kernel_rfl
def h95l0:HC:=
 (.seq (.seq (.region [oM 11 5,oM 12 0,oN 13 12,oC 14 .lss 11 13])
 (.cond (.t 14) .skip
 (.exit 0)))
 (.seq (.block 1 (.seq (.drawn [Qo (oM 17 0),Qo (oM 18 5),Qo (oI 19 11 17 18),Qo (oG 20 11 19),Qo (oM 21 1),Qo (oM 22 5),Qo (oI 23 11 21 22),Qo (oG 24 11 23),Qe (Oo 25 (.call 35 [(.t 20),(.t 24)])),Qo (Oo 26 (.un .not (.t 25)))])
 (.cond (.t 26) (.seq (.region [Oo 4 (.mov (.k (.bool false)))])
 .ret)
 .skip)))
 (.region [oM 15 5,oB 16 .add 15 1,oM 5 16])))
def h95c:HC:=
 (.seq (.region [Oo 4 (.mov (.k (.bool false)))])
 (.seq (.seq (.region [oM 6 0,oN 7 6,oM 8 1,oN 9 8,oC 10 .neq 7 9])
 (.cond (.t 10) (.seq (.region [Oo 4 (.mov (.k (.bool false)))])
 .ret)
 .skip))
 (.seq (.seq (.region [oK 5 0])
 (.block 0 (.loop [0,0,3] h95l0)))
 (.seq (.region [Oo 4 (.mov (.k (.bool true)))])
 .ret))))
abbrev h95:HF:=⟨h95c,[.tmp 4],27,false⟩
theorem h95_ok:CK Tryz.f95 h95c:=by unfold CK;kernel_rfl
theorem r95_ok:RK Tryz.f95 [.tmp 4]:=by unfold RK;kernel_rfl
def h99c:HC:=
 (.seq (.region [Oo 2 (.box (.t 0)),Oo 4 (.mov (.k (.string ⟨#[]⟩)))])
 (.seq (.regR [0] [Oo 6 (.mk 1 1 [(.int .u8 0)] (Ki 512) (Ki 512)),oM 5 6])
 (.seq (.region [oM 7 5,Oo 8 (.cpys (.t 7) (.k (.string ⟨#[70,73,76,69]⟩)))])
 (.seq (.regR [149] [Oo 9 (.load true 2 (.g 6)),oM 10 5,oA 11 6 2,oL 12 11,Oo 13 (.call 149 [(.t 9),(.t 10),(.t 12)])])
 (.seq (.regR [149] [Oo 14 (.load true 2 (.g 0)),oM 15 5,oA 16 0 2,oL 17 16,Oo 18 (.call 149 [(.t 14),(.t 15),(.t 17)])])
 (.seq (.regR [149] [Oo 19 (.load true 2 (.g 1)),oM 20 5,oA 21 1 2,oL 22 21,Oo 23 (.call 149 [(.t 19),(.t 20),(.t 22)])])
 (.seq (.regR [149] [Oo 24 (.load true 2 (.g 8)),oM 25 5,Oo 26 (.call 149 [(.t 24),(.t 25),(Ki 64)])])
 (.seq (.regR [149] [Oo 27 (.load true 2 (.g 2)),oM 28 5,oA 29 2 2,oL 30 29,Oo 31 (.call 149 [(.t 27),(.t 28),(.t 30)])])
 (.seq (.regR [149] [Oo 32 (.load true 2 (.g 9)),oM 33 5,oM 34 1,Oo 35 (.lenS (.t 34)),Oo 36 (.bin .add (Ki 64) (.t 35)),oB 37 .add 36 4,Oo 38 (.call 149 [(.t 32),(.t 33),(.t 37)])])
 (.seq (.regR [149] [Oo 39 (.load true 2 (.g 10)),oM 40 5,Oo 41 (.call 149 [(.t 39),(.t 40),(Ki 512)])])
 (.seq (.regR [149] [Oo 42 (.load true 2 (.g 3)),oM 43 5,oA 44 3 2,oA 45 0 44,oL 46 45,Oo 47 (.call 149 [(.t 42),(.t 43),(.t 46)])])
 (.seq (.regR [149] [Oo 48 (.load true 2 (.g 4)),oM 49 5,oA 50 3 2,oA 51 1 50,oL 52 51,Oo 53 (.call 149 [(.t 48),(.t 49),(.t 52)])])
 (.seq (.regR [149] [Oo 54 (.load true 2 (.g 5)),oM 55 5,oA 56 5 2,oL 57 56,Oo 58 (.call 149 [(.t 54),(.t 55),(.t 57)])])
 (.seq (.region [oM 59 5,Oo 60 (.slL 1 (.t 59) (some (Ki 64)) none),oM 61 1,Oo 62 (.bin .add (.t 61) (.k (.string ⟨#[255,255,255,255]⟩))),Oo 63 (.cpys (.t 60) (.t 62))])
 (.seq (.region [oM 64 5,Oo 65 (.cvbs (.t 64)),oM 4 65])
 .ret)))))))))))))))
abbrev h99:HF:=⟨h99c,[.tmp 4],66,false⟩
theorem h99_ok:CK Tryz.f99 h99c:=by unfold CK;kernel_rfl
theorem r99_ok:RK Tryz.f99 [.tmp 4]:=by unfold RK;kernel_rfl
def h102c:HC:=
 (.seq (.region [Oo 1 (.box (.t 0)),Oo 2 (.mov (.k (.string ⟨#[]⟩))),oK 3 0])
 (.seq (.seq (.region [oG 5 11 1,Oo 6 (.call 72 [(.t 5)]),oM 4 6])
 (.seq (.region [oM 7 4,oB 8 .neq 7 0])
 (.cond (.t 8) (.seq (.region [oM 9 4,Oo 2 (.mov (.k (.string ⟨#[]⟩))),oM 3 9])
 .ret)
 .skip)))
 (.seq (.region [oG 10 11 1,Oo 11 (.call 129 [(.t 10)]),oM 2 11,oK 3 0])
 .ret)))
abbrev h102:HF:=⟨h102c,[.tmp 2,.tmp 3],12,false⟩
theorem h102_ok:CK Tryz.f102 h102c:=by unfold CK;kernel_rfl
theorem r102_ok:RK Tryz.f102 [.tmp 2,.tmp 3]:=by unfold RK;kernel_rfl
def h103l0:HC:=
 (.seq (.region [oB 35 .lss 34 8])
 (.seq (.cond (.t 35) .skip
 (.exit 0))
 (.seq (.block 1 (.seq (.region [oM 36 34,oM 9 36])
 (.seq (.region [oM 37 8,oM 38 9,Oo 39 (.bin .mul (Ki 2) (.t 38)),Oo 40 (.bin .add (Ki 42) (.t 39)),oM 41 8,oM 42 9,Oo 43 (.call 147 [(.t 42)]),Oo 44 (.call 145 [(.t 41),(.t 43)]),Oo 45 (.call 146 [(.t 37),(.t 40),(.t 44)])])
 (.region [oM 46 8,oM 47 9,Oo 48 (.call 147 [(.t 47)]),oM 49 1,Oo 50 (.call 158 [(.t 49)]),Oo 51 (.call 146 [(.t 46),(.t 48),(.t 50)])]))))
 (.region [oB 52 .add 34 1,oM 34 52]))))
def h103c:HC:=
 (.seq (.region [Oo 4 (.mov (.k (.string ⟨#[]⟩))),oK 5 0])
 (.seq (.seq (.region [oM 10 0,Oo 11 (.call 142 [(.t 10)]),oM 6 11])
 (.seq (.region [oM 12 6,oB 13 .neq 12 0])
 (.cond (.t 13) (.seq (.region [oM 14 6,Oo 4 (.mov (.k (.string ⟨#[]⟩))),oM 5 14])
 .ret)
 .skip)))
 (.seq (.seq (.region [oM 15 0,Oo 16 (.slS (.t 15) (some (Ki 40)) (some (Ki 58))),Oo 17 (.call 156 [(.t 16),(.k (.string ⟨#[0]⟩))]),Oo 18 (.bin .eql (.t 17) (.k (.string ⟨#[]⟩))),Oo 19 (.call 155 [(.t 18),(Ki 3)]),oM 20 1,Oo 21 (.call 157 [(.t 20),(Ki 1),(Ki 65535)]),Oo 22 (.call 155 [(.t 21),(Ki 2)]),Oo 23 (.bslc 1 2 [Zi 0] [(0,(.t 19)),(1,(.t 22))]),Oo 24 (.call 154 [(.t 23)]),oM 7 24])
 (.seq (.region [oM 25 7,oB 26 .neq 25 0])
 (.cond (.t 26) (.seq (.region [oM 27 7,Oo 4 (.mov (.k (.string ⟨#[]⟩))),oM 5 27])
 .ret)
 .skip)))
 (.seq (.regR [1] [oM 28 0,Oo 29 (.cvsb (.t 28)),oM 8 29])
 (.gh (.bv 8) (.seq (.region [oM 30 8,oM 31 1,Oo 32 (.call 158 [(.t 31)]),Oo 33 (.call 146 [(.t 30),(Ki 40),(.t 32)])])
 (.seq (.seq (.region [oK 34 0])
 (.block 0 (.loop [1,6,25] h103l0)))
 (.seq (.region [oM 53 8,Oo 54 (.cvbs (.t 53)),oM 4 54,oK 5 0])
 .ret))))))))
abbrev h103:HF:=⟨h103c,[.tmp 4,.tmp 5],55,false⟩
theorem h103_ok:CK Tryz.f103 h103c:=by unfold CK;kernel_rfl
theorem r103_ok:RK Tryz.f103 [.tmp 4,.tmp 5]:=by unfold RK;kernel_rfl
def h109c:HC:=
 (.seq (.region [Oo 2 (.mov (.k (.string ⟨#[]⟩)))])
 (.seq (.region [oM 3 0,Oo 4 (.call 163 [(.t 3)]),oM 2 4])
 .ret))
abbrev h109:HF:=⟨h109c,[.tmp 2],5,false⟩
theorem h109_ok:CK Tryz.f109 h109c:=by unfold CK;kernel_rfl
theorem r109_ok:RK Tryz.f109 [.tmp 2]:=by unfold RK;kernel_rfl
def h112c:HC:=
 (.seq (.region [Oo 1 (.box (.t 0)),oK 2 0])
 (.seq (.region [oA 3 0 1,oL 4 3,Oo 5 (.call 58 [(.t 4),(Ki 0),(Ki 95)]),oM 6 5,Og 6 true 7 (.addo 1 (.t 1)),Og 6 true 8 (.load false 1 (.t 7)),Og 6 true 9 (.call 58 [(.t 8),(Ki 1),(Ki 65535)]),Oo 10 (.pick (.t 6) (.t 9) (.k (.bool false))),Oo 11 (.call 60 [(.t 10),(Ki 2)]),oM 2 11])
 .ret))
abbrev h112:HF:=⟨h112c,[.tmp 2],12,false⟩
theorem h112_ok:CK Tryz.f112 h112c:=by unfold CK;kernel_rfl
theorem r112_ok:RK Tryz.f112 [.tmp 2]:=by unfold RK;kernel_rfl
def h116c:HC:=
 (.seq (.region [Oo 2 (.box (.t 0)),Oo 3 (.box (.t 1)),oK 4 0])
 (.seq (.region [oL 6 2,oL 7 3,Oo 8 (.slL 11 (.t 6) none (some (.t 7))),Oo 9 (.mkfn 166 [(.t 2),(.t 3)]),Oo 10 (.call 130 [(.t 8),(.t 9)]),oM 5 10])
 (.seq (.region [oL 11 2,oL 12 3,oI 13 11 11 12,oG 14 11 13,Oo 15 (.call 72 [(.t 14)]),oM 16 5,Oo 17 (.un .not (.t 16)),Oo 18 (.call 118 [(.t 17),(Ki 23)]),Oo 19 (.bslc 1 2 [Zi 0] [(0,(.t 15)),(1,(.t 18))]),Oo 20 (.call 117 [(.t 19)]),oM 4 20])
 .ret)))
abbrev h116:HF:=⟨h116c,[.tmp 4],21,false⟩
theorem h116_ok:CK Tryz.f116 h116c:=by unfold CK;kernel_rfl
theorem r116_ok:RK Tryz.f116 [.tmp 4]:=by unfold RK;kernel_rfl
def h117l0:HC:=
 (.seq (.region [oC 8 .lss 7 6])
 (.seq (.cond (.t 8) .skip
 (.exit 0))
 (.seq (.block 1 (.seq (.region [oI 9 1 5 7,oL 10 9,oM 4 10])
 (.seq (.region [oM 11 4,oB 12 .neq 11 0])
 (.cond (.t 12) (.seq (.region [oM 13 4,oM 2 13])
 .ret)
 .skip))))
 (.region [oB 14 .add 7 1,oM 7 14]))))
def h117c:HC:=
 (.seq (.region [oK 2 0])
 (.seq (.seq (.region [oM 5 0,oN 6 5,oK 7 0])
 (.block 0 (.loop [5,0,0] h117l0)))
 (.seq (.region [oK 2 0])
 .ret)))
abbrev h117:HF:=⟨h117c,[.tmp 2],15,false⟩
theorem h117_ok:CK Tryz.f117 h117c:=by unfold CK;kernel_rfl
theorem r117_ok:RK Tryz.f117 [.tmp 2]:=by unfold RK;kernel_rfl
def h118c:HC:=
 (.seq (.region [oK 4 0])
 (.seq (.seq (.region [oM 5 0])
 (.cond (.t 5) (.seq (.region [oK 4 0])
 .ret)
 .skip))
 (.seq (.region [oM 6 1,oM 4 6])
 .ret)))
abbrev h118:HF:=⟨h118c,[.tmp 4],7,false⟩
theorem h118_ok:CK Tryz.f118 h118c:=by unfold CK;kernel_rfl
theorem r118_ok:RK Tryz.f118 [.tmp 4]:=by unfold RK;kernel_rfl
def h119c:HC:=
 (.seq (.region [Oo 2 (.box (.t 0)),Oo 3 (.box (.t 1)),oK 4 0])
 (.seq (.drawn [Qo (oA 5 0 2),Qo (oL 6 5),Qo (oA 7 0 3),Qo (oL 8 7),Qo (Oo 9 (.call 168 [(.t 6),(.t 8)])),Qo (oA 10 1 2),Qo (oL 11 10),Qo (oA 12 1 3),Qo (oL 13 12),Qo (Oo 14 (.call 169 [(.t 11),(.t 13)])),Qo (oA 15 6 2),Qo (oL 16 15),Qo (oA 17 6 3),Qo (oL 18 17),Qo (Oo 19 (.call 168 [(.t 16),(.t 18)])),Qo (oA 20 2 2),Qo (oL 21 20),Qo (oA 22 2 3),Qo (oL 23 22),Qe (Oo 24 (.call 168 [(.t 21),(.t 23)])),Qe (Oo 25 (.bslc 1 4 [Zi 0] [(0,(.t 9)),(1,(.t 14)),(2,(.t 19)),(3,(.t 24))])),Qe (Oo 26 (.call 167 [(.t 25)])),Qo (oM 4 26)])
 .ret))
abbrev h119:HF:=⟨h119c,[.tmp 4],27,false⟩
theorem h119_ok:CK Tryz.f119 h119c:=by unfold CK;kernel_rfl
theorem r119_ok:RK Tryz.f119 [.tmp 4]:=by unfold RK;kernel_rfl
def h120c:HC:=
 (.seq (.region [Oo 2 (.box (.t 0)),Oo 3 (.box (.t 1)),Oo 4 (.mov (.k (.bool false)))])
 (.seq (.region [oA 5 0 2,oL 6 5,oA 7 0 3,oL 8 7,oC 9 .eql 6 8,oM 10 9,Og 10 true 11 (.addo 1 (.t 2)),Og 10 true 12 (.load false 1 (.t 11)),Og 10 true 13 (.addo 1 (.t 3)),Og 10 true 14 (.load false 1 (.t 13)),Og 10 true 15 (.bin .eql (.t 12) (.t 14)),Oo 16 (.pick (.t 10) (.t 15) (.k (.bool false))),oM 17 16,Og 17 true 18 (.addo 6 (.t 2)),Og 17 true 19 (.load false 1 (.t 18)),Og 17 true 20 (.addo 6 (.t 3)),Og 17 true 21 (.load false 1 (.t 20)),Og 17 true 22 (.bin .eql (.t 19) (.t 21)),Oo 23 (.pick (.t 17) (.t 22) (.k (.bool false))),oM 4 23])
 .ret))
abbrev h120:HF:=⟨h120c,[.tmp 4],24,false⟩
theorem h120_ok:CK Tryz.f120 h120c:=by unfold CK;kernel_rfl
theorem r120_ok:RK Tryz.f120 [.tmp 4]:=by unfold RK;kernel_rfl
def h121c:HC:=
 (.seq (.region [Oo 1 (.box (.t 0)),oK 2 0,oK 3 0])
 (.seq (.region [oG 7 11 1,Oo 8 (.call 102 [(.t 7)]),oM 6 8,oE 9 6 0,oE 10 6 1,oM 4 9,oM 5 10])
 (.seq (.region [oM 11 4,Oo 12 (.lenS (.t 11)),oM 13 5,oM 2 12,oM 3 13])
 .ret)))
abbrev h121:HF:=⟨h121c,[.tmp 2,.tmp 3],14,false⟩
theorem h121_ok:CK Tryz.f121 h121c:=by unfold CK;kernel_rfl
theorem r121_ok:RK Tryz.f121 [.tmp 2,.tmp 3]:=by unfold RK;kernel_rfl
def h122l0:HC:=
 (.seq (.seq (.region [oM 15 6,oM 16 1,oC 17 .lss 15 16])
 (.cond (.t 17) .skip
 (.exit 0)))
 (.seq (.block 1 (.seq (.drawn [Qo (oM 20 0),Qo (oM 21 6),Qo (oI 22 11 20 21),Qo (oA 23 2 22),Qo (oL 24 23),Qo (oM 25 0),Qo (oM 26 1),Qo (oI 27 11 25 26),Qo (oA 28 2 27),Qo (oL 29 28),Qo (oC 30 .eql 24 29)])
 (.cond (.t 30) (.seq (.region [oK 4 23])
 .ret)
 .skip)))
 (.region [oM 18 6,oB 19 .add 18 1,oM 6 19])))
def h122c:HC:=
 (.seq (.region [oK 4 0])
 (.seq (.seq (.region [oM 7 0,oM 8 1,oI 9 11 7 8,oG 10 11 9,Oo 11 (.call 37 [(.t 10)]),oM 5 11])
 (.seq (.region [oM 12 5,oB 13 .neq 12 0])
 (.cond (.t 13) (.seq (.region [oM 14 5,oM 4 14])
 .ret)
 .skip)))
 (.seq (.seq (.region [oK 6 0])
 (.block 0 (.loop [0,0,4] h122l0)))
 (.seq (.region [oK 4 0])
 .ret))))
abbrev h122:HF:=⟨h122c,[.tmp 4],31,false⟩
theorem h122_ok:CK Tryz.f122 h122c:=by unfold CK;kernel_rfl
theorem r122_ok:RK Tryz.f122 [.tmp 4]:=by unfold RK;kernel_rfl
def h123c:HC:=
 (.seq (.region [Oo 2 (.box (.t 0)),Oo 3 (.box (.t 1)),oK 4 0])
 (.seq (.seq (.drawn [Qo (oG 6 11 2),Qo (Oo 7 (.call 80 [(.t 6)])),Qo (oG 8 11 3),Qe (Oo 9 (.call 80 [(.t 8)])),Qe (Oo 10 (.call 170 [(.t 7),(.t 9)])),Qo (oM 5 10)])
 (.seq (.region [oM 11 5,oB 12 .neq 11 0])
 (.cond (.t 12) (.seq (.region [oM 13 5,oM 4 13])
 .ret)
 .skip)))
 (.seq (.region [oA 14 2 2,oL 15 14,oA 16 2 3,oL 17 16,Oo 18 (.call 171 [(.t 15),(.t 17)]),oM 4 18])
 .ret)))
abbrev h123:HF:=⟨h123c,[.tmp 4],19,false⟩
theorem h123_ok:CK Tryz.f123 h123c:=by unfold CK;kernel_rfl
theorem r123_ok:RK Tryz.f123 [.tmp 4]:=by unfold RK;kernel_rfl
def h124c:HC:=
 (.seq (.region [Oo 2 (.mov (.k (.bool false)))])
 (.seq (.region [Oo 6 (.call 172 []),oM 7 0,Oo 8 (.mpx true (.bool false) (.t 6) (.t 7)),oM 5 8,oE 9 5 0,oE 10 5 1,oM 3 9,oM 4 10])
 (.seq (.region [oM 11 4,oM 2 11])
 .ret)))
abbrev h124:HF:=⟨h124c,[.tmp 2],12,false⟩
theorem h124_ok:CK Tryz.f124 h124c:=by unfold CK;kernel_rfl
theorem r124_ok:RK Tryz.f124 [.tmp 2]:=by unfold RK;kernel_rfl
def h125c:HC:=
 (.seq (.region [oK 2 0])
 (.seq (.region [oM 3 0,Oo 4 (.bin .eql (.t 3) (.k (.string ⟨#[]⟩))),oM 5 4,Og 5 false 6 (.mov (.t 0)),Og 5 false 7 (.call 173 [(.t 6)]),Og 5 false 8 (.bin .eql (.t 7) (Ki 0)),Oo 9 (.pick (.t 5) (.k (.bool true)) (.t 8)),Oo 10 (.call 118 [(.t 9),(Ki 4)]),oM 2 10])
 .ret))
abbrev h125:HF:=⟨h125c,[.tmp 2],11,false⟩
theorem h125_ok:CK Tryz.f125 h125c:=by unfold CK;kernel_rfl
theorem r125_ok:RK Tryz.f125 [.tmp 2]:=by unfold RK;kernel_rfl
def h126c:HC:=
 (.seq (.region [Oo 6 (.mov (.k (.bool false)))])
 (.seq (.region [oM 7 1,oM 8 0,oC 9 .leq 7 8,oM 10 9,Og 10 true 11 (.mov (.t 0)),Og 10 true 12 (.mov (.t 2)),Og 10 true 13 (.bin .leq (.t 11) (.t 12)),Oo 14 (.pick (.t 10) (.t 13) (.k (.bool false))),oM 6 14])
 .ret))
abbrev h126:HF:=⟨h126c,[.tmp 6],15,false⟩
theorem h126_ok:CK Tryz.f126 h126c:=by unfold CK;kernel_rfl
theorem r126_ok:RK Tryz.f126 [.tmp 6]:=by unfold RK;kernel_rfl
def h127c:HC:=
 (.seq (.region [Oo 1 (.box (.t 0)),oK 2 0])
 (.seq (.region [oA 4 7 1,oL 5 4,oN 6 5,oB 7 .eql 6 0,oM 8 7,Og 8 true 9 (.addo 6 (.t 1)),Og 8 true 10 (.load false 1 (.t 9)),Og 8 true 11 (.bin .eql (.t 10) (Ki 0)),Oo 12 (.pick (.t 8) (.t 11) (.k (.bool false))),oM 13 12,Og 13 true 14 (.addo 8 (.t 1)),Og 13 true 15 (.load false 1 (.t 14)),Og 13 true 16 (.bin .eql (.t 15) (Ki 0)),Oo 17 (.pick (.t 13) (.t 16) (.k (.bool false))),oM 18 17,Og 18 true 19 (.addo 9 (.t 1)),Og 18 true 20 (.load false 1 (.t 19)),Og 18 true 21 (.bin .eql (.t 20) (Ki 0)),Oo 22 (.pick (.t 18) (.t 21) (.k (.bool false))),oM 23 22,Og 23 true 24 (.addo 10 (.t 1)),Og 23 true 25 (.load false 1 (.t 24)),Og 23 true 26 (.bin .eql (.t 25) (Ki 0)),Oo 27 (.pick (.t 23) (.t 26) (.k (.bool false))),oM 3 27])
 (.seq (.drawn [Qo (oM 28 3),Qo (Oo 29 (.call 118 [(.t 28),(Ki 3)])),Qo (oA 30 5 1),Qo (oL 31 30),Qo (Oo 32 (.lenS (.t 31))),Qo (oB 33 .leq 32 400),Qe (Oo 34 (.call 118 [(.t 33),(Ki 8)])),Qe (Oo 35 (.bslc 1 2 [Zi 0] [(0,(.t 29)),(1,(.t 34))])),Qe (Oo 36 (.call 117 [(.t 35)])),Qo (oM 2 36)])
 .ret)))
abbrev h127:HF:=⟨h127c,[.tmp 2],37,false⟩
theorem h127_ok:CK Tryz.f127 h127c:=by unfold CK;kernel_rfl
theorem r127_ok:RK Tryz.f127 [.tmp 2]:=by unfold RK;kernel_rfl
def h128c:HC:=
 (.seq (.region [Oo 1 (.box (.t 0)),oK 2 0])
 (.seq (.seq (.drawn [Qo (Oo 9 (.call 172 [])),Qo (oA 10 0 1),Qo (oL 11 10),Qo (Oo 12 (.mpx false (.bool false) (.t 9) (.t 11))),Qo (Oo 13 (.un .not (.t 12))),Qo (Oo 14 (.call 118 [(.t 13),(Ki 20)])),Qo (oA 15 5 1),Qo (oL 16 15),Qo (Oo 17 (.bin .eql (.t 16) (.k (.string ⟨#[]⟩)))),Qo (Oo 18 (.call 118 [(.t 17),(Ki 3)])),Qo (oA 19 6 1),Qo (oL 20 19),Qe (Oo 21 (.call 126 [(.t 20),(Ki 0),(Ki 4096)])),Qe (Oo 22 (.call 118 [(.t 21),(Ki 2)])),Qe (Oo 23 (.bslc 1 3 [Zi 0] [(0,(.t 14)),(1,(.t 18)),(2,(.t 22))])),Qe (Oo 24 (.call 117 [(.t 23)])),Qo (oM 3 24)])
 (.seq (.region [oM 25 3,oB 26 .neq 25 0])
 (.cond (.t 26) (.seq (.region [oM 27 3,oM 2 27])
 .ret)
 .skip)))
 (.seq (.seq (.region [oA 29 7 1,oL 30 29,Oo 31 (.call 174 [(.t 30)]),oM 28 31,oE 32 28 0,oE 33 28 1,oM 4 32,oM 5 33])
 (.seq (.region [oM 34 5,oB 35 .neq 34 0])
 (.cond (.t 35) (.seq (.region [oM 36 5,oM 2 36])
 .ret)
 .skip)))
 (.seq (.region [oA 37 6 1,oL 38 37,oB 39 .gtr 38 0,oM 6 39])
 (.seq (.region [oA 40 8 1,oL 41 40,oB 42 .neq 41 0,oM 43 42,Og 43 false 44 (.addo 9 (.t 1)),Og 43 false 45 (.load false 1 (.t 44)),Og 43 false 46 (.bin .neq (.t 45) (Ki 0)),Oo 47 (.pick (.t 43) (.k (.bool true)) (.t 46)),oM 48 47,Og 48 false 49 (.addo 10 (.t 1)),Og 48 false 50 (.load false 1 (.t 49)),Og 48 false 51 (.bin .neq (.t 50) (Ki 0)),Oo 52 (.pick (.t 48) (.k (.bool true)) (.t 51)),oM 7 52])
 (.seq (.region [oA 53 8 1,oL 54 53,Oo 55 (.call 126 [(.t 54),(Ki 0),(Ki 1048576)]),oM 56 55,Og 56 true 57 (.addo 9 (.t 1)),Og 56 true 58 (.load false 1 (.t 57)),Og 56 true 59 (.call 126 [(.t 58),(Ki 0),(Ki 1048576)]),Oo 60 (.pick (.t 56) (.t 59) (.k (.bool false))),oM 61 60,Og 61 true 62 (.addo 10 (.t 1)),Og 61 true 63 (.load false 1 (.t 62)),Og 61 true 64 (.call 126 [(.t 63),(Ki 0),(Ki 1048576)]),Oo 65 (.pick (.t 61) (.t 64) (.k (.bool false))),oM 8 65])
 (.seq (.drawn [Qo (oM 66 6),Qo (Oo 67 (.un .not (.t 66))),Qo (oM 68 67),Qo (Og 68 false 69 (.addo 7 (.t 1))),Qo (Og 68 false 70 (.load false 1 (.t 69))),Qo (Og 68 false 71 (.lenL (.t 70))),Qo (Og 68 false 72 (.bin .gtr (.t 71) (Ki 0))),Qo (Oo 73 (.pick (.t 68) (.k (.bool true)) (.t 72))),Qo (Oo 74 (.call 118 [(.t 73),(Ki 17)])),Qo (oA 75 6 1),Qo (oL 76 75),Qo (oG 77 11 1),Qo (Oo 78 (.call 175 [(.t 77)])),Qo (oC 79 .add 76 78),Qo (oB 80 .leq 79 4096),Qo (Oo 81 (.call 118 [(.t 80),(Ki 8)])),Qo (oM 82 6),Qo (Oo 83 (.un .not (.t 82))),Qo (oM 84 83),Qo (Og 84 false 85 (.mov (.t 7))),Qo (Og 84 false 86 (.un .not (.t 85))),Qo (Oo 87 (.pick (.t 84) (.k (.bool true)) (.t 86))),Qo (Oo 88 (.call 118 [(.t 87),(Ki 3)])),Qo (oM 89 8),Qo (Oo 90 (.call 118 [(.t 89),(Ki 2)])),Qo (oA 91 10 1),Qo (oL 92 91),Qo (oA 93 9 1),Qo (oL 94 93),Qo (oC 95 .leq 92 94),Qe (Oo 96 (.call 118 [(.t 95),(Ki 9)])),Qe (Oo 97 (.bslc 1 5 [Zi 0] [(0,(.t 74)),(1,(.t 81)),(2,(.t 88)),(3,(.t 90)),(4,(.t 96))])),Qe (Oo 98 (.call 117 [(.t 97)])),Qo (oM 2 98)])
 .ret)))))))
abbrev h128:HF:=⟨h128c,[.tmp 2],99,false⟩
theorem h128_ok:CK Tryz.f128 h128c:=by unfold CK;kernel_rfl
theorem r128_ok:RK Tryz.f128 [.tmp 2]:=by unfold RK;kernel_rfl
def h129c:HC:=
 (.seq (.region [Oo 1 (.box (.t 0)),Oo 2 (.mov (.k (.string ⟨#[]⟩)))])
 (.seq (.region [oA 7 5 1,oL 8 7,oM 3 8])
 (.seq (.seq (.region [oA 9 4 1,oL 10 9,Oo 11 (.un .not (.t 10))])
 (.cond (.t 11) (.region [oA 13 7 1,oL 14 13,Oo 15 (.call 176 [(.t 14)]),oM 12 15,oE 16 12 0,oE 17 12 1,oM 3 16])
 .skip))
 (.seq (.region [oA 18 4 1,oL 19 18,Oo 20 (.call 177 [(.t 19)]),oM 4 20])
 (.seq (.region [oM 21 4,oA 22 1 1,oL 23 22,Oo 24 (.lenS (.t 23)),oC 25 .add 21 24,Oo 26 (.call 178 [(.t 25)]),oM 5 26])
 (.seq (.regR [0] [oM 27 5,oM 28 3,Oo 29 (.lenS (.t 28)),oC 30 .add 27 29,Oo 31 (.call 178 [(.t 30)]),Oo 32 (.mk 1 1 [(.int .u8 0)] (.t 31) (.t 31)),oM 6 32])
 (.seq (.regR [179] [oM 33 6,oA 34 0 1,oL 35 34,Oo 36 (.call 179 [(.t 33),(Ki 0),(Ki 4),(.t 35)])])
 (.seq (.regR [179] [oM 37 6,oM 38 6,oN 39 38,Oo 40 (.call 179 [(.t 37),(Ki 4),(Ki 4),(.t 39)])])
 (.seq (.regR [179] [oM 41 6,oA 42 1 1,oL 43 42,Oo 44 (.lenS (.t 43)),Oo 45 (.call 179 [(.t 41),(Ki 9),(Ki 1),(.t 44)])])
 (.seq (.regR [179] [oM 46 6,oM 47 4,Oo 48 (.call 179 [(.t 46),(Ki 10),(Ki 2),(.t 47)])])
 (.seq (.regR [179] [oM 49 6,oA 50 3 1,oL 51 50,Oo 52 (.call 179 [(.t 49),(Ki 12),(Ki 2),(.t 51)])])
 (.seq (.regR [179] [oM 53 6,oA 54 2 1,oL 55 54,Oo 56 (.call 179 [(.t 53),(Ki 14),(Ki 2),(.t 55)])])
 (.seq (.seq (.region [oA 57 4 1,oL 58 57])
 (.cond (.t 58) (.seq (.regR [179] [oM 59 6,oM 60 3,Oo 61 (.lenS (.t 60)),Oo 62 (.call 179 [(.t 59),(Ki 16),(Ki 4),(.t 61)])])
 (.regR [179] [oM 63 6,oM 64 5,Oo 65 (.call 179 [(.t 63),(Ki 20),(Ki 4),(.t 64)])]))
 (.seq (.regR [179] [oM 66 6,Oo 67 (.call 179 [(.t 66),(Ki 8),(Ki 1),(Ki 1)])])
 (.seq (.regR [179] [oM 68 6,oA 69 6 1,oL 70 69,Oo 71 (.call 179 [(.t 68),(Ki 16),(Ki 4),(.t 70)])])
 (.seq (.drawnF [(0,4),(1,4),(2,4)] [oM 72 6,oA 73 6 1,oL 74 73,oG 75 11 1,Oo 76 (.call 175 [(.t 75)]),oC 77 .add 74 76,oB 78 .sub 77 1,Oo 79 (.call 179 [(.t 72),(Ki 20),(Ki 4),(.t 78)])])
 (.seq (.regR [179] [oM 80 6,oM 81 5,Oo 82 (.call 179 [(.t 80),(Ki 24),(Ki 2),(.t 81)])])
 (.seq (.regR [179] [oM 83 6,oA 84 8 1,oL 85 84,Oo 86 (.call 179 [(.t 83),(Ki 28),(Ki 4),(.t 85)])])
 (.seq (.regR [179] [oM 87 6,oA 88 9 1,oL 89 88,Oo 90 (.call 179 [(.t 87),(Ki 32),(Ki 4),(.t 89)])])
 (.regR [179] [oM 91 6,oA 92 10 1,oL 93 92,Oo 94 (.call 179 [(.t 91),(Ki 36),(Ki 4),(.t 93)])])))))))))
 (.seq (.drawnF [] [oM 95 6,oM 96 4,Oo 97 (.slL 1 (.t 95) (some (.t 96)) none),oA 98 1 1,oL 99 98,Oo 100 (.cpys (.t 97) (.t 99))])
 (.seq (.region [oM 101 6,oM 102 5,Oo 103 (.slL 1 (.t 101) (some (.t 102)) none),oM 104 3,Oo 105 (.cpys (.t 103) (.t 104))])
 (.seq (.region [oM 106 6,Oo 107 (.cvbs (.t 106)),oM 2 107])
 .ret))))))))))))))))
abbrev h129:HF:=⟨h129c,[.tmp 2],108,false⟩
theorem h129_ok:CK Tryz.f129 h129c:=by unfold CK;kernel_rfl
theorem r129_ok:RK Tryz.f129 [.tmp 2]:=by unfold RK;kernel_rfl
def h130c:HC:=
 (.seq (.region [Oo 4 (.mov (.k (.bool false)))])
 (.seq (.region [oM 5 0,oM 6 1,Oo 7 (.call 64 [(.t 5),(.t 6)]),oB 8 .geq 7 0,oM 4 8])
 .ret))
abbrev h130:HF:=⟨h130c,[.tmp 4],9,false⟩
theorem h130_ok:CK Tryz.f130 h130c:=by unfold CK;kernel_rfl
theorem r130_ok:RK Tryz.f130 [.tmp 4]:=by unfold RK;kernel_rfl
def h131c:HC:=
 (.seq (.region [Oo 2 (.box (.t 0)),Oo 3 (.mov (.k (.bool false)))])
 (.seq (.region [oA 4 0 1,oL 5 4,oA 6 0 2,oL 7 6,oC 8 .eql 5 7,oM 9 8,Og 9 true 10 (.addo 1 (.t 1)),Og 9 true 11 (.load false 1 (.t 10)),Og 9 true 12 (.addo 1 (.t 2)),Og 9 true 13 (.load false 1 (.t 12)),Og 9 true 14 (.bin .eql (.t 11) (.t 13)),Oo 15 (.pick (.t 9) (.t 14) (.k (.bool false))),oM 16 15,Og 16 true 17 (.addo 6 (.t 1)),Og 16 true 18 (.load false 1 (.t 17)),Og 16 true 19 (.addo 6 (.t 2)),Og 16 true 20 (.load false 1 (.t 19)),Og 16 true 21 (.bin .eql (.t 18) (.t 20)),Oo 22 (.pick (.t 16) (.t 21) (.k (.bool false))),oM 3 22])
 .ret))
abbrev h131:HF:=⟨h131c,[.tmp 3],23,false⟩
theorem h131_ok:CK Tryz.f131 h131c:=by unfold CK;kernel_rfl
theorem r131_ok:RK Tryz.f131 [.tmp 3]:=by unfold RK;kernel_rfl
def h132c:HC:=
 (.seq (.region [Oo 2 (.mov (.k (.slice none 0 0)))])
 (.seq (.seq (.region [oM 3 0,Oo 4 (.isnil false false (.t 3))])
 (.cond (.t 4) (.seq (.region [Oo 2 (.mov (.k (.slice none 0 0)))])
 .ret)
 .skip))
 (.seq (.region [Oo 5 (.bslc 11 0 [Zi 0,(.string ⟨#[]⟩),Zi 0,Zi 0,(.bool false),(.string ⟨#[]⟩),Zi 0,(.slice none 0 0),Zi 0,Zi 0,Zi 0] []),oM 6 0,Oo 7 (.app 11 120 [Zi 0,(.string ⟨#[]⟩),Zi 0,Zi 0,(.bool false),(.string ⟨#[]⟩),Zi 0,(.slice none 0 0),Zi 0,Zi 0,Zi 0] (.t 5) (.t 6)),oM 2 7])
 .ret)))
abbrev h132:HF:=⟨h132c,[.tmp 2],8,true⟩
theorem h132_ok:CK Tryz.f132 h132c:=by unfold CK;kernel_rfl
theorem r132_ok:RK Tryz.f132 [.tmp 2]:=by unfold RK;kernel_rfl
def h133c:HC:=
 (.seq (.region [Oo 1 (.box (.t 0)),Oo 2 (.alloc [Zi 0,(.string ⟨#[]⟩),Zi 0,Zi 0,(.bool false),(.string ⟨#[]⟩),Zi 0,(.slice none 0 0),Zi 0,Zi 0,Zi 0])])
 (.seq (.region [oA 3 7 1,oL 4 3,Oo 5 (.call 78 [(.t 4)]),oA 6 7 1,oS 1 6 5])
 (.seq (.region [oG 7 11 1,oS 11 2 7])
 .ret)))
abbrev h133:HF:=⟨h133c,[.cell 2 true 11],8,false⟩
theorem h133_ok:CK Tryz.f133 h133c:=by unfold CK;kernel_rfl
theorem r133_ok:RK Tryz.f133 [.cell 2 true 11]:=by unfold RK;kernel_rfl
def h134c:HC:=
 (.seq (.region [oM 5 0,oN 6 5,oM 4 6])
 (.region [oM 7 0,oM 8 4,oM 9 4,Oo 10 (.conv .u64 (.t 9)),Oo 11 (.call 181 [(.t 10)]),oM 12 1,Oo 13 (.call 180 [(.t 7),(Ki 0),(.t 8),(.t 11),(.t 12)])]))
abbrev h134:HF:=⟨h134c,[],14,true⟩
theorem h134_ok:CK Tryz.f134 h134c:=by unfold CK;kernel_rfl
theorem r134_ok:RK Tryz.f134 []:=by unfold RK;kernel_rfl
def h135c:HC:=
 (.seq (.region [Oo 2 (.box (.t 0)),Oo 3 (.mov (.k (.bool false)))])
 (.seq (.region [oA 4 2 2,oL 5 4,oL 6 1,oC 7 .eql 5 6,oM 3 7])
 .ret))
abbrev h135:HF:=⟨h135c,[.tmp 3],8,false⟩
theorem h135_ok:CK Tryz.f135 h135c:=by unfold CK;kernel_rfl
theorem r135_ok:RK Tryz.f135 [.tmp 3]:=by unfold RK;kernel_rfl
def h136l0:HC:=
 (.seq (.seq (.region [oM 6 5,oM 7 0,oN 8 7,oC 9 .lss 6 8])
 (.cond (.t 9) .skip
 (.exit 0)))
 (.seq (.block 1 (.seq (.region [oM 12 0,oM 13 5,oI 14 1 12 13,oL 15 14,oM 16 1,oC 17 .eql 15 16])
 (.cond (.t 17) (.seq (.region [Oo 4 (.mov (.k (.bool true)))])
 .ret)
 .skip)))
 (.region [oM 10 5,oB 11 .add 10 1,oM 5 11])))
def h136c:HC:=
 (.seq (.region [Oo 4 (.mov (.k (.bool false)))])
 (.seq (.seq (.region [oK 5 0])
 (.block 0 (.loop [0,0,3] h136l0)))
 (.seq (.region [Oo 4 (.mov (.k (.bool false)))])
 .ret)))
abbrev h136:HF:=⟨h136c,[.tmp 4],18,false⟩
theorem h136_ok:CK Tryz.f136 h136c:=by unfold CK;kernel_rfl
theorem r136_ok:RK Tryz.f136 [.tmp 4]:=by unfold RK;kernel_rfl
def h137l0:HC:=
 (.seq (.seq (.region [oM 33 3,oM 34 0,Oo 35 (.lenS (.t 34)),oC 36 .lss 33 35])
 (.cond (.t 36) .skip
 (.exit 0)))
 (.seq (.block 1 (.seq (.region [oM 39 0,oM 40 3,Oo 41 (.ixS (.t 39) (.t 40)),Oo 42 (.call 182 [(.t 41)]),Oo 43 (.un .not (.t 42))])
 (.cond (.t 43) (.seq (.region [oK 2 4])
 .ret)
 .skip)))
 (.region [oM 37 3,oB 38 .add 37 1,oM 3 38])))
def h137c:HC:=
 (.seq (.region [oK 2 0])
 (.seq (.seq (.region [oM 4 0,Oo 5 (.lenS (.t 4)),oB 6 .gtr 5 32])
 (.cond (.t 6) (.seq (.region [oK 2 8])
 .ret)
 .skip))
 (.seq (.seq (.region [oM 7 0,Oo 8 (.bin .eql (.t 7) (.k (.string ⟨#[]⟩))),oM 9 8,Og 9 false 10 (.mov (.t 0)),Og 9 false 11 (.bin .eql (.t 10) (.k (.string ⟨#[46]⟩))),Oo 12 (.pick (.t 9) (.k (.bool true)) (.t 11)),oM 13 12,Og 13 false 14 (.mov (.t 0)),Og 13 false 15 (.bin .eql (.t 14) (.k (.string ⟨#[46,46]⟩))),Oo 16 (.pick (.t 13) (.k (.bool true)) (.t 15)),oM 17 16,Og 17 false 18 (.mov (.t 0)),Og 17 false 19 (.mov (.t 0)),Og 17 false 20 (.lenS (.t 19)),Og 17 false 21 (.bin .sub (.t 20) (Ki 1)),Og 17 false 22 (.ixS (.t 18) (.t 21)),Og 17 false 23 (.bin .eql (.t 22) (.k (.int .u8 32))),Oo 24 (.pick (.t 17) (.k (.bool true)) (.t 23)),oM 25 24,Og 25 false 26 (.mov (.t 0)),Og 25 false 27 (.mov (.t 0)),Og 25 false 28 (.lenS (.t 27)),Og 25 false 29 (.bin .sub (.t 28) (Ki 1)),Og 25 false 30 (.ixS (.t 26) (.t 29)),Og 25 false 31 (.bin .eql (.t 30) (.k (.int .u8 46))),Oo 32 (.pick (.t 25) (.k (.bool true)) (.t 31))])
 (.cond (.t 32) (.seq (.region [oK 2 4])
 .ret)
 .skip))
 (.seq (.seq (.region [oK 3 0])
 (.block 0 (.loop [0,2] h137l0)))
 (.seq (.region [oK 2 0])
 .ret)))))
abbrev h137:HF:=⟨h137c,[.tmp 2],44,false⟩
theorem h137_ok:CK Tryz.f137 h137c:=by unfold CK;kernel_rfl
theorem r137_ok:RK Tryz.f137 [.tmp 2]:=by unfold RK;kernel_rfl
def h138c:HC:=
 (.seq (.region [Oo 2 (.mov (.k (.bool false)))])
 (.seq (.region [Oo 3 (.bslc 1 5 [Zi 0] [(0,(Ki 16)),(1,(Ki 48)),(2,(Ki 96)),(3,(Ki 112)),(4,(Ki 144))]),oM 4 0,Oo 5 (.call 136 [(.t 3),(.t 4)]),oM 2 5])
 .ret))
abbrev h138:HF:=⟨h138c,[.tmp 2],6,false⟩
theorem h138_ok:CK Tryz.f138 h138c:=by unfold CK;kernel_rfl
theorem r138_ok:RK Tryz.f138 [.tmp 2]:=by unfold RK;kernel_rfl
def h139c:HC:=
 (.seq (.region [oK 2 0])
 (.seq (.region [oM 6 0,Oo 7 (.call 183 [(.t 6)]),oM 5 7,oE 8 5 0,oE 9 5 1,oM 3 8,oM 4 9])
 (.seq (.region [oM 10 4,oM 2 10])
 .ret)))
abbrev h139:HF:=⟨h139c,[.tmp 2],11,false⟩
theorem h139_ok:CK Tryz.f139 h139c:=by unfold CK;kernel_rfl
theorem r139_ok:RK Tryz.f139 [.tmp 2]:=by unfold RK;kernel_rfl
def h140c:HC:=
 (.seq (.region [Oo 2 (.mov (.k (.string ⟨#[]⟩)))])
 (.seq (.seq (.region [oM 3 0,Oo 4 (.call 19 [(.t 3),(Ki (-128)),(Ki 127)])])
 (.cond (.t 4) (.seq (.region [oM 5 0,Oo 6 (.call 45 [(.t 5),(Ki 256)]),Oo 7 (.call 90 [(.t 6),(Ki 1)]),oM 2 7])
 .ret)
 .skip))
 (.seq (.region [oM 8 0,Oo 9 (.call 45 [(.t 8),(Ki 65536)]),Oo 10 (.call 90 [(.t 9),(Ki 2)]),oM 2 10])
 .ret)))
abbrev h140:HF:=⟨h140c,[.tmp 2],11,false⟩
theorem h140_ok:CK Tryz.f140 h140c:=by unfold CK;kernel_rfl
theorem r140_ok:RK Tryz.f140 [.tmp 2]:=by unfold RK;kernel_rfl
def h141c:HC:=
 (.seq (.region [oK 4 0])
 (.seq (.region [oM 6 0,oM 7 1,oC 8 .quo 6 7,oM 5 8])
 (.seq (.seq (.region [oM 9 0,oM 10 1,oC 11 .rem 9 10,oB 12 .lss 11 0])
 (.cond (.t 12) (.region [oM 13 5,oB 14 .sub 13 1,oM 5 14])
 .skip))
 (.seq (.region [oM 15 5,oM 4 15])
 .ret))))
abbrev h141:HF:=⟨h141c,[.tmp 4],16,false⟩
theorem h141_ok:CK Tryz.f141 h141c:=by unfold CK;kernel_rfl
theorem r141_ok:RK Tryz.f141 [.tmp 4]:=by unfold RK;kernel_rfl
def h142c:HC:=
 (.seq (.region [oK 2 0])
 (.seq (.region [oM 3 0,Oo 4 (.lenS (.t 3)),oB 5 .eql 4 512,Oo 6 (.call 155 [(.t 5),(Ki 10)]),oM 2 6])
 .ret))
abbrev h142:HF:=⟨h142c,[.tmp 2],7,false⟩
theorem h142_ok:CK Tryz.f142 h142c:=by unfold CK;kernel_rfl
theorem r142_ok:RK Tryz.f142 [.tmp 2]:=by unfold RK;kernel_rfl
def h145c:HC:=
 (.seq (.region [Oo 4 (.mov (.k (.string ⟨#[]⟩)))])
 (.seq (.region [oM 5 0,oM 6 1,oM 7 1,oB 8 .add 7 2,Oo 9 (.slL 1 (.t 5) (some (.t 6)) (some (.t 8))),Oo 10 (.cvbs (.t 9)),oM 4 10])
 .ret))
abbrev h145:HF:=⟨h145c,[.tmp 4],11,false⟩
theorem h145_ok:CK Tryz.f145 h145c:=by unfold CK;kernel_rfl
theorem r145_ok:RK Tryz.f145 [.tmp 4]:=by unfold RK;kernel_rfl
def h146c:HC:=
 (.region [oM 6 0,oM 7 1,Oo 8 (.slL 1 (.t 6) (some (.t 7)) none),oM 9 2,Oo 10 (.cpys (.t 8) (.t 9))])
abbrev h146:HF:=⟨h146c,[],11,false⟩
theorem h146_ok:CK Tryz.f146 h146c:=by unfold CK;kernel_rfl
theorem r146_ok:RK Tryz.f146 []:=by unfold RK;kernel_rfl
def h147c:HC:=
 (.seq (.region [oK 2 0])
 (.seq (.region [oM 3 0,oB 4 .add 3 1,oB 5 .mul 4 64,oB 6 .sub 5 2,oM 2 6])
 .ret))
abbrev h147:HF:=⟨h147c,[.tmp 2],7,false⟩
theorem h147_ok:CK Tryz.f147 h147c:=by unfold CK;kernel_rfl
theorem r147_ok:RK Tryz.f147 [.tmp 2]:=by unfold RK;kernel_rfl
def h149l0:HC:=
 (.seq (.region [oC 10 .lss 9 8])
 (.seq (.cond (.t 10) .skip
 (.exit 0))
 (.seq (.block 1 (.seq (.region [oM 11 9,oM 6 11])
 (.seq (.region [oM 12 1,oA 13 0 3,oL 14 13,oM 15 6,oC 16 .add 14 15,oM 17 2,Oo 18 (.conv .u8 (.t 17)),oI 19 1 12 16,oS 1 19 18])
 (.region [oM 20 2,Oo 21 (.bin .shr (.t 20) (.k (.int .u64 8))),oM 2 21]))))
 (.region [oB 22 .add 9 1,oM 9 22]))))
def h149c:HC:=
 (.seq (.region [Oo 3 (.box (.t 0))])
 (.seq (.region [oA 7 1 3,oL 8 7,oK 9 0])
 (.block 0 (.loop [1,0,0,4,0] h149l0))))
abbrev h149:HF:=⟨h149c,[],23,false⟩
theorem h149_ok:CK Tryz.f149 h149c:=by unfold CK;kernel_rfl
theorem r149_ok:RK Tryz.f149 []:=by unfold RK;kernel_rfl
def h154l0:HC:=
 (.seq (.region [oC 8 .lss 7 6])
 (.seq (.cond (.t 8) .skip
 (.exit 0))
 (.seq (.block 1 (.seq (.region [oI 9 1 5 7,oL 10 9,oM 4 10])
 (.seq (.region [oM 11 4,oB 12 .neq 11 0])
 (.cond (.t 12) (.seq (.region [oM 13 4,oM 2 13])
 .ret)
 .skip))))
 (.region [oB 14 .add 7 1,oM 7 14]))))
def h154c:HC:=
 (.seq (.region [oK 2 0])
 (.seq (.seq (.region [oM 5 0,oN 6 5,oK 7 0])
 (.block 0 (.loop [5,0,0] h154l0)))
 (.seq (.region [oK 2 0])
 .ret)))
abbrev h154:HF:=⟨h154c,[.tmp 2],15,false⟩
theorem h154_ok:CK Tryz.f154 h154c:=by unfold CK;kernel_rfl
theorem r154_ok:RK Tryz.f154 [.tmp 2]:=by unfold RK;kernel_rfl
def h155c:HC:=
 (.seq (.region [oK 4 0])
 (.seq (.seq (.region [oM 5 0])
 (.cond (.t 5) (.seq (.region [oK 4 0])
 .ret)
 .skip))
 (.seq (.region [oM 6 1,oM 4 6])
 .ret)))
abbrev h155:HF:=⟨h155c,[.tmp 4],7,false⟩
theorem h155_ok:CK Tryz.f155 h155c:=by unfold CK;kernel_rfl
theorem r155_ok:RK Tryz.f155 [.tmp 4]:=by unfold RK;kernel_rfl
def h156c:HC:=
 (.seq (.region [Oo 4 (.mov (.k (.string ⟨#[]⟩)))])
 (.seq (.seq (.region [oM 7 0,Oo 8 (.bin .eql (.t 7) (.k (.string ⟨#[]⟩))),oM 9 8,Og 9 false 10 (.mov (.t 1)),Og 9 false 11 (.bin .eql (.t 10) (.k (.string ⟨#[]⟩))),Oo 12 (.pick (.t 9) (.k (.bool true)) (.t 11))])
 (.cond (.t 12) (.seq (.region [oM 13 0,oM 4 13])
 .ret)
 .skip))
 (.seq (.seq (.region [oM 14 1,Oo 15 (.lenS (.t 14)),oB 16 .eql 15 1,oM 17 16,Og 17 true 18 (.mov (.t 1)),Og 17 true 19 (.ixS (.t 18) (Ki 0)),Og 17 true 20 (.bin .lss (.t 19) (.k (.int .u8 128))),Oo 21 (.pick (.t 17) (.t 20) (.k (.bool false)))])
 (.cond (.t 21) (.seq (.drawn [Qo (oM 22 0),Qo (oM 23 1),Qo (Oo 24 (.ixS (.t 23) (Ki 0))),Qo (Oo 25 (.call 191 [(.t 22),(.t 24)])),Qo (oM 26 1),Qo (Oo 27 (.ixS (.t 26) (Ki 0))),Qe (Oo 28 (.call 190 [(.t 25),(.t 27)])),Qo (oM 4 28)])
 .ret)
 .skip))
 (.seq (.seq (.region [oM 30 1,Oo 31 (.call 192 [(.t 30)]),oM 29 31,oE 32 29 0,oE 33 29 1,Oo 5 (.alloc (List.replicate 256 (.bool false))),oS 256 5 32,oM 6 33])
 (.seq (.region [oM 34 6])
 (.cond (.t 34) (.seq (.region [oM 35 0,Oo 36 (.call 194 [(.t 35),(.t 5)]),Oo 37 (.call 193 [(.t 36),(.t 5)]),oM 4 37])
 .ret)
 .skip)))
 (.seq (.region [oM 38 0,oM 39 1,Oo 40 (.call 196 [(.t 38),(.t 39)]),oM 41 1,Oo 42 (.call 195 [(.t 40),(.t 41)]),oM 4 42])
 .ret)))))
abbrev h156:HF:=⟨h156c,[.tmp 4],43,false⟩
theorem h156_ok:CK Tryz.f156 h156c:=by unfold CK;kernel_rfl
theorem r156_ok:RK Tryz.f156 [.tmp 4]:=by unfold RK;kernel_rfl
def h157c:HC:=
 (.seq (.region [Oo 6 (.mov (.k (.bool false)))])
 (.seq (.region [oM 7 1,oM 8 0,oC 9 .leq 7 8,oM 10 9,Og 10 true 11 (.mov (.t 0)),Og 10 true 12 (.mov (.t 2)),Og 10 true 13 (.bin .leq (.t 11) (.t 12)),Oo 14 (.pick (.t 10) (.t 13) (.k (.bool false))),oM 6 14])
 .ret))
abbrev h157:HF:=⟨h157c,[.tmp 6],15,false⟩
theorem h157_ok:CK Tryz.f157 h157c:=by unfold CK;kernel_rfl
theorem r157_ok:RK Tryz.f157 [.tmp 6]:=by unfold RK;kernel_rfl
def h158c:HC:=
 (.seq (.region [Oo 2 (.mov (.k (.string ⟨#[]⟩)))])
 (.seq (.region [oM 3 0,Oo 4 (.conv .u8 (.t 3)),oM 5 0,Oo 6 (.bin .shr (.t 5) (.k (.int .u64 8))),Oo 7 (.conv .u8 (.t 6)),Oo 8 (.bslc 1 2 [(.int .u8 0)] [(0,(.t 4)),(1,(.t 7))]),Oo 9 (.cvbs (.t 8)),oM 2 9])
 .ret))
abbrev h158:HF:=⟨h158c,[.tmp 2],10,false⟩
theorem h158_ok:CK Tryz.f158 h158c:=by unfold CK;kernel_rfl
theorem r158_ok:RK Tryz.f158 [.tmp 2]:=by unfold RK;kernel_rfl
def h163c:HC:=
 (.seq (.region [Oo 2 (.mov (.k (.string ⟨#[]⟩)))])
 (.seq (.region [oM 3 0,Oo 4 (.call 198 [(.t 3),(Ki 10)]),oM 2 4])
 .ret))
abbrev h163:HF:=⟨h163c,[.tmp 2],5,false⟩
theorem h163_ok:CK Tryz.f163 h163c:=by unfold CK;kernel_rfl
theorem r163_ok:RK Tryz.f163 [.tmp 2]:=by unfold RK;kernel_rfl
def h166c:HC:=
 (.seq (.region [Oo 3 (.box (.t 0)),Oo 4 (.mov (.k (.bool false)))])
 (.seq (.drawn [Qo (oA 5 2 3),Qo (oL 6 5),Qo (oL 7 1),Qo (oL 8 2),Qo (oI 9 11 7 8),Qo (oA 10 2 9),Qo (oL 11 10),Qo (oC 12 .eql 6 11),Qo (oM 4 12)])
 .ret))
abbrev h166:HF:=⟨h166c,[.tmp 4],13,false⟩
theorem h166_ok:CK Tryz.f166 h166c:=by unfold CK;kernel_rfl
theorem r166_ok:RK Tryz.f166 [.tmp 4]:=by unfold RK;kernel_rfl
def h167l0:HC:=
 (.seq (.region [oC 9 .lss 8 7])
 (.seq (.cond (.t 9) .skip
 (.exit 0))
 (.seq (.block 1 (.seq (.region [oI 10 1 6 8,oL 11 10,oM 5 11])
 (.seq (.region [oM 12 5,oM 13 3,oC 14 .neq 12 13])
 (.cond (.t 14) (.seq (.region [oM 15 5,oM 2 15])
 .ret)
 .skip))))
 (.region [oB 16 .add 8 1,oM 8 16]))))
def h167c:HC:=
 (.seq (.region [oK 2 0])
 (.seq (.region [oK 3 0])
 (.seq (.seq (.region [oM 6 0,oN 7 6,oK 8 0])
 (.block 0 (.loop [3,2,0,0] h167l0)))
 (.seq (.region [oM 17 3,oM 2 17])
 .ret))))
abbrev h167:HF:=⟨h167c,[.tmp 2],18,false⟩
theorem h167_ok:CK Tryz.f167 h167c:=by unfold CK;kernel_rfl
theorem r167_ok:RK Tryz.f167 [.tmp 2]:=by unfold RK;kernel_rfl
def h168c:HC:=
 (.seq (.region [oK 4 0])
 (.seq (.region [oM 7 0,Oo 8 (.call 202 [(.t 7)]),oM 5 8])
 (.seq (.region [oM 9 1,Oo 10 (.call 202 [(.t 9)]),oM 6 10])
 (.seq (.seq (.region [oM 11 5])
 (.cond (.t 11) (.seq (.seq (.region [oM 12 6])
 (.cond (.t 12) (.seq (.region [oK 4 0])
 .ret)
 .skip))
 (.seq (.region [Oo 4 (.mov (Ki (-1)))])
 .ret))
 .skip))
 (.seq (.seq (.region [oM 13 6])
 (.cond (.t 13) (.seq (.region [oK 4 1])
 .ret)
 .skip))
 (.seq (.seq (.region [oM 14 0,oM 15 1,oC 16 .lss 14 15])
 (.cond (.t 16) (.seq (.region [Oo 4 (.mov (Ki (-1)))])
 .ret)
 .skip))
 (.seq (.seq (.region [oM 17 0,oM 18 1,oC 19 .gtr 17 18])
 (.cond (.t 19) (.seq (.region [oK 4 1])
 .ret)
 .skip))
 (.seq (.region [oK 4 0])
 .ret))))))))
abbrev h168:HF:=⟨h168c,[.tmp 4],20,false⟩
theorem h168_ok:CK Tryz.f168 h168c:=by unfold CK;kernel_rfl
theorem r168_ok:RK Tryz.f168 [.tmp 4]:=by unfold RK;kernel_rfl
def h169c:HC:=
 (.seq (.region [oK 4 0])
 (.seq (.region [oM 7 0,Oo 8 (.call 203 [(.t 7)]),oM 5 8])
 (.seq (.region [oM 9 1,Oo 10 (.call 203 [(.t 9)]),oM 6 10])
 (.seq (.seq (.region [oM 11 5])
 (.cond (.t 11) (.seq (.seq (.region [oM 12 6])
 (.cond (.t 12) (.seq (.region [oK 4 0])
 .ret)
 .skip))
 (.seq (.region [Oo 4 (.mov (Ki (-1)))])
 .ret))
 .skip))
 (.seq (.seq (.region [oM 13 6])
 (.cond (.t 13) (.seq (.region [oK 4 1])
 .ret)
 .skip))
 (.seq (.seq (.region [oM 14 0,oM 15 1,oC 16 .lss 14 15])
 (.cond (.t 16) (.seq (.region [Oo 4 (.mov (Ki (-1)))])
 .ret)
 .skip))
 (.seq (.seq (.region [oM 17 0,oM 18 1,oC 19 .gtr 17 18])
 (.cond (.t 19) (.seq (.region [oK 4 1])
 .ret)
 .skip))
 (.seq (.region [oK 4 0])
 .ret))))))))
abbrev h169:HF:=⟨h169c,[.tmp 4],20,false⟩
theorem h169_ok:CK Tryz.f169 h169c:=by unfold CK;kernel_rfl
theorem r169_ok:RK Tryz.f169 [.tmp 4]:=by unfold RK;kernel_rfl
def h170c:HC:=
 (.seq (.region [Oo 2 (.box (.t 0)),Oo 3 (.box (.t 1)),oK 4 0])
 (.seq (.seq (.region [oA 6 0 2,oL 7 6,oA 8 0 3,oL 9 8,Oo 10 (.call 171 [(.t 7),(.t 9)]),oM 5 10])
 (.seq (.region [oM 11 5,oB 12 .neq 11 0])
 (.cond (.t 12) (.seq (.region [oM 13 5,oM 4 13])
 .ret)
 .skip)))
 (.seq (.seq (.region [oA 14 1 2,oL 15 14,oA 16 1 3,oL 17 16,oC 18 .lss 15 17])
 (.cond (.t 18) (.seq (.region [Oo 4 (.mov (Ki (-1)))])
 .ret)
 .skip))
 (.seq (.seq (.region [oA 19 1 2,oL 20 19,oA 21 1 3,oL 22 21,oC 23 .gtr 20 22])
 (.cond (.t 23) (.seq (.region [oK 4 1])
 .ret)
 .skip))
 (.seq (.region [oA 24 2 2,oL 25 24,oA 26 2 3,oL 27 26,Oo 28 (.call 171 [(.t 25),(.t 27)]),oM 4 28])
 .ret)))))
abbrev h170:HF:=⟨h170c,[.tmp 4],29,false⟩
theorem h170_ok:CK Tryz.f170 h170c:=by unfold CK;kernel_rfl
theorem r170_ok:RK Tryz.f170 [.tmp 4]:=by unfold RK;kernel_rfl
def h171c:HC:=
 (.seq (.region [oK 4 0])
 (.seq (.seq (.region [oM 5 0,oM 6 1,oC 7 .lss 5 6])
 (.cond (.t 7) (.seq (.region [Oo 4 (.mov (Ki (-1)))])
 .ret)
 .skip))
 (.seq (.seq (.region [oM 8 0,oM 9 1,oC 10 .gtr 8 9])
 (.cond (.t 10) (.seq (.region [oK 4 1])
 .ret)
 .skip))
 (.seq (.region [oK 4 0])
 .ret))))
abbrev h171:HF:=⟨h171c,[.tmp 4],11,false⟩
theorem h171_ok:CK Tryz.f171 h171c:=by unfold CK;kernel_rfl
theorem r171_ok:RK Tryz.f171 [.tmp 4]:=by unfold RK;kernel_rfl
def h172c:HC:=
 (.seq (.region [Oo 0 (.mov (.k (.map none)))])
 (.seq .bad
 .ret))
abbrev h172:HF:=⟨h172c,[.tmp 0],3,false⟩
theorem h172_ok:CK Tryz.f172 h172c:=by unfold CK;kernel_rfl
theorem r172_ok:RK Tryz.f172 [.tmp 0]:=by unfold RK;kernel_rfl
def h173c:HC:=
 (.seq (.region [oK 2 0])
 (.seq (.region [oM 3 0,Oo 4 (.lenS (.t 3)),oB 5 .leq 4 32,Oo 6 (.call 205 [(.t 5),(Ki 8)]),oM 7 0,Oo 8 (.call 206 [(.t 7)]),Oo 9 (.call 205 [(.t 8),(Ki 4)]),Oo 10 (.bslc 1 2 [Zi 0] [(0,(.t 6)),(1,(.t 9))]),Oo 11 (.call 204 [(.t 10)]),oM 2 11])
 .ret))
abbrev h173:HF:=⟨h173c,[.tmp 2],12,false⟩
theorem h173_ok:CK Tryz.f173 h173c:=by unfold CK;kernel_rfl
theorem r173_ok:RK Tryz.f173 [.tmp 2]:=by unfold RK;kernel_rfl
def h174l0:HC:=
 (.seq (.region [oC 14 .lss 13 12])
 (.seq (.cond (.t 14) .skip
 (.exit 0))
 (.seq (.block 1 (.seq (.region [oM 15 13,oI 16 2 11 13,oG 17 2 16,Oo 6 (.alloc [Zi 0,Zi 0]),oM 5 15,oS 2 6 17])
 (.seq (.seq (.region [oG 18 2 6,Oo 19 (.call 207 [(.t 18)]),oM 7 19])
 (.seq (.region [oM 20 7,oB 21 .neq 20 0])
 (.cond (.t 21) (.seq (.region [oM 22 5,oM 23 7,oM 2 22,oM 3 23])
 .ret)
 .skip)))
 (.seq (.seq (.drawn [Qo (oM 24 5),Qo (oB 25 .gtr 24 0),Qo (oM 26 25),Qo (Og 26 true 27 (.mov (.t 0))),Qo (Og 26 true 28 (.mov (.t 5))),Qo (Og 26 true 29 (.bin .sub (.t 28) (Ki 1))),Qo (Og 26 true 30 (.ixL 2 (.t 27) (.t 29))),Qo (Og 26 true 31 (.load true 2 (.t 30))),Qo (Og 26 true 32 (.load true 2 (.t 6))),Qe (Og 26 true 33 (.call 208 [(.t 31),(.t 32)])),Qo (Oo 34 (.pick (.t 26) (.t 33) (.k (.bool false))))])
 (.cond (.t 34) (.seq (.region [oM 35 5,oM 2 35,oK 3 3])
 .ret)
 .skip))
 (.seq (.region [oG 36 2 6,Oo 37 (.call 209 [(.t 4),(.t 36)]),Oo 38 (.un .not (.t 37))])
 (.cond (.t 38) (.seq (.region [oM 39 5,oM 2 39,oK 3 23])
 .ret)
 .skip))))))
 (.region [oB 40 .add 13 1,oM 13 40]))))
def h174c:HC:=
 (.seq (.region [oK 2 0,oK 3 0])
 (.seq (.seq (.region [oM 8 0,oN 9 8,oB 10 .gtr 9 64])
 (.cond (.t 10) (.seq (.region [oK 2 0,oK 3 8])
 .ret)
 .skip))
 (.seq (.region [Oo 4 (.alloc (List.replicate 512 (.bool false)))])
 (.seq (.seq (.region [oM 11 0,oN 12 11,oK 13 0])
 (.block 0 (.loop [0,3,6,0,0] h174l0)))
 (.seq (.region [oM 41 0,Oo 42 (.call 211 [(.t 41)]),oB 43 .leq 42 4096,Oo 44 (.call 210 [(.t 43),(Ki 8)]),oK 2 0,oM 3 44])
 .ret)))))
abbrev h174:HF:=⟨h174c,[.tmp 2,.tmp 3],45,false⟩
theorem h174_ok:CK Tryz.f174 h174c:=by unfold CK;kernel_rfl
theorem r174_ok:RK Tryz.f174 [.tmp 2,.tmp 3]:=by unfold RK;kernel_rfl
def h175l0:HC:=
 (.seq (.region [oC 10 .lss 9 8])
 (.seq (.cond (.t 10) .skip
 (.exit 0))
 (.seq (.block 1 (.seq (.region [oI 11 2 7 9,oG 12 2 11,Oo 5 (.alloc [Zi 0,Zi 0]),oS 2 5 12])
 (.region [oM 13 3,oA 14 1 5,oL 15 14,oC 16 .add 13 15,oM 3 16])))
 (.region [oB 17 .add 9 1,oM 9 17]))))
def h175c:HC:=
 (.seq (.region [Oo 1 (.box (.t 0)),oK 2 0])
 (.seq (.region [oK 3 0])
 (.seq (.seq (.region [oA 6 7 1,oL 7 6,oN 8 7,oK 9 0])
 (.block 0 (.loop [3,3,0,0] h175l0)))
 (.seq (.region [oM 18 3,oM 2 18])
 .ret))))
abbrev h175:HF:=⟨h175c,[.tmp 2],19,false⟩
theorem h175_ok:CK Tryz.f175 h175c:=by unfold CK;kernel_rfl
theorem r175_ok:RK Tryz.f175 [.tmp 2]:=by unfold RK;kernel_rfl
def h176l0:HC:=
 (.seq (.region [oC 20 .lss 19 18])
 (.seq (.cond (.t 20) .skip
 (.exit 0))
 (.seq (.block 1 (.seq (.region [oI 21 2 17 19,oG 22 2 21,Oo 8 (.alloc [Zi 0,Zi 0]),oS 2 8 22])
 (.seq (.region [oA 23 1 8,oL 24 23,Oo 25 (.call 213 [(.t 24)]),oM 9 25])
 (.seq (.region [oK 10 0])
 (.seq (.seq (.region [oG 26 2 8,Oo 27 (.call 214 [(.t 26)]),Oo 28 (.un .not (.t 27))])
 (.cond (.t 28) (.region [oA 29 0 8,oL 30 29,oM 31 6,oC 32 .sub 30 31,Oo 33 (.call 213 [(.t 32)]),oM 10 33])
 .skip))
 (.seq (.region [oM 34 5,oM 35 10,Oo 36 (.bin .shl (.t 35) (.k (.int .u64 4))),oM 37 9,oC 38 .or 36 37,Oo 39 (.conv .u8 (.t 38)),Oo 40 (.bslc 1 1 [(.int .u8 0)] [(0,(.t 39))]),Oo 41 (.app 1 1 [(.int .u8 0)] (.t 34) (.t 40)),oM 5 41])
 (.seq (.region [oM 42 5,oA 43 1 8,oL 44 43,oM 45 9,Oo 46 (.call 215 [(.t 44),(.t 45)]),Oo 47 (.app 1 1 [(.int .u8 0)] (.t 42) (.t 46)),oM 5 47])
 (.seq (.region [oG 48 2 8,Oo 49 (.call 214 [(.t 48)]),Oo 50 (.un .not (.t 49))])
 (.cond (.t 50) (.seq (.region [oM 51 5,oA 52 0 8,oL 53 52,oM 54 6,oC 55 .sub 53 54,oM 56 10,Oo 57 (.call 215 [(.t 55),(.t 56)]),Oo 58 (.app 1 1 [(.int .u8 0)] (.t 51) (.t 57)),oM 5 58])
 (.region [oA 59 0 8,oL 60 59,oM 6 60]))
 .skip)))))))))
 (.region [oB 61 .add 19 1,oM 19 61]))))
def h176c:HC:=
 (.seq (.region [Oo 2 (.mov (.k (.string ⟨#[]⟩))),oK 3 0])
 (.seq (.seq (.region [oM 11 0,Oo 12 (.bslc 1 1 [(.slice none 0 0)] [(0,(.t 11))]),Oo 13 (.call 212 [(.t 12)]),oM 4 13])
 (.seq (.region [oM 14 4,oB 15 .neq 14 0])
 (.cond (.t 15) (.seq (.region [oM 16 4,Oo 2 (.mov (.k (.string ⟨#[]⟩))),oM 3 16])
 .ret)
 .skip)))
 (.seq (.region [Oo 5 (.mov (.k (.slice none 0 0)))])
 (.gh (.nil 5 1) (.seq (.region [oK 6 0])
 (.seq (.seq (.region [oM 17 0,oN 18 17,oK 19 0])
 (.block 0 (.loop [5,0,10,0,0] h176l0)))
 (.seq (.region [oM 62 5,Oo 63 (.bslc 1 1 [(.int .u8 0)] [(0,(.k (.int .u8 0)))]),Oo 64 (.app 1 1 [(.int .u8 0)] (.t 62) (.t 63)),Oo 65 (.cvbs (.t 64)),oM 2 65,oK 3 0])
 .ret)))))))
abbrev h176:HF:=⟨h176c,[.tmp 2,.tmp 3],66,false⟩
theorem h176_ok:CK Tryz.f176 h176c:=by unfold CK;kernel_rfl
theorem r176_ok:RK Tryz.f176 [.tmp 2,.tmp 3]:=by unfold RK;kernel_rfl
def h177c:HC:=
 (.seq (.region [oK 2 0])
 (.seq (.seq (.region [oM 3 0])
 (.cond (.t 3) (.seq (.region [oK 2 24])
 .ret)
 .skip))
 (.seq (.region [oK 2 40])
 .ret)))
abbrev h177:HF:=⟨h177c,[.tmp 2],4,false⟩
theorem h177_ok:CK Tryz.f177 h177c:=by unfold CK;kernel_rfl
theorem r177_ok:RK Tryz.f177 [.tmp 2]:=by unfold RK;kernel_rfl
def h178c:HC:=
 (.seq (.region [oK 2 0])
 (.seq (.region [oM 3 0,oB 4 .add 3 8,oB 5 .sub 4 1,oB 6 .quo 5 8,oB 7 .mul 6 8,oM 2 7])
 .ret))
abbrev h178:HF:=⟨h178c,[.tmp 2],8,false⟩
theorem h178_ok:CK Tryz.f178 h178c:=by unfold CK;kernel_rfl
theorem r178_ok:RK Tryz.f178 [.tmp 2]:=by unfold RK;kernel_rfl
def h179l0:HC:=
 (.seq (.region [oC 11 .lss 10 9])
 (.seq (.cond (.t 11) .skip
 (.exit 0))
 (.seq (.block 1 (.seq (.region [oM 12 10,oM 8 12])
 (.seq (.region [oM 13 0,oM 14 1,oM 15 8,oC 16 .add 14 15,oM 17 3,Oo 18 (.conv .u8 (.t 17)),oI 19 1 13 16,oS 1 19 18])
 (.region [oM 20 3,Oo 21 (.bin .shr (.t 20) (.k (.int .u64 8))),oM 3 21]))))
 (.region [oB 22 .add 10 1,oM 10 22]))))
def h179c:HC:=
 (.seq (.region [oM 9 2,oK 10 0])
 (.block 0 (.loop [0,0,1,5,0] h179l0)))
abbrev h179:HF:=⟨h179c,[],23,false⟩
theorem h179_ok:CK Tryz.f179 h179c:=by unfold CK;kernel_rfl
theorem r179_ok:RK Tryz.f179 []:=by unfold RK;kernel_rfl
def h182l0:HC:=
 (.seq (.seq (.region [oM 10 3,oB 11 .lss 10 9])
 (.cond (.t 11) .skip
 (.exit 0)))
 (.seq (.block 1 (.seq (.region [oM 14 3,Oo 15 (.ixS (.k (.string ⟨#[34,42,47,58,60,62,63,92,124]⟩)) (.t 14)),oM 16 0,oC 17 .eql 15 16])
 (.cond (.t 17) (.seq (.region [Oo 2 (.mov (.k (.bool false)))])
 .ret)
 .skip)))
 (.region [oM 12 3,oB 13 .add 12 1,oM 3 13])))
def h182c:HC:=
 (.seq (.region [Oo 2 (.mov (.k (.bool false)))])
 (.seq (.seq (.region [oM 4 0,Oo 5 (.bin .lss (.t 4) (.k (.int .u8 32))),oM 6 5,Og 6 false 7 (.mov (.t 0)),Og 6 false 8 (.bin .gtr (.t 7) (.k (.int .u8 126))),Oo 9 (.pick (.t 6) (.k (.bool true)) (.t 8))])
 (.cond (.t 9) (.seq (.region [Oo 2 (.mov (.k (.bool false)))])
 .ret)
 .skip))
 (.seq (.seq (.region [oK 3 0])
 (.block 0 (.loop [0,2] h182l0)))
 (.seq (.region [Oo 2 (.mov (.k (.bool true)))])
 .ret))))
abbrev h182:HF:=⟨h182c,[.tmp 2],18,false⟩
theorem h182_ok:CK Tryz.f182 h182c:=by unfold CK;kernel_rfl
theorem r182_ok:RK Tryz.f182 [.tmp 2]:=by unfold RK;kernel_rfl
def h183l0:HC:=
 (.seq (.seq (.region [oM 8 4,oM 9 0,oN 10 9,oC 11 .lss 8 10])
 (.cond (.t 11) .skip
 (.exit 0)))
 (.seq (.block 1 (.seq (.seq (.region [oM 14 0,oM 15 4,oI 16 2 14 15,oG 17 2 16,Oo 18 (.call 226 [(.t 17)]),Oo 19 (.un .not (.t 18))])
 (.cond (.t 19) (.seq (.region [oM 20 4,oM 2 20,oK 3 2])
 .ret)
 .skip))
 (.seq (.seq (.drawn [Qo (oM 21 4),Qo (oB 22 .gtr 21 0),Qo (oM 23 22),Qo (Og 23 true 24 (.mov (.t 0))),Qo (Og 23 true 25 (.mov (.t 4))),Qo (Og 23 true 26 (.bin .sub (.t 25) (Ki 1))),Qo (Og 23 true 27 (.ixL 2 (.t 24) (.t 26))),Qo (Og 23 true 28 (.load true 2 (.t 27))),Qo (Og 23 true 29 (.mov (.t 0))),Qo (Og 23 true 30 (.mov (.t 4))),Qo (Og 23 true 31 (.ixL 2 (.t 29) (.t 30))),Qo (Og 23 true 32 (.load true 2 (.t 31))),Qe (Og 23 true 33 (.call 227 [(.t 28),(.t 32)])),Qo (Oo 34 (.pick (.t 23) (.t 33) (.k (.bool false))))])
 (.cond (.t 34) (.seq (.region [oM 35 4,oM 2 35,oK 3 3])
 .ret)
 .skip))
 (.seq (.region [oM 36 0,oM 37 4,Oo 38 (.call 228 [(.t 36),(.t 37)])])
 (.cond (.t 38) (.seq (.region [oM 39 4,oM 2 39,oK 3 23])
 .ret)
 .skip)))))
 (.region [oM 12 4,oB 13 .add 12 1,oM 4 13])))
def h183c:HC:=
 (.seq (.region [oK 2 0,oK 3 0])
 (.seq (.seq (.region [oM 5 0,oN 6 5,oB 7 .gtr 6 64])
 (.cond (.t 7) (.seq (.region [oK 2 0,oK 3 8])
 .ret)
 .skip))
 (.seq (.seq (.region [oK 4 0])
 (.block 0 (.loop [0,3] h183l0)))
 (.seq (.seq (.region [oM 40 0,Oo 41 (.call 92 [(.t 40)]),oB 42 .gtr 41 4096])
 (.cond (.t 42) (.seq (.region [oK 2 0,oK 3 8])
 .ret)
 .skip))
 (.seq (.region [oK 2 0,oK 3 0])
 .ret)))))
abbrev h183:HF:=⟨h183c,[.tmp 2,.tmp 3],43,false⟩
theorem h183_ok:CK Tryz.f183 h183c:=by unfold CK;kernel_rfl
theorem r183_ok:RK Tryz.f183 [.tmp 2,.tmp 3]:=by unfold RK;kernel_rfl
def h190l0:HC:=
 (.seq (.seq (.region [oM 5 0,Oo 6 (.lenS (.t 5)),oB 7 .gtr 6 0,oM 8 7,Og 8 true 9 (.mov (.t 0)),Og 8 true 10 (.ixS (.t 9) (Ki 0)),Og 8 true 11 (.mov (.t 1)),Og 8 true 12 (.bin .eql (.t 10) (.t 11)),Oo 13 (.pick (.t 8) (.t 12) (.k (.bool false)))])
 (.cond (.t 13) .skip
 (.exit 0)))
 (.block 1 (.region [oM 14 0,Oo 15 (.slS (.t 14) (some (Ki 1)) none),oM 0 15])))
def h190c:HC:=
 (.seq (.region [Oo 4 (.mov (.k (.string ⟨#[]⟩)))])
 (.seq (.block 0 (.loop [0,0] h190l0))
 (.seq (.region [oM 16 0,oM 4 16])
 .ret)))
abbrev h190:HF:=⟨h190c,[.tmp 4],17,false⟩
theorem h190_ok:CK Tryz.f190 h190c:=by unfold CK;kernel_rfl
theorem r190_ok:RK Tryz.f190 [.tmp 4]:=by unfold RK;kernel_rfl
def h191l0:HC:=
 (.seq (.seq (.region [oM 5 0,Oo 6 (.lenS (.t 5)),oB 7 .gtr 6 0,oM 8 7,Og 8 true 9 (.mov (.t 0)),Og 8 true 10 (.mov (.t 0)),Og 8 true 11 (.lenS (.t 10)),Og 8 true 12 (.bin .sub (.t 11) (Ki 1)),Og 8 true 13 (.ixS (.t 9) (.t 12)),Og 8 true 14 (.mov (.t 1)),Og 8 true 15 (.bin .eql (.t 13) (.t 14)),Oo 16 (.pick (.t 8) (.t 15) (.k (.bool false)))])
 (.cond (.t 16) .skip
 (.exit 0)))
 (.block 1 (.region [oM 17 0,oM 18 0,Oo 19 (.lenS (.t 18)),oB 20 .sub 19 1,Oo 21 (.slS (.t 17) none (some (.t 20))),oM 0 21])))
def h191c:HC:=
 (.seq (.region [Oo 4 (.mov (.k (.string ⟨#[]⟩)))])
 (.seq (.block 0 (.loop [0,0] h191l0))
 (.seq (.region [oM 22 0,oM 4 22])
 .ret)))
abbrev h191:HF:=⟨h191c,[.tmp 4],23,false⟩
theorem h191_ok:CK Tryz.f191 h191c:=by unfold CK;kernel_rfl
theorem r191_ok:RK Tryz.f191 [.tmp 4]:=by unfold RK;kernel_rfl
def h198c:HC:=
 (.seq (.region [Oo 4 (.mov (.k (.string ⟨#[]⟩)))])
 (.seq (.seq (.region [oM 10 1,oB 11 .eql 10 10])
 (.cond (.t 11) (.seq (.seq (.region [oM 12 0,Oo 13 (.bin .leq (Ki 0) (.t 12)),oM 14 13,Og 14 true 15 (.mov (.t 0)),Og 14 true 16 (.bin .lss (.t 15) (Ki 100)),Oo 17 (.pick (.t 14) (.t 16) (.k (.bool false)))])
 (.cond (.t 17) (.seq (.region [oM 18 0,Oo 19 (.call 236 [(.t 18)]),oM 4 19])
 .ret)
 .skip))
 (.seq (.region [Oo 5 (.alloc [(.int .u8 0),(.int .u8 0),(.int .u8 0),(.int .u8 0),(.int .u8 0),(.int .u8 0),(.int .u8 0),(.int .u8 0),(.int .u8 0),(.int .u8 0),(.int .u8 0),(.int .u8 0),(.int .u8 0),(.int .u8 0),(.int .u8 0),(.int .u8 0),(.int .u8 0),(.int .u8 0),(.int .u8 0),(.int .u8 0),(.int .u8 0),(.int .u8 0),(.int .u8 0),(.int .u8 0)])])
 (.seq (.region [oM 20 0,Oo 21 (.conv .u64 (.t 20)),oM 6 21])
 (.seq (.seq (.region [oM 22 0,oB 23 .lss 22 0])
 (.cond (.t 23) (.region [oM 24 6,Oo 25 (.un .neg (.t 24)),oM 6 25])
 .skip))
 (.seq (.region [oM 26 6,Oo 27 (.call 237 [(.t 26)]),oM 7 27])
 (.seq (.region [oM 28 7,Oo 29 (.bin .add (Ki 1) (.t 28)),Oo 30 (.slA 24 1 (.t 5) (some (Ki 1)) (some (.t 29))),oM 31 6,Oo 32 (.call 238 [(.t 30),(.t 31)])])
 (.seq (.seq (.region [oM 33 0,oB 34 .lss 33 0])
 (.cond (.t 34) (.seq (.region [Oo 35 (.ixA 24 1 (.t 5) (Ki 0)),On (.store 1 (.t 35) (.k (.int .u8 45)))])
 (.seq (.region [oM 36 7,Oo 37 (.bin .add (Ki 1) (.t 36)),Oo 38 (.slA 24 1 (.t 5) none (some (.t 37))),Oo 39 (.cvbs (.t 38)),oM 4 39])
 .ret))
 .skip))
 (.seq (.region [oM 40 7,Oo 41 (.bin .add (Ki 1) (.t 40)),Oo 42 (.slA 24 1 (.t 5) (some (Ki 1)) (some (.t 41))),Oo 43 (.cvbs (.t 42)),oM 4 43])
 .ret))))))))
 .skip))
 (.seq (.region [oM 45 0,Oo 46 (.conv .u64 (.t 45)),oM 47 1,oM 48 0,oB 49 .lss 48 0,Oo 50 (.call 239 [(.k (.slice none 0 0)),(.t 46),(.t 47),(.t 49),(.k (.bool false))]),oM 44 50,oE 51 44 0,oE 52 44 1,oM 8 51,oM 9 52])
 (.seq (.region [oM 53 9,oM 4 53])
 .ret))))
abbrev h198:HF:=⟨h198c,[.tmp 4],54,false⟩
theorem h198_ok:CK Tryz.f198 h198c:=by unfold CK;kernel_rfl
theorem r198_ok:RK Tryz.f198 [.tmp 4]:=by unfold RK;kernel_rfl
def h202c:HC:=
 (.seq (.region [Oo 2 (.mov (.k (.bool false)))])
 (.seq (.region [oM 3 0,oM 4 0,oC 5 .neq 3 4,oM 2 5])
 .ret))
abbrev h202:HF:=⟨h202c,[.tmp 2],6,false⟩
theorem h202_ok:CK Tryz.f202 h202c:=by unfold CK;kernel_rfl
theorem r202_ok:RK Tryz.f202 [.tmp 2]:=by unfold RK;kernel_rfl
def h203c:HC:=
 (.seq (.region [Oo 2 (.mov (.k (.bool false)))])
 (.seq (.region [oM 3 0,oM 4 0,oC 5 .neq 3 4,oM 2 5])
 .ret))
abbrev h203:HF:=⟨h203c,[.tmp 2],6,false⟩
theorem h203_ok:CK Tryz.f203 h203c:=by unfold CK;kernel_rfl
theorem r203_ok:RK Tryz.f203 [.tmp 2]:=by unfold RK;kernel_rfl
def h204l0:HC:=
 (.seq (.region [oC 8 .lss 7 6])
 (.seq (.cond (.t 8) .skip
 (.exit 0))
 (.seq (.block 1 (.seq (.region [oI 9 1 5 7,oL 10 9,oM 4 10])
 (.seq (.region [oM 11 4,oB 12 .neq 11 0])
 (.cond (.t 12) (.seq (.region [oM 13 4,oM 2 13])
 .ret)
 .skip))))
 (.region [oB 14 .add 7 1,oM 7 14]))))
def h204c:HC:=
 (.seq (.region [oK 2 0])
 (.seq (.seq (.region [oM 5 0,oN 6 5,oK 7 0])
 (.block 0 (.loop [5,0,0] h204l0)))
 (.seq (.region [oK 2 0])
 .ret)))
abbrev h204:HF:=⟨h204c,[.tmp 2],15,false⟩
theorem h204_ok:CK Tryz.f204 h204c:=by unfold CK;kernel_rfl
theorem r204_ok:RK Tryz.f204 [.tmp 2]:=by unfold RK;kernel_rfl
def h205c:HC:=
 (.seq (.region [oK 4 0])
 (.seq (.seq (.region [oM 5 0])
 (.cond (.t 5) (.seq (.region [oK 4 0])
 .ret)
 .skip))
 (.seq (.region [oM 6 1,oM 4 6])
 .ret)))
abbrev h205:HF:=⟨h205c,[.tmp 4],7,false⟩
theorem h205_ok:CK Tryz.f205 h205c:=by unfold CK;kernel_rfl
theorem r205_ok:RK Tryz.f205 [.tmp 4]:=by unfold RK;kernel_rfl
def h206c:HC:=
 (.seq (.region [Oo 2 (.mov (.k (.bool false)))])
 (.seq (.region [oM 3 0,Oo 4 (.bin .neq (.t 3) (.k (.string ⟨#[]⟩))),oM 5 4,Og 5 true 6 (.mov (.t 0)),Og 5 true 7 (.lenS (.t 6)),Og 5 true 8 (.bin .leq (.t 7) (Ki 32)),Oo 9 (.pick (.t 5) (.t 8) (.k (.bool false))),oM 10 9,Og 10 true 11 (.mov (.t 0)),Og 10 true 12 (.call 249 [(.t 11),(.f 250)]),Oo 13 (.pick (.t 10) (.t 12) (.k (.bool false))),oM 14 13,Og 14 true 15 (.mov (.t 0)),Og 14 true 16 (.bin .neq (.t 15) (.k (.string ⟨#[46,46]⟩))),Oo 17 (.pick (.t 14) (.t 16) (.k (.bool false))),oM 18 17,Og 18 true 19 (.mov (.t 0)),Og 18 true 20 (.call 251 [(.t 19),(.k (.string ⟨#[32]⟩))]),Og 18 true 21 (.un .not (.t 20)),Oo 22 (.pick (.t 18) (.t 21) (.k (.bool false))),oM 23 22,Og 23 true 24 (.mov (.t 0)),Og 23 true 25 (.call 251 [(.t 24),(.k (.string ⟨#[46]⟩))]),Og 23 true 26 (.un .not (.t 25)),Oo 27 (.pick (.t 23) (.t 26) (.k (.bool false))),oM 2 27])
 .ret))
abbrev h206:HF:=⟨h206c,[.tmp 2],28,false⟩
theorem h206_ok:CK Tryz.f206 h206c:=by unfold CK;kernel_rfl
theorem r206_ok:RK Tryz.f206 [.tmp 2]:=by unfold RK;kernel_rfl
def h207c:HC:=
 (.seq (.region [Oo 1 (.box (.t 0)),oK 2 0])
 (.seq (.seq (.region [oG 3 2 1,Oo 4 (.call 214 [(.t 3)])])
 (.cond (.t 4) (.seq (.region [oA 5 1 1,oL 6 5,Oo 7 (.call 252 [(.t 6),(Ki 1),(Ki 4096)]),Oo 8 (.call 210 [(.t 7),(Ki 2)]),oM 2 8])
 .ret)
 .skip))
 (.seq (.seq (.region [oA 9 0 1,oL 10 9,Oo 11 (.call 252 [(.t 10),(Ki 0),(Ki 511)]),Oo 12 (.un .not (.t 11))])
 (.cond (.t 12) (.seq (.region [oK 2 2])
 .ret)
 .skip))
 (.seq (.region [oA 13 1 1,oL 14 13,oA 15 0 1,oL 16 15,Oo 17 (.bin .sub (Ki 512) (.t 16)),Oo 18 (.call 252 [(.t 14),(Ki 1),(.t 17)]),Oo 19 (.call 210 [(.t 18),(Ki 2)]),oM 2 19])
 .ret))))
abbrev h207:HF:=⟨h207c,[.tmp 2],20,false⟩
theorem h207_ok:CK Tryz.f207 h207c:=by unfold CK;kernel_rfl
theorem r207_ok:RK Tryz.f207 [.tmp 2]:=by unfold RK;kernel_rfl
def h208c:HC:=
 (.seq (.region [Oo 2 (.box (.t 0)),Oo 3 (.box (.t 1)),Oo 4 (.mov (.k (.bool false)))])
 (.seq (.drawn [Qo (oG 5 2 2),Qo (Oo 6 (.call 214 [(.t 5)])),Qo (oG 7 2 3),Qe (Oo 8 (.call 214 [(.t 7)])),Qo (Oo 9 (.binb false (.t 6) (.t 8))),Qo (oM 10 9),Qo (Og 10 true 11 (.load true 2 (.t 2))),Qe (Og 10 true 12 (.call 214 [(.t 11)])),Qo (Og 10 true 13 (.mov (.t 12))),Qo (Og 13 false 14 (.addo 0 (.t 2))),Qo (Og 13 false 15 (.load false 1 (.t 14))),Qo (Og 13 false 16 (.addo 1 (.t 2))),Qo (Og 13 false 17 (.load false 1 (.t 16))),Qo (Og 13 false 18 (.bin .add (.t 15) (.t 17))),Qo (Og 13 false 19 (.addo 0 (.t 3))),Qo (Og 13 false 20 (.load false 1 (.t 19))),Qo (Og 13 false 21 (.bin .eql (.t 18) (.t 20))),Qo (Og 10 true 22 (.pick (.t 13) (.k (.bool true)) (.t 21))),Qo (Oo 23 (.pick (.t 10) (.t 22) (.k (.bool false)))),Qo (oM 4 23)])
 .ret))
abbrev h208:HF:=⟨h208c,[.tmp 4],24,false⟩
theorem h208_ok:CK Tryz.f208 h208c:=by unfold CK;kernel_rfl
theorem r208_ok:RK Tryz.f208 [.tmp 4]:=by unfold RK;kernel_rfl
def h209l0:HC:=
 (.seq (.seq (.region [oM 11 6,oA 12 0 3,oL 13 12,oA 14 1 3,oL 15 14,oC 16 .add 13 15,oC 17 .lss 11 16])
 (.cond (.t 17) .skip
 (.exit 0)))
 (.seq (.block 1 (.seq (.region [oM 20 5,oM 21 20,Og 21 true 22 (.mov (.t 0)),Og 21 true 23 (.mov (.t 6)),Og 21 true 24 (.nilc (.t 22)),Og 21 true 25 (.ixA 512 1 (.t 24) (.t 23)),Og 21 true 26 (.load false 1 (.t 25)),Og 21 true 27 (.un .not (.t 26)),Oo 28 (.pick (.t 21) (.t 27) (.k (.bool false))),oM 5 28])
 (.region [oM 29 0,oM 30 6,Oo 31 (.nilc (.t 29)),Oo 32 (.ixA 512 1 (.t 31) (.t 30)),On (.store 1 (.t 32) (.k (.bool true)))])))
 (.region [oM 18 6,oB 19 .add 18 1,oM 6 19])))
def h209c:HC:=
 (.seq (.region [Oo 3 (.box (.t 1)),Oo 4 (.mov (.k (.bool false)))])
 (.seq (.seq (.region [oG 7 2 3,Oo 8 (.call 214 [(.t 7)])])
 (.cond (.t 8) (.seq (.region [Oo 4 (.mov (.k (.bool true)))])
 .ret)
 .skip))
 (.seq (.region [Oo 5 (.mov (.k (.bool true)))])
 (.seq (.seq (.region [oA 9 0 3,oL 10 9,oM 6 10])
 (.block 0 (.loop [0,2,1,0] h209l0)))
 (.seq (.region [oM 33 5,oM 4 33])
 .ret)))))
abbrev h209:HF:=⟨h209c,[.tmp 4],34,false⟩
theorem h209_ok:CK Tryz.f209 h209c:=by unfold CK;kernel_rfl
theorem r209_ok:RK Tryz.f209 [.tmp 4]:=by unfold RK;kernel_rfl
def h210c:HC:=
 (.seq (.region [oK 4 0])
 (.seq (.seq (.region [oM 5 0])
 (.cond (.t 5) (.seq (.region [oK 4 0])
 .ret)
 .skip))
 (.seq (.region [oM 6 1,oM 4 6])
 .ret)))
abbrev h210:HF:=⟨h210c,[.tmp 4],7,false⟩
theorem h210_ok:CK Tryz.f210 h210c:=by unfold CK;kernel_rfl
theorem r210_ok:RK Tryz.f210 [.tmp 4]:=by unfold RK;kernel_rfl
def h211l0:HC:=
 (.seq (.region [oC 9 .lss 8 7])
 (.seq (.cond (.t 9) .skip
 (.exit 0))
 (.seq (.block 1 (.seq (.region [oI 10 2 6 8,oG 11 2 10,Oo 5 (.alloc [Zi 0,Zi 0]),oS 2 5 11])
 (.region [oM 12 3,oA 13 1 5,oL 14 13,oC 15 .add 12 14,oM 3 15])))
 (.region [oB 16 .add 8 1,oM 8 16]))))
def h211c:HC:=
 (.seq (.region [oK 2 0])
 (.seq (.region [oK 3 0])
 (.seq (.seq (.region [oM 6 0,oN 7 6,oK 8 0])
 (.block 0 (.loop [3,2,0,0] h211l0)))
 (.seq (.region [oM 17 3,oM 2 17])
 .ret))))
abbrev h211:HF:=⟨h211c,[.tmp 2],18,false⟩
theorem h211_ok:CK Tryz.f211 h211c:=by unfold CK;kernel_rfl
theorem r211_ok:RK Tryz.f211 [.tmp 2]:=by unfold RK;kernel_rfl
def h212l0:HC:=
 (.seq (.region [oC 10 .lss 9 8])
 (.seq (.cond (.t 10) .skip
 (.exit 0))
 (.seq (.block 1 (.seq (.region [oI 11 1 7 9,oL 12 11,oM 4 12])
 (.seq (.region [oM 14 4,Oo 15 (.call 174 [(.t 14)]),oM 13 15,oE 16 13 0,oE 17 13 1,oM 5 16,oM 6 17])
 (.seq (.region [oM 18 6,oB 19 .neq 18 0])
 (.cond (.t 19) (.seq (.region [oM 20 6,oM 2 20])
 .ret)
 .skip)))))
 (.region [oB 21 .add 9 1,oM 9 21]))))
def h212c:HC:=
 (.seq (.region [oK 2 0])
 (.seq (.seq (.region [oM 7 0,oN 8 7,oK 9 0])
 (.block 0 (.loop [7,0,0] h212l0)))
 (.seq (.region [oK 2 0])
 .ret)))
abbrev h212:HF:=⟨h212c,[.tmp 2],22,false⟩
theorem h212_ok:CK Tryz.f212 h212c:=by unfold CK;kernel_rfl
theorem r212_ok:RK Tryz.f212 [.tmp 2]:=by unfold RK;kernel_rfl
def h213l0:HC:=
 (.seq (.seq (.drawn [Qo (oM 4 0),Qo (oM 5 3),Qo (Oo 6 (.bin .mul (Ki 8) (.t 5))),Qo (oB 7 .sub 6 1),Qo (Oo 8 (.bin .shl (Ki (-1)) (.t 7))),Qo (oM 9 3),Qo (Oo 10 (.bin .mul (Ki 8) (.t 9))),Qo (oB 11 .sub 10 1),Qo (Oo 12 (.bin .shl (Ki 1) (.t 11))),Qo (oB 13 .sub 12 1),Qe (Oo 14 (.call 252 [(.t 4),(.t 8),(.t 13)])),Qo (Oo 15 (.un .not (.t 14)))])
 (.cond (.t 15) .skip
 (.exit 0)))
 (.block 1 (.region [oM 16 3,oB 17 .add 16 1,oM 3 17])))
def h213c:HC:=
 (.seq (.region [oK 2 0])
 (.seq (.region [oK 3 1])
 (.seq (.block 0 (.loop [0,2] h213l0))
 (.seq (.region [oM 18 3,oM 2 18])
 .ret))))
abbrev h213:HF:=⟨h213c,[.tmp 2],19,false⟩
theorem h213_ok:CK Tryz.f213 h213c:=by unfold CK;kernel_rfl
theorem r213_ok:RK Tryz.f213 [.tmp 2]:=by unfold RK;kernel_rfl
def h214c:HC:=
 (.seq (.region [Oo 1 (.box (.t 0)),Oo 2 (.mov (.k (.bool false)))])
 (.seq (.region [oA 3 0 1,oL 4 3,Oo 5 (.bin .eql (.t 4) (Ki (-1))),oM 2 5])
 .ret))
abbrev h214:HF:=⟨h214c,[.tmp 2],6,false⟩
theorem h214_ok:CK Tryz.f214 h214c:=by unfold CK;kernel_rfl
theorem r214_ok:RK Tryz.f214 [.tmp 2]:=by unfold RK;kernel_rfl
def h215l0:HC:=
 (.seq (.region [oC 8 .lss 7 6])
 (.seq (.cond (.t 8) .skip
 (.exit 0))
 (.seq (.block 1 (.seq (.region [oM 9 5,oM 10 0,Oo 11 (.conv .u8 (.t 10)),Oo 12 (.bslc 1 1 [(.int .u8 0)] [(0,(.t 11))]),Oo 13 (.app 1 1 [(.int .u8 0)] (.t 9) (.t 12)),oM 5 13])
 (.region [oM 14 0,Oo 15 (.bin .shr (.t 14) (.k (.int .u64 8))),oM 0 15])))
 (.region [oB 16 .add 7 1,oM 7 16]))))
def h215c:HC:=
 (.seq (.region [Oo 4 (.mov (.k (.slice none 0 0)))])
 (.seq (.region [Oo 5 (.mov (.k (.slice none 0 0)))])
 (.gh (.nil 5 1) (.seq (.seq (.region [oM 6 1,oK 7 0])
 (.block 0 (.loop [0,4,0,0] h215l0)))
 (.seq (.region [oM 17 5,oM 4 17])
 .ret)))))
abbrev h215:HF:=⟨h215c,[.tmp 4],18,false⟩
theorem h215_ok:CK Tryz.f215 h215c:=by unfold CK;kernel_rfl
theorem r215_ok:RK Tryz.f215 [.tmp 4]:=by unfold RK;kernel_rfl
def h225c:HC:=
 (.seq (.region [oK 2 0])
 (.seq (.seq (.region [oM 3 0,Oo 4 (.bin .geq (.t 3) (.k (.int .u64 4294967296)))])
 (.cond (.t 4) (.seq (.region [oM 5 0,Oo 6 (.bin .shr (.t 5) (.k (.int .u64 32))),oM 0 6])
 (.region [oK 2 32]))
 .skip))
 (.seq (.seq (.region [oM 7 0,Oo 8 (.bin .geq (.t 7) (.k (.int .u64 65536)))])
 (.cond (.t 8) (.seq (.region [oM 9 0,Oo 10 (.bin .shr (.t 9) (.k (.int .u64 16))),oM 0 10])
 (.region [oM 11 2,oB 12 .add 11 16,oM 2 12]))
 .skip))
 (.seq (.seq (.region [oM 13 0,Oo 14 (.bin .geq (.t 13) (.k (.int .u64 256)))])
 (.cond (.t 14) (.seq (.region [oM 15 0,Oo 16 (.bin .shr (.t 15) (.k (.int .u64 8))),oM 0 16])
 (.region [oM 17 2,oB 18 .add 17 8,oM 2 18]))
 .skip))
 (.seq (.region [oM 19 2,oM 20 0,Oo 21 (.conv .u8 (.t 20)),Oo 22 (.ixS (.k (.string ⟨#[0,1,2,2,3,3,3,3,4,4,4,4,4,4,4,4,5,5,5,5,5,5,5,5,5,5,5,5,5,5,5,5,6,6,6,6,6,6,6,6,6,6,6,6,6,6,6,6,6,6,6,6,6,6,6,6,6,6,6,6,6,6,6,6,7,7,7,7,7,7,7,7,7,7,7,7,7,7,7,7,7,7,7,7,7,7,7,7,7,7,7,7,7,7,7,7,7,7,7,7,7,7,7,7,7,7,7,7,7,7,7,7,7,7,7,7,7,7,7,7,7,7,7,7,7,7,7,7,8,8,8,8,8,8,8,8,8,8,8,8,8,8,8,8,8,8,8,8,8,8,8,8,8,8,8,8,8,8,8,8,8,8,8,8,8,8,8,8,8,8,8,8,8,8,8,8,8,8,8,8,8,8,8,8,8,8,8,8,8,8,8,8,8,8,8,8,8,8,8,8,8,8,8,8,8,8,8,8,8,8,8,8,8,8,8,8,8,8,8,8,8,8,8,8,8,8,8,8,8,8,8,8,8,8,8,8,8,8,8,8,8,8,8,8,8,8,8,8,8,8,8,8,8,8,8,8]⟩)) (.t 21)),Oo 23 (.conv .i64 (.t 22)),oC 24 .add 19 23,oM 2 24])
 .ret)))))
abbrev h225:HF:=⟨h225c,[.tmp 2],25,false⟩
theorem h225_ok:CK Tryz.f225 h225c:=by unfold CK;kernel_rfl
theorem r225_ok:RK Tryz.f225 [.tmp 2]:=by unfold RK;kernel_rfl
def h226c:HC:=
 (.seq (.region [Oo 1 (.box (.t 0)),Oo 2 (.mov (.k (.bool false)))])
 (.seq (.seq (.region [oA 3 0 1,oL 4 3,Oo 5 (.bin .eql (.t 4) (Ki (-1)))])
 (.cond (.t 5) (.seq (.region [oA 6 1 1,oL 7 6,Oo 8 (.call 19 [(.t 7),(Ki 1),(Ki 4096)]),oM 2 8])
 .ret)
 .skip))
 (.seq (.region [oA 9 0 1,oL 10 9,Oo 11 (.call 19 [(.t 10),(Ki 0),(Ki 511)]),oM 12 11,Og 12 true 13 (.addo 1 (.t 1)),Og 12 true 14 (.load false 1 (.t 13)),Og 12 true 15 (.addo 0 (.t 1)),Og 12 true 16 (.load false 1 (.t 15)),Og 12 true 17 (.bin .sub (Ki 512) (.t 16)),Og 12 true 18 (.call 19 [(.t 14),(Ki 1),(.t 17)]),Oo 19 (.pick (.t 12) (.t 18) (.k (.bool false))),oM 2 19])
 .ret)))
abbrev h226:HF:=⟨h226c,[.tmp 2],20,false⟩
theorem h226_ok:CK Tryz.f226 h226c:=by unfold CK;kernel_rfl
theorem r226_ok:RK Tryz.f226 [.tmp 2]:=by unfold RK;kernel_rfl
def h227c:HC:=
 (.seq (.region [Oo 2 (.box (.t 0)),Oo 3 (.box (.t 1)),Oo 4 (.mov (.k (.bool false)))])
 (.seq (.seq (.region [oA 5 0 2,oL 6 5,Oo 7 (.bin .eql (.t 6) (Ki (-1))),oM 8 7,Og 8 false 9 (.addo 0 (.t 3)),Og 8 false 10 (.load false 1 (.t 9)),Og 8 false 11 (.bin .eql (.t 10) (Ki (-1))),Oo 12 (.pick (.t 8) (.k (.bool true)) (.t 11))])
 (.cond (.t 12) (.seq (.region [oA 13 0 2,oL 14 13,oA 15 0 3,oL 16 15,oC 17 .eql 14 16,oM 4 17])
 .ret)
 .skip))
 (.seq (.region [oA 18 0 3,oL 19 18,oA 20 0 2,oL 21 20,oA 22 1 2,oL 23 22,oC 24 .add 21 23,oC 25 .eql 19 24,oM 4 25])
 .ret)))
abbrev h227:HF:=⟨h227c,[.tmp 4],26,false⟩
theorem h227_ok:CK Tryz.f227 h227c:=by unfold CK;kernel_rfl
theorem r227_ok:RK Tryz.f227 [.tmp 4]:=by unfold RK;kernel_rfl
def h228l0:HC:=
 (.seq (.seq (.region [oM 6 5,oM 7 1,oC 8 .lss 6 7])
 (.cond (.t 8) .skip
 (.exit 0)))
 (.seq (.block 1 (.seq (.drawn [Qo (oM 11 0),Qo (oM 12 5),Qo (oI 13 2 11 12),Qo (oG 14 2 13),Qo (oM 15 0),Qo (oM 16 1),Qo (oI 17 2 15 16),Qo (oG 18 2 17),Qe (Oo 19 (.call 258 [(.t 14),(.t 18)]))])
 (.cond (.t 19) (.seq (.region [Oo 4 (.mov (.k (.bool true)))])
 .ret)
 .skip)))
 (.region [oM 9 5,oB 10 .add 9 1,oM 5 10])))
def h228c:HC:=
 (.seq (.region [Oo 4 (.mov (.k (.bool false)))])
 (.seq (.seq (.region [oK 5 0])
 (.block 0 (.loop [0,0,3] h228l0)))
 (.seq (.region [Oo 4 (.mov (.k (.bool false)))])
 .ret)))
abbrev h228:HF:=⟨h228c,[.tmp 4],20,false⟩
theorem h228_ok:CK Tryz.f228 h228c:=by unfold CK;kernel_rfl
theorem r228_ok:RK Tryz.f228 [.tmp 4]:=by unfold RK;kernel_rfl
def h236c:HC:=
 (.seq (.region [Oo 2 (.mov (.k (.string ⟨#[]⟩)))])
 (.seq (.seq (.region [oM 3 0,oB 4 .lss 3 10])
 (.cond (.t 4) (.seq (.region [oM 5 0,oM 6 0,oB 7 .add 6 1,Oo 8 (.slS (.k (.string ⟨#[48,49,50,51,52,53,54,55,56,57,97,98,99,100,101,102,103,104,105,106,107,108,109,110,111,112,113,114,115,116,117,118,119,120,121,122]⟩)) (some (.t 5)) (some (.t 7))),oM 2 8])
 .ret)
 .skip))
 (.seq (.region [oM 9 0,oB 10 .mul 9 2,oM 11 0,oB 12 .mul 11 2,oB 13 .add 12 2,Oo 14 (.slS (.k (.string ⟨#[48,48,48,49,48,50,48,51,48,52,48,53,48,54,48,55,48,56,48,57,49,48,49,49,49,50,49,51,49,52,49,53,49,54,49,55,49,56,49,57,50,48,50,49,50,50,50,51,50,52,50,53,50,54,50,55,50,56,50,57,51,48,51,49,51,50,51,51,51,52,51,53,51,54,51,55,51,56,51,57,52,48,52,49,52,50,52,51,52,52,52,53,52,54,52,55,52,56,52,57,53,48,53,49,53,50,53,51,53,52,53,53,53,54,53,55,53,56,53,57,54,48,54,49,54,50,54,51,54,52,54,53,54,54,54,55,54,56,54,57,55,48,55,49,55,50,55,51,55,52,55,53,55,54,55,55,55,56,55,57,56,48,56,49,56,50,56,51,56,52,56,53,56,54,56,55,56,56,56,57,57,48,57,49,57,50,57,51,57,52,57,53,57,54,57,55,57,56,57,57]⟩)) (some (.t 10)) (some (.t 13))),oM 2 14])
 .ret)))
abbrev h236:HF:=⟨h236c,[.tmp 2],15,false⟩
theorem h236_ok:CK Tryz.f236 h236c:=by unfold CK;kernel_rfl
theorem r236_ok:RK Tryz.f236 [.tmp 2]:=by unfold RK;kernel_rfl
def h237c:HC:=
 (.seq (.region [oK 2 0])
 (.seq (.region [oM 4 0,Oo 5 (.call 225 [(.t 4)]),Oo 6 (.call 263 [(.t 5)]),oM 3 6])
 (.seq (.region [oM 7 3,oM 8 0,oM 9 3,Oo 10 (.ixA 20 1 (.g 12) (.t 9)),oL 11 10,oC 12 .geq 8 11,Oo 13 (.call 264 [(.t 12)]),oC 14 .add 7 13,oM 2 14])
 .ret)))
abbrev h237:HF:=⟨h237c,[.tmp 2],15,false⟩
theorem h237_ok:CK Tryz.f237 h237c:=by unfold CK;kernel_rfl
theorem r237_ok:RK Tryz.f237 [.tmp 2]:=by unfold RK;kernel_rfl
def h238l0:HC:=
 (.seq (.seq (.region [oM 19 4,oB 20 .geq 19 8])
 (.cond (.t 20) .skip
 (.exit 0)))
 (.block 1 (.seq (.region [oM 21 1,Oo 22 (.bin .rem (.t 21) (.k (.int .u64 100000000))),Oo 23 (.conv .u32 (.t 22)),oM 5 23])
 (.seq (.region [oM 24 1,Oo 25 (.bin .quo (.t 24) (.k (.int .u64 100000000))),oM 1 25])
 (.seq (.region [oM 26 5,Oo 27 (.bin .quo (.t 26) (.k (.int .u32 10000))),oM 28 5,Oo 29 (.bin .rem (.t 28) (.k (.int .u32 10000))),oM 6 27,oM 7 29])
 (.seq (.region [oM 30 7,Oo 31 (.bin .quo (.t 30) (.k (.int .u32 100))),Oo 32 (.bin .mul (.t 31) (.k (.int .u32 2))),oM 33 7,Oo 34 (.bin .rem (.t 33) (.k (.int .u32 100))),Oo 35 (.bin .mul (.t 34) (.k (.int .u32 2))),oM 8 32,oM 9 35])
 (.seq (.region [oM 36 6,Oo 37 (.bin .quo (.t 36) (.k (.int .u32 100))),Oo 38 (.bin .mul (.t 37) (.k (.int .u32 2))),oM 39 6,Oo 40 (.bin .rem (.t 39) (.k (.int .u32 100))),Oo 41 (.bin .mul (.t 40) (.k (.int .u32 2))),oM 10 38,oM 11 41])
 (.seq (.drawn [Qo (oM 42 0),Qo (oM 43 4),Qo (oB 44 .sub 43 1),Qo (oM 45 0),Qo (oM 46 4),Qo (oB 47 .sub 46 2),Qo (oM 48 9),Qo (Oo 49 (.bin .add (.t 48) (.k (.int .u32 1)))),Qo (Oo 50 (.ixS (.k (.string ⟨#[48,48,48,49,48,50,48,51,48,52,48,53,48,54,48,55,48,56,48,57,49,48,49,49,49,50,49,51,49,52,49,53,49,54,49,55,49,56,49,57,50,48,50,49,50,50,50,51,50,52,50,53,50,54,50,55,50,56,50,57,51,48,51,49,51,50,51,51,51,52,51,53,51,54,51,55,51,56,51,57,52,48,52,49,52,50,52,51,52,52,52,53,52,54,52,55,52,56,52,57,53,48,53,49,53,50,53,51,53,52,53,53,53,54,53,55,53,56,53,57,54,48,54,49,54,50,54,51,54,52,54,53,54,54,54,55,54,56,54,57,55,48,55,49,55,50,55,51,55,52,55,53,55,54,55,55,55,56,55,57,56,48,56,49,56,50,56,51,56,52,56,53,56,54,56,55,56,56,56,57,57,48,57,49,57,50,57,51,57,52,57,53,57,54,57,55,57,56,57,57]⟩)) (.t 49))),Qo (oM 51 9),Qo (Oo 52 (.ixS (.k (.string ⟨#[48,48,48,49,48,50,48,51,48,52,48,53,48,54,48,55,48,56,48,57,49,48,49,49,49,50,49,51,49,52,49,53,49,54,49,55,49,56,49,57,50,48,50,49,50,50,50,51,50,52,50,53,50,54,50,55,50,56,50,57,51,48,51,49,51,50,51,51,51,52,51,53,51,54,51,55,51,56,51,57,52,48,52,49,52,50,52,51,52,52,52,53,52,54,52,55,52,56,52,57,53,48,53,49,53,50,53,51,53,52,53,53,53,54,53,55,53,56,53,57,54,48,54,49,54,50,54,51,54,52,54,53,54,54,54,55,54,56,54,57,55,48,55,49,55,50,55,51,55,52,55,53,55,54,55,55,55,56,55,57,56,48,56,49,56,50,56,51,56,52,56,53,56,54,56,55,56,56,56,57,57,48,57,49,57,50,57,51,57,52,57,53,57,54,57,55,57,56,57,57]⟩)) (.t 51))),Qo (oI 53 1 42 44),Qe (oS 1 53 50),Qo (oI 54 1 45 47),Qe (oS 1 54 52)])
 (.seq (.drawn [Qo (oM 55 0),Qo (oM 56 4),Qo (oB 57 .sub 56 3),Qo (oM 58 0),Qo (oM 59 4),Qo (oB 60 .sub 59 4),Qo (oM 61 8),Qo (Oo 62 (.bin .add (.t 61) (.k (.int .u32 1)))),Qo (Oo 63 (.ixS (.k (.string ⟨#[48,48,48,49,48,50,48,51,48,52,48,53,48,54,48,55,48,56,48,57,49,48,49,49,49,50,49,51,49,52,49,53,49,54,49,55,49,56,49,57,50,48,50,49,50,50,50,51,50,52,50,53,50,54,50,55,50,56,50,57,51,48,51,49,51,50,51,51,51,52,51,53,51,54,51,55,51,56,51,57,52,48,52,49,52,50,52,51,52,52,52,53,52,54,52,55,52,56,52,57,53,48,53,49,53,50,53,51,53,52,53,53,53,54,53,55,53,56,53,57,54,48,54,49,54,50,54,51,54,52,54,53,54,54,54,55,54,56,54,57,55,48,55,49,55,50,55,51,55,52,55,53,55,54,55,55,55,56,55,57,56,48,56,49,56,50,56,51,56,52,56,53,56,54,56,55,56,56,56,57,57,48,57,49,57,50,57,51,57,52,57,53,57,54,57,55,57,56,57,57]⟩)) (.t 62))),Qo (oM 64 8),Qo (Oo 65 (.ixS (.k (.string ⟨#[48,48,48,49,48,50,48,51,48,52,48,53,48,54,48,55,48,56,48,57,49,48,49,49,49,50,49,51,49,52,49,53,49,54,49,55,49,56,49,57,50,48,50,49,50,50,50,51,50,52,50,53,50,54,50,55,50,56,50,57,51,48,51,49,51,50,51,51,51,52,51,53,51,54,51,55,51,56,51,57,52,48,52,49,52,50,52,51,52,52,52,53,52,54,52,55,52,56,52,57,53,48,53,49,53,50,53,51,53,52,53,53,53,54,53,55,53,56,53,57,54,48,54,49,54,50,54,51,54,52,54,53,54,54,54,55,54,56,54,57,55,48,55,49,55,50,55,51,55,52,55,53,55,54,55,55,55,56,55,57,56,48,56,49,56,50,56,51,56,52,56,53,56,54,56,55,56,56,56,57,57,48,57,49,57,50,57,51,57,52,57,53,57,54,57,55,57,56,57,57]⟩)) (.t 64))),Qo (oI 66 1 55 57),Qe (oS 1 66 63),Qo (oI 67 1 58 60),Qe (oS 1 67 65)])
 (.seq (.drawn [Qo (oM 68 0),Qo (oM 69 4),Qo (oB 70 .sub 69 5),Qo (oM 71 0),Qo (oM 72 4),Qo (oB 73 .sub 72 6),Qo (oM 74 11),Qo (Oo 75 (.bin .add (.t 74) (.k (.int .u32 1)))),Qo (Oo 76 (.ixS (.k (.string ⟨#[48,48,48,49,48,50,48,51,48,52,48,53,48,54,48,55,48,56,48,57,49,48,49,49,49,50,49,51,49,52,49,53,49,54,49,55,49,56,49,57,50,48,50,49,50,50,50,51,50,52,50,53,50,54,50,55,50,56,50,57,51,48,51,49,51,50,51,51,51,52,51,53,51,54,51,55,51,56,51,57,52,48,52,49,52,50,52,51,52,52,52,53,52,54,52,55,52,56,52,57,53,48,53,49,53,50,53,51,53,52,53,53,53,54,53,55,53,56,53,57,54,48,54,49,54,50,54,51,54,52,54,53,54,54,54,55,54,56,54,57,55,48,55,49,55,50,55,51,55,52,55,53,55,54,55,55,55,56,55,57,56,48,56,49,56,50,56,51,56,52,56,53,56,54,56,55,56,56,56,57,57,48,57,49,57,50,57,51,57,52,57,53,57,54,57,55,57,56,57,57]⟩)) (.t 75))),Qo (oM 77 11),Qo (Oo 78 (.ixS (.k (.string ⟨#[48,48,48,49,48,50,48,51,48,52,48,53,48,54,48,55,48,56,48,57,49,48,49,49,49,50,49,51,49,52,49,53,49,54,49,55,49,56,49,57,50,48,50,49,50,50,50,51,50,52,50,53,50,54,50,55,50,56,50,57,51,48,51,49,51,50,51,51,51,52,51,53,51,54,51,55,51,56,51,57,52,48,52,49,52,50,52,51,52,52,52,53,52,54,52,55,52,56,52,57,53,48,53,49,53,50,53,51,53,52,53,53,53,54,53,55,53,56,53,57,54,48,54,49,54,50,54,51,54,52,54,53,54,54,54,55,54,56,54,57,55,48,55,49,55,50,55,51,55,52,55,53,55,54,55,55,55,56,55,57,56,48,56,49,56,50,56,51,56,52,56,53,56,54,56,55,56,56,56,57,57,48,57,49,57,50,57,51,57,52,57,53,57,54,57,55,57,56,57,57]⟩)) (.t 77))),Qo (oI 79 1 68 70),Qe (oS 1 79 76),Qo (oI 80 1 71 73),Qe (oS 1 80 78)])
 (.seq (.drawn [Qo (oM 81 0),Qo (oM 82 4),Qo (oB 83 .sub 82 7),Qo (oM 84 0),Qo (oM 85 4),Qo (oB 86 .sub 85 8),Qo (oM 87 10),Qo (Oo 88 (.bin .add (.t 87) (.k (.int .u32 1)))),Qo (Oo 89 (.ixS (.k (.string ⟨#[48,48,48,49,48,50,48,51,48,52,48,53,48,54,48,55,48,56,48,57,49,48,49,49,49,50,49,51,49,52,49,53,49,54,49,55,49,56,49,57,50,48,50,49,50,50,50,51,50,52,50,53,50,54,50,55,50,56,50,57,51,48,51,49,51,50,51,51,51,52,51,53,51,54,51,55,51,56,51,57,52,48,52,49,52,50,52,51,52,52,52,53,52,54,52,55,52,56,52,57,53,48,53,49,53,50,53,51,53,52,53,53,53,54,53,55,53,56,53,57,54,48,54,49,54,50,54,51,54,52,54,53,54,54,54,55,54,56,54,57,55,48,55,49,55,50,55,51,55,52,55,53,55,54,55,55,55,56,55,57,56,48,56,49,56,50,56,51,56,52,56,53,56,54,56,55,56,56,56,57,57,48,57,49,57,50,57,51,57,52,57,53,57,54,57,55,57,56,57,57]⟩)) (.t 88))),Qo (oM 90 10),Qo (Oo 91 (.ixS (.k (.string ⟨#[48,48,48,49,48,50,48,51,48,52,48,53,48,54,48,55,48,56,48,57,49,48,49,49,49,50,49,51,49,52,49,53,49,54,49,55,49,56,49,57,50,48,50,49,50,50,50,51,50,52,50,53,50,54,50,55,50,56,50,57,51,48,51,49,51,50,51,51,51,52,51,53,51,54,51,55,51,56,51,57,52,48,52,49,52,50,52,51,52,52,52,53,52,54,52,55,52,56,52,57,53,48,53,49,53,50,53,51,53,52,53,53,53,54,53,55,53,56,53,57,54,48,54,49,54,50,54,51,54,52,54,53,54,54,54,55,54,56,54,57,55,48,55,49,55,50,55,51,55,52,55,53,55,54,55,55,55,56,55,57,56,48,56,49,56,50,56,51,56,52,56,53,56,54,56,55,56,56,56,57,57,48,57,49,57,50,57,51,57,52,57,53,57,54,57,55,57,56,57,57]⟩)) (.t 90))),Qo (oI 92 1 81 83),Qe (oS 1 92 89),Qo (oI 93 1 84 86),Qe (oS 1 93 91)])
 (.region [oM 94 4,oB 95 .sub 94 8,oM 4 95]))))))))))))
def h238c:HC:=
 (.seq (.region [oM 17 0,oN 18 17,oM 4 18])
 (.seq (.block 0 (.loop [0,0,2] h238l0))
 (.seq (.region [oM 96 1,Oo 97 (.conv .u32 (.t 96)),oM 12 97])
 (.seq (.seq (.region [oM 98 4,oB 99 .geq 98 4])
 (.cond (.t 99) (.seq (.region [oM 100 12,Oo 101 (.bin .rem (.t 100) (.k (.int .u32 10000))),oM 13 101])
 (.seq (.region [oM 102 12,Oo 103 (.bin .quo (.t 102) (.k (.int .u32 10000))),oM 12 103])
 (.seq (.region [oM 104 13,Oo 105 (.bin .quo (.t 104) (.k (.int .u32 100))),Oo 106 (.bin .mul (.t 105) (.k (.int .u32 2))),oM 107 13,Oo 108 (.bin .rem (.t 107) (.k (.int .u32 100))),Oo 109 (.bin .mul (.t 108) (.k (.int .u32 2))),oM 14 106,oM 15 109])
 (.seq (.drawn [Qo (oM 110 0),Qo (oM 111 4),Qo (oB 112 .sub 111 1),Qo (oM 113 0),Qo (oM 114 4),Qo (oB 115 .sub 114 2),Qo (oM 116 15),Qo (Oo 117 (.bin .add (.t 116) (.k (.int .u32 1)))),Qo (Oo 118 (.ixS (.k (.string ⟨#[48,48,48,49,48,50,48,51,48,52,48,53,48,54,48,55,48,56,48,57,49,48,49,49,49,50,49,51,49,52,49,53,49,54,49,55,49,56,49,57,50,48,50,49,50,50,50,51,50,52,50,53,50,54,50,55,50,56,50,57,51,48,51,49,51,50,51,51,51,52,51,53,51,54,51,55,51,56,51,57,52,48,52,49,52,50,52,51,52,52,52,53,52,54,52,55,52,56,52,57,53,48,53,49,53,50,53,51,53,52,53,53,53,54,53,55,53,56,53,57,54,48,54,49,54,50,54,51,54,52,54,53,54,54,54,55,54,56,54,57,55,48,55,49,55,50,55,51,55,52,55,53,55,54,55,55,55,56,55,57,56,48,56,49,56,50,56,51,56,52,56,53,56,54,56,55,56,56,56,57,57,48,57,49,57,50,57,51,57,52,57,53,57,54,57,55,57,56,57,57]⟩)) (.t 117))),Qo (oM 119 15),Qo (Oo 120 (.ixS (.k (.string ⟨#[48,48,48,49,48,50,48,51,48,52,48,53,48,54,48,55,48,56,48,57,49,48,49,49,49,50,49,51,49,52,49,53,49,54,49,55,49,56,49,57,50,48,50,49,50,50,50,51,50,52,50,53,50,54,50,55,50,56,50,57,51,48,51,49,51,50,51,51,51,52,51,53,51,54,51,55,51,56,51,57,52,48,52,49,52,50,52,51,52,52,52,53,52,54,52,55,52,56,52,57,53,48,53,49,53,50,53,51,53,52,53,53,53,54,53,55,53,56,53,57,54,48,54,49,54,50,54,51,54,52,54,53,54,54,54,55,54,56,54,57,55,48,55,49,55,50,55,51,55,52,55,53,55,54,55,55,55,56,55,57,56,48,56,49,56,50,56,51,56,52,56,53,56,54,56,55,56,56,56,57,57,48,57,49,57,50,57,51,57,52,57,53,57,54,57,55,57,56,57,57]⟩)) (.t 119))),Qo (oI 121 1 110 112),Qe (oS 1 121 118),Qo (oI 122 1 113 115),Qe (oS 1 122 120)])
 (.seq (.drawn [Qo (oM 123 0),Qo (oM 124 4),Qo (oB 125 .sub 124 3),Qo (oM 126 0),Qo (oM 127 4),Qo (oB 128 .sub 127 4),Qo (oM 129 14),Qo (Oo 130 (.bin .add (.t 129) (.k (.int .u32 1)))),Qo (Oo 131 (.ixS (.k (.string ⟨#[48,48,48,49,48,50,48,51,48,52,48,53,48,54,48,55,48,56,48,57,49,48,49,49,49,50,49,51,49,52,49,53,49,54,49,55,49,56,49,57,50,48,50,49,50,50,50,51,50,52,50,53,50,54,50,55,50,56,50,57,51,48,51,49,51,50,51,51,51,52,51,53,51,54,51,55,51,56,51,57,52,48,52,49,52,50,52,51,52,52,52,53,52,54,52,55,52,56,52,57,53,48,53,49,53,50,53,51,53,52,53,53,53,54,53,55,53,56,53,57,54,48,54,49,54,50,54,51,54,52,54,53,54,54,54,55,54,56,54,57,55,48,55,49,55,50,55,51,55,52,55,53,55,54,55,55,55,56,55,57,56,48,56,49,56,50,56,51,56,52,56,53,56,54,56,55,56,56,56,57,57,48,57,49,57,50,57,51,57,52,57,53,57,54,57,55,57,56,57,57]⟩)) (.t 130))),Qo (oM 132 14),Qo (Oo 133 (.ixS (.k (.string ⟨#[48,48,48,49,48,50,48,51,48,52,48,53,48,54,48,55,48,56,48,57,49,48,49,49,49,50,49,51,49,52,49,53,49,54,49,55,49,56,49,57,50,48,50,49,50,50,50,51,50,52,50,53,50,54,50,55,50,56,50,57,51,48,51,49,51,50,51,51,51,52,51,53,51,54,51,55,51,56,51,57,52,48,52,49,52,50,52,51,52,52,52,53,52,54,52,55,52,56,52,57,53,48,53,49,53,50,53,51,53,52,53,53,53,54,53,55,53,56,53,57,54,48,54,49,54,50,54,51,54,52,54,53,54,54,54,55,54,56,54,57,55,48,55,49,55,50,55,51,55,52,55,53,55,54,55,55,55,56,55,57,56,48,56,49,56,50,56,51,56,52,56,53,56,54,56,55,56,56,56,57,57,48,57,49,57,50,57,51,57,52,57,53,57,54,57,55,57,56,57,57]⟩)) (.t 132))),Qo (oI 134 1 123 125),Qe (oS 1 134 131),Qo (oI 135 1 126 128),Qe (oS 1 135 133)])
 (.region [oM 136 4,oB 137 .sub 136 4,oM 4 137]))))))
 .skip))
 (.seq (.seq (.region [oM 138 4,oB 139 .geq 138 2])
 (.cond (.t 139) (.seq (.region [oM 140 12,Oo 141 (.bin .rem (.t 140) (.k (.int .u32 100))),Oo 142 (.bin .mul (.t 141) (.k (.int .u32 2))),oM 16 142])
 (.seq (.region [oM 143 12,Oo 144 (.bin .quo (.t 143) (.k (.int .u32 100))),oM 12 144])
 (.seq (.drawn [Qo (oM 145 0),Qo (oM 146 4),Qo (oB 147 .sub 146 1),Qo (oM 148 0),Qo (oM 149 4),Qo (oB 150 .sub 149 2),Qo (oM 151 16),Qo (Oo 152 (.bin .add (.t 151) (.k (.int .u32 1)))),Qo (Oo 153 (.ixS (.k (.string ⟨#[48,48,48,49,48,50,48,51,48,52,48,53,48,54,48,55,48,56,48,57,49,48,49,49,49,50,49,51,49,52,49,53,49,54,49,55,49,56,49,57,50,48,50,49,50,50,50,51,50,52,50,53,50,54,50,55,50,56,50,57,51,48,51,49,51,50,51,51,51,52,51,53,51,54,51,55,51,56,51,57,52,48,52,49,52,50,52,51,52,52,52,53,52,54,52,55,52,56,52,57,53,48,53,49,53,50,53,51,53,52,53,53,53,54,53,55,53,56,53,57,54,48,54,49,54,50,54,51,54,52,54,53,54,54,54,55,54,56,54,57,55,48,55,49,55,50,55,51,55,52,55,53,55,54,55,55,55,56,55,57,56,48,56,49,56,50,56,51,56,52,56,53,56,54,56,55,56,56,56,57,57,48,57,49,57,50,57,51,57,52,57,53,57,54,57,55,57,56,57,57]⟩)) (.t 152))),Qo (oM 154 16),Qo (Oo 155 (.ixS (.k (.string ⟨#[48,48,48,49,48,50,48,51,48,52,48,53,48,54,48,55,48,56,48,57,49,48,49,49,49,50,49,51,49,52,49,53,49,54,49,55,49,56,49,57,50,48,50,49,50,50,50,51,50,52,50,53,50,54,50,55,50,56,50,57,51,48,51,49,51,50,51,51,51,52,51,53,51,54,51,55,51,56,51,57,52,48,52,49,52,50,52,51,52,52,52,53,52,54,52,55,52,56,52,57,53,48,53,49,53,50,53,51,53,52,53,53,53,54,53,55,53,56,53,57,54,48,54,49,54,50,54,51,54,52,54,53,54,54,54,55,54,56,54,57,55,48,55,49,55,50,55,51,55,52,55,53,55,54,55,55,55,56,55,57,56,48,56,49,56,50,56,51,56,52,56,53,56,54,56,55,56,56,56,57,57,48,57,49,57,50,57,51,57,52,57,53,57,54,57,55,57,56,57,57]⟩)) (.t 154))),Qo (oI 156 1 145 147),Qe (oS 1 156 153),Qo (oI 157 1 148 150),Qe (oS 1 157 155)])
 (.region [oM 158 4,oB 159 .sub 158 2,oM 4 159]))))
 .skip))
 (.seq (.region [oM 160 4,oB 161 .gtr 160 0])
 (.cond (.t 161) (.region [oM 162 0,oM 163 12,Oo 164 (.bin .add (.k (.int .u32 48)) (.t 163)),Oo 165 (.conv .u8 (.t 164)),Oo 166 (.ixL 1 (.t 162) (Ki 0)),oS 1 166 165])
 .skip)))))))
abbrev h238:HF:=⟨h238c,[],167,false⟩
theorem h238_ok:CK Tryz.f238 h238c:=by unfold CK;kernel_rfl
theorem r238_ok:RK Tryz.f238 []:=by unfold RK;kernel_rfl
def h239l0:HC:=
 (.seq (.seq (.region [oM 44 1,oM 45 15,oC 46 .geq 44 45])
 (.cond (.t 46) .skip
 (.exit 0)))
 (.block 1 (.seq (.region [oM 47 13,oB 48 .sub 47 1,oM 13 48])
 (.seq (.region [oM 49 13,oM 50 1,oM 51 16,oC 52 .and 50 51,Oo 53 (.ixS (.k (.string ⟨#[48,49,50,51,52,53,54,55,56,57,97,98,99,100,101,102,103,104,105,106,107,108,109,110,111,112,113,114,115,116,117,118,119,120,121,122]⟩)) (.t 52)),Oo 54 (.ixA 65 1 (.t 12) (.t 49)),oS 1 54 53])
 (.region [oM 55 1,oM 56 14,oC 57 .shr 55 56,oM 1 57])))))
def h239l1:HC:=
 (.seq (.seq (.region [oM 66 1,oM 67 17,oC 68 .geq 66 67])
 (.cond (.t 68) .skip
 (.exit 2)))
 (.block 3 (.seq (.region [oM 69 13,oB 70 .sub 69 1,oM 13 70])
 (.seq (.region [oM 71 1,oM 72 17,oC 73 .quo 71 72,oM 18 73])
 (.seq (.region [oM 74 13,oM 75 1,oM 76 18,oM 77 17,oC 78 .mul 76 77,oC 79 .sub 75 78,Oo 80 (.ixS (.k (.string ⟨#[48,49,50,51,52,53,54,55,56,57,97,98,99,100,101,102,103,104,105,106,107,108,109,110,111,112,113,114,115,116,117,118,119,120,121,122]⟩)) (.t 79)),Oo 81 (.ixA 65 1 (.t 12) (.t 74)),oS 1 81 80])
 (.region [oM 82 18,oM 1 82]))))))
def h239c:HC:=
 (.seq (.region [Oo 10 (.mov (.k (.slice none 0 0))),Oo 11 (.mov (.k (.string ⟨#[]⟩)))])
 (.seq (.seq (.region [oM 19 2,oB 20 .lss 19 2,oM 21 20,Og 21 false 22 (.mov (.t 2)),Og 21 false 23 (.bin .eql (.t 22) (Ki 10)),Oo 24 (.pick (.t 21) (.k (.bool true)) (.t 23)),oM 25 24,Og 25 false 26 (.mov (.t 2)),Og 25 false 27 (.bin .gtr (.t 26) (Ki 36)),Oo 28 (.pick (.t 25) (.k (.bool true)) (.t 27))])
 (.cond (.t 28) .bad
 .skip))
 (.seq (.region [Oo 12 (.alloc [(.int .u8 0),(.int .u8 0),(.int .u8 0),(.int .u8 0),(.int .u8 0),(.int .u8 0),(.int .u8 0),(.int .u8 0),(.int .u8 0),(.int .u8 0),(.int .u8 0),(.int .u8 0),(.int .u8 0),(.int .u8 0),(.int .u8 0),(.int .u8 0),(.int .u8 0),(.int .u8 0),(.int .u8 0),(.int .u8 0),(.int .u8 0),(.int .u8 0),(.int .u8 0),(.int .u8 0),(.int .u8 0),(.int .u8 0),(.int .u8 0),(.int .u8 0),(.int .u8 0),(.int .u8 0),(.int .u8 0),(.int .u8 0),(.int .u8 0),(.int .u8 0),(.int .u8 0),(.int .u8 0),(.int .u8 0),(.int .u8 0),(.int .u8 0),(.int .u8 0),(.int .u8 0),(.int .u8 0),(.int .u8 0),(.int .u8 0),(.int .u8 0),(.int .u8 0),(.int .u8 0),(.int .u8 0),(.int .u8 0),(.int .u8 0),(.int .u8 0),(.int .u8 0),(.int .u8 0),(.int .u8 0),(.int .u8 0),(.int .u8 0),(.int .u8 0),(.int .u8 0),(.int .u8 0),(.int .u8 0),(.int .u8 0),(.int .u8 0),(.int .u8 0),(.int .u8 0),(.int .u8 0)])])
 (.seq (.region [oK 13 65])
 (.seq (.seq (.region [oM 30 3])
 (.cond (.t 30) (.region [oM 31 1,Oo 32 (.un .neg (.t 31)),oM 1 32])
 .skip))
 (.seq (.seq (.region [oM 33 2,Oo 34 (.call 265 [(.t 33)])])
 (.cond (.t 34) (.seq (.region [oM 35 2,Oo 36 (.conv .u64 (.t 35)),Oo 37 (.call 266 [(.t 36)]),Oo 38 (.conv .u64 (.t 37)),oM 14 38])
 (.seq (.region [oM 39 2,Oo 40 (.conv .u64 (.t 39)),oM 15 40])
 (.seq (.region [oM 41 2,Oo 42 (.conv .u64 (.t 41)),Oo 43 (.bin .sub (.t 42) (.k (.int .u64 1))),oM 16 43])
 (.seq (.block 0 (.loop [0,0,1,0,5,0,0,0,0,0,0] h239l0))
 (.seq (.region [oM 58 13,oB 59 .sub 58 1,oM 13 59])
 (.region [oM 60 13,oM 61 1,Oo 62 (.ixS (.k (.string ⟨#[48,49,50,51,52,53,54,55,56,57,97,98,99,100,101,102,103,104,105,106,107,108,109,110,111,112,113,114,115,116,117,118,119,120,121,122]⟩)) (.t 61)),Oo 63 (.ixA 65 1 (.t 12) (.t 60)),oS 1 63 62]))))))
 (.seq (.region [oM 64 2,Oo 65 (.conv .u64 (.t 64)),oM 17 65])
 (.seq (.block 2 (.loop [0,0,1,0,5,0,0,0,3] h239l1))
 (.seq (.region [oM 83 13,oB 84 .sub 83 1,oM 13 84])
 (.region [oM 85 13,oM 86 1,Oo 87 (.ixS (.k (.string ⟨#[48,49,50,51,52,53,54,55,56,57,97,98,99,100,101,102,103,104,105,106,107,108,109,110,111,112,113,114,115,116,117,118,119,120,121,122]⟩)) (.t 86)),Oo 88 (.ixA 65 1 (.t 12) (.t 85)),oS 1 88 87]))))))
 (.seq (.seq (.region [oM 89 3])
 (.cond (.t 89) (.seq (.region [oM 90 13,oB 91 .sub 90 1,oM 13 91])
 (.region [oM 92 13,Oo 93 (.ixA 65 1 (.t 12) (.t 92)),On (.store 1 (.t 93) (.k (.int .u8 45)))]))
 .skip))
 (.seq (.seq (.region [oM 94 4])
 (.cond (.t 94) (.seq (.region [oM 95 0,oM 96 13,Oo 97 (.slA 65 1 (.t 12) (some (.t 96)) none),Oo 98 (.app 1 1 [(.int .u8 0)] (.t 95) (.t 97)),oM 10 98])
 .ret)
 .skip))
 (.seq (.region [oM 99 13,Oo 100 (.slA 65 1 (.t 12) (some (.t 99)) none),Oo 101 (.cvbs (.t 100)),oM 11 101])
 .ret)))))))))
abbrev h239:HF:=⟨h239c,[.tmp 10,.tmp 11],102,false⟩
theorem h239_ok:CK Tryz.f239 h239c:=by unfold CK;kernel_rfl
theorem r239_ok:RK Tryz.f239 [.tmp 10,.tmp 11]:=by unfold RK;kernel_rfl
def h249c:HC:=
 (.seq (.region [Oo 3 (.box (.t 1)),Oo 4 (.mov (.k (.bool false)))])
 (.seq (.region [oM 5 0,Oo 6 (.cvsb (.t 5)),Oo 7 (.mkfn 273 [(.t 3)]),Oo 8 (.call 272 [(.t 6),(.t 7)]),Oo 9 (.un .not (.t 8)),oM 4 9])
 .ret))
abbrev h249:HF:=⟨h249c,[.tmp 4],10,false⟩
theorem h249_ok:CK Tryz.f249 h249c:=by unfold CK;kernel_rfl
theorem r249_ok:RK Tryz.f249 [.tmp 4]:=by unfold RK;kernel_rfl
def h250c:HC:=
 (.seq (.region [Oo 2 (.mov (.k (.bool false)))])
 (.seq (.region [oM 3 0,Oo 4 (.bin .leq (.k (.int .u8 32)) (.t 3)),oM 5 4,Og 5 true 6 (.mov (.t 0)),Og 5 true 7 (.bin .leq (.t 6) (.k (.int .u8 126))),Oo 8 (.pick (.t 5) (.t 7) (.k (.bool false))),oM 9 8,Og 9 true 10 (.mov (.t 0)),Og 9 true 11 (.call 274 [(.k (.string ⟨#[34,42,47,58,60,62,63,92,124]⟩)),(.t 10)]),Og 9 true 12 (.bin .lss (.t 11) (Ki 0)),Oo 13 (.pick (.t 9) (.t 12) (.k (.bool false))),oM 2 13])
 .ret))
abbrev h250:HF:=⟨h250c,[.tmp 2],14,false⟩
theorem h250_ok:CK Tryz.f250 h250c:=by unfold CK;kernel_rfl
theorem r250_ok:RK Tryz.f250 [.tmp 2]:=by unfold RK;kernel_rfl
def h251c:HC:=
 (.seq (.region [Oo 4 (.mov (.k (.bool false)))])
 (.seq (.region [oM 5 0,oM 6 1,Oo 7 (.call 275 [(.t 5),(.t 6)]),oM 4 7])
 .ret))
abbrev h251:HF:=⟨h251c,[.tmp 4],8,false⟩
theorem h251_ok:CK Tryz.f251 h251c:=by unfold CK;kernel_rfl
theorem r251_ok:RK Tryz.f251 [.tmp 4]:=by unfold RK;kernel_rfl
def h252c:HC:=
 (.seq (.region [Oo 6 (.mov (.k (.bool false)))])
 (.seq (.region [oM 7 1,oM 8 0,oC 9 .leq 7 8,oM 10 9,Og 10 true 11 (.mov (.t 0)),Og 10 true 12 (.mov (.t 2)),Og 10 true 13 (.bin .leq (.t 11) (.t 12)),Oo 14 (.pick (.t 10) (.t 13) (.k (.bool false))),oM 6 14])
 .ret))
abbrev h252:HF:=⟨h252c,[.tmp 6],15,false⟩
theorem h252_ok:CK Tryz.f252 h252c:=by unfold CK;kernel_rfl
theorem r252_ok:RK Tryz.f252 [.tmp 6]:=by unfold RK;kernel_rfl
def h258c:HC:=
 (.seq (.region [Oo 2 (.box (.t 0)),Oo 3 (.box (.t 1)),Oo 4 (.mov (.k (.bool false)))])
 (.seq (.region [oA 5 0 2,oL 6 5,Oo 7 (.bin .neq (.t 6) (Ki (-1))),oM 8 7,Og 8 true 9 (.addo 0 (.t 3)),Og 8 true 10 (.load false 1 (.t 9)),Og 8 true 11 (.bin .neq (.t 10) (Ki (-1))),Oo 12 (.pick (.t 8) (.t 11) (.k (.bool false))),oM 13 12,Og 13 true 14 (.addo 0 (.t 2)),Og 13 true 15 (.load false 1 (.t 14)),Og 13 true 16 (.addo 0 (.t 3)),Og 13 true 17 (.load false 1 (.t 16)),Og 13 true 18 (.addo 1 (.t 3)),Og 13 true 19 (.load false 1 (.t 18)),Og 13 true 20 (.bin .add (.t 17) (.t 19)),Og 13 true 21 (.bin .lss (.t 15) (.t 20)),Oo 22 (.pick (.t 13) (.t 21) (.k (.bool false))),oM 23 22,Og 23 true 24 (.addo 0 (.t 3)),Og 23 true 25 (.load false 1 (.t 24)),Og 23 true 26 (.addo 0 (.t 2)),Og 23 true 27 (.load false 1 (.t 26)),Og 23 true 28 (.addo 1 (.t 2)),Og 23 true 29 (.load false 1 (.t 28)),Og 23 true 30 (.bin .add (.t 27) (.t 29)),Og 23 true 31 (.bin .lss (.t 25) (.t 30)),Oo 32 (.pick (.t 23) (.t 31) (.k (.bool false))),oM 4 32])
 .ret))
abbrev h258:HF:=⟨h258c,[.tmp 4],33,false⟩
theorem h258_ok:CK Tryz.f258 h258c:=by unfold CK;kernel_rfl
theorem r258_ok:RK Tryz.f258 [.tmp 4]:=by unfold RK;kernel_rfl
def h263c:HC:=
 (.seq (.region [oK 2 0])
 (.seq (.region [oM 3 0,oB 4 .mul 3 78913,Oo 5 (.bin .shr (.t 4) (.k (.int .u64 18))),oM 2 5])
 .ret))
abbrev h263:HF:=⟨h263c,[.tmp 2],6,false⟩
theorem h263_ok:CK Tryz.f263 h263c:=by unfold CK;kernel_rfl
theorem r263_ok:RK Tryz.f263 [.tmp 2]:=by unfold RK;kernel_rfl
def h264c:HC:=
 (.seq (.region [oK 2 0])
 (.seq (.seq (.region [oM 3 0])
 (.cond (.t 3) (.seq (.region [oK 2 1])
 .ret)
 .skip))
 (.seq (.region [oK 2 0])
 .ret)))
abbrev h264:HF:=⟨h264c,[.tmp 2],4,false⟩
theorem h264_ok:CK Tryz.f264 h264c:=by unfold CK;kernel_rfl
theorem r264_ok:RK Tryz.f264 [.tmp 2]:=by unfold RK;kernel_rfl
def h265c:HC:=
 (.seq (.region [Oo 2 (.mov (.k (.bool false)))])
 (.seq (.region [oM 3 0,oM 4 0,oB 5 .sub 4 1,oC 6 .and 3 5,oB 7 .eql 6 0,oM 2 7])
 .ret))
abbrev h265:HF:=⟨h265c,[.tmp 2],8,false⟩
theorem h265_ok:CK Tryz.f265 h265c:=by unfold CK;kernel_rfl
theorem r265_ok:RK Tryz.f265 [.tmp 2]:=by unfold RK;kernel_rfl
def h266c:HC:=
 (.seq (.region [oK 2 0])
 (.seq (.cond (.k (.bool false)) (.seq (.region [oM 3 0,Oo 4 (.conv .u32 (.t 3)),Oo 5 (.call 278 [(.t 4)]),oM 2 5])
 .ret)
 .skip)
 (.seq (.region [oM 6 0,Oo 7 (.call 279 [(.t 6)]),oM 2 7])
 .ret)))
abbrev h266:HF:=⟨h266c,[.tmp 2],8,false⟩
theorem h266_ok:CK Tryz.f266 h266c:=by unfold CK;kernel_rfl
theorem r266_ok:RK Tryz.f266 [.tmp 2]:=by unfold RK;kernel_rfl
def h272c:HC:=
 (.seq (.region [Oo 4 (.mov (.k (.bool false)))])
 (.seq (.region [oM 5 0,oM 6 1,Oo 7 (.call 282 [(.t 5),(.t 6)]),oB 8 .geq 7 0,oM 4 8])
 .ret))
abbrev h272:HF:=⟨h272c,[.tmp 4],9,false⟩
theorem h272_ok:CK Tryz.f272 h272c:=by unfold CK;kernel_rfl
theorem r272_ok:RK Tryz.f272 [.tmp 4]:=by unfold RK;kernel_rfl
def h273c:HC:=
 (.seq (.region [Oo 3 (.mov (.k (.bool false)))])
 (.seq (.region [oL 4 1,oM 5 0,Oo 6 (.callv (.t 4) [(.t 5)]),Oo 7 (.un .not (.t 6)),oM 3 7])
 .ret))
abbrev h273:HF:=⟨h273c,[.tmp 3],8,false⟩
theorem h273_ok:CK Tryz.f273 h273c:=by unfold CK;kernel_rfl
theorem r273_ok:RK Tryz.f273 [.tmp 3]:=by unfold RK;kernel_rfl
def h274c:HC:=
 (.seq (.region [oK 4 0])
 (.seq (.region [oM 5 0,oM 6 1,Oo 7 (.call 240 [(.t 5),(.t 6)]),oM 4 7])
 .ret))
abbrev h274:HF:=⟨h274c,[.tmp 4],8,false⟩
theorem h274_ok:CK Tryz.f274 h274c:=by unfold CK;kernel_rfl
theorem r274_ok:RK Tryz.f274 [.tmp 4]:=by unfold RK;kernel_rfl
def h275c:HC:=
 (.seq (.region [Oo 4 (.mov (.k (.bool false)))])
 (.seq (.region [oM 5 0,Oo 6 (.lenS (.t 5)),oM 7 1,Oo 8 (.lenS (.t 7)),oC 9 .geq 6 8,oM 10 9,Og 10 true 11 (.mov (.t 0)),Og 10 true 12 (.mov (.t 0)),Og 10 true 13 (.lenS (.t 12)),Og 10 true 14 (.mov (.t 1)),Og 10 true 15 (.lenS (.t 14)),Og 10 true 16 (.bin .sub (.t 13) (.t 15)),Og 10 true 17 (.slS (.t 11) (some (.t 16)) none),Og 10 true 18 (.mov (.t 1)),Og 10 true 19 (.bin .eql (.t 17) (.t 18)),Oo 20 (.pick (.t 10) (.t 19) (.k (.bool false))),oM 4 20])
 .ret))
abbrev h275:HF:=⟨h275c,[.tmp 4],21,false⟩
theorem h275_ok:CK Tryz.f275 h275c:=by unfold CK;kernel_rfl
theorem r275_ok:RK Tryz.f275 [.tmp 4]:=by unfold RK;kernel_rfl
def h278c:HC:=
 (.seq (.region [oK 2 0])
 (.seq (.seq (.region [oM 3 0,Oo 4 (.bin .eql (.t 3) (.k (.int .u32 0)))])
 (.cond (.t 4) (.seq (.region [oK 2 32])
 .ret)
 .skip))
 (.seq (.region [oM 5 0,oM 6 0,Oo 7 (.un .neg (.t 6)),oC 8 .and 5 7,Oo 9 (.bin .mul (.t 8) (.k (.int .u32 125613361))),Oo 10 (.bin .shr (.t 9) (.k (.int .u64 27))),Oo 11 (.ixA 32 1 (.g 17) (.t 10)),oL 12 11,Oo 13 (.conv .i64 (.t 12)),oM 2 13])
 .ret)))
abbrev h278:HF:=⟨h278c,[.tmp 2],14,false⟩
theorem h278_ok:CK Tryz.f278 h278c:=by unfold CK;kernel_rfl
theorem r278_ok:RK Tryz.f278 [.tmp 2]:=by unfold RK;kernel_rfl
def h279c:HC:=
 (.seq (.region [oK 2 0])
 (.seq (.seq (.region [oM 3 0,Oo 4 (.bin .eql (.t 3) (.k (.int .u64 0)))])
 (.cond (.t 4) (.seq (.region [oK 2 64])
 .ret)
 .skip))
 (.seq (.region [oM 5 0,oM 6 0,Oo 7 (.un .neg (.t 6)),oC 8 .and 5 7,Oo 9 (.bin .mul (.t 8) (.k (.int .u64 285870213051353865))),Oo 10 (.bin .shr (.t 9) (.k (.int .u64 58))),Oo 11 (.ixA 64 1 (.g 18) (.t 10)),oL 12 11,Oo 13 (.conv .i64 (.t 12)),oM 2 13])
 .ret)))
abbrev h279:HF:=⟨h279c,[.tmp 2],14,false⟩
theorem h279_ok:CK Tryz.f279 h279c:=by unfold CK;kernel_rfl
theorem r279_ok:RK Tryz.f279 [.tmp 2]:=by unfold RK;kernel_rfl
def h282l0:HC:=
 (.seq (.region [oC 9 .lss 8 7])
 (.seq (.cond (.t 9) .skip
 (.exit 0))
 (.seq (.block 1 (.seq (.region [oM 10 8,oM 5 10])
 (.seq (.region [oM 11 1,oM 12 0,oM 13 5,oI 14 1 12 13,oL 15 14,Oo 16 (.callv (.t 11) [(.t 15)])])
 (.cond (.t 16) (.seq (.region [oM 17 5,oM 4 17])
 .ret)
 .skip))))
 (.region [oB 18 .add 8 1,oM 8 18]))))
def h282c:HC:=
 (.seq (.region [oK 4 0])
 (.seq (.seq (.region [oM 6 0,oN 7 6,oK 8 0])
 (.block 0 (.loop [0,0,5,0] h282l0)))
 (.seq (.region [Oo 4 (.mov (Ki (-1)))])
 .ret)))
abbrev h282:HF:=⟨h282c,[.tmp 4],19,false⟩
theorem h282_ok:CK Tryz.f282 h282c:=by unfold CK;kernel_rfl
theorem r282_ok:RK Tryz.f282 [.tmp 4]:=by unfold RK;kernel_rfl
def Tbt0:FuncId→Option HF
  | 4=>some h4
  | 12=>some h12
  | 13=>some h13
  | 14=>some h14
  | 15=>some h15
  | 16=>some h16
  | 17=>some h17
  | 18=>some h18
  | 19=>some h19
  | 20=>some h20
  | 21=>some h21
  | 22=>some h22
  | 23=>some h23
  | 25=>some h25
  | 26=>some h26
  | 27=>some h27
  | 28=>some h28
  | 29=>some h29
  | 34=>some h34
  | 35=>some h35
  | 37=>some h37
  | 38=>some h38
  | 39=>some h39
  | 41=>some h41
  | _=>none
theorem Tbt0_ok (f:FuncId) (h:HF) (hf:Tbt0 f=some h):okF Tryz.prog f=true∧∃ fn,Tryz.prog.funcs[f]?=some fn∧fn.ntmps=h.nt∧fn.body.bind (compileC Tryz.prog)=some h.code.er∧fn.results.toList.mapM (retOf Tryz.prog)=some h.rs:=by
  unfold Tbt0 at hf
  split at hf
  · exact tk hf (by kernel_rfl) Tryz.func4 Tryz.ntmps4 h4_ok r4_ok
  · exact tk hf (by kernel_rfl) Tryz.func12 Tryz.ntmps12 h12_ok r12_ok
  · exact tk hf (by kernel_rfl) Tryz.func13 Tryz.ntmps13 h13_ok r13_ok
  · exact tk hf (by kernel_rfl) Tryz.func14 Tryz.ntmps14 h14_ok r14_ok
  · exact tk hf (by kernel_rfl) Tryz.func15 Tryz.ntmps15 h15_ok r15_ok
  · exact tk hf (by kernel_rfl) Tryz.func16 Tryz.ntmps16 h16_ok r16_ok
  · exact tk hf (by kernel_rfl) Tryz.func17 Tryz.ntmps17 h17_ok r17_ok
  · exact tk hf (by kernel_rfl) Tryz.func18 Tryz.ntmps18 h18_ok r18_ok
  · exact tk hf (by kernel_rfl) Tryz.func19 Tryz.ntmps19 h19_ok r19_ok
  · exact tk hf (by kernel_rfl) Tryz.func20 Tryz.ntmps20 h20_ok r20_ok
  · exact tk hf (by kernel_rfl) Tryz.func21 Tryz.ntmps21 h21_ok r21_ok
  · exact tk hf (by kernel_rfl) Tryz.func22 Tryz.ntmps22 h22_ok r22_ok
  · exact tk hf (by kernel_rfl) Tryz.func23 Tryz.ntmps23 h23_ok r23_ok
  · exact tk hf (by kernel_rfl) Tryz.func25 Tryz.ntmps25 h25_ok r25_ok
  · exact tk hf (by kernel_rfl) Tryz.func26 Tryz.ntmps26 h26_ok r26_ok
  · exact tk hf (by kernel_rfl) Tryz.func27 Tryz.ntmps27 h27_ok r27_ok
  · exact tk hf (by kernel_rfl) Tryz.func28 Tryz.ntmps28 h28_ok r28_ok
  · exact tk hf (by kernel_rfl) Tryz.func29 Tryz.ntmps29 h29_ok r29_ok
  · exact tk hf (by kernel_rfl) Tryz.func34 Tryz.ntmps34 h34_ok r34_ok
  · exact tk hf (by kernel_rfl) Tryz.func35 Tryz.ntmps35 h35_ok r35_ok
  · exact tk hf (by kernel_rfl) Tryz.func37 Tryz.ntmps37 h37_ok r37_ok
  · exact tk hf (by kernel_rfl) Tryz.func38 Tryz.ntmps38 h38_ok r38_ok
  · exact tk hf (by kernel_rfl) Tryz.func39 Tryz.ntmps39 h39_ok r39_ok
  · exact tk hf (by kernel_rfl) Tryz.func41 Tryz.ntmps41 h41_ok r41_ok
  · cases hf
def Tbt1:FuncId→Option HF
  | 45=>some h45
  | 51=>some h51
  | 55=>some h55
  | 56=>some h56
  | 57=>some h57
  | 58=>some h58
  | 59=>some h59
  | 60=>some h60
  | 61=>some h61
  | 62=>some h62
  | 63=>some h63
  | 64=>some h64
  | 65=>some h65
  | 66=>some h66
  | 67=>some h67
  | 68=>some h68
  | 69=>some h69
  | 70=>some h70
  | 72=>some h72
  | 73=>some h73
  | 74=>some h74
  | 75=>some h75
  | 76=>some h76
  | 77=>some h77
  | _=>none
theorem Tbt1_ok (f:FuncId) (h:HF) (hf:Tbt1 f=some h):okF Tryz.prog f=true∧∃ fn,Tryz.prog.funcs[f]?=some fn∧fn.ntmps=h.nt∧fn.body.bind (compileC Tryz.prog)=some h.code.er∧fn.results.toList.mapM (retOf Tryz.prog)=some h.rs:=by
  unfold Tbt1 at hf
  split at hf
  · exact tk hf (by kernel_rfl) Tryz.func45 Tryz.ntmps45 h45_ok r45_ok
  · exact tk hf (by kernel_rfl) Tryz.func51 Tryz.ntmps51 h51_ok r51_ok
  · exact tk hf (by kernel_rfl) Tryz.func55 Tryz.ntmps55 h55_ok r55_ok
  · exact tk hf (by kernel_rfl) Tryz.func56 Tryz.ntmps56 h56_ok r56_ok
  · exact tk hf (by kernel_rfl) Tryz.func57 Tryz.ntmps57 h57_ok r57_ok
  · exact tk hf (by kernel_rfl) Tryz.func58 Tryz.ntmps58 h58_ok r58_ok
  · exact tk hf (by kernel_rfl) Tryz.func59 Tryz.ntmps59 h59_ok r59_ok
  · exact tk hf (by kernel_rfl) Tryz.func60 Tryz.ntmps60 h60_ok r60_ok
  · exact tk hf (by kernel_rfl) Tryz.func61 Tryz.ntmps61 h61_ok r61_ok
  · exact tk hf (by kernel_rfl) Tryz.func62 Tryz.ntmps62 h62_ok r62_ok
  · exact tk hf (by kernel_rfl) Tryz.func63 Tryz.ntmps63 h63_ok r63_ok
  · exact tk hf (by kernel_rfl) Tryz.func64 Tryz.ntmps64 h64_ok r64_ok
  · exact tk hf (by kernel_rfl) Tryz.func65 Tryz.ntmps65 h65_ok r65_ok
  · exact tk hf (by kernel_rfl) Tryz.func66 Tryz.ntmps66 h66_ok r66_ok
  · exact tk hf (by kernel_rfl) Tryz.func67 Tryz.ntmps67 h67_ok r67_ok
  · exact tk hf (by kernel_rfl) Tryz.func68 Tryz.ntmps68 h68_ok r68_ok
  · exact tk hf (by kernel_rfl) Tryz.func69 Tryz.ntmps69 h69_ok r69_ok
  · exact tk hf (by kernel_rfl) Tryz.func70 Tryz.ntmps70 h70_ok r70_ok
  · exact tk hf (by kernel_rfl) Tryz.func72 Tryz.ntmps72 h72_ok r72_ok
  · exact tk hf (by kernel_rfl) Tryz.func73 Tryz.ntmps73 h73_ok r73_ok
  · exact tk hf (by kernel_rfl) Tryz.func74 Tryz.ntmps74 h74_ok r74_ok
  · exact tk hf (by kernel_rfl) Tryz.func75 Tryz.ntmps75 h75_ok r75_ok
  · exact tk hf (by kernel_rfl) Tryz.func76 Tryz.ntmps76 h76_ok r76_ok
  · exact tk hf (by kernel_rfl) Tryz.func77 Tryz.ntmps77 h77_ok r77_ok
  · cases hf
def Tbt2:FuncId→Option HF
  | 79=>some h79
  | 80=>some h80
  | 83=>some h83
  | 84=>some h84
  | 85=>some h85
  | 86=>some h86
  | 87=>some h87
  | 88=>some h88
  | 89=>some h89
  | 90=>some h90
  | 91=>some h91
  | 92=>some h92
  | 93=>some h93
  | 94=>some h94
  | 95=>some h95
  | 99=>some h99
  | 102=>some h102
  | 103=>some h103
  | 112=>some h112
  | 116=>some h116
  | 117=>some h117
  | 118=>some h118
  | 119=>some h119
  | 120=>some h120
  | _=>none
theorem Tbt2_ok (f:FuncId) (h:HF) (hf:Tbt2 f=some h):okF Tryz.prog f=true∧∃ fn,Tryz.prog.funcs[f]?=some fn∧fn.ntmps=h.nt∧fn.body.bind (compileC Tryz.prog)=some h.code.er∧fn.results.toList.mapM (retOf Tryz.prog)=some h.rs:=by
  unfold Tbt2 at hf
  split at hf
  · exact tk hf (by kernel_rfl) Tryz.func79 Tryz.ntmps79 h79_ok r79_ok
  · exact tk hf (by kernel_rfl) Tryz.func80 Tryz.ntmps80 h80_ok r80_ok
  · exact tk hf (by kernel_rfl) Tryz.func83 Tryz.ntmps83 h83_ok r83_ok
  · exact tk hf (by kernel_rfl) Tryz.func84 Tryz.ntmps84 h84_ok r84_ok
  · exact tk hf (by kernel_rfl) Tryz.func85 Tryz.ntmps85 h85_ok r85_ok
  · exact tk hf (by kernel_rfl) Tryz.func86 Tryz.ntmps86 h86_ok r86_ok
  · exact tk hf (by kernel_rfl) Tryz.func87 Tryz.ntmps87 h87_ok r87_ok
  · exact tk hf (by kernel_rfl) Tryz.func88 Tryz.ntmps88 h88_ok r88_ok
  · exact tk hf (by kernel_rfl) Tryz.func89 Tryz.ntmps89 h89_ok r89_ok
  · exact tk hf (by kernel_rfl) Tryz.func90 Tryz.ntmps90 h90_ok r90_ok
  · exact tk hf (by kernel_rfl) Tryz.func91 Tryz.ntmps91 h91_ok r91_ok
  · exact tk hf (by kernel_rfl) Tryz.func92 Tryz.ntmps92 h92_ok r92_ok
  · exact tk hf (by kernel_rfl) Tryz.func93 Tryz.ntmps93 h93_ok r93_ok
  · exact tk hf (by kernel_rfl) Tryz.func94 Tryz.ntmps94 h94_ok r94_ok
  · exact tk hf (by kernel_rfl) Tryz.func95 Tryz.ntmps95 h95_ok r95_ok
  · exact tk hf (by kernel_rfl) Tryz.func99 Tryz.ntmps99 h99_ok r99_ok
  · exact tk hf (by kernel_rfl) Tryz.func102 Tryz.ntmps102 h102_ok r102_ok
  · exact tk hf (by kernel_rfl) Tryz.func103 Tryz.ntmps103 h103_ok r103_ok
  · exact tk hf (by kernel_rfl) Tryz.func112 Tryz.ntmps112 h112_ok r112_ok
  · exact tk hf (by kernel_rfl) Tryz.func116 Tryz.ntmps116 h116_ok r116_ok
  · exact tk hf (by kernel_rfl) Tryz.func117 Tryz.ntmps117 h117_ok r117_ok
  · exact tk hf (by kernel_rfl) Tryz.func118 Tryz.ntmps118 h118_ok r118_ok
  · exact tk hf (by kernel_rfl) Tryz.func119 Tryz.ntmps119 h119_ok r119_ok
  · exact tk hf (by kernel_rfl) Tryz.func120 Tryz.ntmps120 h120_ok r120_ok
  · cases hf
def Tbt3:FuncId→Option HF
  | 121=>some h121
  | 122=>some h122
  | 123=>some h123
  | 124=>some h124
  | 125=>some h125
  | 126=>some h126
  | 127=>some h127
  | 128=>some h128
  | 129=>some h129
  | 130=>some h130
  | 131=>some h131
  | 133=>some h133
  | 135=>some h135
  | 136=>some h136
  | 137=>some h137
  | 138=>some h138
  | 139=>some h139
  | 140=>some h140
  | 141=>some h141
  | 142=>some h142
  | 145=>some h145
  | 146=>some h146
  | 147=>some h147
  | 149=>some h149
  | _=>none
theorem Tbt3_ok (f:FuncId) (h:HF) (hf:Tbt3 f=some h):okF Tryz.prog f=true∧∃ fn,Tryz.prog.funcs[f]?=some fn∧fn.ntmps=h.nt∧fn.body.bind (compileC Tryz.prog)=some h.code.er∧fn.results.toList.mapM (retOf Tryz.prog)=some h.rs:=by
  unfold Tbt3 at hf
  split at hf
  · exact tk hf (by kernel_rfl) Tryz.func121 Tryz.ntmps121 h121_ok r121_ok
  · exact tk hf (by kernel_rfl) Tryz.func122 Tryz.ntmps122 h122_ok r122_ok
  · exact tk hf (by kernel_rfl) Tryz.func123 Tryz.ntmps123 h123_ok r123_ok
  · exact tk hf (by kernel_rfl) Tryz.func124 Tryz.ntmps124 h124_ok r124_ok
  · exact tk hf (by kernel_rfl) Tryz.func125 Tryz.ntmps125 h125_ok r125_ok
  · exact tk hf (by kernel_rfl) Tryz.func126 Tryz.ntmps126 h126_ok r126_ok
  · exact tk hf (by kernel_rfl) Tryz.func127 Tryz.ntmps127 h127_ok r127_ok
  · exact tk hf (by kernel_rfl) Tryz.func128 Tryz.ntmps128 h128_ok r128_ok
  · exact tk hf (by kernel_rfl) Tryz.func129 Tryz.ntmps129 h129_ok r129_ok
  · exact tk hf (by kernel_rfl) Tryz.func130 Tryz.ntmps130 h130_ok r130_ok
  · exact tk hf (by kernel_rfl) Tryz.func131 Tryz.ntmps131 h131_ok r131_ok
  · exact tk hf (by kernel_rfl) Tryz.func133 Tryz.ntmps133 h133_ok r133_ok
  · exact tk hf (by kernel_rfl) Tryz.func135 Tryz.ntmps135 h135_ok r135_ok
  · exact tk hf (by kernel_rfl) Tryz.func136 Tryz.ntmps136 h136_ok r136_ok
  · exact tk hf (by kernel_rfl) Tryz.func137 Tryz.ntmps137 h137_ok r137_ok
  · exact tk hf (by kernel_rfl) Tryz.func138 Tryz.ntmps138 h138_ok r138_ok
  · exact tk hf (by kernel_rfl) Tryz.func139 Tryz.ntmps139 h139_ok r139_ok
  · exact tk hf (by kernel_rfl) Tryz.func140 Tryz.ntmps140 h140_ok r140_ok
  · exact tk hf (by kernel_rfl) Tryz.func141 Tryz.ntmps141 h141_ok r141_ok
  · exact tk hf (by kernel_rfl) Tryz.func142 Tryz.ntmps142 h142_ok r142_ok
  · exact tk hf (by kernel_rfl) Tryz.func145 Tryz.ntmps145 h145_ok r145_ok
  · exact tk hf (by kernel_rfl) Tryz.func146 Tryz.ntmps146 h146_ok r146_ok
  · exact tk hf (by kernel_rfl) Tryz.func147 Tryz.ntmps147 h147_ok r147_ok
  · exact tk hf (by kernel_rfl) Tryz.func149 Tryz.ntmps149 h149_ok r149_ok
  · cases hf
def Tbt4:FuncId→Option HF
  | 154=>some h154
  | 155=>some h155
  | 156=>some h156
  | 157=>some h157
  | 158=>some h158
  | 163=>some h163
  | 166=>some h166
  | 167=>some h167
  | 168=>some h168
  | 169=>some h169
  | 170=>some h170
  | 171=>some h171
  | 173=>some h173
  | 174=>some h174
  | 175=>some h175
  | 176=>some h176
  | 177=>some h177
  | 178=>some h178
  | 179=>some h179
  | 182=>some h182
  | 183=>some h183
  | 190=>some h190
  | 191=>some h191
  | 198=>some h198
  | _=>none
theorem Tbt4_ok (f:FuncId) (h:HF) (hf:Tbt4 f=some h):okF Tryz.prog f=true∧∃ fn,Tryz.prog.funcs[f]?=some fn∧fn.ntmps=h.nt∧fn.body.bind (compileC Tryz.prog)=some h.code.er∧fn.results.toList.mapM (retOf Tryz.prog)=some h.rs:=by
  unfold Tbt4 at hf
  split at hf
  · exact tk hf (by kernel_rfl) Tryz.func154 Tryz.ntmps154 h154_ok r154_ok
  · exact tk hf (by kernel_rfl) Tryz.func155 Tryz.ntmps155 h155_ok r155_ok
  · exact tk hf (by kernel_rfl) Tryz.func156 Tryz.ntmps156 h156_ok r156_ok
  · exact tk hf (by kernel_rfl) Tryz.func157 Tryz.ntmps157 h157_ok r157_ok
  · exact tk hf (by kernel_rfl) Tryz.func158 Tryz.ntmps158 h158_ok r158_ok
  · exact tk hf (by kernel_rfl) Tryz.func163 Tryz.ntmps163 h163_ok r163_ok
  · exact tk hf (by kernel_rfl) Tryz.func166 Tryz.ntmps166 h166_ok r166_ok
  · exact tk hf (by kernel_rfl) Tryz.func167 Tryz.ntmps167 h167_ok r167_ok
  · exact tk hf (by kernel_rfl) Tryz.func168 Tryz.ntmps168 h168_ok r168_ok
  · exact tk hf (by kernel_rfl) Tryz.func169 Tryz.ntmps169 h169_ok r169_ok
  · exact tk hf (by kernel_rfl) Tryz.func170 Tryz.ntmps170 h170_ok r170_ok
  · exact tk hf (by kernel_rfl) Tryz.func171 Tryz.ntmps171 h171_ok r171_ok
  · exact tk hf (by kernel_rfl) Tryz.func173 Tryz.ntmps173 h173_ok r173_ok
  · exact tk hf (by kernel_rfl) Tryz.func174 Tryz.ntmps174 h174_ok r174_ok
  · exact tk hf (by kernel_rfl) Tryz.func175 Tryz.ntmps175 h175_ok r175_ok
  · exact tk hf (by kernel_rfl) Tryz.func176 Tryz.ntmps176 h176_ok r176_ok
  · exact tk hf (by kernel_rfl) Tryz.func177 Tryz.ntmps177 h177_ok r177_ok
  · exact tk hf (by kernel_rfl) Tryz.func178 Tryz.ntmps178 h178_ok r178_ok
  · exact tk hf (by kernel_rfl) Tryz.func179 Tryz.ntmps179 h179_ok r179_ok
  · exact tk hf (by kernel_rfl) Tryz.func182 Tryz.ntmps182 h182_ok r182_ok
  · exact tk hf (by kernel_rfl) Tryz.func183 Tryz.ntmps183 h183_ok r183_ok
  · exact tk hf (by kernel_rfl) Tryz.func190 Tryz.ntmps190 h190_ok r190_ok
  · exact tk hf (by kernel_rfl) Tryz.func191 Tryz.ntmps191 h191_ok r191_ok
  · exact tk hf (by kernel_rfl) Tryz.func198 Tryz.ntmps198 h198_ok r198_ok
  · cases hf
def Tbt5:FuncId→Option HF
  | 202=>some h202
  | 203=>some h203
  | 204=>some h204
  | 205=>some h205
  | 206=>some h206
  | 207=>some h207
  | 208=>some h208
  | 209=>some h209
  | 210=>some h210
  | 211=>some h211
  | 212=>some h212
  | 213=>some h213
  | 214=>some h214
  | 215=>some h215
  | 225=>some h225
  | 226=>some h226
  | 227=>some h227
  | 228=>some h228
  | 236=>some h236
  | 237=>some h237
  | 238=>some h238
  | 239=>some h239
  | 249=>some h249
  | 250=>some h250
  | _=>none
theorem Tbt5_ok (f:FuncId) (h:HF) (hf:Tbt5 f=some h):okF Tryz.prog f=true∧∃ fn,Tryz.prog.funcs[f]?=some fn∧fn.ntmps=h.nt∧fn.body.bind (compileC Tryz.prog)=some h.code.er∧fn.results.toList.mapM (retOf Tryz.prog)=some h.rs:=by
  unfold Tbt5 at hf
  split at hf
  · exact tk hf (by kernel_rfl) Tryz.func202 Tryz.ntmps202 h202_ok r202_ok
  · exact tk hf (by kernel_rfl) Tryz.func203 Tryz.ntmps203 h203_ok r203_ok
  · exact tk hf (by kernel_rfl) Tryz.func204 Tryz.ntmps204 h204_ok r204_ok
  · exact tk hf (by kernel_rfl) Tryz.func205 Tryz.ntmps205 h205_ok r205_ok
  · exact tk hf (by kernel_rfl) Tryz.func206 Tryz.ntmps206 h206_ok r206_ok
  · exact tk hf (by kernel_rfl) Tryz.func207 Tryz.ntmps207 h207_ok r207_ok
  · exact tk hf (by kernel_rfl) Tryz.func208 Tryz.ntmps208 h208_ok r208_ok
  · exact tk hf (by kernel_rfl) Tryz.func209 Tryz.ntmps209 h209_ok r209_ok
  · exact tk hf (by kernel_rfl) Tryz.func210 Tryz.ntmps210 h210_ok r210_ok
  · exact tk hf (by kernel_rfl) Tryz.func211 Tryz.ntmps211 h211_ok r211_ok
  · exact tk hf (by kernel_rfl) Tryz.func212 Tryz.ntmps212 h212_ok r212_ok
  · exact tk hf (by kernel_rfl) Tryz.func213 Tryz.ntmps213 h213_ok r213_ok
  · exact tk hf (by kernel_rfl) Tryz.func214 Tryz.ntmps214 h214_ok r214_ok
  · exact tk hf (by kernel_rfl) Tryz.func215 Tryz.ntmps215 h215_ok r215_ok
  · exact tk hf (by kernel_rfl) Tryz.func225 Tryz.ntmps225 h225_ok r225_ok
  · exact tk hf (by kernel_rfl) Tryz.func226 Tryz.ntmps226 h226_ok r226_ok
  · exact tk hf (by kernel_rfl) Tryz.func227 Tryz.ntmps227 h227_ok r227_ok
  · exact tk hf (by kernel_rfl) Tryz.func228 Tryz.ntmps228 h228_ok r228_ok
  · exact tk hf (by kernel_rfl) Tryz.func236 Tryz.ntmps236 h236_ok r236_ok
  · exact tk hf (by kernel_rfl) Tryz.func237 Tryz.ntmps237 h237_ok r237_ok
  · exact tk hf (by kernel_rfl) Tryz.func238 Tryz.ntmps238 h238_ok r238_ok
  · exact tk hf (by kernel_rfl) Tryz.func239 Tryz.ntmps239 h239_ok r239_ok
  · exact tk hf (by kernel_rfl) Tryz.func249 Tryz.ntmps249 h249_ok r249_ok
  · exact tk hf (by kernel_rfl) Tryz.func250 Tryz.ntmps250 h250_ok r250_ok
  · cases hf
def Tbt6:FuncId→Option HF
  | 251=>some h251
  | 252=>some h252
  | 258=>some h258
  | 263=>some h263
  | 264=>some h264
  | 265=>some h265
  | 266=>some h266
  | 272=>some h272
  | 273=>some h273
  | 274=>some h274
  | 275=>some h275
  | 278=>some h278
  | 279=>some h279
  | 282=>some h282
  | _=>none
theorem Tbt6_ok (f:FuncId) (h:HF) (hf:Tbt6 f=some h):okF Tryz.prog f=true∧∃ fn,Tryz.prog.funcs[f]?=some fn∧fn.ntmps=h.nt∧fn.body.bind (compileC Tryz.prog)=some h.code.er∧fn.results.toList.mapM (retOf Tryz.prog)=some h.rs:=by
  unfold Tbt6 at hf
  split at hf
  · exact tk hf (by kernel_rfl) Tryz.func251 Tryz.ntmps251 h251_ok r251_ok
  · exact tk hf (by kernel_rfl) Tryz.func252 Tryz.ntmps252 h252_ok r252_ok
  · exact tk hf (by kernel_rfl) Tryz.func258 Tryz.ntmps258 h258_ok r258_ok
  · exact tk hf (by kernel_rfl) Tryz.func263 Tryz.ntmps263 h263_ok r263_ok
  · exact tk hf (by kernel_rfl) Tryz.func264 Tryz.ntmps264 h264_ok r264_ok
  · exact tk hf (by kernel_rfl) Tryz.func265 Tryz.ntmps265 h265_ok r265_ok
  · exact tk hf (by kernel_rfl) Tryz.func266 Tryz.ntmps266 h266_ok r266_ok
  · exact tk hf (by kernel_rfl) Tryz.func272 Tryz.ntmps272 h272_ok r272_ok
  · exact tk hf (by kernel_rfl) Tryz.func273 Tryz.ntmps273 h273_ok r273_ok
  · exact tk hf (by kernel_rfl) Tryz.func274 Tryz.ntmps274 h274_ok r274_ok
  · exact tk hf (by kernel_rfl) Tryz.func275 Tryz.ntmps275 h275_ok r275_ok
  · exact tk hf (by kernel_rfl) Tryz.func278 Tryz.ntmps278 h278_ok r278_ok
  · exact tk hf (by kernel_rfl) Tryz.func279 Tryz.ntmps279 h279_ok r279_ok
  · exact tk hf (by kernel_rfl) Tryz.func282 Tryz.ntmps282 h282_ok r282_ok
  · cases hf
def Tbt:FuncId→Option HF:=fun f=>if f < 42 then Tbt0 f else if f < 78 then Tbt1 f else if f < 121 then Tbt2 f else if f < 150 then Tbt3 f else if f < 199 then Tbt4 f else if f < 251 then Tbt5 f else Tbt6 f
def Tb (B:CallT):HT:=⟨Tbt,B⟩
theorem Tb_ok (B:CallT):HTOK Tryz.prog (Tb B):=by
  intro f h hf
  change Tbt f=some h at hf
  unfold Tbt at hf
  split at hf
  · exact Tbt0_ok f h hf
  split at hf
  · exact Tbt1_ok f h hf
  split at hf
  · exact Tbt2_ok f h hf
  split at hf
  · exact Tbt3_ok f h hf
  split at hf
  · exact Tbt4_ok f h hf
  split at hf
  · exact Tbt5_ok f h hf
  exact Tbt6_ok f h hf
end Go.Proofs.YtcplecjhmnblpaaGreatDoor
