/- The functions of the translation as codes with hints: printed by a program, held by the kernel against the translation. Conditions: none. -/
import Derived.Test.YtcplecjhmnblpaaGreatDoorNd
import Derived.Test.YtcplecjhmnblpaaGreatDoorChecked
import Derived.KernelRfl
namespace Go.Proofs.YtcplecjhmnblpaaGreatDoor
abbrev nR:List Value:=[Zi 0,(.string ⟨#[]⟩),Zi 0,Zi 0,(.bool false),(.string ⟨#[]⟩),Zi 0,(.slice none 0 0),Zi 0,Zi 0,Zi 0]
abbrev Dm:List Value:=[Zi 0,Zi 0,Zi 0,Zi 0,Zi 0,Zi 0,Zi 0,(.slice none 0 0)]
abbrev Ew:List Value:=[Zi 0,Zi 0,Zi 0,Zi 0,Zi 0,Zi 0,Zi 0,(.slice none 0 0),Zi 0]
abbrev L8:List Value:=[(.int .u8 0)]
abbrev qZ4:List Value:=[(.string ⟨#[]⟩)]
abbrev qZ5:List Value:=[Zi 0,Zi 0,Zi 0,Zi 0,Zi 0,Zi 0,Zi 0,Zi 0]
abbrev sR(l:List aY)(b:HC):HC:=.seq (.region l) b
abbrev gM(g:Nat)(b:Bool)(d x:Nat):aY:=Og g b d (.mov (.t x))
abbrev oJ(d f x:Nat):aY:=Oo d (.call f [.t x])
abbrev kC(d f x y:Nat):aY:=Oo d (.call f [.t x,.t y])
abbrev oA(d o x:Nat):aY:=Oo d (.addo o (.t x))
abbrev oL(d x:Nat):aY:=Oo d (.load false 1 (.t x))
abbrev oG(d n x:Nat):aY:=Oo d (.load true n (.t x))
abbrev oM(d x:Nat):aY:=Oo d (.mov (.t x))
abbrev oK(d:Nat)(n:Int):aY:=Oo d (.mov (Ki n))
abbrev oE(d x n:Nat):aY:=Oo d (.ext (.t x) n)
abbrev oS(n x y:Nat):aY:=On (.store n (.t x) (.t y))
abbrev oI(d z x i:Nat):aY:=Oo d (.ixL z (.t x) (.t i))
abbrev oB(d:Nat)(b:BinOp)(x:Nat)(n:Int):aY:=Oo d (.bin b (.t x) (Ki n))
abbrev oC(d:Nat)(b:BinOp)(x y:Nat):aY:=Oo d (.bin b (.t x) (.t y))
abbrev oN(d x:Nat):aY:=Oo d (.lenL (.t x))
abbrev CK(f:Func)(h:HC):Prop:=f.body.bind (bF Tryz.prog)=some h.er
abbrev RK(f:Func)(r:List kQ):Prop:=f.results.toList.mapM (gD Tryz.prog)=some r
theorem tk{f:FuncId}{h k:HF}{fn:Func}(hf:some k=some h)(h0:Dq Tryz.prog f=true)(h1:Tryz.prog.funcs[f]?=some fn)(h2:fn.ntmps=k.nt)(h3:CK fn k.code)(h4:RK fn k.rs):Dq Tryz.prog f=true/\∃ fn,Tryz.prog.funcs[f]?=some fn/\fn.ntmps=h.nt/\fn.body.bind (bF Tryz.prog)=some h.code.er/\fn.results.toList.mapM (gD Tryz.prog)=some h.rs:=by
  cases hf;exact⟨h0,fn,h1,h2,h3,h4⟩
def h6c:HC:=
 (sR [Oo 2 (.box (.t 0)),Oo 4 (.mov (.k (.bool false)))]
 (.seq (sR [Oo 13 (.call 11 []),Oo 14 (.un .not (.t 13))]
 (.cond (.t 14) (sR [Oo 4 (.mov (.k (.bool false)))]
 .ret)
 .skip))
 (.seq (sR [oM 15 1,Oo 16 (.lenS (.t 15)),oB 17 .gtr 16 600]
 (.cond (.t 17) (sR [Oo 4 (.mov (.k (.bool true)))]
 .ret)
 .skip))
 (.seq (sR [oM 19 1,oJ 20 40 19,oM 18 20,oE 21 18 0,oE 22 18 1,Oo 5 (.alloc Ew),oS 9 5 21,oM 6 22]
 (sR [oM 23 6,oB 24 .eql 23 0]
 (.cond (.t 24) (sR [oG 26 9 5,oJ 27 41 26,oM 25 27,oE 28 25 0,oE 29 25 1,oM 7 28,oM 8 29]
 (sR [oM 30 8,oB 31 .neq 30 0,oM 32 31,gM 32 false 33 7,gM 32 false 34 1,Og 32 false 35 (.bin .neq (.t 33) (.t 34)),Oo 36 (.pick (.t 32) (.k (.bool true)) (.t 35))]
 (.cond (.t 36) (sR [Oo 4 (.mov (.k (.bool false)))]
 .ret)
 .skip)))
 .skip)))
 (.seq (sR [oA 37 0 2,oG 38 8 37,oJ 39 12 38,Oo 40 (.un .not (.t 39)),oM 41 40,Og 41 false 42 (.addo 0 (.t 2)),Og 41 false 43 (.load true 8 (.t 42)),Og 41 false 44 (.call 29 [(.t 43)]),Og 41 false 45 (.bin .neq (.t 44) (Ki 0)),Oo 46 (.pick (.t 41) (.k (.bool true)) (.t 45)),oM 47 46,Og 47 false 48 (.addo 8 (.t 2)),Og 47 false 49 (.load false 1 (.t 48)),Og 47 false 50 (.call 19 [(.t 49),(Ki 1),(Ki 65535)]),Og 47 false 51 (.un .not (.t 50)),Oo 52 (.pick (.t 47) (.k (.bool true)) (.t 51))]
 (.cond (.t 52) (sR [Oo 4 (.mov (.k (.bool true)))]
 .ret)
 .skip))
 (.seq (.drawn [Qo (oA 54 0 2),Qo (oG 55 8 54),Qo (oJ 56 14 55),Qo (oA 57 8 2),Qo (oL 58 57),Qo (Oo 59 (.build Ew [(0,8,(.t 56)),(8,1,(.t 58))])),Qe (oJ 60 41 59),Qo (oM 53 60),Qo (oE 61 53 0),Qo (oE 62 53 1),Qo (oM 9 61),Qo (oM 10 62)])
 (sR [oM 64 9,oJ 65 40 64,oM 63 65,oE 66 63 0,oE 67 63 1,Oo 11 (.alloc Ew),oS 9 11 66,oM 12 67]
 (sR [oM 68 10,oB 69 .eql 68 0,oM 70 69,gM 70 true 71 12,Og 70 true 72 (.bin .eql (.t 71) (Ki 0)),Oo 73 (.pick (.t 70) (.t 72) (.k (.bool false))),oM 74 73,Og 74 true 75 (.addo 0 (.t 11)),Og 74 true 76 (.load true 8 (.t 75)),Og 74 true 77 (.addo 0 (.t 2)),Og 74 true 78 (.load true 8 (.t 77)),Og 74 true 79 (.call 39 [(.t 76),(.t 78)]),Oo 80 (.pick (.t 74) (.t 79) (.k (.bool false))),oM 81 80,Og 81 true 82 (.addo 8 (.t 11)),Og 81 true 83 (.load false 1 (.t 82)),Og 81 true 84 (.addo 8 (.t 2)),Og 81 true 85 (.load false 1 (.t 84)),Og 81 true 86 (.bin .eql (.t 83) (.t 85)),Oo 87 (.pick (.t 81) (.t 86) (.k (.bool false))),oM 4 87]
 .ret))))))))
abbrev h6:HF:=⟨h6c,[.tmp 4],88,false⟩
def h9c:HC:=
 (sR [Oo 2 (.box (.t 0)),Oo 4 (.mov (.k (.bool false)))]
 (.seq (sR [Oo 14 (.call 11 []),Oo 15 (.un .not (.t 14))]
 (.cond (.t 15) (sR [Oo 4 (.mov (.k (.bool false)))]
 .ret)
 .skip))
 (.seq (sR [oA 16 0 2,oG 17 8 16,oJ 18 12 17,Oo 19 (.un .not (.t 18)),oM 20 19,gM 20 false 21 1,Og 20 false 22 (.lenS (.t 21)),Og 20 false 23 (.bin .gtr (.t 22) (Ki 600)),Oo 24 (.pick (.t 20) (.k (.bool true)) (.t 23))]
 (.cond (.t 24) (sR [Oo 4 (.mov (.k (.bool true)))]
 .ret)
 .skip))
 (.seq (.drawn [Qo (oA 26 0 2),Qo (oG 27 8 26),Qo (oJ 28 14 27),Qo (oA 29 8 2),Qo (oL 30 29),Qo (Oo 31 (.build Ew [(0,8,(.t 28)),(8,1,(.t 30))])),Qe (oJ 32 41 31),Qo (oM 25 32),Qo (oE 33 25 0),Qo (oE 34 25 1),Qo (oM 5 33),Qo (oM 6 34)])
 (sR [oM 36 1,oJ 37 40 36,oM 35 37,oE 38 35 0,oE 39 35 1,Oo 7 (.alloc Ew),oS 9 7 38,oM 8 39]
 (sR [oM 41 1,oJ 42 47 41,oM 40 42,oE 43 40 0,oE 44 40 1,oM 9 43,oM 10 44]
 (sR [oM 46 1,oJ 47 48 46,oM 45 47,oE 48 45 0,oE 49 45 1,Oo 11 (.alloc Ew),oS 9 11 48,oM 12 49]
 (.seq (sR [oG 50 9 7,oM 51 8,oG 52 9 11,oM 53 12,Oo 54 (.call 49 [(.t 50),(.t 51),(.t 52),(.t 53)]),Oo 55 (.un .not (.t 54))]
 (.cond (.t 55) (sR [Oo 4 (.mov (.k (.bool false)))]
 .ret)
 .skip))
 (.seq (sR [oM 56 1,Oo 57 (.lenS (.t 56)),oB 58 .neq 57 512]
 (.cond (.t 58) (sR [oM 59 10,oB 60 .neq 59 10,oM 61 60,gM 61 false 62 9,Og 61 false 63 (.bin .neq (.t 62) (.k (.string ⟨#[]⟩))),Oo 64 (.pick (.t 61) (.k (.bool true)) (.t 63))]
 (.cond (.t 64) (sR [Oo 4 (.mov (.k (.bool false)))]
 .ret)
 .skip))
 (sR [Oo 65 (.bslc 1 5 qZ4 [(0,(.k (.string ⟨#[70,73,76,69]⟩))),(1,(.k (.string ⟨#[73,78,68,88]⟩))),(2,(.k (.string ⟨#[82,67,82,68]⟩))),(3,(.k (.string ⟨#[82,83,84,82]⟩))),(4,(.k (.string ⟨#[66,65,65,68]⟩)))]),oM 66 1,Oo 67 (.slS (.t 66) none (some (Ki 4))),kC 68 50 65 67]
 (.cond (.t 68) (sR [oM 69 10,oB 70 .neq 69 0,oM 71 70,gM 71 false 72 9,gM 71 false 73 1,Og 71 false 74 (.slS (.t 73) none (some (Ki 4))),Og 71 false 75 (.bin .neq (.t 72) (.t 74)),Oo 76 (.pick (.t 71) (.k (.bool true)) (.t 75))]
 (.cond (.t 76) (sR [Oo 4 (.mov (.k (.bool false)))]
 .ret)
 .skip))
 (sR [oM 77 10,oB 78 .neq 77 15,oM 79 78,gM 79 false 80 9,Og 79 false 81 (.bin .neq (.t 80) (.k (.string ⟨#[]⟩))),Oo 82 (.pick (.t 79) (.k (.bool true)) (.t 81))]
 (.cond (.t 82) (sR [Oo 4 (.mov (.k (.bool false)))]
 .ret)
 .skip))))))
 (sR [oA 83 0 2,oG 84 8 83,oJ 85 29 84,oM 13 85]
 (.seq (sR [oM 86 13,oB 87 .eql 86 0,oM 88 87,Og 88 true 89 (.addo 8 (.t 2)),Og 88 true 90 (.load false 1 (.t 89)),Og 88 true 91 (.call 19 [(.t 90),(Ki 1),(Ki 65535)]),Og 88 true 92 (.un .not (.t 91)),Oo 93 (.pick (.t 88) (.t 92) (.k (.bool false)))]
 (.cond (.t 93) (.region [oK 13 2])
 .skip))
 (.seq (sR [oM 94 13,oB 95 .neq 94 0]
 (.cond (.t 95) (sR [oM 96 6,oM 97 13,oC 98 .eql 96 97,oM 99 98,gM 99 true 100 5,Og 99 true 101 (.bin .eql (.t 100) (.k (.string ⟨#[]⟩))),Oo 102 (.pick (.t 99) (.t 101) (.k (.bool false))),oM 4 102]
 .ret)
 .skip))
 (sR [oM 103 6,oB 104 .eql 103 0,oM 105 104,gM 105 true 106 5,Og 105 true 107 (.addo 0 (.t 2)),Og 105 true 108 (.load true 8 (.t 107)),Og 105 true 109 (.addo 8 (.t 2)),Og 105 true 110 (.load false 1 (.t 109)),Og 105 true 111 (.call 44 [(.t 108),(.t 110)]),Og 105 true 112 (.bin .eql (.t 106) (.t 111)),Oo 113 (.pick (.t 105) (.t 112) (.k (.bool false))),oM 4 113]
 .ret)))))))))))))
abbrev h9:HF:=⟨h9c,[.tmp 4],114,false⟩
def h11c:HC:=
 (sR [Oo 0 (.mov (.k (.bool false)))]
 (sR [Oo 12 (.build [Zi 0,Zi 0] []),Oo 13 (.call 16 [(Ki 3),(Ki 1),(.t 12)]),oM 11 13,oE 14 11 0,oE 15 11 1,Oo 1 (.alloc Dm),oS 8 1 14,oM 2 15]
 (sR [oG 17 8 1,Oo 18 (.build nR [(0,1,(Ki 128)),(2,1,(Ki 2)),(4,1,(.k (.bool true))),(5,1,(.k (.string ⟨#[97,98,99]⟩)))]),kC 19 26 17 18,oM 16 19,oE 20 16 0,oE 21 16 1,Oo 3 (.alloc Dm),oS 8 3 20,oM 4 21]
 (sR [Oo 23 (.call 56 []),oJ 24 15 23,oM 22 24,oE 25 22 0,oE 26 22 1,oM 5 25,oM 6 26]
 (sR [Oo 28 (.call 56 []),Oo 29 (.build Ew [(0,8,(.t 28)),(8,1,(Ki 7))]),oJ 30 41 29,oM 27 30,oE 31 27 0,oE 32 27 1,oM 7 31,oM 8 32]
 (sR [Oo 34 (.call 56 []),oJ 35 17 34,oM 33 35,oE 36 33 0,oE 37 33 1,Oo 9 (.alloc Dm),oS 8 9 36,oM 10 37]
 (.seq (.drawn [Qo (oM 38 2),Qo (oB 39 .eql 38 0),Qo (oM 40 39),Qo (gM 40 true 41 4),Qo (Og 40 true 42 (.bin .eql (.t 41) (Ki 0))),Qo (Oo 43 (.pick (.t 40) (.t 42) (.k (.bool false)))),Qo (oM 44 43),Qo (Og 44 true 45 (.load true 8 (.t 3))),Qo (Og 44 true 46 (.call 56 [])),Qe (Og 44 true 47 (.call 39 [(.t 45),(.t 46)])),Qo (Oo 48 (.pick (.t 44) (.t 47) (.k (.bool false)))),Qo (oM 49 48),Qo (gM 49 true 50 6),Qo (Og 49 true 51 (.bin .eql (.t 50) (Ki 0))),Qo (Oo 52 (.pick (.t 49) (.t 51) (.k (.bool false)))),Qo (oM 53 52),Qo (gM 53 true 54 5),Qo (Og 53 true 55 (.bin .eql (.t 54) (Ki 408))),Qo (Oo 56 (.pick (.t 53) (.t 55) (.k (.bool false)))),Qo (oM 57 56),Qo (gM 57 true 58 8),Qo (Og 57 true 59 (.bin .eql (.t 58) (Ki 0))),Qo (Oo 60 (.pick (.t 57) (.t 59) (.k (.bool false)))),Qo (oM 61 60),Qo (gM 61 true 62 7),Qo (Og 61 true 63 (.lenS (.t 62))),Qo (Og 61 true 64 (.bin .eql (.t 63) (Ki 512))),Qo (Oo 65 (.pick (.t 61) (.t 64) (.k (.bool false)))),Qo (oM 66 65),Qo (gM 66 true 67 7),Qo (Og 66 true 68 (.slS (.t 67) (some (Ki 40)) (some (Ki 44)))),Qo (Og 66 true 69 (.bin .eql (.t 68) (.k (.string ⟨#[7,0,0,0]⟩)))),Qo (Oo 70 (.pick (.t 66) (.t 69) (.k (.bool false)))),Qo (oM 71 70),Qo (gM 71 true 72 7),Qo (Og 71 true 73 (.slS (.t 72) (some (Ki 62)) (some (Ki 64)))),Qo (Og 71 true 74 (.bin .eql (.t 73) (.k (.string ⟨#[7,0]⟩)))),Qo (Oo 75 (.pick (.t 71) (.t 74) (.k (.bool false)))),Qo (oM 76 75),Qo (gM 76 true 77 7),Qe (Og 76 true 78 (.call 57 [(.t 77),(Ki 24),(Ki 4)])),Qo (Og 76 true 79 (.bin .eql (.t 78) (Ki 100))),Qo (Oo 80 (.pick (.t 76) (.t 79) (.k (.bool false)))),Qo (oM 81 80),Qo (gM 81 true 82 10),Qo (Og 81 true 83 (.bin .eql (.t 82) (Ki 0))),Qo (Oo 84 (.pick (.t 81) (.t 83) (.k (.bool false)))),Qo (oM 85 84),Qo (Og 85 true 86 (.addo 0 (.t 9))),Qo (Og 85 true 87 (.load false 1 (.t 86))),Qo (Og 85 true 88 (.bin .eql (.t 87) (Ki 4))),Qo (Oo 89 (.pick (.t 85) (.t 88) (.k (.bool false)))),Qo (oM 90 89),Qo (Og 90 true 91 (.build [Zi 0,Zi 0] [(0,1,(Ki 17)),(1,1,(Ki 2))])),Qe (Og 90 true 92 (.call 51 [(.t 91)])),Qo (Og 90 true 93 (.bin .eql (.t 92) (.k (.string ⟨#[49,55,35,50]⟩)))),Qo (Oo 94 (.pick (.t 90) (.t 93) (.k (.bool false)))),Qo (oM 0 94)])
 .ret)))))))
abbrev h11:HF:=⟨h11c,[.tmp 0],95,false⟩
theorem h11_ok:CK Tryz.f11 h11c:=by unfold CK;kernel_rfl
theorem aHM:RK Tryz.f11 [.tmp 0]:=by unfold RK;kernel_rfl
def h12l0:HC:=
 (.seq (sR [oM 4 3,oA 5 7 1,oL 6 5,oN 7 6,oC 8 .lss 4 7]
 (.cond (.t 8) .skip
 (.exit 0)))
 (.seq (.block 1 (sR [oA 11 7 1,oL 12 11,oM 13 3,oI 14 11 12 13,oG 15 11 14,oJ 16 25 15,Oo 17 (.un .not (.t 16))]
 (.cond (.t 17) (sR [Oo 2 (.mov (.k (.bool false)))]
 .ret)
 .skip)))
 (.region [oM 9 3,oB 10 .add 9 1,oM 3 10])))
def h12c:HC:=
 (sR [Oo 1 (.box (.t 0)),Oo 2 (.mov (.k (.bool false)))]
 (.seq (sR [oK 3 0]
 (.block 0 (.loop [1,1] h12l0)))
 (sR [oA 18 7 1,oL 19 18,oN 20 19,oB 21 .leq 20 40,oM 2 21]
 .ret)))
abbrev h12:HF:=⟨h12c,[.tmp 2],22,false⟩
def h13c:HC:=
 (sR [Oo 1 (.box (.t 0)),oK 2 0,oK 3 0]
 (sR [oA 10 0 1,oL 11 10,Oo 12 (.call 58 [(.t 11),(Ki 1),(Ki 65535)]),oM 13 12,Og 13 true 14 (.addo 1 (.t 1)),Og 13 true 15 (.load false 1 (.t 14)),Og 13 true 16 (.call 58 [(.t 15),(Ki 0),(Ki 65535)]),Oo 17 (.pick (.t 13) (.t 16) (.k (.bool false))),oM 18 17,Og 18 true 19 (.addo 2 (.t 1)),Og 18 true 20 (.load false 1 (.t 19)),Og 18 true 21 (.call 58 [(.t 20),(Ki 0),(Ki 3)]),Oo 22 (.pick (.t 18) (.t 21) (.k (.bool false))),oM 23 22,Og 23 true 24 (.addo 5 (.t 1)),Og 23 true 25 (.load false 1 (.t 24)),Og 23 true 26 (.call 58 [(.t 25),(Ki 0),(Ki 65535)]),Oo 27 (.pick (.t 23) (.t 26) (.k (.bool false))),oM 28 27,Og 28 true 29 (.addo 6 (.t 1)),Og 28 true 30 (.load false 1 (.t 29)),Og 28 true 31 (.call 58 [(.t 30),(Ki 0),(Ki 2147483647)]),Oo 32 (.pick (.t 28) (.t 31) (.k (.bool false))),oM 4 32]
 (.trm [1,2] (sR [oA 33 2 1,oL 34 33,oB 35 .eql 34 0,oM 36 35,Og 36 true 37 (.addo 7 (.t 1)),Og 36 true 38 (.load false 1 (.t 37)),Og 36 true 39 (.lenL (.t 38)),Og 36 true 40 (.bin .eql (.t 39) (Ki 0)),Oo 41 (.pick (.t 36) (.t 40) (.k (.bool false))),oM 42 41,Og 42 true 43 (.addo 1 (.t 1)),Og 42 true 44 (.load false 1 (.t 43)),Og 42 true 45 (.bin .eql (.t 44) (Ki 0)),Oo 46 (.pick (.t 42) (.t 45) (.k (.bool false))),oM 47 46,Og 47 true 48 (.addo 3 (.t 1)),Og 47 true 49 (.load true 2 (.t 48)),Og 47 true 50 (.build [Zi 0,Zi 0] []),Og 47 true 51 (.eqs false [.i,.i] (.t 49) (.t 50)),Oo 52 (.pick (.t 47) (.t 51) (.k (.bool false))),oM 53 52,Og 53 true 54 (.addo 5 (.t 1)),Og 53 true 55 (.load false 1 (.t 54)),Og 53 true 56 (.bin .eql (.t 55) (Ki 0)),Oo 57 (.pick (.t 53) (.t 56) (.k (.bool false))),oM 5 57]
 (.trm [1,2,0] (.seq (.seq (.drawn [Qo (oM 58 4),Qo (Oo 59 (.call 60 [(.t 58),(Ki 2)])),Qo (oA 60 3 1),Qo (oG 61 2 60),Qo (oJ 62 61 61),Qo (oG 63 8 1),Qe (oJ 64 62 63),Qo (oM 65 64),Qo (gM 65 false 66 5),Qo (Oo 67 (.pick (.t 65) (.k (.bool true)) (.t 66))),Qe (Oo 68 (.call 60 [(.t 67),(Ki 3)])),Qe (Oo 69 (.bslc 1 3 [Zi 0] [(0,(.t 59)),(1,(.t 62)),(2,(.t 68))])),Qe (oJ 70 59 69),Qo (oM 6 70)])
 (sR [oM 71 6,oB 72 .neq 71 0]
 (.cond (.t 72) (sR [oM 73 6,oK 2 0,oM 3 73]
 .ret)
 .skip)))
 (.seq (sR [oA 75 7 1,oL 76 75,oJ 77 63 76,oM 74 77,oE 78 74 0,oE 79 74 1,oM 7 78,oM 8 79]
 (sR [oM 80 8,oB 81 .neq 80 0]
 (.cond (.t 81) (sR [oM 82 7,oM 83 8,oM 2 82,oM 3 83]
 .ret)
 .skip)))
 (.seq (sR [oA 84 7 1,oL 85 84,Oo 86 (.mkfn 65 [(.t 1)]),kC 87 64 85 86,oM 9 87]
 (sR [oM 88 9,oB 89 .geq 88 0]
 (.cond (.t 89) (sR [oM 90 9,oM 2 90,oK 3 9]
 .ret)
 .skip)))
 (sR [oA 91 7 1,oL 92 91,oJ 93 66 92,oB 94 .leq 93 440,Oo 95 (.call 60 [(.t 94),(Ki 16)]),oK 2 0,oM 3 95]
 .ret)))))))))
abbrev h13:HF:=⟨h13c,[.tmp 2,.tmp 3],96,false⟩
def h14c:HC:=
 (sR [Oo 1 (.box (.t 0)),Oo 2 (.alloc Dm)]
 (sR [oA 3 7 1,oL 4 3,oJ 5 67 4,oA 6 7 1,oS 1 6 5]
 (sR [oG 7 8 1,oS 8 2 7]
 .ret)))
abbrev h14:HF:=⟨h14c,[.cell 2 true 8],8,false⟩
def h15c:HC:=
 (sR [Oo 1 (.box (.t 0)),oK 2 0,oK 3 0]
 (.seq (sR [oG 5 8 1,oJ 6 68 5,oM 4 6]
 (sR [oM 7 4,oB 8 .neq 7 0]
 (.cond (.t 8) (sR [oM 9 4,oK 2 0,oM 3 9]
 .ret)
 .skip)))
 (sR [oA 10 7 1,oL 11 10,oJ 12 66 11,Oo 13 (.bin .sub (Ki 440) (.t 12)),oM 2 13,oK 3 0]
 .ret)))
abbrev h15:HF:=⟨h15c,[.tmp 2,.tmp 3],14,false⟩
def h16c:HC:=
 (sR [Oo 5 (.box (.t 2)),Oo 6 (.alloc Dm),oK 7 0]
 (sR [oM 10 1,oB 11 .eql 10 1,oM 12 11,gM 12 false 13 1,Og 12 false 14 (.bin .eql (.t 13) (Ki 3)),Oo 15 (.pick (.t 12) (.k (.bool true)) (.t 14)),oM 8 15]
 (.seq (.seq (.drawn [Qo (oM 16 0),Qo (Oo 17 (.call 58 [(.t 16),(Ki 1),(Ki 65535)])),Qo (oM 18 17),Qo (gM 18 true 19 8),Qo (Oo 20 (.pick (.t 18) (.t 19) (.k (.bool false)))),Qo (Oo 21 (.call 60 [(.t 20),(Ki 2)])),Qo (oG 22 2 5),Qe (oJ 23 61 22),Qe (Oo 24 (.bslc 1 2 [Zi 0] [(0,(.t 21)),(1,(.t 23))])),Qe (oJ 25 59 24),Qo (oM 9 25)])
 (sR [oM 26 9,oB 27 .neq 26 0]
 (.cond (.t 27) (sR [Oo 28 (.build Dm []),oM 29 9,oS 8 6 28,oM 7 29]
 .ret)
 .skip)))
 (sR [oM 30 0,oM 31 1,oG 32 2 5,Oo 33 (.build Dm [(0,1,(.t 30)),(2,1,(.t 31)),(3,2,(.t 32))]),oS 8 6 33,oK 7 0]
 .ret))))
abbrev h16:HF:=⟨h16c,[.cell 6 true 8,.tmp 7],34,false⟩
def h17c:HC:=
 (sR [Oo 1 (.box (.t 0)),Oo 2 (.alloc Dm),oK 3 0]
 (.seq (.seq (.drawn [Qo (oG 5 8 1),Qo (oJ 6 68 5),Qo (oG 7 8 1),Qe (oJ 8 62 7),Qe (Oo 9 (.call 60 [(.t 8),(Ki 20)])),Qe (Oo 10 (.bslc 1 2 [Zi 0] [(0,(.t 6)),(1,(.t 9))])),Qe (oJ 11 59 10),Qo (oM 4 11)])
 (sR [oM 12 4,oB 13 .neq 12 0]
 (.cond (.t 13) (sR [Oo 14 (.build Dm []),oM 15 4,oS 8 2 14,oM 3 15]
 .ret)
 .skip)))
 (.seq (.drawn [Qo (oA 16 0 1),Qo (oL 17 16),Qo (Oo 18 (.call 69 [(.t 17),(Ki 65535)])),Qo (oA 19 6 1),Qo (oL 20 19),Qo (Oo 21 (.build Dm [(0,1,(.t 18)),(6,1,(.t 20))])),Qe (oS 8 2 21),Qo (oK 3 0)])
 .ret)))
abbrev h17:HF:=⟨h17c,[.cell 2 true 8,.tmp 3],22,false⟩
def h18l0:HC:=
 (.seq (sR [oM 82 7,oA 83 7 1,oL 84 83,oN 85 84,oC 86 .lss 82 85]
 (.cond (.t 86) .skip
 (.exit 0)))
 (.seq (.block 1 (.seq (.drawn [Qo (oA 89 7 1),Qo (oL 90 89),Qo (oM 91 7),Qo (oI 92 11 90 91),Qo (oA 93 2 92),Qo (oL 94 93),Qo (oA 95 5 1),Qo (oL 96 95),Qo (oC 97 .geq 94 96)])
 (.cond (.t 97) (sR [oM 98 7,oM 2 98,oK 3 9]
 .ret)
 .skip)))
 (.region [oM 87 7,oB 88 .add 87 1,oM 7 88])))
def h18c:HC:=
 (sR [Oo 1 (.box (.t 0)),oK 2 0,oK 3 0]
 (.seq (sR [oA 8 0 1,oL 9 8,Oo 10 (.call 19 [(.t 9),(Ki 1),(Ki 65535)]),Oo 11 (.un .not (.t 10)),oM 12 11,Og 12 false 13 (.addo 1 (.t 1)),Og 12 false 14 (.load false 1 (.t 13)),Og 12 false 15 (.call 19 [(.t 14),(Ki 0),(Ki 65535)]),Og 12 false 16 (.un .not (.t 15)),Oo 17 (.pick (.t 12) (.k (.bool true)) (.t 16)),oM 18 17,Og 18 false 19 (.addo 2 (.t 1)),Og 18 false 20 (.load false 1 (.t 19)),Og 18 false 21 (.call 19 [(.t 20),(Ki 0),(Ki 3)]),Og 18 false 22 (.un .not (.t 21)),Oo 23 (.pick (.t 18) (.k (.bool true)) (.t 22)),oM 24 23,Og 24 false 25 (.addo 5 (.t 1)),Og 24 false 26 (.load false 1 (.t 25)),Og 24 false 27 (.call 19 [(.t 26),(Ki 0),(Ki 65535)]),Og 24 false 28 (.un .not (.t 27)),Oo 29 (.pick (.t 24) (.k (.bool true)) (.t 28)),oM 30 29,Og 30 false 31 (.addo 6 (.t 1)),Og 30 false 32 (.load false 1 (.t 31)),Og 30 false 33 (.call 19 [(.t 32),(Ki 0),(Ki 2147483647)]),Og 30 false 34 (.un .not (.t 33)),Oo 35 (.pick (.t 30) (.k (.bool true)) (.t 34))]
 (.cond (.t 35) (sR [oK 2 0,oK 3 2]
 .ret)
 .skip))
 (.seq (sR [oA 36 3 1,oG 37 2 36,oJ 38 20 37,oM 4 38]
 (sR [oM 39 4,oB 40 .neq 39 0]
 (.cond (.t 40) (sR [oM 41 4,oK 2 0,oM 3 41]
 .ret)
 .skip)))
 (.seq (sR [oG 42 8 1,oJ 43 23 42,Oo 44 (.un .not (.t 43)),oM 45 44,Og 45 true 46 (.addo 7 (.t 1)),Og 45 true 47 (.load false 1 (.t 46)),Og 45 true 48 (.lenL (.t 47)),Og 45 true 49 (.bin .gtr (.t 48) (Ki 0)),gM 45 true 50 49,Og 50 false 51 (.addo 1 (.t 1)),Og 50 false 52 (.load false 1 (.t 51)),Og 50 false 53 (.bin .neq (.t 52) (Ki 0)),Og 45 true 54 (.pick (.t 50) (.k (.bool true)) (.t 53)),gM 45 true 55 54,Og 55 false 56 (.addo 3 (.t 1)),Og 55 false 57 (.load true 2 (.t 56)),Og 55 false 58 (.build [Zi 0,Zi 0] []),Og 55 false 59 (.eqs true [.i,.i] (.t 57) (.t 58)),Og 45 true 60 (.pick (.t 55) (.k (.bool true)) (.t 59)),gM 45 true 61 60,Og 61 false 62 (.addo 2 (.t 1)),Og 61 false 63 (.load false 1 (.t 62)),Og 61 false 64 (.bin .neq (.t 63) (Ki 0)),Og 45 true 65 (.pick (.t 61) (.k (.bool true)) (.t 64)),gM 45 true 66 65,Og 66 false 67 (.addo 5 (.t 1)),Og 66 false 68 (.load false 1 (.t 67)),Og 66 false 69 (.bin .neq (.t 68) (Ki 0)),Og 45 true 70 (.pick (.t 66) (.k (.bool true)) (.t 69)),Oo 71 (.pick (.t 45) (.t 70) (.k (.bool false)))]
 (.cond (.t 71) (sR [oK 2 0,oK 3 3]
 .ret)
 .skip))
 (.seq (sR [oA 73 7 1,oL 74 73,oJ 75 70 74,oM 72 75,oE 76 72 0,oE 77 72 1,oM 5 76,oM 6 77]
 (sR [oM 78 6,oB 79 .neq 78 0]
 (.cond (.t 79) (sR [oM 80 5,oM 81 6,oM 2 80,oM 3 81]
 .ret)
 .skip)))
 (.seq (sR [oK 7 0]
 (.block 0 (.loop [1,5] h18l0)))
 (.seq (sR [oA 99 7 1,oL 100 99,oJ 101 22 100,oB 102 .gtr 101 440]
 (.cond (.t 102) (sR [oK 2 0,oK 3 16]
 .ret)
 .skip))
 (sR [oK 2 0,oK 3 0]
 .ret))))))))
abbrev h18:HF:=⟨h18c,[.tmp 2,.tmp 3],103,false⟩
def h19c:HC:=
 (sR [Oo 6 (.mov (.k (.bool false)))]
 (sR [oM 7 1,oM 8 0,oC 9 .leq 7 8,oM 10 9,gM 10 true 11 0,gM 10 true 12 2,Og 10 true 13 (.bin .leq (.t 11) (.t 12)),Oo 14 (.pick (.t 10) (.t 13) (.k (.bool false))),oM 6 14]
 .ret))
abbrev h19:HF:=⟨h19c,[.tmp 6],15,false⟩
def h20c:HC:=
 (sR [Oo 1 (.box (.t 0)),oK 2 0]
 (.seq (sR [oG 3 2 1,Oo 4 (.build [Zi 0,Zi 0] []),Oo 5 (.eqs false [.i,.i] (.t 3) (.t 4))]
 (.cond (.t 5) (sR [oK 2 0]
 .ret)
 .skip))
 (sR [oG 6 2 1,oJ 7 55 6,oM 2 7]
 .ret)))
abbrev h20:HF:=⟨h20c,[.tmp 2],8,false⟩
def h21c:HC:=
 (sR [Oo 4 (.box (.t 0)),Oo 6 (.box (.t 2)),Oo 8 (.mov (.k (.bool false)))]
 (sR [oM 9 1,oM 10 3,oC 11 .eql 9 10,oM 12 11,gM 12 true 13 3,Og 12 true 14 (.bin .neq (.t 13) (Ki 0)),gM 12 true 15 14,Og 15 true 16 (.load true 8 (.t 4)),Og 15 true 17 (.build Dm []),Og 15 true 18 (.call 39 [(.t 16),(.t 17)]),Og 12 true 19 (.pick (.t 15) (.t 18) (.k (.bool false))),gM 12 true 20 19,gM 20 false 21 3,Og 20 false 22 (.bin .eql (.t 21) (Ki 0)),gM 20 false 23 22,Og 23 true 24 (.load true 8 (.t 4)),Og 23 true 25 (.load true 8 (.t 6)),Og 23 true 26 (.call 39 [(.t 24),(.t 25)]),Og 20 false 27 (.pick (.t 23) (.t 26) (.k (.bool false))),Og 12 true 28 (.pick (.t 20) (.k (.bool true)) (.t 27)),Oo 29 (.pick (.t 12) (.t 28) (.k (.bool false))),oM 8 29]
 .ret))
abbrev h21:HF:=⟨h21c,[.tmp 8],30,false⟩
def h22l0:HC:=
 (.seq (sR [oM 5 4,oM 6 0,oN 7 6,oC 8 .lss 5 7]
 (.cond (.t 8) .skip
 (.exit 0)))
 (.seq (.block 1 (.region [oM 11 3,oM 12 0,oM 13 4,oI 14 11 12 13,oG 15 11 14,oJ 16 38 15,Oo 17 (.lenS (.t 16)),oC 18 .add 11 17,oM 3 18]))
 (.region [oM 9 4,oB 10 .add 9 1,oM 4 10])))
def h22c:HC:=
 (sR [oK 2 0]
 (sR [oK 3 0]
 (.seq (sR [oK 4 0]
 (.block 0 (.loop [0,2,0] h22l0)))
 (sR [oM 19 3,oM 2 19]
 .ret))))
abbrev h22:HF:=⟨h22c,[.tmp 2],20,false⟩
def h23c:HC:=
 (sR [Oo 1 (.box (.t 0)),Oo 2 (.mov (.k (.bool false)))]
 (sR [oA 3 2 1,oL 4 3,oB 5 .rem 4 2,oB 6 .eql 5 1,oM 2 6]
 .ret))
abbrev h23:HF:=⟨h23c,[.tmp 2],7,false⟩
def h25c:HC:=
 (sR [Oo 1 (.box (.t 0)),Oo 2 (.mov (.k (.bool false)))]
 (sR [oA 3 7 1,oL 4 3,oN 5 4,oB 6 .leq 5 80,oM 7 6,Og 7 true 8 (.addo 5 (.t 1)),Og 7 true 9 (.load false 1 (.t 8)),Og 7 true 10 (.lenS (.t 9)),Og 7 true 11 (.bin .leq (.t 10) (Ki 500)),Oo 12 (.pick (.t 7) (.t 11) (.k (.bool false))),oM 13 12,Og 13 true 14 (.addo 1 (.t 1)),Og 13 true 15 (.load false 1 (.t 14)),Og 13 true 16 (.lenS (.t 15)),Og 13 true 17 (.bin .leq (.t 16) (Ki 60)),Oo 18 (.pick (.t 13) (.t 17) (.k (.bool false))),oM 2 18]
 .ret))
abbrev h25:HF:=⟨h25c,[.tmp 2],19,false⟩
def h26c:HC:=
 (sR [Oo 2 (.box (.t 0)),Oo 3 (.box (.t 1)),Oo 4 (.alloc Dm),oK 5 0]
 (sR [oA 9 5 2,oL 10 9,oA 11 2 3,oS 1 11 10]
 (.seq (.seq (.drawn [Qo (oG 12 8 2),Qo (oJ 13 68 12),Qo (oG 14 8 2),Qo (oJ 15 62 14),Qo (Oo 16 (.call 60 [(.t 15),(Ki 20)])),Qo (oA 17 5 2),Qo (oL 18 17),Qo (oB 19 .lss 18 65535),Qe (Oo 20 (.call 60 [(.t 19),(Ki 16)])),Qe (Oo 21 (.bslc 1 3 [Zi 0] [(0,(.t 13)),(1,(.t 16)),(2,(.t 20))])),Qe (oJ 22 59 21),Qo (oM 6 22)])
 (sR [oM 23 6,oB 24 .neq 23 0]
 (.cond (.t 24) (sR [Oo 25 (.build Dm []),oM 26 6,oS 8 4 25,oM 5 26]
 .ret)
 .skip)))
 (.seq (.seq (.drawn [Qo (oG 27 11 3),Qo (oJ 28 72 27),Qo (oG 29 8 2),Qo (oG 30 11 3),Qo (kC 31 73 29 30),Qo (Oo 32 (.un .not (.t 31))),Qo (Oo 33 (.call 60 [(.t 32),(Ki 5)])),Qo (oA 34 7 2),Qo (oL 35 34),Qo (oN 36 35),Qo (oB 37 .lss 36 32),Qe (Oo 38 (.call 60 [(.t 37),(Ki 8)])),Qe (Oo 39 (.bslc 1 3 [Zi 0] [(0,(.t 28)),(1,(.t 33)),(2,(.t 38))])),Qe (oJ 40 59 39),Qo (oM 7 40)])
 (sR [oM 41 7,oB 42 .neq 41 0]
 (.cond (.t 42) (sR [Oo 43 (.build Dm []),oM 44 7,oS 8 4 43,oM 5 44]
 .ret)
 .skip)))
 (sR [oG 45 8 2,oJ 46 74 45,Oo 8 (.alloc Dm),oS 8 8 46]
 (sR [oA 47 5 8,oL 48 47,oB 49 .add 48 1,oA 50 5 8,oS 1 50 49]
 (sR [oA 52 7 8,oL 53 52,oG 54 11 3,Oo 55 (.bslc 11 1 nR [(0,(.t 54))]),Oo 56 (.app 11 120 nR (.t 53) (.t 55)),oJ 57 75 56,oM 51 57,oE 58 51 0,oE 59 51 1,oA 60 7 8,oS 1 60 58]
 (.seq (sR [oA 61 7 8,oL 62 61,oJ 63 66 62,oB 64 .gtr 63 440]
 (.cond (.t 64) (sR [Oo 65 (.build Dm []),oS 8 4 65,oK 5 16]
 .ret)
 .skip))
 (sR [oG 66 8 8,oS 8 4 66,oK 5 0]
 .ret)))))))))
abbrev h26:HF:=⟨h26c,[.cell 4 true 8,.tmp 5],67,false⟩
def h27c:HC:=
 (sR [Oo 1 (.box (.t 0)),Oo 2 (.alloc nR)]
 (sR [oA 3 7 1,oL 4 3,oJ 5 76 4,oA 6 7 1,oS 1 6 5]
 (sR [oG 7 11 1,oS 11 2 7]
 .ret)))
abbrev h27:HF:=⟨h27c,[.cell 2 true 11],8,false⟩
def h29c:HC:=
 (sR [Oo 1 (.box (.t 0)),oK 2 0]
 (sR [oG 6 8 1,oJ 7 18 6,oM 5 7,oE 8 5 0,oE 9 5 1,oM 3 8,oM 4 9]
 (sR [oM 10 4,oM 2 10]
 .ret)))
abbrev h29:HF:=⟨h29c,[.tmp 2],11,false⟩
def h35c:HC:=
 (sR [Oo 2 (.box (.t 0)),Oo 3 (.box (.t 1)),Oo 4 (.mov (.k (.bool false)))]
 (sR [oA 5 0 2,oL 6 5,oA 7 0 3,oL 8 7,oC 9 .eql 6 8,oM 10 9,Og 10 true 11 (.addo 1 (.t 2)),Og 10 true 12 (.load false 1 (.t 11)),Og 10 true 13 (.addo 1 (.t 3)),Og 10 true 14 (.load false 1 (.t 13)),Og 10 true 15 (.bin .eql (.t 12) (.t 14)),Oo 16 (.pick (.t 10) (.t 15) (.k (.bool false))),oM 17 16,Og 17 true 18 (.addo 2 (.t 2)),Og 17 true 19 (.load false 1 (.t 18)),Og 17 true 20 (.addo 2 (.t 3)),Og 17 true 21 (.load false 1 (.t 20)),Og 17 true 22 (.bin .eql (.t 19) (.t 21)),Oo 23 (.pick (.t 17) (.t 22) (.k (.bool false))),oM 24 23,Og 24 true 25 (.addo 3 (.t 2)),Og 24 true 26 (.load false 1 (.t 25)),Og 24 true 27 (.addo 3 (.t 3)),Og 24 true 28 (.load false 1 (.t 27)),Og 24 true 29 (.bin .eql (.t 26) (.t 28)),Oo 30 (.pick (.t 24) (.t 29) (.k (.bool false))),oM 31 30,Og 31 true 32 (.addo 4 (.t 2)),Og 31 true 33 (.load false 1 (.t 32)),Og 31 true 34 (.addo 4 (.t 3)),Og 31 true 35 (.load false 1 (.t 34)),Og 31 true 36 (.binb false (.t 33) (.t 35)),Oo 37 (.pick (.t 31) (.t 36) (.k (.bool false))),oM 38 37,Og 38 true 39 (.addo 5 (.t 2)),Og 38 true 40 (.load false 1 (.t 39)),Og 38 true 41 (.addo 5 (.t 3)),Og 38 true 42 (.load false 1 (.t 41)),Og 38 true 43 (.bin .eql (.t 40) (.t 42)),Oo 44 (.pick (.t 38) (.t 43) (.k (.bool false))),oM 45 44,Og 45 true 46 (.addo 6 (.t 2)),Og 45 true 47 (.load false 1 (.t 46)),Og 45 true 48 (.addo 6 (.t 3)),Og 45 true 49 (.load false 1 (.t 48)),Og 45 true 50 (.bin .eql (.t 47) (.t 49)),Oo 51 (.pick (.t 45) (.t 50) (.k (.bool false))),oM 52 51,Og 52 true 53 (.addo 7 (.t 2)),Og 52 true 54 (.load false 1 (.t 53)),Og 52 true 55 (.addo 7 (.t 3)),Og 52 true 56 (.load false 1 (.t 55)),Og 52 true 57 (.call 83 [(.t 54),(.t 56)]),Oo 58 (.pick (.t 52) (.t 57) (.k (.bool false))),oM 59 58,Og 59 true 60 (.addo 8 (.t 2)),Og 59 true 61 (.load false 1 (.t 60)),Og 59 true 62 (.addo 8 (.t 3)),Og 59 true 63 (.load false 1 (.t 62)),Og 59 true 64 (.bin .eql (.t 61) (.t 63)),Oo 65 (.pick (.t 59) (.t 64) (.k (.bool false))),oM 66 65,Og 66 true 67 (.addo 9 (.t 2)),Og 66 true 68 (.load false 1 (.t 67)),Og 66 true 69 (.addo 9 (.t 3)),Og 66 true 70 (.load false 1 (.t 69)),Og 66 true 71 (.bin .eql (.t 68) (.t 70)),Oo 72 (.pick (.t 66) (.t 71) (.k (.bool false))),oM 73 72,Og 73 true 74 (.addo 10 (.t 2)),Og 73 true 75 (.load false 1 (.t 74)),Og 73 true 76 (.addo 10 (.t 3)),Og 73 true 77 (.load false 1 (.t 76)),Og 73 true 78 (.bin .eql (.t 75) (.t 77)),Oo 79 (.pick (.t 73) (.t 78) (.k (.bool false))),oM 4 79]
 .ret))
abbrev h35:HF:=⟨h35c,[.tmp 4],80,false⟩
def h37c:HC:=
 (sR [Oo 1 (.box (.t 0)),oK 2 0]
 (.seq (sR [oA 4 0 1,oL 5 4,oJ 6 84 5,Oo 7 (.un .not (.t 6))]
 (.cond (.t 7) (sR [oK 2 15]
 .ret)
 .skip))
 (.seq (sR [oA 8 1 1,oL 9 8,oJ 10 85 9,Oo 11 (.un .not (.t 10))]
 (.cond (.t 11) (sR [oK 2 4]
 .ret)
 .skip))
 (.seq (sR [oA 12 2 1,oL 13 12,Oo 14 (.call 19 [(.t 13),(Ki 0),(Ki 65535)]),Oo 15 (.un .not (.t 14)),oM 16 15,Og 16 false 17 (.addo 3 (.t 1)),Og 16 false 18 (.load false 1 (.t 17)),Og 16 false 19 (.call 19 [(.t 18),(Ki 0),(Ki 7)]),Og 16 false 20 (.un .not (.t 19)),Oo 21 (.pick (.t 16) (.k (.bool true)) (.t 20))]
 (.cond (.t 21) (sR [oK 2 2]
 .ret)
 .skip))
 (sR [oG 22 11 1,oJ 23 86 22,oM 3 23]
 (.seq (sR [oA 24 4 1,oL 25 24]
 (.cond (.t 25) (.region [oG 26 11 1,oJ 27 87 26,oM 3 27])
 .skip))
 (.seq (sR [oM 28 3,oB 29 .eql 28 0,oM 30 29,Og 30 true 31 (.load true 11 (.t 1)),Og 30 true 32 (.call 38 [(.t 31)]),Og 30 true 33 (.lenS (.t 32)),Og 30 true 34 (.bin .gtr (.t 33) (Ki 440)),Oo 35 (.pick (.t 30) (.t 34) (.k (.bool false)))]
 (.cond (.t 35) (.region [oK 3 16])
 .skip))
 (sR [oM 36 3,oM 2 36]
 .ret))))))))
abbrev h37:HF:=⟨h37c,[.tmp 2],37,false⟩
def h38c:HC:=
 (sR [Oo 1 (.box (.t 0)),Oo 2 (.mov (.k (.string ⟨#[]⟩)))]
 (.seq (.drawn [Qo (oA 9 5 1),Qo (oL 10 9),Qo (oK 3 24),Qo (oM 4 10)])
 (.seq (sR [oA 11 4 1,oL 12 11,Oo 13 (.un .not (.t 12))]
 (.cond (.t 13) (.region [oA 14 7 1,oL 15 14,oJ 16 88 15,oK 3 40,oM 4 16])
 .skip))
 (sR [oM 17 3,oA 18 1 1,oL 19 18,Oo 20 (.lenS (.t 19)),oC 21 .add 17 20,Oo 22 (.call 89 [(.t 21),(Ki 8)]),Oo 23 (.bin .mul (Ki 8) (.t 22)),oM 5 23]
 (.seq (.drawn [Qo (oA 24 4 1),Qo (oL 25 24),Qo (Oo 26 (.un .not (.t 25))),Qo (oJ 27 91 26),Qo (Oo 28 (.call 90 [(.t 27),(Ki 1)])),Qo (oA 29 1 1),Qo (oL 30 29),Qo (Oo 31 (.lenS (.t 30))),Qo (Oo 32 (.call 90 [(.t 31),(Ki 1)])),Qo (oC 33 .add 28 32),Qo (oM 34 3),Qo (Oo 35 (.call 90 [(.t 34),(Ki 2)])),Qo (oC 36 .add 33 35),Qo (oA 37 3 1),Qo (oL 38 37),Qo (Oo 39 (.call 90 [(.t 38),(Ki 2)])),Qo (oC 40 .add 36 39),Qo (oA 41 2 1),Qo (oL 42 41),Qo (Oo 43 (.call 90 [(.t 42),(Ki 2)])),Qo (oC 44 .add 40 43),Qo (oM 6 44)])
 (.seq (sR [oA 45 4 1,oL 46 45]
 (.cond (.t 46) (.region [oM 47 6,oA 48 5 1,oL 49 48,Oo 50 (.lenS (.t 49)),Oo 51 (.call 90 [(.t 50),(Ki 4)]),oC 52 .add 47 51,oM 53 5,Oo 54 (.call 90 [(.t 53),(Ki 4)]),oC 55 .add 52 54,oM 6 55])
 (.seq (.drawn [Qo (oA 56 6 1),Qo (oL 57 56),Qo (oA 58 7 1),Qo (oL 59 58),Qo (oJ 60 92 59),Qo (oC 61 .add 57 60),Qo (oB 62 .sub 61 1),Qe (Oo 63 (.call 45 [(.t 62),(Ki 4294967296)])),Qo (oM 7 63)])
 (.drawn [Qo (oM 64 6),Qo (oA 65 6 1),Qo (oL 66 65),Qo (Oo 67 (.call 90 [(.t 66),(Ki 4)])),Qo (oC 68 .add 64 67),Qo (oM 69 7),Qo (Oo 70 (.call 90 [(.t 69),(Ki 4)])),Qo (oC 71 .add 68 70),Qo (oM 72 5),Qo (Oo 73 (.call 90 [(.t 72),(Ki 2)])),Qo (oC 74 .add 71 73),Qo (Oo 75 (.call 93 [(Ki 2)])),Qo (oC 76 .add 74 75),Qo (oA 77 8 1),Qo (oL 78 77),Qo (Oo 79 (.call 90 [(.t 78),(Ki 4)])),Qo (oC 80 .add 76 79),Qo (oA 81 9 1),Qo (oL 82 81),Qo (Oo 83 (.call 90 [(.t 82),(Ki 4)])),Qo (oC 84 .add 80 83),Qo (oA 85 10 1),Qo (oL 86 85),Qo (Oo 87 (.call 90 [(.t 86),(Ki 4)])),Qo (oC 88 .add 84 87),Qo (oM 6 88)]))))
 (.seq (.drawn [Qo (oM 89 6),Qo (oA 90 1 1),Qo (oL 91 90),Qo (oC 92 .add 89 91),Qo (oM 93 5),Qo (oM 94 3),Qo (oC 95 .sub 93 94),Qo (oA 96 1 1),Qo (oL 97 96),Qo (Oo 98 (.lenS (.t 97))),Qo (oC 99 .sub 95 98),Qo (oJ 100 93 99),Qo (oC 101 .add 92 100),Qo (oM 102 4),Qo (oC 103 .add 101 102),Qe (oJ 104 94 103),Qo (Oo 105 (.bin .add (.t 104) (.k (.string ⟨#[]⟩)))),Qo (oM 6 105)])
 (sR [oM 106 6,Oo 107 (.lenS (.t 106)),oB 108 .add 107 8,Oo 109 (.call 89 [(.t 108),(Ki 8)]),Oo 110 (.bin .mul (Ki 8) (.t 109)),oM 8 110]
 (sR [oA 111 0 1,oL 112 111,Oo 113 (.call 90 [(.t 112),(Ki 4)]),oM 114 8,Oo 115 (.call 90 [(.t 114),(Ki 4)]),oC 116 .add 113 115,oM 117 6,oC 118 .add 116 117,oM 2 118]
 .ret)))))))))
abbrev h38:HF:=⟨h38c,[.tmp 2],119,false⟩
def h39c:HC:=
 (sR [Oo 2 (.box (.t 0)),Oo 3 (.box (.t 1)),Oo 4 (.mov (.k (.bool false)))]
 (sR [oA 5 0 2,oL 6 5,oA 7 0 3,oL 8 7,oC 9 .eql 6 8,oM 10 9,Og 10 true 11 (.addo 1 (.t 2)),Og 10 true 12 (.load false 1 (.t 11)),Og 10 true 13 (.addo 1 (.t 3)),Og 10 true 14 (.load false 1 (.t 13)),Og 10 true 15 (.bin .eql (.t 12) (.t 14)),Oo 16 (.pick (.t 10) (.t 15) (.k (.bool false))),oM 17 16,Og 17 true 18 (.addo 2 (.t 2)),Og 17 true 19 (.load false 1 (.t 18)),Og 17 true 20 (.addo 2 (.t 3)),Og 17 true 21 (.load false 1 (.t 20)),Og 17 true 22 (.bin .eql (.t 19) (.t 21)),Oo 23 (.pick (.t 17) (.t 22) (.k (.bool false))),oM 24 23,Og 24 true 25 (.addo 3 (.t 2)),Og 24 true 26 (.load true 2 (.t 25)),Og 24 true 27 (.addo 3 (.t 3)),Og 24 true 28 (.load true 2 (.t 27)),Og 24 true 29 (.eqs false [.i,.i] (.t 26) (.t 28)),Oo 30 (.pick (.t 24) (.t 29) (.k (.bool false))),oM 31 30,Og 31 true 32 (.addo 5 (.t 2)),Og 31 true 33 (.load false 1 (.t 32)),Og 31 true 34 (.addo 5 (.t 3)),Og 31 true 35 (.load false 1 (.t 34)),Og 31 true 36 (.bin .eql (.t 33) (.t 35)),Oo 37 (.pick (.t 31) (.t 36) (.k (.bool false))),oM 38 37,Og 38 true 39 (.addo 6 (.t 2)),Og 38 true 40 (.load false 1 (.t 39)),Og 38 true 41 (.addo 6 (.t 3)),Og 38 true 42 (.load false 1 (.t 41)),Og 38 true 43 (.bin .eql (.t 40) (.t 42)),Oo 44 (.pick (.t 38) (.t 43) (.k (.bool false))),oM 45 44,Og 45 true 46 (.addo 7 (.t 2)),Og 45 true 47 (.load false 1 (.t 46)),Og 45 true 48 (.addo 7 (.t 3)),Og 45 true 49 (.load false 1 (.t 48)),Og 45 true 50 (.call 95 [(.t 47),(.t 49)]),Oo 51 (.pick (.t 45) (.t 50) (.k (.bool false))),oM 4 51]
 .ret))
abbrev h39:HF:=⟨h39c,[.tmp 4],52,false⟩
def h40l0:HC:=
 (sR [oC 74 .lss 73 72]
 (.seq (.cond (.t 74) .skip
 (.exit 0))
 (.seq (.block 1 (sR [oI 75 1 71 73,oL 76 75,oM 11 76]
 (sR [oM 78 11,oJ 79 101 78,oM 77 79,oE 80 77 0,oE 81 77 1,Oo 12 (.alloc nR),oS 11 12 80,oM 13 81]
 (.seq (sR [oM 82 13,oB 83 .neq 82 0]
 (.cond (.t 83) (sR [Oo 84 (.build Ew []),oM 85 13,oS 9 2 84,oM 3 85]
 .ret)
 .skip))
 (.region [oA 86 7 7,oL 87 86,oG 88 11 12,Oo 89 (.bslc 11 1 nR [(0,(.t 88))]),Oo 90 (.app 11 120 nR (.t 87) (.t 89)),oA 91 7 7,oS 1 91 90])))))
 (.region [oB 92 .add 73 1,oM 73 92]))))
def h40c:HC:=
 (sR [Oo 2 (.alloc Ew),oK 3 0]
 (.seq (sR [oM 15 0,Oo 16 (.lenS (.t 15)),oB 17 .neq 16 512]
 (.cond (.t 17) (sR [Oo 18 (.build Ew []),oS 9 2 18,oK 3 10]
 .ret)
 .skip))
 (sR [oM 20 0,oJ 21 96 20,oM 19 21,oE 22 19 0,oE 23 19 1,oE 24 19 2,oM 4 22,oM 5 23,oM 6 24]
 (.seq (sR [oM 25 6,oB 26 .neq 25 0,oM 27 26,gM 27 false 28 5,Og 27 false 29 (.bin .eql (.t 28) (Ki 0)),Oo 30 (.pick (.t 27) (.k (.bool true)) (.t 29))]
 (.cond (.t 30) (sR [Oo 31 (.build Ew []),oS 9 2 31,oK 3 31]
 .ret)
 .skip))
 (.seq (.drawn [Qo (Oo 32 (.load true 2 (.g 0))),Qo (oM 33 4),Qo (kC 34 97 32 33),Qo (Oo 35 (.load true 2 (.g 1))),Qo (oM 36 4),Qo (kC 37 97 35 36),Qo (Oo 38 (.load true 2 (.g 2))),Qo (oM 39 4),Qo (kC 40 97 38 39),Qo (Oo 41 (.load true 2 (.g 3))),Qo (oM 42 4),Qo (kC 43 97 41 42),Qo (Oo 44 (.load true 2 (.g 4))),Qo (oM 45 4),Qo (kC 46 97 44 45),Qo (Oo 47 (.build [Zi 0,Zi 0] [(0,1,(.t 43)),(1,1,(.t 46))])),Qo (Oo 48 (.load true 2 (.g 5))),Qo (oM 49 4),Qo (kC 50 97 48 49),Qo (Oo 51 (.load true 2 (.g 6))),Qo (oM 52 4),Qo (kC 53 97 51 52),Qo (Oo 54 (.build Dm [(0,1,(.t 34)),(1,1,(.t 37)),(2,1,(.t 40)),(3,2,(.t 47)),(5,1,(.t 50)),(6,1,(.t 53))])),Qe (Oo 7 (.alloc Dm)),Qe (oS 8 7 54)])
 (sR [oM 56 4,oJ 57 98 56,oM 55 57,oE 58 55 0,oE 59 55 1,oM 8 58,oM 9 59]
 (.seq (.seq (.drawn [Qo (oM 60 9),Qo (Oo 61 (.un .not (.t 60))),Qo (oM 62 61),Qo (Og 62 false 63 (.load true 8 (.t 7))),Qo (gM 62 false 64 8),Qo (Og 62 false 65 (.call 100 [(.t 64),(.k (.string ⟨#[]⟩))])),Qo (Og 62 false 66 (.call 99 [(.t 63),(.t 65)])),Qo (gM 62 false 67 4),Qo (Og 62 false 68 (.bin .neq (.t 66) (.t 67))),Qo (Oo 69 (.pick (.t 62) (.k (.bool true)) (.t 68)))])
 (.cond (.t 69) (sR [Oo 70 (.build Ew []),oS 9 2 70,oK 3 3]
 .ret)
 .skip))
 (.seq (sR [oM 71 8,oN 72 71,oK 73 0]
 (.gh (.nilB 7 7 11) (.block 0 (.loop [2,2,1,63,0,0] h40l0))))
 (.seq (sR [oG 93 8 7,oJ 94 68 93,oM 14 94]
 (sR [oM 95 14,oB 96 .neq 95 0]
 (.cond (.t 96) (sR [Oo 97 (.build Ew []),oM 98 14,oS 9 2 97,oM 3 98]
 .ret)
 .skip)))
 (sR [oG 99 8 7,oM 100 5,Oo 101 (.build Ew [(0,8,(.t 99)),(8,1,(.t 100))]),oS 9 2 101,oK 3 0]
 .ret))))))))))
abbrev h40:HF:=⟨h40c,[.cell 2 true 9,.tmp 3],102,false⟩
def h41l0:HC:=
 (sR [oC 27 .lss 26 25]
 (.seq (.cond (.t 27) .skip
 (.exit 0))
 (.seq (.block 1 (sR [oI 28 11 24 26,oG 29 11 28,Oo 7 (.alloc nR),oS 11 7 29]
 (sR [oG 31 11 7,oJ 32 102 31,oM 30 32,oE 33 30 0,oE 34 30 1,oM 8 33,oM 9 34]
 (.region [oM 35 5,oM 36 8,oC 37 .add 35 36,oM 5 37]))))
 (.region [oB 38 .add 26 1,oM 26 38]))))
def h41c:HC:=
 (sR [Oo 1 (.box (.t 0)),Oo 2 (.mov (.k (.string ⟨#[]⟩))),oK 3 0]
 (.seq (.seq (.drawn [Qo (oA 10 0 1),Qo (oG 11 8 10),Qo (oJ 12 68 11),Qo (oA 13 8 1),Qo (oL 14 13),Qe (Oo 15 (.call 58 [(.t 14),(Ki 1),(Ki 65535)])),Qe (Oo 16 (.call 60 [(.t 15),(Ki 2)])),Qe (Oo 17 (.bslc 1 2 [Zi 0] [(0,(.t 12)),(1,(.t 16))])),Qe (oJ 18 59 17),Qo (oM 4 18)])
 (sR [oM 19 4,oB 20 .neq 19 0]
 (.cond (.t 20) (sR [oM 21 4,Oo 2 (.mov (.k (.string ⟨#[]⟩))),oM 3 21]
 .ret)
 .skip)))
 (sR [Oo 5 (.mov (.k (.string ⟨#[]⟩)))]
 (.seq (sR [oA 22 0 1,oA 23 7 22,oL 24 23,oN 25 24,oK 26 0]
 (.block 0 (.loop [1,3,18,0,0] h41l0)))
 (.seq (.drawn [Qo (oA 39 0 1),Qo (oG 40 8 39),Qo (oM 41 5),Qo (kC 42 99 40 41),Qo (oA 43 8 1),Qo (oL 44 43),Qe (kC 45 103 42 44),Qo (oE 46 45 0),Qo (oE 47 45 1),Qo (oM 2 46),Qo (oM 3 47)])
 .ret)))))
abbrev h41:HF:=⟨h41c,[.tmp 2,.tmp 3],48,false⟩
def h44l0:HC:=
 (.seq (sR [oM 7 6,oA 8 7 2,oL 9 8,oN 10 9,oC 11 .lss 7 10]
 (.cond (.t 11) .skip
 (.exit 0)))
 (.seq (.block 1 (.region [oM 14 5,oA 15 7 2,oL 16 15,oM 17 6,oI 18 11 16 17,oG 19 11 18,oJ 20 38 19,oC 21 .add 14 20,oM 5 21]))
 (.region [oM 12 6,oB 13 .add 12 1,oM 6 13])))
def h44c:HC:=
 (sR [Oo 2 (.box (.t 0)),Oo 4 (.mov (.k (.string ⟨#[]⟩)))]
 (sR [Oo 5 (.mov (.k (.string ⟨#[]⟩)))]
 (.seq (sR [oK 6 0]
 (.block 0 (.loop [1,0,2,0] h44l0)))
 (sR [oA 22 6 2,oL 23 22,oA 24 0 2,oL 25 24,oA 26 1 2,oL 27 26,oA 28 2 2,oL 29 28,oM 30 5,Oo 31 (.lenS (.t 30)),Oo 32 (.bin .add (Ki 64) (.t 31)),oB 33 .add 32 4,oA 34 3 2,oA 35 0 34,oL 36 35,oA 37 3 2,oA 38 1 37,oL 39 38,oA 40 5 2,oL 41 40,Oo 42 (.build qZ5 [(0,1,(.t 23)),(1,1,(.t 25)),(2,1,(.t 27)),(3,1,(.t 29)),(4,1,(.t 33)),(5,1,(.t 36)),(6,1,(.t 39)),(7,1,(.t 41))]),oM 43 5,oM 44 1,Oo 45 (.call 104 [(.t 42),(.t 43),(.t 44)]),oM 4 45]
 .ret))))
abbrev h44:HF:=⟨h44c,[.tmp 4],46,false⟩
def h45c:HC:=
 (sR [oK 4 0]
 (sR [oM 5 0,oM 6 1,oC 7 .rem 5 6,oM 0 7]
 (.seq (sR [oM 8 0,oB 9 .lss 8 0]
 (.cond (.t 9) (.region [oM 10 0,oM 11 1,oC 12 .add 10 11,oM 0 12])
 .skip))
 (sR [oM 13 0,oM 4 13]
 .ret))))
abbrev h45:HF:=⟨h45c,[.tmp 4],14,false⟩
def h46c:HC:=
 (sR [oK 2 0]
 (sR [oM 3 0,Oo 4 (.bin .shl (Ki 1) (.t 3)),oM 2 4]
 .ret))
abbrev h46:HF:=⟨h46c,[.tmp 2],5,false⟩
def h47c:HC:=
 (sR [Oo 2 (.mov (.k (.string ⟨#[]⟩))),oK 3 0]
 (.seq (sR [oM 5 0,Oo 6 (.lenS (.t 5)),oB 7 .neq 6 512]
 (.cond (.t 7) (sR [Oo 2 (.mov (.k (.string ⟨#[]⟩))),oK 3 10]
 .ret)
 .skip))
 (sR [oM 8 0,Oo 9 (.addo 1 (.g 7)),oL 10 9,Oo 11 (.slS (.t 8) none (some (.t 10))),oM 4 11]
 (.seq (sR [Oo 12 (.call 106 []),oM 13 4,kC 14 105 12 13,Oo 15 (.un .not (.t 14))]
 (.cond (.t 15) (sR [Oo 2 (.mov (.k (.string ⟨#[]⟩))),oK 3 15]
 .ret)
 .skip))
 (sR [oM 16 4,oM 2 16,oK 3 0]
 .ret)))))
abbrev h47:HF:=⟨h47c,[.tmp 2,.tmp 3],17,false⟩
def h48l0:HC:=
 (.seq (sR [oM 47 9,oB 48 .add 47 4,oB 49 .leq 48 512,oM 50 49,gM 50 true 51 4,gM 50 true 52 9,gM 50 true 53 9,Og 50 true 54 (.bin .add (.t 53) (Ki 4)),Og 50 true 55 (.slS (.t 51) (some (.t 52)) (some (.t 54))),Og 50 true 56 (.bin .neq (.t 55) (.k (.string ⟨#[255,255,255,255]⟩))),Oo 57 (.pick (.t 50) (.t 56) (.k (.bool false)))]
 (.cond (.t 57) .skip
 (.exit 0)))
 (.block 1 (sR [oK 10 0]
 (.seq (sR [oM 58 9,oB 59 .add 58 8,oB 60 .leq 59 512]
 (.cond (.t 60) (.region [oM 61 4,oM 62 9,oB 63 .add 62 4,Oo 64 (.call 57 [(.t 61),(.t 63),(Ki 4)]),oM 10 64])
 .skip))
 (.seq (sR [oM 65 10,oB 66 .rem 65 8,oB 67 .neq 66 0,oM 68 67,gM 68 false 69 10,Og 68 false 70 (.bin .lss (.t 69) (Ki 24)),Oo 71 (.pick (.t 68) (.k (.bool true)) (.t 70)),oM 72 71,gM 72 false 73 9,gM 72 false 74 10,Og 72 false 75 (.bin .add (.t 73) (.t 74)),Og 72 false 76 (.bin .add (.t 75) (Ki 4)),Og 72 false 77 (.bin .gtr (.t 76) (Ki 512)),Oo 78 (.pick (.t 72) (.k (.bool true)) (.t 77))]
 (.cond (.t 78) (sR [Oo 79 (.build Ew []),oS 9 2 79,oK 3 3]
 .ret)
 .skip))
 (sR [oM 80 8,oM 81 4,oM 82 9,oM 83 9,oM 84 10,oC 85 .add 83 84,Oo 86 (.slS (.t 81) (some (.t 82)) (some (.t 85))),Oo 87 (.bslc 1 1 qZ4 [(0,(.t 86))]),Oo 88 (.app 1 16 qZ4 (.t 80) (.t 87)),oM 8 88]
 (.region [oM 89 9,oM 90 10,oC 91 .add 89 90,oM 9 91])))))))
def h48l1:HC:=
 (.seq (sR [oM 129 12,oM 130 8,oN 131 130,oC 132 .lss 129 131]
 (.cond (.t 132) .skip
 (.exit 2)))
 (.seq (.block 3 (sR [oM 136 8,oM 137 12,oI 138 1 136 137,oL 139 138,oJ 140 108 139,oM 135 140,oE 141 135 0,oE 142 135 1,Oo 13 (.alloc nR),oS 11 13 141,oM 14 142]
 (.seq (sR [oM 143 14,oB 144 .neq 143 0]
 (.cond (.t 144) (sR [Oo 145 (.build Ew []),oM 146 14,oS 9 2 145,oM 3 146]
 .ret)
 .skip))
 (.region [oA 147 7 11,oL 148 147,oG 149 11 13,Oo 150 (.bslc 11 1 nR [(0,(.t 149))]),Oo 151 (.app 11 120 nR (.t 148) (.t 150)),oA 152 7 11,oS 1 152 151]))))
 (.region [oM 133 12,oB 134 .add 133 1,oM 12 134])))
def h48c:HC:=
 (sR [Oo 2 (.alloc Ew),oK 3 0]
 (.seq (sR [oM 16 0,Oo 17 (.lenS (.t 16)),oB 18 .neq 17 512]
 (.cond (.t 18) (sR [Oo 19 (.build Ew []),oS 9 2 19,oK 3 10]
 .ret)
 .skip))
 (sR [oM 21 0,oJ 22 107 21,oM 20 22,oE 23 20 0,oE 24 20 1,oM 4 23,oM 5 24]
 (.seq (sR [oM 25 5,Oo 26 (.un .not (.t 25))]
 (.cond (.t 26) (sR [Oo 27 (.build Ew []),oS 9 2 27,oK 3 31]
 .ret)
 .skip))
 (sR [oM 28 4,Oo 29 (.call 57 [(.t 28),(Ki 8),(Ki 4)]),oM 30 4,Oo 31 (.call 57 [(.t 30),(Ki 16),(Ki 2)]),oM 32 4,Oo 33 (.call 57 [(.t 32),(Ki 18),(Ki 2)]),oM 34 4,Oo 35 (.call 57 [(.t 34),(Ki 22),(Ki 2)]),oM 36 4,Oo 37 (.call 57 [(.t 36),(Ki 24),(Ki 4)]),oM 38 4,Oo 39 (.call 57 [(.t 38),(Ki 32),(Ki 4)]),oM 40 4,Oo 41 (.call 57 [(.t 40),(Ki 36),(Ki 2)]),oM 42 4,Oo 43 (.call 57 [(.t 42),(Ki 38),(Ki 2)]),Oo 44 (.build qZ5 [(0,1,(.t 29)),(1,1,(.t 31)),(2,1,(.t 33)),(3,1,(.t 35)),(4,1,(.t 37)),(5,1,(.t 39)),(6,1,(.t 41)),(7,1,(.t 43))]),Oo 6 (.alloc qZ5),oS 8 6 44]
 (sR [oM 45 0,Oo 46 (.call 57 [(.t 45),(Ki 40),(Ki 2)]),oM 7 46]
 (sR [Oo 8 (.mov (.k (.slice none 0 0)))]
 (.gh (.nil 8 1) (sR [oK 9 64]
 (.seq (.block 0 (.loop [0,1,1,1,0,0,0] h48l0))
 (.trm [0,1,1,1,0,0,0] (.seq (.seq (.drawn [Qo (oM 92 9),Qo (oB 93 .add 92 4),Qo (oB 94 .gtr 93 512),Qo (oM 95 94),Qo (Og 95 false 96 (.addo 4 (.t 6))),Qo (Og 95 false 97 (.load false 1 (.t 96))),Qo (gM 95 false 98 9),Qo (Og 95 false 99 (.bin .add (.t 98) (Ki 4))),Qo (Og 95 false 100 (.bin .neq (.t 97) (.t 99))),Qo (Oo 101 (.pick (.t 95) (.k (.bool true)) (.t 100))),Qo (oM 102 101),Qo (Og 102 false 103 (.load true 8 (.t 6))),Qo (gM 102 false 104 4),Qo (gM 102 false 105 9),Qo (Og 102 false 106 (.slS (.t 104) (some (Ki 64)) (some (.t 105)))),Qo (gM 102 false 107 7),Qo (Og 102 false 108 (.call 104 [(.t 103),(.t 106),(.t 107)])),Qo (gM 102 false 109 0),Qo (Og 102 false 110 (.bin .neq (.t 108) (.t 109))),Qo (Oo 111 (.pick (.t 102) (.k (.bool true)) (.t 110)))])
 (.cond (.t 111) (sR [Oo 112 (.build Ew []),oS 9 2 112,oK 3 3]
 .ret)
 .skip))
 (sR [oA 113 1 6,oL 114 113,oA 115 2 6,oL 116 115,oA 117 3 6,oL 118 117,oA 119 5 6,oL 120 119,oA 121 6 6,oL 122 121,Oo 123 (.build [Zi 0,Zi 0] [(0,1,(.t 120)),(1,1,(.t 122))]),oA 124 7 6,oL 125 124,oA 126 0 6,oL 127 126,Oo 128 (.build Dm [(0,1,(.t 114)),(1,1,(.t 116)),(2,1,(.t 118)),(3,2,(.t 123)),(5,1,(.t 125)),(6,1,(.t 127))]),Oo 11 (.alloc Dm),oS 8 11 128]
 (.gh (.nilB 11 7 11) (.seq (sR [oK 12 0]
 (.block 2 (.loop [2,4,0,2,0] h48l1)))
 (.seq (sR [oG 153 8 11,oJ 154 29 153,oM 15 154]
 (sR [oM 155 15,oB 156 .neq 155 0]
 (.cond (.t 156) (sR [Oo 157 (.build Ew []),oM 158 15,oS 9 2 157,oM 3 158]
 .ret)
 .skip)))
 (sR [oG 159 8 11,oM 160 7,Oo 161 (.build Ew [(0,8,(.t 159)),(8,1,(.t 160))]),oS 9 2 161,oK 3 0]
 .ret)))))))))))))))))
abbrev h48:HF:=⟨h48c,[.cell 2 true 9,.tmp 3],162,false⟩
def h49c:HC:=
 (sR [Oo 4 (.box (.t 0)),Oo 6 (.box (.t 2)),Oo 8 (.mov (.k (.bool false)))]
 (sR [oA 9 0 4,oG 10 8 9,oM 11 1,oA 12 0 6,oG 13 8 12,oM 14 3,Oo 15 (.call 21 [(.t 10),(.t 11),(.t 13),(.t 14)]),oM 16 15,Og 16 true 17 (.addo 8 (.t 4)),Og 16 true 18 (.load false 1 (.t 17)),Og 16 true 19 (.addo 8 (.t 6)),Og 16 true 20 (.load false 1 (.t 19)),Og 16 true 21 (.bin .eql (.t 18) (.t 20)),Oo 22 (.pick (.t 16) (.t 21) (.k (.bool false))),oM 8 22]
 .ret))
abbrev h49:HF:=⟨h49c,[.tmp 8],23,false⟩
def h50l0:HC:=
 (.seq (sR [oM 6 5,oM 7 0,oN 8 7,oC 9 .lss 6 8]
 (.cond (.t 9) .skip
 (.exit 0)))
 (.seq (.block 1 (sR [oM 12 0,oM 13 5,oI 14 1 12 13,oL 15 14,oM 16 1,oC 17 .eql 15 16]
 (.cond (.t 17) (sR [Oo 4 (.mov (.k (.bool true)))]
 .ret)
 .skip)))
 (.region [oM 10 5,oB 11 .add 10 1,oM 5 11])))
def h50c:HC:=
 (sR [Oo 4 (.mov (.k (.bool false)))]
 (.seq (sR [oK 5 0]
 (.block 0 (.loop [0,0,3] h50l0)))
 (sR [Oo 4 (.mov (.k (.bool false)))]
 .ret)))
abbrev h50:HF:=⟨h50c,[.tmp 4],18,false⟩
def h51c:HC:=
 (sR [Oo 1 (.box (.t 0)),Oo 2 (.mov (.k (.string ⟨#[]⟩)))]
 (.seq (.drawn [Qo (oA 3 0 1),Qo (oL 4 3),Qo (oJ 5 109 4),Qo (Oo 6 (.bin .add (.t 5) (.k (.string ⟨#[35]⟩)))),Qo (oA 7 1 1),Qo (oL 8 7),Qo (oJ 9 109 8),Qo (oC 10 .add 6 9),Qo (oM 2 10)])
 .ret))
abbrev h51:HF:=⟨h51c,[.tmp 2],11,false⟩
def h55c:HC:=
 (sR [Oo 1 (.box (.t 0)),oK 2 0]
 (.seq (sR [oA 3 0 1,oL 4 3,Oo 5 (.call 19 [(.t 4),(Ki 0),(Ki 95)]),Oo 6 (.un .not (.t 5)),oM 7 6,Og 7 false 8 (.addo 1 (.t 1)),Og 7 false 9 (.load false 1 (.t 8)),Og 7 false 10 (.call 19 [(.t 9),(Ki 1),(Ki 65535)]),Og 7 false 11 (.un .not (.t 10)),Oo 12 (.pick (.t 7) (.k (.bool true)) (.t 11))]
 (.cond (.t 12) (sR [oK 2 2]
 .ret)
 .skip))
 (sR [oK 2 0]
 .ret)))
abbrev h55:HF:=⟨h55c,[.tmp 2],13,false⟩
def h56c:HC:=
 (sR [Oo 0 (.alloc Dm)]
 (sR [Oo 1 (.build nR [(0,1,(Ki 128)),(4,1,(.k (.bool true))),(5,1,(.k (.string ⟨#[97,98,99]⟩)))]),Oo 2 (.bslc 11 1 nR [(0,(.t 1))]),Oo 3 (.build Dm [(0,1,(Ki 3)),(2,1,(Ki 1)),(5,1,(Ki 1)),(7,1,(.t 2))]),oS 8 0 3]
 .ret))
abbrev h56:HF:=⟨h56c,[.cell 0 true 8],4,false⟩
def h57l0:HC:=
 (.seq (sR [oM 11 8,oB 12 .geq 11 0]
 (.cond (.t 12) .skip
 (.exit 0)))
 (.seq (.block 1 (.region [oM 15 7,oB 16 .mul 15 256,oM 17 0,oM 18 1,oM 19 8,oC 20 .add 18 19,Oo 21 (.ixS (.t 17) (.t 20)),Oo 22 (.conv .i64 (.t 21)),oC 23 .add 16 22,oM 7 23]))
 (.region [oM 13 8,oB 14 .sub 13 1,oM 8 14])))
def h57c:HC:=
 (sR [oK 6 0]
 (sR [oK 7 0]
 (.seq (sR [oM 9 2,oB 10 .sub 9 1,oM 8 10]
 (.block 0 (.loop [0,0,5,0] h57l0)))
 (sR [oM 24 7,oM 6 24]
 .ret))))
abbrev h57:HF:=⟨h57c,[.tmp 6],25,false⟩
def h58c:HC:=
 (sR [Oo 6 (.mov (.k (.bool false)))]
 (sR [oM 7 1,oM 8 0,oC 9 .leq 7 8,oM 10 9,gM 10 true 11 0,gM 10 true 12 2,Og 10 true 13 (.bin .leq (.t 11) (.t 12)),Oo 14 (.pick (.t 10) (.t 13) (.k (.bool false))),oM 6 14]
 .ret))
abbrev h58:HF:=⟨h58c,[.tmp 6],15,false⟩
def h59l0:HC:=
 (sR [oC 8 .lss 7 6]
 (.seq (.cond (.t 8) .skip
 (.exit 0))
 (.seq (.block 1 (sR [oI 9 1 5 7,oL 10 9,oM 4 10]
 (sR [oM 11 4,oB 12 .neq 11 0]
 (.cond (.t 12) (sR [oM 13 4,oM 2 13]
 .ret)
 .skip))))
 (.region [oB 14 .add 7 1,oM 7 14]))))
def h59c:HC:=
 (sR [oK 2 0]
 (.seq (sR [oM 5 0,oN 6 5,oK 7 0]
 (.block 0 (.loop [5,0,0] h59l0)))
 (sR [oK 2 0]
 .ret)))
abbrev h59:HF:=⟨h59c,[.tmp 2],15,false⟩
def h60c:HC:=
 (sR [oK 4 0]
 (.seq (sR [oM 5 0]
 (.cond (.t 5) (sR [oK 4 0]
 .ret)
 .skip))
 (sR [oM 6 1,oM 4 6]
 .ret)))
abbrev h60:HF:=⟨h60c,[.tmp 4],7,false⟩
def h61c:HC:=
 (sR [Oo 1 (.box (.t 0)),oK 2 0]
 (.seq (sR [oG 3 2 1,Oo 4 (.build [Zi 0,Zi 0] []),Oo 5 (.eqs false [.i,.i] (.t 3) (.t 4))]
 (.cond (.t 5) (sR [oK 2 0]
 .ret)
 .skip))
 (sR [oG 6 2 1,oJ 7 112 6,oM 2 7]
 .ret)))
abbrev h61:HF:=⟨h61c,[.tmp 2],8,false⟩
def h62c:HC:=
 (sR [Oo 1 (.box (.t 0)),Oo 2 (.mov (.k (.bool false)))]
 (sR [oA 3 2 1,oL 4 3,oB 5 .and 4 1,oB 6 .neq 5 0,oM 2 6]
 .ret))
abbrev h62:HF:=⟨h62c,[.tmp 2],7,false⟩
def h63l0:HC:=
 (sR [oC 14 .lss 13 12]
 (.seq (.cond (.t 14) .skip
 (.exit 0))
 (.seq (.block 1 (sR [oM 15 13,oI 16 11 11 13,oG 17 11 16,Oo 5 (.alloc nR),oM 4 15,oS 11 5 17]
 (sR [oM 18 0,oM 19 4,kC 20 116 18 19,oM 6 20]
 (.seq (sR [oM 21 4,oB 22 .gtr 21 0]
 (.cond (.t 22) (sR [oM 23 0,oM 24 4,oB 25 .sub 24 1,oI 26 11 23 25,oG 27 11 26,Oo 7 (.alloc nR),oS 11 7 27]
 (.drawn [Qo (oM 28 6),Qo (oG 29 11 7),Qo (oG 30 11 5),Qo (kC 31 119 29 30),Qo (oB 32 .leq 31 0),Qo (Oo 33 (.call 118 [(.t 32),(Ki 9)])),Qo (oG 34 11 7),Qo (oG 35 11 5),Qo (kC 36 120 34 35),Qo (Oo 37 (.un .not (.t 36))),Qo (oM 38 37),Qo (Og 38 false 39 (.addo 0 (.t 5))),Qo (Og 38 false 40 (.load false 1 (.t 39))),Qo (Og 38 false 41 (.bin .eql (.t 40) (Ki 48))),Qo (Oo 42 (.pick (.t 38) (.k (.bool true)) (.t 41))),Qo (Oo 43 (.call 118 [(.t 42),(Ki 5)])),Qe (Oo 44 (.bslc 1 3 [Zi 0] [(0,(.t 28)),(1,(.t 33)),(2,(.t 43))])),Qe (oJ 45 117 44),Qo (oM 6 45)]))
 .skip))
 (sR [oM 46 6,oB 47 .neq 46 0]
 (.cond (.t 47) (sR [oM 48 4,oM 49 6,oM 2 48,oM 3 49]
 .ret)
 .skip))))))
 (.region [oB 50 .add 13 1,oM 13 50]))))
def h63c:HC:=
 (sR [oK 2 0,oK 3 0]
 (.seq (sR [oM 8 0,oN 9 8,oB 10 .gtr 9 32]
 (.cond (.t 10) (sR [oK 2 0,oK 3 8]
 .ret)
 .skip))
 (.seq (sR [oM 11 0,oN 12 11,oK 13 0]
 (.block 0 (.loop [0,10,0,0] h63l0)))
 (sR [oK 2 0,oK 3 0]
 .ret))))
abbrev h63:HF:=⟨h63c,[.tmp 2,.tmp 3],51,false⟩
def h64l0:HC:=
 (sR [oC 9 .lss 8 7]
 (.seq (.cond (.t 9) .skip
 (.exit 0))
 (.seq (.block 1 (sR [oM 10 8,oM 5 10]
 (sR [oM 11 1,oM 12 0,oM 13 5,oI 14 11 12 13,oG 15 11 14,Oo 16 (.callv (.t 11) [(.t 15)])]
 (.cond (.t 16) (sR [oM 17 5,oM 4 17]
 .ret)
 .skip))))
 (.region [oB 18 .add 8 1,oM 8 18]))))
def h64c:HC:=
 (sR [oK 4 0]
 (.seq (sR [oM 6 0,oN 7 6,oK 8 0]
 (.block 0 (.loop [0,0,5,0] h64l0)))
 (sR [Oo 4 (.mov (Ki (-1)))]
 .ret)))
abbrev h64:HF:=⟨h64c,[.tmp 4],19,false⟩
def h65c:HC:=
 (sR [Oo 2 (.box (.t 0)),Oo 3 (.mov (.k (.bool false)))]
 (sR [oA 4 2 2,oL 5 4,oA 6 5 1,oL 7 6,oC 8 .geq 5 7,oM 3 8]
 .ret))
abbrev h65:HF:=⟨h65c,[.tmp 3],9,false⟩
def h66l0:HC:=
 (sR [oC 11 .lss 10 9]
 (.seq (.cond (.t 11) .skip
 (.exit 0))
 (.seq (.block 1 (sR [oI 12 11 8 10,oG 13 11 12,Oo 5 (.alloc nR),oS 11 5 13]
 (sR [oG 15 11 5,oJ 16 121 15,oM 14 16,oE 17 14 0,oE 18 14 1,oM 6 17,oM 7 18]
 (.region [oM 19 3,oM 20 6,oC 21 .add 19 20,oM 3 21]))))
 (.region [oB 22 .add 10 1,oM 10 22]))))
def h66c:HC:=
 (sR [oK 2 0]
 (sR [oK 3 0]
 (.seq (sR [oM 8 0,oN 9 8,oK 10 0]
 (.block 0 (.loop [3,4,0,0] h66l0)))
 (sR [oM 23 3,oM 2 23]
 .ret))))
abbrev h66:HF:=⟨h66c,[.tmp 2],24,false⟩
def h67l0:HC:=
 (.seq (sR [oM 5 4,oM 6 0,oN 7 6,oC 8 .lss 5 7]
 (.cond (.t 8) .skip
 (.exit 0)))
 (.seq (.block 1 (.region [oM 11 3,oM 12 0,oM 13 4,oI 14 11 12 13,oG 15 11 14,oJ 16 27 15,Oo 17 (.bslc 11 1 nR [(0,(.t 16))]),Oo 18 (.app 11 120 nR (.t 11) (.t 17)),oM 3 18]))
 (.region [oM 9 4,oB 10 .add 9 1,oM 4 10])))
def h67c:HC:=
 (sR [Oo 2 (.mov (.k (.slice none 0 0)))]
 (sR [Oo 3 (.mov (.k (.slice none 0 0)))]
 (.gh (.nil 3 11) (.seq (sR [oK 4 0]
 (.block 0 (.loop [0,2,0] h67l0)))
 (sR [oM 19 3,oM 2 19]
 .ret)))))
abbrev h67:HF:=⟨h67c,[.tmp 2],20,false⟩
theorem h67_ok:CK Tryz.f67 h67c:=by unfold CK;kernel_rfl
theorem Y3:RK Tryz.f67 [.tmp 2]:=by unfold RK;kernel_rfl
def h68c:HC:=
 (sR [Oo 1 (.box (.t 0)),oK 2 0]
 (sR [oG 6 8 1,oJ 7 13 6,oM 5 7,oE 8 5 0,oE 9 5 1,oM 3 8,oM 4 9]
 (sR [oM 10 4,oM 2 10]
 .ret)))
abbrev h68:HF:=⟨h68c,[.tmp 2],11,false⟩
def h69c:HC:=
 (sR [oK 4 0]
 (sR [oM 5 0,oM 6 1,oC 7 .rem 5 6,oB 8 .add 7 1,oM 4 8]
 .ret))
abbrev h69:HF:=⟨h69c,[.tmp 4],9,false⟩
def h70l0:HC:=
 (.seq (sR [oM 9 4,oM 10 0,oN 11 10,oC 12 .lss 9 11]
 (.cond (.t 12) .skip
 (.exit 0)))
 (.seq (.block 1 (.seq (sR [oM 15 0,oM 16 4,kC 17 122 15 16,oM 5 17]
 (sR [oM 18 5,oB 19 .neq 18 0]
 (.cond (.t 19) (sR [oM 20 4,oM 21 5,oM 2 20,oM 3 21]
 .ret)
 .skip)))
 (.seq (.seq (.drawn [Qo (oM 22 4),Qo (oB 23 .gtr 22 0),Qo (oM 24 23),Qo (gM 24 true 25 0),Qo (gM 24 true 26 4),Qo (Og 24 true 27 (.bin .sub (.t 26) (Ki 1))),Qo (Og 24 true 28 (.ixL 11 (.t 25) (.t 27))),Qo (Og 24 true 29 (.load true 11 (.t 28))),Qo (gM 24 true 30 0),Qo (gM 24 true 31 4),Qo (Og 24 true 32 (.ixL 11 (.t 30) (.t 31))),Qo (Og 24 true 33 (.load true 11 (.t 32))),Qe (Og 24 true 34 (.call 123 [(.t 29),(.t 33)])),Qo (Og 24 true 35 (.bin .gtr (.t 34) (Ki 0))),Qo (Oo 36 (.pick (.t 24) (.t 35) (.k (.bool false))))])
 (.cond (.t 36) (sR [oM 37 4,oM 2 37,oK 3 9]
 .ret)
 .skip))
 (.seq (.drawn [Qo (oM 38 4),Qo (oB 39 .gtr 38 0),Qo (oM 40 39),Qo (gM 40 true 41 0),Qo (gM 40 true 42 4),Qo (Og 40 true 43 (.bin .sub (.t 42) (Ki 1))),Qo (Og 40 true 44 (.ixL 11 (.t 41) (.t 43))),Qo (Og 40 true 45 (.load true 11 (.t 44))),Qo (Og 40 true 46 (.call 80 [(.t 45)])),Qo (gM 40 true 47 0),Qo (gM 40 true 48 4),Qo (Og 40 true 49 (.ixL 11 (.t 47) (.t 48))),Qo (Og 40 true 50 (.load true 11 (.t 49))),Qe (Og 40 true 51 (.call 80 [(.t 50)])),Qo (Og 40 true 52 (.eqs false [.i,.s,.i] (.t 46) (.t 51))),Qo (Oo 53 (.pick (.t 40) (.t 52) (.k (.bool false)))),Qo (oM 54 53),Qo (gM 54 true 55 0),Qo (gM 54 true 56 4),Qo (Og 54 true 57 (.ixL 11 (.t 55) (.t 56))),Qo (Og 54 true 58 (.addo 0 (.t 57))),Qo (Og 54 true 59 (.load false 1 (.t 58))),Qo (Og 54 true 60 (.bin .neq (.t 59) (Ki 48))),Qo (Oo 61 (.pick (.t 54) (.t 60) (.k (.bool false))))])
 (.cond (.t 61) (sR [oM 62 4,oM 2 62,oK 3 5]
 .ret)
 .skip)))))
 (.region [oM 13 4,oB 14 .add 13 1,oM 4 14])))
def h70c:HC:=
 (sR [oK 2 0,oK 3 0]
 (.seq (sR [oM 6 0,oN 7 6,oB 8 .gtr 7 32]
 (.cond (.t 8) (sR [oK 2 0,oK 3 8]
 .ret)
 .skip))
 (.seq (sR [oK 4 0]
 (.block 0 (.loop [0,3] h70l0)))
 (sR [oK 2 0,oK 3 0]
 .ret))))
abbrev h70:HF:=⟨h70c,[.tmp 2,.tmp 3],63,false⟩
def h72c:HC:=
 (sR [Oo 1 (.box (.t 0)),oK 2 0]
 (.seq (.drawn [Qo (oA 4 0 1),Qo (oL 5 4),Qo (oJ 6 124 5),Qo (Oo 7 (.call 118 [(.t 6),(Ki 15)])),Qo (oA 8 1 1),Qo (oL 9 8),Qo (oJ 10 125 9),Qo (oA 11 2 1),Qo (oL 12 11),Qe (Oo 13 (.call 126 [(.t 12),(Ki 0),(Ki 65535)])),Qo (oM 14 13),Qo (Og 14 true 15 (.addo 3 (.t 1))),Qo (Og 14 true 16 (.load false 1 (.t 15))),Qe (Og 14 true 17 (.call 126 [(.t 16),(Ki 0),(Ki 7)])),Qo (Oo 18 (.pick (.t 14) (.t 17) (.k (.bool false)))),Qe (Oo 19 (.call 118 [(.t 18),(Ki 2)])),Qe (Oo 20 (.bslc 1 3 [Zi 0] [(0,(.t 7)),(1,(.t 10)),(2,(.t 19))])),Qe (oJ 21 117 20),Qo (oM 3 21)])
 (.seq (sR [oM 22 3,oB 23 .neq 22 0]
 (.cond (.t 23) (sR [oM 24 3,oM 2 24]
 .ret)
 .skip))
 (.seq (sR [oA 25 4 1,oL 26 25]
 (.cond (.t 26) (.region [oG 27 11 1,oJ 28 127 27,oM 3 28])
 (.region [oG 29 11 1,oJ 30 128 29,oM 3 30])))
 (.seq (sR [oM 31 3,oB 32 .neq 31 0]
 (.cond (.t 32) (sR [oM 33 3,oM 2 33]
 .ret)
 .skip))
 (sR [oG 34 11 1,oJ 35 129 34,Oo 36 (.lenS (.t 35)),oB 37 .leq 36 440,Oo 38 (.call 118 [(.t 37),(Ki 16)]),oM 2 38]
 .ret))))))
abbrev h72:HF:=⟨h72c,[.tmp 2],39,false⟩
def h73c:HC:=
 (sR [Oo 2 (.box (.t 0)),Oo 3 (.box (.t 1)),Oo 4 (.mov (.k (.bool false)))]
 (sR [oA 5 0 3,oL 6 5,oB 7 .neq 6 48,oM 8 7,Og 8 true 9 (.addo 7 (.t 2)),Og 8 true 10 (.load false 1 (.t 9)),Og 8 true 11 (.mkfn 131 [(.t 3)]),Og 8 true 12 (.call 130 [(.t 10),(.t 11)]),Oo 13 (.pick (.t 8) (.t 12) (.k (.bool false))),oM 4 13]
 .ret))
abbrev h73:HF:=⟨h73c,[.tmp 4],14,false⟩
def h74l0:HC:=
 (sR [oC 12 .lss 11 10]
 (.seq (.cond (.t 12) .skip
 (.exit 0))
 (.seq (.block 1 (sR [oM 13 11,oM 3 13]
 (.drawn [Qo (oA 14 7 1),Qo (oL 15 14),Qo (oM 16 3),Qo (oA 17 7 1),Qo (oL 18 17),Qo (oM 19 3),Qo (oI 20 11 18 19),Qo (oA 21 7 20),Qo (oL 22 21),Qo (oJ 23 78 22),Qo (oI 24 11 15 16),Qo (oA 25 7 24),Qe (oS 1 25 23)])))
 (.region [oB 26 .add 11 1,oM 11 26]))))
def h74c:HC:=
 (sR [Oo 1 (.box (.t 0)),Oo 2 (.alloc Dm)]
 (sR [oA 4 7 1,oL 5 4,oJ 6 132 5,oA 7 7 1,oS 1 7 6]
 (.seq (sR [oA 8 7 1,oL 9 8,oN 10 9,oK 11 0]
 (.block 0 (.loop [1,0,7,0] h74l0)))
 (sR [oG 27 8 1,oS 8 2 27]
 .ret))))
abbrev h74:HF:=⟨h74c,[.cell 2 true 8],28,true⟩
def h75l0:HC:=
 (sR [oC 14 .lss 13 12]
 (.seq (.cond (.t 14) .skip
 (.exit 0))
 (.seq (.block 1 (sR [oM 15 13,oI 16 11 11 13,oG 17 11 16,Oo 6 (.alloc nR),oM 5 15,oS 11 6 17]
 (.seq (sR [oM 18 0,oM 19 5,kC 20 116 18 19,oM 7 20]
 (sR [oM 21 7,oB 22 .neq 21 0]
 (.cond (.t 22) (sR [oM 23 7,Oo 2 (.mov (.k (.slice none 0 0))),oM 3 23]
 .ret)
 .skip)))
 (.region [oM 24 4,oG 25 11 6,oJ 26 133 25,Oo 27 (.bslc 11 1 nR [(0,(.t 26))]),Oo 28 (.app 11 120 nR (.t 24) (.t 27)),oM 4 28]))))
 (.region [oB 29 .add 13 1,oM 13 29]))))
def h75c:HC:=
 (sR [Oo 2 (.mov (.k (.slice none 0 0))),oK 3 0]
 (.seq (sR [oM 8 0,oN 9 8,oB 10 .gtr 9 32]
 (.cond (.t 10) (sR [Oo 2 (.mov (.k (.slice none 0 0))),oK 3 8]
 .ret)
 .skip))
 (sR [Oo 4 (.mov (.k (.slice none 0 0)))]
 (.gh (.nil 4 11) (.seq (sR [oM 11 0,oN 12 11,oK 13 0]
 (.block 0 (.loop [0,3,6,0,0] h75l0)))
 (.gh (.bv 4) (.seq (.regR [134] [oM 30 4,Oo 31 (.call 134 [(.t 30),(.f 119)])])
 (sR [oM 32 4,oM 2 32,oK 3 0]
 .ret))))))))
abbrev h75:HF:=⟨h75c,[.tmp 2,.tmp 3],33,false⟩
def h76c:HC:=
 (sR [Oo 2 (.mov (.k (.slice none 0 0)))]
 (sR [Oo 3 (.bslc 2 0 [Zi 0,Zi 0] []),oM 4 0,Oo 5 (.app 2 16 [Zi 0,Zi 0] (.t 3) (.t 4)),oM 2 5]
 .ret))
abbrev h76:HF:=⟨h76c,[.tmp 2],6,true⟩
def h78c:HC:=
 (sR [Oo 2 (.mov (.k (.slice none 0 0)))]
 (.seq (sR [oM 3 0,Oo 4 (.isnil false false (.t 3))]
 (.cond (.t 4) (sR [Oo 2 (.mov (.k (.slice none 0 0)))]
 .ret)
 .skip))
 (sR [Oo 5 (.bslc 2 0 [Zi 0,Zi 0] []),oM 6 0,Oo 7 (.app 2 16 [Zi 0,Zi 0] (.t 5) (.t 6)),oM 2 7]
 .ret)))
abbrev h78:HF:=⟨h78c,[.tmp 2],8,true⟩
theorem h78_ok:CK Tryz.f78 h78c:=by unfold CK;kernel_rfl
theorem aHN:RK Tryz.f78 [.tmp 2]:=by unfold RK;kernel_rfl
def h80c:HC:=
 (sR [Oo 1 (.box (.t 0)),Oo 2 (.alloc [Zi 0,(.string ⟨#[]⟩),Zi 0])]
 (sR [oA 3 0 1,oL 4 3,oA 5 1 1,oL 6 5,oA 7 6 1,oL 8 7,Oo 9 (.build [Zi 0,(.string ⟨#[]⟩),Zi 0] [(0,1,(.t 4)),(1,1,(.t 6)),(2,1,(.t 8))]),oS 3 2 9]
 .ret))
abbrev h80:HF:=⟨h80c,[.cell 2 true 3],10,false⟩
def h81l0:HC:=
 (.seq (.seq (.drawn [Qo (oM 15 5),Qo (oB 16 .gtr 15 0),Qo (oM 17 16),Qo (gM 17 true 18 3),Qo (gM 17 true 19 5),Qo (Og 17 true 20 (.bin .sub (.t 19) (Ki 1))),Qo (Og 17 true 21 (.ixL 11 (.t 18) (.t 20))),Qo (Og 17 true 22 (.load true 11 (.t 21))),Qo (gM 17 true 23 3),Qo (gM 17 true 24 5),Qo (Og 17 true 25 (.ixL 11 (.t 23) (.t 24))),Qo (Og 17 true 26 (.load true 11 (.t 25))),Qe (Og 17 true 27 (.call 123 [(.t 22),(.t 26)])),Qo (Og 17 true 28 (.bin .gtr (.t 27) (Ki 0))),Qo (Oo 29 (.pick (.t 17) (.t 28) (.k (.bool false))))])
 (.cond (.t 29) .skip
 (.exit 2)))
 (.seq (.block 3 (.drawn [Qo (oM 32 3),Qo (oM 33 5),Qo (oB 34 .sub 33 1),Qo (oM 35 3),Qo (oM 36 5),Qo (oM 37 3),Qo (oM 38 5),Qo (oI 39 11 37 38),Qo (oG 40 11 39),Qo (oM 41 3),Qo (oM 42 5),Qo (oB 43 .sub 42 1),Qo (oI 44 11 41 43),Qo (oG 45 11 44),Qo (oI 46 11 32 34),Qe (oS 11 46 40),Qo (oI 47 11 35 36),Qe (oS 11 47 45)]))
 (.region [oM 30 5,oB 31 .sub 30 1,oM 5 31])))
def h81l1:HC:=
 (.seq (sR [oM 8 4,oM 9 3,oN 10 9,oC 11 .lss 8 10]
 (.cond (.t 11) .skip
 (.exit 0)))
 (.seq (.block 1 (sR [oM 14 4,oM 5 14]
 (.block 2 (.loop [3,0,0] h81l0))))
 (.region [oM 12 4,oB 13 .add 12 1,oM 4 13])))
def h81c:HC:=
 (sR [Oo 2 (.mov (.k (.slice none 0 0)))]
 (sR [oM 6 0,oJ 7 67 6,oM 3 7]
 (.seq (sR [oK 4 0]
 (.block 0 (.loop [3,0] h81l1)))
 (sR [oM 48 3,oM 2 48]
 .ret))))
abbrev h81:HF:=⟨h81c,[.tmp 2],49,false⟩
theorem h81_ok:CK Tryz.f81 h81c:=by unfold CK;kernel_rfl
theorem aHO:RK Tryz.f81 [.tmp 2]:=by unfold RK;kernel_rfl
def h83l0:HC:=
 (.seq (sR [oM 11 5,oM 12 0,oN 13 12,oC 14 .lss 11 13]
 (.cond (.t 14) .skip
 (.exit 0)))
 (.seq (.block 1 (.seq (.drawn [Qo (oM 17 0),Qo (oM 18 5),Qo (oI 19 2 17 18),Qo (oG 20 2 19),Qo (oM 21 1),Qo (oM 22 5),Qo (oI 23 2 21 22),Qo (oG 24 2 23),Qo (Oo 25 (.eqs true [.i,.i] (.t 20) (.t 24)))])
 (.cond (.t 25) (sR [Oo 4 (.mov (.k (.bool false)))]
 .ret)
 .skip)))
 (.region [oM 15 5,oB 16 .add 15 1,oM 5 16])))
def h83c:HC:=
 (sR [Oo 4 (.mov (.k (.bool false)))]
 (.seq (sR [oM 6 0,oN 7 6,oM 8 1,oN 9 8,oC 10 .neq 7 9]
 (.cond (.t 10) (sR [Oo 4 (.mov (.k (.bool false)))]
 .ret)
 .skip))
 (.seq (sR [oK 5 0]
 (.block 0 (.loop [0,0,3] h83l0)))
 (sR [Oo 4 (.mov (.k (.bool true)))]
 .ret))))
abbrev h83:HF:=⟨h83c,[.tmp 4],26,false⟩
def h84c:HC:=
 (sR [Oo 2 (.mov (.k (.bool false)))]
 (sR [Oo 3 (.bslc 1 11 [Zi 0] [(0,(Ki 16)),(1,(Ki 32)),(2,(Ki 48)),(3,(Ki 64)),(4,(Ki 96)),(5,(Ki 112)),(6,(Ki 128)),(7,(Ki 144)),(8,(Ki 160)),(9,(Ki 176)),(10,(Ki 192))]),oM 4 0,kC 5 136 3 4,oM 2 5]
 .ret))
abbrev h84:HF:=⟨h84c,[.tmp 2],6,false⟩
def h85c:HC:=
 (sR [Oo 2 (.mov (.k (.bool false)))]
 (sR [oM 3 0,Oo 4 (.bin .eql (.t 3) (.k (.string ⟨#[]⟩))),oM 5 4,gM 5 false 6 0,Og 5 false 7 (.call 137 [(.t 6)]),Og 5 false 8 (.bin .eql (.t 7) (Ki 0)),Oo 9 (.pick (.t 5) (.k (.bool true)) (.t 8)),oM 2 9]
 .ret))
abbrev h85:HF:=⟨h85c,[.tmp 2],10,false⟩
def h86c:HC:=
 (sR [Oo 1 (.box (.t 0)),oK 2 0]
 (.seq (sR [oA 5 0 1,oL 6 5,oJ 7 138 6]
 (.cond (.t 7) (sR [oK 2 20]
 .ret)
 .skip))
 (.seq (sR [oA 8 5 1,oL 9 8,Oo 10 (.bin .neq (.t 9) (.k (.string ⟨#[]⟩)))]
 (.cond (.t 10) (sR [oK 2 3]
 .ret)
 .skip))
 (.seq (sR [oA 11 6 1,oL 12 11,Oo 13 (.call 19 [(.t 12),(Ki 0),(Ki 4096)]),Oo 14 (.un .not (.t 13))]
 (.cond (.t 14) (sR [oK 2 2]
 .ret)
 .skip))
 (.seq (sR [oA 15 7 1,oL 16 15,oJ 17 139 16,oM 3 17]
 (sR [oM 18 3,oB 19 .neq 18 0]
 (.cond (.t 19) (sR [oM 20 3,oM 2 20]
 .ret)
 .skip)))
 (.seq (sR [oA 21 6 1,oL 22 21,oB 23 .gtr 22 0,oM 24 23,Og 24 true 25 (.addo 7 (.t 1)),Og 24 true 26 (.load false 1 (.t 25)),Og 24 true 27 (.lenL (.t 26)),Og 24 true 28 (.bin .eql (.t 27) (Ki 0)),Oo 29 (.pick (.t 24) (.t 28) (.k (.bool false)))]
 (.cond (.t 29) (sR [oK 2 17]
 .ret)
 .skip))
 (.seq (.seq (.drawn [Qo (oA 30 6 1),Qo (oL 31 30),Qo (oA 32 7 1),Qo (oL 33 32),Qo (oJ 34 92 33),Qo (oC 35 .add 31 34),Qo (oB 36 .gtr 35 4096)])
 (.cond (.t 36) (sR [oK 2 8]
 .ret)
 .skip))
 (.seq (sR [oA 37 6 1,oL 38 37,oB 39 .gtr 38 0,oM 40 39,Og 40 true 41 (.addo 8 (.t 1)),Og 40 true 42 (.load false 1 (.t 41)),Og 40 true 43 (.bin .neq (.t 42) (Ki 0)),gM 40 true 44 43,Og 44 false 45 (.addo 9 (.t 1)),Og 44 false 46 (.load false 1 (.t 45)),Og 44 false 47 (.bin .neq (.t 46) (Ki 0)),Og 40 true 48 (.pick (.t 44) (.k (.bool true)) (.t 47)),gM 40 true 49 48,Og 49 false 50 (.addo 10 (.t 1)),Og 49 false 51 (.load false 1 (.t 50)),Og 49 false 52 (.bin .neq (.t 51) (Ki 0)),Og 40 true 53 (.pick (.t 49) (.k (.bool true)) (.t 52)),Oo 54 (.pick (.t 40) (.t 53) (.k (.bool false)))]
 (.cond (.t 54) (sR [oK 2 3]
 .ret)
 .skip))
 (sR [oK 4 1048576]
 (.seq (sR [oA 55 8 1,oL 56 55,oM 57 4,Oo 58 (.call 19 [(.t 56),(Ki 0),(.t 57)]),Oo 59 (.un .not (.t 58)),oM 60 59,Og 60 false 61 (.addo 9 (.t 1)),Og 60 false 62 (.load false 1 (.t 61)),gM 60 false 63 4,Og 60 false 64 (.call 19 [(.t 62),(Ki 0),(.t 63)]),Og 60 false 65 (.un .not (.t 64)),Oo 66 (.pick (.t 60) (.k (.bool true)) (.t 65)),oM 67 66,Og 67 false 68 (.addo 10 (.t 1)),Og 67 false 69 (.load false 1 (.t 68)),gM 67 false 70 4,Og 67 false 71 (.call 19 [(.t 69),(Ki 0),(.t 70)]),Og 67 false 72 (.un .not (.t 71)),Oo 73 (.pick (.t 67) (.k (.bool true)) (.t 72))]
 (.cond (.t 73) (sR [oK 2 2]
 .ret)
 .skip))
 (.seq (sR [oA 74 10 1,oL 75 74,oA 76 9 1,oL 77 76,oC 78 .gtr 75 77]
 (.cond (.t 78) (sR [oK 2 9]
 .ret)
 .skip))
 (sR [oK 2 0]
 .ret))))))))))))
abbrev h86:HF:=⟨h86c,[.tmp 2],79,false⟩
def h87c:HC:=
 (sR [Oo 1 (.box (.t 0)),oK 2 0]
 (.seq (sR [oA 3 7 1,oL 4 3,oN 5 4,oB 6 .gtr 5 0,oM 7 6,Og 7 false 8 (.addo 6 (.t 1)),Og 7 false 9 (.load false 1 (.t 8)),Og 7 false 10 (.bin .neq (.t 9) (Ki 0)),Oo 11 (.pick (.t 7) (.k (.bool true)) (.t 10)),oM 12 11,Og 12 false 13 (.addo 8 (.t 1)),Og 12 false 14 (.load false 1 (.t 13)),Og 12 false 15 (.bin .neq (.t 14) (Ki 0)),Oo 16 (.pick (.t 12) (.k (.bool true)) (.t 15)),oM 17 16,Og 17 false 18 (.addo 9 (.t 1)),Og 17 false 19 (.load false 1 (.t 18)),Og 17 false 20 (.bin .neq (.t 19) (Ki 0)),Oo 21 (.pick (.t 17) (.k (.bool true)) (.t 20)),oM 22 21,Og 22 false 23 (.addo 10 (.t 1)),Og 22 false 24 (.load false 1 (.t 23)),Og 22 false 25 (.bin .neq (.t 24) (Ki 0)),Oo 26 (.pick (.t 22) (.k (.bool true)) (.t 25))]
 (.cond (.t 26) (sR [oK 2 3]
 .ret)
 .skip))
 (.seq (sR [oA 27 5 1,oL 28 27,Oo 29 (.lenS (.t 28)),oB 30 .gtr 29 400]
 (.cond (.t 30) (sR [oK 2 8]
 .ret)
 .skip))
 (sR [oK 2 0]
 .ret))))
abbrev h87:HF:=⟨h87c,[.tmp 2],31,false⟩
def h88l0:HC:=
 (.seq (sR [oM 8 5,oM 9 0,oN 10 9,oC 11 .lss 8 10]
 (.cond (.t 11) .skip
 (.exit 0)))
 (.seq (.block 1 (sR [oM 14 0,oM 15 5,oI 16 2 14 15,oA 17 1 16,oL 18 17,oJ 19 140 18,oM 6 19]
 (.seq (sR [oM 20 0,oM 21 5,oI 22 2 20 21,oA 23 0 22,oL 24 23,Oo 25 (.bin .eql (.t 24) (Ki (-1)))]
 (.cond (.t 25) (sR [oM 26 3,oM 27 6,Oo 28 (.lenS (.t 27)),Oo 29 (.call 90 [(.t 28),(Ki 1)]),oC 30 .add 26 29,oM 31 6,oC 32 .add 30 31,oM 3 32]
 (.exit 1))
 .skip))
 (sR [oM 33 0,oM 34 5,oI 35 2 33 34,oA 36 0 35,oL 37 36,oM 38 4,oC 39 .sub 37 38,oJ 40 140 39,oM 7 40]
 (sR [oM 41 0,oM 42 5,oI 43 2 41 42,oA 44 0 43,oL 45 44,oM 4 45]
 (.region [oM 46 3,oM 47 6,Oo 48 (.lenS (.t 47)),oM 49 7,Oo 50 (.lenS (.t 49)),Oo 51 (.bin .mul (Ki 16) (.t 50)),oC 52 .add 48 51,Oo 53 (.call 90 [(.t 52),(Ki 1)]),oC 54 .add 46 53,oM 55 6,oC 56 .add 54 55,oM 57 7,oC 58 .add 56 57,oM 3 58]))))))
 (.region [oM 12 5,oB 13 .add 12 1,oM 5 13])))
def h88c:HC:=
 (sR [Oo 2 (.mov (.k (.string ⟨#[]⟩)))]
 (sR [Oo 3 (.mov (.k (.string ⟨#[]⟩))),oK 4 0]
 (.seq (sR [oK 5 0]
 (.block 0 (.loop [0,2,0,0] h88l0)))
 (sR [oM 59 3,Oo 60 (.call 93 [(Ki 1)]),oC 61 .add 59 60,oM 2 61]
 .ret))))
abbrev h88:HF:=⟨h88c,[.tmp 2],62,false⟩
def h89c:HC:=
 (sR [oK 4 0]
 (sR [oM 5 0,Oo 6 (.un .neg (.t 5)),oM 7 1,kC 8 141 6 7,Oo 9 (.un .neg (.t 8)),oM 4 9]
 .ret))
abbrev h89:HF:=⟨h89c,[.tmp 4],10,false⟩
def h90l0:HC:=
 (.seq (sR [oM 7 6,oM 8 1,oC 9 .lss 7 8]
 (.cond (.t 9) .skip
 (.exit 0)))
 (.seq (.block 1 (sR [oM 12 5,oM 13 0,oB 14 .rem 13 256,Oo 15 (.conv .u8 (.t 14)),Oo 16 (.bslc 1 1 L8 [(0,(.t 15))]),Oo 17 (.app 1 1 L8 (.t 12) (.t 16)),oM 5 17]
 (.region [oM 18 0,oB 19 .quo 18 256,oM 0 19])))
 (.region [oM 10 6,oB 11 .add 10 1,oM 6 11])))
def h90c:HC:=
 (sR [Oo 4 (.mov (.k (.string ⟨#[]⟩)))]
 (sR [Oo 5 (.mov (.k (.slice none 0 0)))]
 (.gh (.nil 5 1) (.seq (sR [oK 6 0]
 (.block 0 (.loop [0,0,3,0] h90l0)))
 (sR [oM 20 5,Oo 21 (.cvbs (.t 20)),oM 4 21]
 .ret)))))
abbrev h90:HF:=⟨h90c,[.tmp 4],22,false⟩
def h91c:HC:=
 (sR [oK 2 0]
 (.seq (sR [oM 3 0]
 (.cond (.t 3) (sR [oK 2 1]
 .ret)
 .skip))
 (sR [oK 2 0]
 .ret)))
abbrev h91:HF:=⟨h91c,[.tmp 2],4,false⟩
def h92l0:HC:=
 (.seq (sR [oM 5 4,oM 6 0,oN 7 6,oC 8 .lss 5 7]
 (.cond (.t 8) .skip
 (.exit 0)))
 (.seq (.block 1 (.region [oM 11 3,oM 12 0,oM 13 4,oI 14 2 12 13,oA 15 1 14,oL 16 15,oC 17 .add 11 16,oM 3 17]))
 (.region [oM 9 4,oB 10 .add 9 1,oM 4 10])))
def h92c:HC:=
 (sR [oK 2 0]
 (sR [oK 3 0]
 (.seq (sR [oK 4 0]
 (.block 0 (.loop [0,2,0] h92l0)))
 (sR [oM 18 3,oM 2 18]
 .ret))))
abbrev h92:HF:=⟨h92c,[.tmp 2],19,false⟩
def h93c:HC:=
 (sR [Oo 2 (.mov (.k (.string ⟨#[]⟩)))]
 (sR [oM 3 0,Oo 4 (.min2 (.t 3) (Ki 200000)),Oo 5 (.max2 (Ki 0) (.t 4)),Oo 6 (.mk 1 1 L8 (.t 5) (.t 5)),Oo 7 (.cvbs (.t 6)),oM 2 7]
 .ret))
abbrev h93:HF:=⟨h93c,[.tmp 2],8,false⟩
def h94c:HC:=
 (sR [Oo 2 (.mov (.k (.string ⟨#[]⟩)))]
 (sR [oM 3 0,oM 4 0,Oo 5 (.lenS (.t 4)),Oo 6 (.call 89 [(.t 5),(Ki 8)]),Oo 7 (.bin .mul (Ki 8) (.t 6)),oM 8 0,Oo 9 (.lenS (.t 8)),oC 10 .sub 7 9,oJ 11 93 10,oC 12 .add 3 11,oM 2 12]
 .ret))
abbrev h94:HF:=⟨h94c,[.tmp 2],13,false⟩
def h95l0:HC:=
 (.seq (sR [oM 11 5,oM 12 0,oN 13 12,oC 14 .lss 11 13]
 (.cond (.t 14) .skip
 (.exit 0)))
 (.seq (.block 1 (.seq (.drawn [Qo (oM 17 0),Qo (oM 18 5),Qo (oI 19 11 17 18),Qo (oG 20 11 19),Qo (oM 21 1),Qo (oM 22 5),Qo (oI 23 11 21 22),Qo (oG 24 11 23),Qe (kC 25 35 20 24),Qo (Oo 26 (.un .not (.t 25)))])
 (.cond (.t 26) (sR [Oo 4 (.mov (.k (.bool false)))]
 .ret)
 .skip)))
 (.region [oM 15 5,oB 16 .add 15 1,oM 5 16])))
def h95c:HC:=
 (sR [Oo 4 (.mov (.k (.bool false)))]
 (.seq (sR [oM 6 0,oN 7 6,oM 8 1,oN 9 8,oC 10 .neq 7 9]
 (.cond (.t 10) (sR [Oo 4 (.mov (.k (.bool false)))]
 .ret)
 .skip))
 (.seq (sR [oK 5 0]
 (.block 0 (.loop [0,0,3] h95l0)))
 (sR [Oo 4 (.mov (.k (.bool true)))]
 .ret))))
abbrev h95:HF:=⟨h95c,[.tmp 4],27,false⟩
def h96l0:HC:=
 (sR [oB 24 .lss 23 8]
 (.seq (.cond (.t 24) .skip
 (.exit 0))
 (.seq (.block 1 (sR [oM 25 23,oM 8 25]
 (.region [oM 26 6,oM 27 8,oJ 28 147 27,oM 29 6,oM 30 8,Oo 31 (.bin .mul (Ki 2) (.t 30)),Oo 32 (.bin .add (Ki 42) (.t 31)),kC 33 145 29 32,Oo 34 (.call 146 [(.t 26),(.t 28),(.t 33)])])))
 (.region [oB 35 .add 23 1,oM 23 35]))))
def h96c:HC:=
 (sR [Oo 2 (.mov (.k (.string ⟨#[]⟩))),oK 3 0,oK 4 0]
 (.seq (sR [oM 9 0,oJ 10 142 9,oM 5 10]
 (sR [oM 11 5,oB 12 .neq 11 0]
 (.cond (.t 12) (sR [oM 13 5,Oo 2 (.mov (.k (.string ⟨#[]⟩))),oK 3 0,oM 4 13]
 .ret)
 .skip)))
 (.seq (sR [oM 14 0,oJ 15 143 14,oN 16 15,oB 17 .gtr 16 0]
 (.cond (.t 17) (sR [Oo 2 (.mov (.k (.string ⟨#[]⟩))),oK 3 0,oK 4 31]
 .ret)
 .skip))
 (.seq (.regR [1] [oM 18 0,Oo 19 (.cvsb (.t 18)),oM 6 19])
 (.gh (.bv 6) (sR [oM 20 6,Oo 21 (.call 145 [(.t 20),(Ki 40)]),oJ 22 144 21,oM 7 22]
 (.seq (sR [oK 23 0]
 (.block 0 (.loop [6,0,15] h96l0)))
 (sR [oM 36 6,Oo 37 (.slL 1 (.t 36) (some (Ki 40)) (some (Ki 58))),On (.clr 1 L8 (.t 37))]
 (sR [oM 38 6,Oo 39 (.cvbs (.t 38)),oM 40 7,oM 2 39,oM 3 40,oK 4 0]
 .ret)))))))))
abbrev h96:HF:=⟨h96c,[.tmp 2,.tmp 3,.tmp 4],41,false⟩
def h97l0:HC:=
 (.seq (sR [oM 10 6,oB 11 .geq 10 0]
 (.cond (.t 11) .skip
 (.exit 0)))
 (.seq (.block 1 (.region [oM 14 5,Oo 15 (.bin .shl (.t 14) (.k (.int .u64 8))),oM 16 1,oA 17 0 2,oL 18 17,oM 19 6,oC 20 .add 18 19,Oo 21 (.ixS (.t 16) (.t 20)),Oo 22 (.conv .i64 (.t 21)),oC 23 .or 15 22,oM 5 23]))
 (.region [oM 12 6,oB 13 .sub 12 1,oM 6 13])))
def h97c:HC:=
 (sR [Oo 2 (.box (.t 0)),oK 4 0]
 (sR [oK 5 0]
 (.seq (sR [oA 7 1 2,oL 8 7,oB 9 .sub 8 1,oM 6 9]
 (.block 0 (.loop [1,0,2,0] h97l0)))
 (sR [oM 24 5,oM 4 24]
 .ret))))
abbrev h97:HF:=⟨h97c,[.tmp 4],25,false⟩
def h98l0:HC:=
 (.seq (sR [oM 10 0,Oo 11 (.call 148 [(.t 10),(.k (.string ⟨#[255,255,255,255]⟩))]),Oo 12 (.un .not (.t 11))]
 (.cond (.t 12) .skip
 (.exit 0)))
 (.block 1 (.seq (sR [oM 13 0,Oo 14 (.lenS (.t 13)),oB 15 .lss 14 24]
 (.cond (.t 15) (sR [Oo 2 (.mov (.k (.slice none 0 0))),Oo 3 (.mov (.k (.bool false)))]
 .ret)
 .skip))
 (sR [oG 16 2 5,oM 17 0,kC 18 97 16 17,oM 6 18]
 (.seq (sR [oM 19 6,oB 20 .rem 19 8,oB 21 .neq 20 0,oM 22 21,gM 22 false 23 6,Og 22 false 24 (.bin .lss (.t 23) (Ki 24)),Oo 25 (.pick (.t 22) (.k (.bool true)) (.t 24)),oM 26 25,gM 26 false 27 6,gM 26 false 28 0,Og 26 false 29 (.lenS (.t 28)),Og 26 false 30 (.bin .sub (.t 29) (Ki 4)),Og 26 false 31 (.bin .gtr (.t 27) (.t 30)),Oo 32 (.pick (.t 26) (.k (.bool true)) (.t 31))]
 (.cond (.t 32) (sR [Oo 2 (.mov (.k (.slice none 0 0))),Oo 3 (.mov (.k (.bool false)))]
 .ret)
 .skip))
 (sR [oM 33 4,oM 34 0,oM 35 6,Oo 36 (.slS (.t 34) none (some (.t 35))),Oo 37 (.bslc 1 1 qZ4 [(0,(.t 36))]),Oo 38 (.app 1 16 qZ4 (.t 33) (.t 37)),oM 4 38]
 (.region [oM 39 0,oM 40 6,Oo 41 (.slS (.t 39) (some (.t 40)) none),oM 0 41])))))))
def h98c:HC:=
 (sR [Oo 2 (.mov (.k (.slice none 0 0))),Oo 3 (.mov (.k (.bool false)))]
 (sR [Oo 4 (.mov (.k (.slice none 0 0)))]
 (.gh (.nil 4 1) (sR [Oo 7 (.build [Zi 0,Zi 0] [(0,1,(Ki 4)),(1,1,(Ki 4))]),Oo 5 (.alloc [Zi 0,Zi 0]),oS 2 5 7]
 (.seq (sR [oM 8 0,Oo 9 (.slS (.t 8) (some (Ki 64)) none),oM 0 9]
 (.block 0 (.loop [0,3,0] h98l0)))
 (sR [oM 42 4,oM 2 42,Oo 3 (.mov (.k (.bool true)))]
 .ret))))))
abbrev h98:HF:=⟨h98c,[.tmp 2,.tmp 3],43,false⟩
def h99c:HC:=
 (sR [Oo 2 (.box (.t 0)),Oo 4 (.mov (.k (.string ⟨#[]⟩)))]
 (.seq (.regR [0] [Oo 6 (.mk 1 1 L8 (Ki 512) (Ki 512)),oM 5 6])
 (sR [oM 7 5,Oo 8 (.cpys (.t 7) (.k (.string ⟨#[70,73,76,69]⟩)))]
 (.seq (.regR [149] [Oo 9 (.load true 2 (.g 6)),oM 10 5,oA 11 6 2,oL 12 11,Oo 13 (.call 149 [(.t 9),(.t 10),(.t 12)])])
 (.seq (.regR [149] [Oo 14 (.load true 2 (.g 0)),oM 15 5,oA 16 0 2,oL 17 16,Oo 18 (.call 149 [(.t 14),(.t 15),(.t 17)])])
 (.seq (.regR [149] [Oo 19 (.load true 2 (.g 1)),oM 20 5,oA 21 1 2,oL 22 21,Oo 23 (.call 149 [(.t 19),(.t 20),(.t 22)])])
 (.seq (.regR [149] [Oo 24 (.load true 2 (.g 8)),oM 25 5,Oo 26 (.call 149 [(.t 24),(.t 25),(Ki 64)])])
 (.seq (.regR [149] [Oo 27 (.load true 2 (.g 2)),oM 28 5,oA 29 2 2,oL 30 29,Oo 31 (.call 149 [(.t 27),(.t 28),(.t 30)])])
 (.seq (.regR [149] [Oo 32 (.load true 2 (.g 9)),oM 33 5,oM 34 1,Oo 35 (.lenS (.t 34)),Oo 36 (.bin .add (Ki 64) (.t 35)),oB 37 .add 36 4,Oo 38 (.call 149 [(.t 32),(.t 33),(.t 37)])])
 (.seq (.regR [149] [Oo 39 (.load true 2 (.g 10)),oM 40 5,Oo 41 (.call 149 [(.t 39),(.t 40),(Ki 512)])])
 (.seq (.regR [149] [Oo 42 (.load true 2 (.g 3)),oM 43 5,oA 44 3 2,oA 45 0 44,oL 46 45,Oo 47 (.call 149 [(.t 42),(.t 43),(.t 46)])])
 (.seq (.regR [149] [Oo 48 (.load true 2 (.g 4)),oM 49 5,oA 50 3 2,oA 51 1 50,oL 52 51,Oo 53 (.call 149 [(.t 48),(.t 49),(.t 52)])])
 (.seq (.regR [149] [Oo 54 (.load true 2 (.g 5)),oM 55 5,oA 56 5 2,oL 57 56,Oo 58 (.call 149 [(.t 54),(.t 55),(.t 57)])])
 (sR [oM 59 5,Oo 60 (.slL 1 (.t 59) (some (Ki 64)) none),oM 61 1,Oo 62 (.bin .add (.t 61) (.k (.string ⟨#[255,255,255,255]⟩))),Oo 63 (.cpys (.t 60) (.t 62))]
 (sR [oM 64 5,Oo 65 (.cvbs (.t 64)),oM 4 65]
 .ret)))))))))))))))
abbrev h99:HF:=⟨h99c,[.tmp 4],66,false⟩
def h100l0:HC:=
 (sR [oC 42 .lss 41 40]
 (.seq (.cond (.t 42) .skip
 (.exit 1))
 (.seq (.block 2 (sR [oI 43 1 39 41,oL 44 43,oM 7 44]
 (.seq (sR [oM 45 7,Oo 46 (.lenS (.t 45)),oM 47 5,Oo 48 (.bin .sub (Ki 9223372036854775807) (.t 47)),oC 49 .gtr 46 48]
 (.cond (.t 49) .bad
 .skip))
 (.region [oM 51 5,oM 52 7,Oo 53 (.lenS (.t 52)),oC 54 .add 51 53,oM 5 54]))))
 (.region [oB 55 .add 41 1,oM 41 55]))))
def h100l1:HC:=
 (sR [oC 66 .lss 65 64]
 (.seq (.cond (.t 66) .skip
 (.exit 3))
 (.seq (.block 4 (sR [oI 67 1 63 65,oL 68 67,oM 10 68]
 (sR [oM 69 1,kC 70 151 8 69]
 (.region [oM 71 10,kC 72 151 8 71]))))
 (.region [oB 73 .add 65 1,oM 65 73]))))
def h100c:HC:=
 (sR [Oo 4 (.mov (.k (.string ⟨#[]⟩)))]
 (.seq (sR [oM 11 0,oN 12 11]
 (.block 0 (sR [oB 14 .eql 12 0,oM 13 14]
 (.cond (.t 13) (sR [Oo 4 (.mov (.k (.string ⟨#[]⟩)))]
 .ret)
 (sR [oB 16 .eql 12 1,oM 15 16]
 (.cond (.t 15) (sR [oM 17 0,Oo 18 (.ixL 1 (.t 17) (Ki 0)),oL 19 18,oM 4 19]
 .ret)
 .skip))))))
 (sR [oK 5 0]
 (.seq (sR [oM 20 1,Oo 21 (.lenS (.t 20)),oB 22 .gtr 21 0]
 (.cond (.t 22) (.seq (sR [oM 23 1,Oo 24 (.lenS (.t 23)),oM 25 0,oN 26 25,oB 27 .sub 26 1,Oo 28 (.bin .quo (Ki 9223372036854775807) (.t 27)),oC 29 .geq 24 28]
 (.cond (.t 29) .bad
 .skip))
 (.region [oM 31 5,oM 32 1,Oo 33 (.lenS (.t 32)),oM 34 0,oN 35 34,oB 36 .sub 35 1,oC 37 .mul 33 36,oC 38 .add 31 37,oM 5 38]))
 .skip))
 (.seq (sR [oM 39 0,oN 40 39,oK 41 0]
 (.block 1 (.loop [0,0,3,33,0,0] h100l0)))
 (sR [Oo 8 (.alloc [(.pointer none),(.slice none 0 0)])]
 (sR [oM 56 5,kC 57 150 8 56]
 (sR [oM 58 0,Oo 59 (.ixL 1 (.t 58) (Ki 0)),oL 60 59,kC 61 151 8 60]
 (.seq (sR [oM 62 0,Oo 63 (.slL 1 (.t 62) (some (Ki 1)) none),oN 64 63,oK 65 0]
 (.block 3 (.loop [1,6,54,0,0] h100l1)))
 (sR [oJ 74 152 8,oM 4 74]
 .ret))))))))))
abbrev h100:HF:=⟨h100c,[.tmp 4],75,false⟩
def h101c:HC:=
 (sR [Oo 2 (.alloc nR),oK 3 0]
 (.seq (sR [oM 7 0,Oo 8 (.lenS (.t 7)),oB 9 .gtr 8 440]
 (.cond (.t 9) (sR [Oo 10 (.build nR []),oS 11 2 10,oK 3 8]
 .ret)
 .skip))
 (sR [oM 12 0,oJ 13 153 12,oM 11 13,oE 14 11 0,oE 15 11 1,Oo 4 (.alloc nR),oS 11 4 14,oM 5 15]
 (.seq (sR [oM 16 5,Oo 17 (.un .not (.t 16)),oM 18 17,Og 18 false 19 (.load true 11 (.t 4)),Og 18 false 20 (.call 129 [(.t 19)]),gM 18 false 21 0,Og 18 false 22 (.bin .neq (.t 20) (.t 21)),Oo 23 (.pick (.t 18) (.k (.bool true)) (.t 22))]
 (.cond (.t 23) (sR [Oo 24 (.build nR []),oS 11 2 24,oK 3 3]
 .ret)
 .skip))
 (.seq (sR [oG 25 11 4,oJ 26 72 25,oM 6 26]
 (sR [oM 27 6,oB 28 .neq 27 0]
 (.cond (.t 28) (sR [Oo 29 (.build nR []),oM 30 6,oS 11 2 29,oM 3 30]
 .ret)
 .skip)))
 (sR [oG 31 11 4,oS 11 2 31,oK 3 0]
 .ret))))))
abbrev h101:HF:=⟨h101c,[.cell 2 true 11,.tmp 3],32,false⟩
def h102c:HC:=
 (sR [Oo 1 (.box (.t 0)),Oo 2 (.mov (.k (.string ⟨#[]⟩))),oK 3 0]
 (.seq (sR [oG 5 11 1,oJ 6 72 5,oM 4 6]
 (sR [oM 7 4,oB 8 .neq 7 0]
 (.cond (.t 8) (sR [oM 9 4,Oo 2 (.mov (.k (.string ⟨#[]⟩))),oM 3 9]
 .ret)
 .skip)))
 (sR [oG 10 11 1,oJ 11 129 10,oM 2 11,oK 3 0]
 .ret)))
abbrev h102:HF:=⟨h102c,[.tmp 2,.tmp 3],12,false⟩
def h103l0:HC:=
 (sR [oB 35 .lss 34 8]
 (.seq (.cond (.t 35) .skip
 (.exit 0))
 (.seq (.block 1 (sR [oM 36 34,oM 9 36]
 (sR [oM 37 8,oM 38 9,Oo 39 (.bin .mul (Ki 2) (.t 38)),Oo 40 (.bin .add (Ki 42) (.t 39)),oM 41 8,oM 42 9,oJ 43 147 42,kC 44 145 41 43,Oo 45 (.call 146 [(.t 37),(.t 40),(.t 44)])]
 (.region [oM 46 8,oM 47 9,oJ 48 147 47,oM 49 1,oJ 50 158 49,Oo 51 (.call 146 [(.t 46),(.t 48),(.t 50)])]))))
 (.region [oB 52 .add 34 1,oM 34 52]))))
def h103c:HC:=
 (sR [Oo 4 (.mov (.k (.string ⟨#[]⟩))),oK 5 0]
 (.seq (sR [oM 10 0,oJ 11 142 10,oM 6 11]
 (sR [oM 12 6,oB 13 .neq 12 0]
 (.cond (.t 13) (sR [oM 14 6,Oo 4 (.mov (.k (.string ⟨#[]⟩))),oM 5 14]
 .ret)
 .skip)))
 (.seq (sR [oM 15 0,Oo 16 (.slS (.t 15) (some (Ki 40)) (some (Ki 58))),Oo 17 (.call 156 [(.t 16),(.k (.string ⟨#[0]⟩))]),Oo 18 (.bin .eql (.t 17) (.k (.string ⟨#[]⟩))),Oo 19 (.call 155 [(.t 18),(Ki 3)]),oM 20 1,Oo 21 (.call 157 [(.t 20),(Ki 1),(Ki 65535)]),Oo 22 (.call 155 [(.t 21),(Ki 2)]),Oo 23 (.bslc 1 2 [Zi 0] [(0,(.t 19)),(1,(.t 22))]),oJ 24 154 23,oM 7 24]
 (sR [oM 25 7,oB 26 .neq 25 0]
 (.cond (.t 26) (sR [oM 27 7,Oo 4 (.mov (.k (.string ⟨#[]⟩))),oM 5 27]
 .ret)
 .skip)))
 (.seq (.regR [1] [oM 28 0,Oo 29 (.cvsb (.t 28)),oM 8 29])
 (.gh (.bv 8) (sR [oM 30 8,oM 31 1,oJ 32 158 31,Oo 33 (.call 146 [(.t 30),(Ki 40),(.t 32)])]
 (.seq (sR [oK 34 0]
 (.block 0 (.loop [1,6,25] h103l0)))
 (sR [oM 53 8,Oo 54 (.cvbs (.t 53)),oM 4 54,oK 5 0]
 .ret))))))))
abbrev h103:HF:=⟨h103c,[.tmp 4,.tmp 5],55,false⟩
def h104c:HC:=
 (sR [Oo 3 (.box (.t 0)),Oo 6 (.mov (.k (.string ⟨#[]⟩)))]
 (.seq (.drawn [Qo (Oo 8 (.call 93 [(Ki 4)])),Qo (Oo 9 (.bin .add (.k (.string ⟨#[70,73,76,69]⟩)) (.t 8))),Qo (oA 10 0 3),Qo (oL 11 10),Qo (Oo 12 (.call 90 [(.t 11),(Ki 4)])),Qo (oC 13 .add 9 12),Qo (Oo 14 (.call 93 [(Ki 4)])),Qo (oC 15 .add 13 14),Qo (oA 16 1 3),Qo (oL 17 16),Qo (Oo 18 (.call 90 [(.t 17),(Ki 2)])),Qo (oC 19 .add 15 18),Qo (oA 20 2 3),Qo (oL 21 20),Qo (Oo 22 (.call 90 [(.t 21),(Ki 2)])),Qo (oC 23 .add 19 22),Qo (Oo 24 (.call 90 [(Ki 64),(Ki 2)])),Qo (oC 25 .add 23 24),Qo (oA 26 3 3),Qo (oL 27 26),Qo (Oo 28 (.call 90 [(.t 27),(Ki 2)])),Qo (oC 29 .add 25 28),Qo (oA 30 4 3),Qo (oL 31 30),Qo (Oo 32 (.call 90 [(.t 31),(Ki 4)])),Qo (oC 33 .add 29 32),Qo (Oo 34 (.call 90 [(Ki 512),(Ki 4)])),Qo (oC 35 .add 33 34),Qo (oA 36 5 3),Qo (oL 37 36),Qo (Oo 38 (.call 90 [(.t 37),(Ki 4)])),Qo (oC 39 .add 35 38),Qo (oA 40 6 3),Qo (oL 41 40),Qo (Oo 42 (.call 90 [(.t 41),(Ki 2)])),Qo (oC 43 .add 39 42),Qo (oA 44 7 3),Qo (oL 45 44),Qo (Oo 46 (.call 90 [(.t 45),(Ki 2)])),Qo (oC 47 .add 43 46),Qo (oM 7 47)])
 (sR [oM 48 7,oM 49 7,Oo 50 (.lenS (.t 49)),Oo 51 (.bin .sub (Ki 64) (.t 50)),oJ 52 93 51,oC 53 .add 48 52,oM 54 1,oC 55 .add 53 54,Oo 56 (.bin .add (.t 55) (.k (.string ⟨#[255,255,255,255]⟩))),oM 7 56]
 (sR [oM 57 7,oM 58 7,Oo 59 (.lenS (.t 58)),Oo 60 (.bin .sub (Ki 512) (.t 59)),oJ 61 93 60,oC 62 .add 57 61,oM 63 2,kC 64 159 62 63,oM 6 64]
 .ret))))
abbrev h104:HF:=⟨h104c,[.tmp 6],65,false⟩
def h105c:HC:=
 (sR [Oo 4 (.mov (.k (.bool false)))]
 (sR [oM 5 0,oM 6 1,kC 7 160 5 6,oB 8 .geq 7 0,oM 4 8]
 .ret))
abbrev h105:HF:=⟨h105c,[.tmp 4],9,false⟩
def h106c:HC:=
 (sR [Oo 0 (.mov (.k (.slice none 0 0)))]
 (sR [Oo 1 (.bslc 1 5 qZ4 [(0,(.k (.string ⟨#[70,73,76,69]⟩))),(1,(.k (.string ⟨#[73,78,68,88]⟩))),(2,(.k (.string ⟨#[82,67,82,68]⟩))),(3,(.k (.string ⟨#[82,83,84,82]⟩))),(4,(.k (.string ⟨#[66,65,65,68]⟩)))]),oM 0 1]
 .ret))
abbrev h106:HF:=⟨h106c,[.tmp 0],2,false⟩
def h107l0:HC:=
 (.seq (sR [oM 13 6,oB 14 .leq 13 8]
 (.cond (.t 14) .skip
 (.exit 0)))
 (.seq (.block 1 (sR [oM 17 6,oB 18 .mul 17 64,oB 19 .sub 18 2,oM 7 19]
 (.seq (sR [oM 20 4,oB 21 .eql 20 0,oM 22 21,gM 22 false 23 0,gM 22 false 24 7,Og 22 false 25 (.call 57 [(.t 23),(.t 24),(Ki 2)]),gM 22 false 26 4,Og 22 false 27 (.bin .neq (.t 25) (.t 26)),Oo 28 (.pick (.t 22) (.k (.bool true)) (.t 27))]
 (.cond (.t 28) (sR [Oo 2 (.mov (.k (.string ⟨#[]⟩))),Oo 3 (.mov (.k (.bool false)))]
 .ret)
 .skip))
 (.region [oM 29 5,oM 30 7,oM 31 0,oM 32 6,Oo 33 (.bin .mul (Ki 2) (.t 32)),Oo 34 (.bin .add (Ki 40) (.t 33)),oM 35 6,Oo 36 (.bin .mul (Ki 2) (.t 35)),Oo 37 (.bin .add (Ki 40) (.t 36)),oB 38 .add 37 2,Oo 39 (.slS (.t 31) (some (.t 34)) (some (.t 38))),Oo 40 (.call 161 [(.t 29),(.t 30),(.t 39)]),oM 5 40]))))
 (.region [oM 15 6,oB 16 .add 15 1,oM 6 16])))
def h107c:HC:=
 (sR [Oo 2 (.mov (.k (.string ⟨#[]⟩))),Oo 3 (.mov (.k (.bool false)))]
 (sR [oM 8 0,Oo 9 (.call 57 [(.t 8),(Ki 40),(Ki 2)]),oM 4 9]
 (sR [oM 10 0,Oo 11 (.call 93 [(Ki 18)]),Oo 12 (.call 161 [(.t 10),(Ki 40),(.t 11)]),oM 5 12]
 (.seq (sR [oK 6 1]
 (.block 0 (.loop [0,3,0,0] h107l0)))
 (sR [oM 41 5,oM 2 41,Oo 3 (.mov (.k (.bool true)))]
 .ret)))))
abbrev h107:HF:=⟨h107c,[.tmp 2,.tmp 3],42,false⟩
def h108l0:HC:=
 (.seq (sR [oM 115 10,oM 116 0,Oo 117 (.lenS (.t 116)),oC 118 .leq 115 117,oM 119 118,gM 119 true 120 9,Og 119 true 121 (.un .not (.t 120)),Oo 122 (.pick (.t 119) (.t 121) (.k (.bool false)))]
 (.cond (.t 122) .skip
 (.exit 0)))
 (.seq (.block 1 (sR [oM 126 0,oM 127 7,oM 128 10,Oo 129 (.slS (.t 126) (some (.t 127)) (some (.t 128))),oJ 130 162 129,oM 125 130,oE 131 125 0,oE 132 125 1,oM 11 131,oM 12 132]
 (sR [oM 133 12,oB 134 .eql 133 0]
 (.cond (.t 134) (.region [oM 135 11,oA 136 7 5,oS 1 136 135,Oo 9 (.mov (.k (.bool true)))])
 .skip))))
 (.region [oM 123 10,oB 124 .add 123 1,oM 10 124])))
def h108c:HC:=
 (sR [Oo 2 (.alloc nR),oK 3 0]
 (.seq (sR [oM 14 0,Oo 15 (.lenS (.t 14)),oB 16 .gtr 15 440]
 (.cond (.t 16) (sR [Oo 17 (.build nR []),oS 11 2 17,oK 3 8]
 .ret)
 .skip))
 (sR [oK 4 3]
 (.seq (sR [oM 18 0,Oo 19 (.lenS (.t 18)),oB 20 .lss 19 24,oM 21 20,gM 21 false 22 0,Og 21 false 23 (.ixS (.t 22) (Ki 8)),Og 21 false 24 (.bin .gtr (.t 23) (.k (.int .u8 1))),Oo 25 (.pick (.t 21) (.k (.bool true)) (.t 24)),oM 26 25,gM 26 false 27 0,Og 26 false 28 (.ixS (.t 27) (Ki 8)),Og 26 false 29 (.bin .eql (.t 28) (.k (.int .u8 1))),gM 26 false 30 29,gM 30 true 31 0,Og 30 true 32 (.lenS (.t 31)),Og 30 true 33 (.bin .lss (.t 32) (Ki 40)),Og 26 false 34 (.pick (.t 30) (.t 33) (.k (.bool false))),Oo 35 (.pick (.t 26) (.k (.bool true)) (.t 34))]
 (.cond (.t 35) (sR [Oo 36 (.build nR []),oM 37 4,oS 11 2 36,oM 3 37]
 .ret)
 .skip))
 (.seq (.drawn [Qo (oM 38 0),Qo (Oo 39 (.call 57 [(.t 38),(Ki 0),(Ki 4)])),Qo (oM 40 0),Qo (Oo 41 (.ixS (.t 40) (Ki 8))),Qo (Oo 42 (.bin .eql (.t 41) (.k (.int .u8 0)))),Qo (oM 43 0),Qo (Oo 44 (.call 57 [(.t 43),(Ki 12),(Ki 2)])),Qo (oM 45 0),Qo (Oo 46 (.call 57 [(.t 45),(Ki 14),(Ki 2)])),Qo (Oo 47 (.build nR [(0,1,(.t 39)),(4,1,(.t 42)),(3,1,(.t 44)),(2,1,(.t 46))])),Qe (Oo 5 (.alloc nR)),Qe (oS 11 5 47)])
 (sR [oK 6 24]
 (.seq (sR [oA 48 4 5,oL 49 48,Oo 50 (.un .not (.t 49))]
 (.cond (.t 50) (.region [oK 6 40])
 .skip))
 (.seq (sR [oM 51 6,oM 52 0,Oo 53 (.ixS (.t 52) (Ki 9)),Oo 54 (.conv .i64 (.t 53)),oC 55 .add 51 54,oM 56 0,Oo 57 (.lenS (.t 56)),oC 58 .gtr 55 57]
 (.cond (.t 58) (sR [Oo 59 (.build nR []),oM 60 4,oS 11 2 59,oM 3 60]
 .ret)
 .skip))
 (sR [oM 61 0,oM 62 6,oM 63 6,oM 64 0,Oo 65 (.ixS (.t 64) (Ki 9)),Oo 66 (.conv .i64 (.t 65)),oC 67 .add 63 66,Oo 68 (.slS (.t 61) (some (.t 62)) (some (.t 67))),oA 69 1 5,oS 1 69 68]
 (sR [oM 70 6,oM 71 0,Oo 72 (.ixS (.t 71) (Ki 9)),Oo 73 (.conv .i64 (.t 72)),oC 74 .add 70 73,Oo 75 (.call 89 [(.t 74),(Ki 8)]),Oo 76 (.bin .mul (Ki 8) (.t 75)),oM 7 76]
 (.seq (sR [oM 77 7,oM 78 0,Oo 79 (.lenS (.t 78)),oC 80 .gtr 77 79]
 (.cond (.t 80) (sR [Oo 81 (.build nR []),oM 82 4,oS 11 2 81,oM 3 82]
 .ret)
 .skip))
 (.seq (sR [oA 83 4 5,oL 84 83]
 (.cond (.t 84) (sR [oM 85 0,Oo 86 (.call 57 [(.t 85),(Ki 16),(Ki 4)]),oM 8 86]
 (.seq (sR [oM 87 7,oM 88 8,oC 89 .add 87 88,oM 90 0,Oo 91 (.lenS (.t 90)),oC 92 .gtr 89 91]
 (.cond (.t 92) (sR [Oo 93 (.build nR []),oM 94 4,oS 11 2 93,oM 3 94]
 .ret)
 .skip))
 (.region [oM 95 0,oM 96 7,oM 97 7,oM 98 8,oC 99 .add 97 98,Oo 100 (.slS (.t 95) (some (.t 96)) (some (.t 99))),oA 101 5 5,oS 1 101 100])))
 (sR [oM 102 0,Oo 103 (.call 57 [(.t 102),(Ki 16),(Ki 4)]),oM 104 0,Oo 105 (.call 57 [(.t 104),(Ki 28),(Ki 4)]),oM 106 0,Oo 107 (.call 57 [(.t 106),(Ki 32),(Ki 4)]),oM 108 0,Oo 109 (.call 57 [(.t 108),(Ki 36),(Ki 4)]),oA 110 6 5,oS 1 110 103,oA 111 8 5,oS 1 111 105,oA 112 9 5,oS 1 112 107,oA 113 10 5,oS 1 113 109]
 (sR [Oo 9 (.mov (.k (.bool false)))]
 (.seq (sR [oM 114 7,oM 10 114]
 (.block 0 (.loop [0,1,1,0,1,1,0] h108l0)))
 (sR [oM 137 9,Oo 138 (.un .not (.t 137))]
 (.cond (.t 138) (sR [Oo 139 (.build nR []),oM 140 4,oS 11 2 139,oM 3 140]
 .ret)
 .skip)))))))
 (.seq (sR [oG 141 11 5,oJ 142 38 141,oM 143 0,oC 144 .neq 142 143]
 (.cond (.t 144) (sR [Oo 145 (.build nR []),oM 146 4,oS 11 2 145,oM 3 146]
 .ret)
 .skip))
 (.seq (sR [oG 147 11 5,oJ 148 37 147,oM 13 148]
 (sR [oM 149 13,oB 150 .neq 149 0]
 (.cond (.t 150) (sR [Oo 151 (.build nR []),oM 152 13,oS 11 2 151,oM 3 152]
 .ret)
 .skip)))
 (sR [oG 153 11 5,oS 11 2 153,oK 3 0]
 .ret)))))))))))))))
abbrev h108:HF:=⟨h108c,[.cell 2 true 11,.tmp 3],154,false⟩
def h109c:HC:=
 (sR [Oo 2 (.mov (.k (.string ⟨#[]⟩)))]
 (sR [oM 3 0,oJ 4 163 3,oM 2 4]
 .ret))
abbrev h109:HF:=⟨h109c,[.tmp 2],5,false⟩
theorem h109_ok:CK Tryz.f109 h109c:=by unfold CK;kernel_rfl
theorem aDq:RK Tryz.f109 [.tmp 2]:=by unfold RK;kernel_rfl
def h112c:HC:=
 (sR [Oo 1 (.box (.t 0)),oK 2 0]
 (sR [oA 3 0 1,oL 4 3,Oo 5 (.call 58 [(.t 4),(Ki 0),(Ki 95)]),oM 6 5,Og 6 true 7 (.addo 1 (.t 1)),Og 6 true 8 (.load false 1 (.t 7)),Og 6 true 9 (.call 58 [(.t 8),(Ki 1),(Ki 65535)]),Oo 10 (.pick (.t 6) (.t 9) (.k (.bool false))),Oo 11 (.call 60 [(.t 10),(Ki 2)]),oM 2 11]
 .ret))
abbrev h112:HF:=⟨h112c,[.tmp 2],12,false⟩
def h116c:HC:=
 (sR [Oo 2 (.box (.t 0)),Oo 3 (.box (.t 1)),oK 4 0]
 (sR [oL 6 2,oL 7 3,Oo 8 (.slL 11 (.t 6) none (some (.t 7))),Oo 9 (.mkfn 166 [(.t 2),(.t 3)]),kC 10 130 8 9,oM 5 10]
 (sR [oL 11 2,oL 12 3,oI 13 11 11 12,oG 14 11 13,oJ 15 72 14,oM 16 5,Oo 17 (.un .not (.t 16)),Oo 18 (.call 118 [(.t 17),(Ki 23)]),Oo 19 (.bslc 1 2 [Zi 0] [(0,(.t 15)),(1,(.t 18))]),oJ 20 117 19,oM 4 20]
 .ret)))
abbrev h116:HF:=⟨h116c,[.tmp 4],21,false⟩
def h117l0:HC:=
 (sR [oC 8 .lss 7 6]
 (.seq (.cond (.t 8) .skip
 (.exit 0))
 (.seq (.block 1 (sR [oI 9 1 5 7,oL 10 9,oM 4 10]
 (sR [oM 11 4,oB 12 .neq 11 0]
 (.cond (.t 12) (sR [oM 13 4,oM 2 13]
 .ret)
 .skip))))
 (.region [oB 14 .add 7 1,oM 7 14]))))
def h117c:HC:=
 (sR [oK 2 0]
 (.seq (sR [oM 5 0,oN 6 5,oK 7 0]
 (.block 0 (.loop [5,0,0] h117l0)))
 (sR [oK 2 0]
 .ret)))
abbrev h117:HF:=⟨h117c,[.tmp 2],15,false⟩
def h118c:HC:=
 (sR [oK 4 0]
 (.seq (sR [oM 5 0]
 (.cond (.t 5) (sR [oK 4 0]
 .ret)
 .skip))
 (sR [oM 6 1,oM 4 6]
 .ret)))
abbrev h118:HF:=⟨h118c,[.tmp 4],7,false⟩
def h119c:HC:=
 (sR [Oo 2 (.box (.t 0)),Oo 3 (.box (.t 1)),oK 4 0]
 (.seq (.drawn [Qo (oA 5 0 2),Qo (oL 6 5),Qo (oA 7 0 3),Qo (oL 8 7),Qo (kC 9 168 6 8),Qo (oA 10 1 2),Qo (oL 11 10),Qo (oA 12 1 3),Qo (oL 13 12),Qo (kC 14 169 11 13),Qo (oA 15 6 2),Qo (oL 16 15),Qo (oA 17 6 3),Qo (oL 18 17),Qo (kC 19 168 16 18),Qo (oA 20 2 2),Qo (oL 21 20),Qo (oA 22 2 3),Qo (oL 23 22),Qe (kC 24 168 21 23),Qe (Oo 25 (.bslc 1 4 [Zi 0] [(0,(.t 9)),(1,(.t 14)),(2,(.t 19)),(3,(.t 24))])),Qe (oJ 26 167 25),Qo (oM 4 26)])
 .ret))
abbrev h119:HF:=⟨h119c,[.tmp 4],27,false⟩
def h120c:HC:=
 (sR [Oo 2 (.box (.t 0)),Oo 3 (.box (.t 1)),Oo 4 (.mov (.k (.bool false)))]
 (sR [oA 5 0 2,oL 6 5,oA 7 0 3,oL 8 7,oC 9 .eql 6 8,oM 10 9,Og 10 true 11 (.addo 1 (.t 2)),Og 10 true 12 (.load false 1 (.t 11)),Og 10 true 13 (.addo 1 (.t 3)),Og 10 true 14 (.load false 1 (.t 13)),Og 10 true 15 (.bin .eql (.t 12) (.t 14)),Oo 16 (.pick (.t 10) (.t 15) (.k (.bool false))),oM 17 16,Og 17 true 18 (.addo 6 (.t 2)),Og 17 true 19 (.load false 1 (.t 18)),Og 17 true 20 (.addo 6 (.t 3)),Og 17 true 21 (.load false 1 (.t 20)),Og 17 true 22 (.bin .eql (.t 19) (.t 21)),Oo 23 (.pick (.t 17) (.t 22) (.k (.bool false))),oM 4 23]
 .ret))
abbrev h120:HF:=⟨h120c,[.tmp 4],24,false⟩
def h121c:HC:=
 (sR [Oo 1 (.box (.t 0)),oK 2 0,oK 3 0]
 (sR [oG 7 11 1,oJ 8 102 7,oM 6 8,oE 9 6 0,oE 10 6 1,oM 4 9,oM 5 10]
 (sR [oM 11 4,Oo 12 (.lenS (.t 11)),oM 13 5,oM 2 12,oM 3 13]
 .ret)))
abbrev h121:HF:=⟨h121c,[.tmp 2,.tmp 3],14,false⟩
def h122l0:HC:=
 (.seq (sR [oM 15 6,oM 16 1,oC 17 .lss 15 16]
 (.cond (.t 17) .skip
 (.exit 0)))
 (.seq (.block 1 (.seq (.drawn [Qo (oM 20 0),Qo (oM 21 6),Qo (oI 22 11 20 21),Qo (oA 23 2 22),Qo (oL 24 23),Qo (oM 25 0),Qo (oM 26 1),Qo (oI 27 11 25 26),Qo (oA 28 2 27),Qo (oL 29 28),Qo (oC 30 .eql 24 29)])
 (.cond (.t 30) (sR [oK 4 23]
 .ret)
 .skip)))
 (.region [oM 18 6,oB 19 .add 18 1,oM 6 19])))
def h122c:HC:=
 (sR [oK 4 0]
 (.seq (sR [oM 7 0,oM 8 1,oI 9 11 7 8,oG 10 11 9,oJ 11 37 10,oM 5 11]
 (sR [oM 12 5,oB 13 .neq 12 0]
 (.cond (.t 13) (sR [oM 14 5,oM 4 14]
 .ret)
 .skip)))
 (.seq (sR [oK 6 0]
 (.block 0 (.loop [0,0,4] h122l0)))
 (sR [oK 4 0]
 .ret))))
abbrev h122:HF:=⟨h122c,[.tmp 4],31,false⟩
def h123c:HC:=
 (sR [Oo 2 (.box (.t 0)),Oo 3 (.box (.t 1)),oK 4 0]
 (.seq (.seq (.drawn [Qo (oG 6 11 2),Qo (oJ 7 80 6),Qo (oG 8 11 3),Qe (oJ 9 80 8),Qe (kC 10 170 7 9),Qo (oM 5 10)])
 (sR [oM 11 5,oB 12 .neq 11 0]
 (.cond (.t 12) (sR [oM 13 5,oM 4 13]
 .ret)
 .skip)))
 (sR [oA 14 2 2,oL 15 14,oA 16 2 3,oL 17 16,kC 18 171 15 17,oM 4 18]
 .ret)))
abbrev h123:HF:=⟨h123c,[.tmp 4],19,false⟩
def h124c:HC:=
 (sR [Oo 2 (.mov (.k (.bool false)))]
 (sR [Oo 6 (.call 172 []),oM 7 0,Oo 8 (.mpx true (.bool false) (.t 6) (.t 7)),oM 5 8,oE 9 5 0,oE 10 5 1,oM 3 9,oM 4 10]
 (sR [oM 11 4,oM 2 11]
 .ret)))
abbrev h124:HF:=⟨h124c,[.tmp 2],12,false⟩
def h125c:HC:=
 (sR [oK 2 0]
 (sR [oM 3 0,Oo 4 (.bin .eql (.t 3) (.k (.string ⟨#[]⟩))),oM 5 4,gM 5 false 6 0,Og 5 false 7 (.call 173 [(.t 6)]),Og 5 false 8 (.bin .eql (.t 7) (Ki 0)),Oo 9 (.pick (.t 5) (.k (.bool true)) (.t 8)),Oo 10 (.call 118 [(.t 9),(Ki 4)]),oM 2 10]
 .ret))
abbrev h125:HF:=⟨h125c,[.tmp 2],11,false⟩
def h126c:HC:=
 (sR [Oo 6 (.mov (.k (.bool false)))]
 (sR [oM 7 1,oM 8 0,oC 9 .leq 7 8,oM 10 9,gM 10 true 11 0,gM 10 true 12 2,Og 10 true 13 (.bin .leq (.t 11) (.t 12)),Oo 14 (.pick (.t 10) (.t 13) (.k (.bool false))),oM 6 14]
 .ret))
abbrev h126:HF:=⟨h126c,[.tmp 6],15,false⟩
def h127c:HC:=
 (sR [Oo 1 (.box (.t 0)),oK 2 0]
 (sR [oA 4 7 1,oL 5 4,oN 6 5,oB 7 .eql 6 0,oM 8 7,Og 8 true 9 (.addo 6 (.t 1)),Og 8 true 10 (.load false 1 (.t 9)),Og 8 true 11 (.bin .eql (.t 10) (Ki 0)),Oo 12 (.pick (.t 8) (.t 11) (.k (.bool false))),oM 13 12,Og 13 true 14 (.addo 8 (.t 1)),Og 13 true 15 (.load false 1 (.t 14)),Og 13 true 16 (.bin .eql (.t 15) (Ki 0)),Oo 17 (.pick (.t 13) (.t 16) (.k (.bool false))),oM 18 17,Og 18 true 19 (.addo 9 (.t 1)),Og 18 true 20 (.load false 1 (.t 19)),Og 18 true 21 (.bin .eql (.t 20) (Ki 0)),Oo 22 (.pick (.t 18) (.t 21) (.k (.bool false))),oM 23 22,Og 23 true 24 (.addo 10 (.t 1)),Og 23 true 25 (.load false 1 (.t 24)),Og 23 true 26 (.bin .eql (.t 25) (Ki 0)),Oo 27 (.pick (.t 23) (.t 26) (.k (.bool false))),oM 3 27]
 (.seq (.drawn [Qo (oM 28 3),Qo (Oo 29 (.call 118 [(.t 28),(Ki 3)])),Qo (oA 30 5 1),Qo (oL 31 30),Qo (Oo 32 (.lenS (.t 31))),Qo (oB 33 .leq 32 400),Qe (Oo 34 (.call 118 [(.t 33),(Ki 8)])),Qe (Oo 35 (.bslc 1 2 [Zi 0] [(0,(.t 29)),(1,(.t 34))])),Qe (oJ 36 117 35),Qo (oM 2 36)])
 .ret)))
abbrev h127:HF:=⟨h127c,[.tmp 2],37,false⟩
def h128c:HC:=
 (sR [Oo 1 (.box (.t 0)),oK 2 0]
 (.seq (.seq (.drawn [Qo (Oo 9 (.call 172 [])),Qo (oA 10 0 1),Qo (oL 11 10),Qo (Oo 12 (.mpx false (.bool false) (.t 9) (.t 11))),Qo (Oo 13 (.un .not (.t 12))),Qo (Oo 14 (.call 118 [(.t 13),(Ki 20)])),Qo (oA 15 5 1),Qo (oL 16 15),Qo (Oo 17 (.bin .eql (.t 16) (.k (.string ⟨#[]⟩)))),Qo (Oo 18 (.call 118 [(.t 17),(Ki 3)])),Qo (oA 19 6 1),Qo (oL 20 19),Qe (Oo 21 (.call 126 [(.t 20),(Ki 0),(Ki 4096)])),Qe (Oo 22 (.call 118 [(.t 21),(Ki 2)])),Qe (Oo 23 (.bslc 1 3 [Zi 0] [(0,(.t 14)),(1,(.t 18)),(2,(.t 22))])),Qe (oJ 24 117 23),Qo (oM 3 24)])
 (sR [oM 25 3,oB 26 .neq 25 0]
 (.cond (.t 26) (sR [oM 27 3,oM 2 27]
 .ret)
 .skip)))
 (.seq (sR [oA 29 7 1,oL 30 29,oJ 31 174 30,oM 28 31,oE 32 28 0,oE 33 28 1,oM 4 32,oM 5 33]
 (sR [oM 34 5,oB 35 .neq 34 0]
 (.cond (.t 35) (sR [oM 36 5,oM 2 36]
 .ret)
 .skip)))
 (sR [oA 37 6 1,oL 38 37,oB 39 .gtr 38 0,oM 6 39]
 (sR [oA 40 8 1,oL 41 40,oB 42 .neq 41 0,oM 43 42,Og 43 false 44 (.addo 9 (.t 1)),Og 43 false 45 (.load false 1 (.t 44)),Og 43 false 46 (.bin .neq (.t 45) (Ki 0)),Oo 47 (.pick (.t 43) (.k (.bool true)) (.t 46)),oM 48 47,Og 48 false 49 (.addo 10 (.t 1)),Og 48 false 50 (.load false 1 (.t 49)),Og 48 false 51 (.bin .neq (.t 50) (Ki 0)),Oo 52 (.pick (.t 48) (.k (.bool true)) (.t 51)),oM 7 52]
 (sR [oA 53 8 1,oL 54 53,Oo 55 (.call 126 [(.t 54),(Ki 0),(Ki 1048576)]),oM 56 55,Og 56 true 57 (.addo 9 (.t 1)),Og 56 true 58 (.load false 1 (.t 57)),Og 56 true 59 (.call 126 [(.t 58),(Ki 0),(Ki 1048576)]),Oo 60 (.pick (.t 56) (.t 59) (.k (.bool false))),oM 61 60,Og 61 true 62 (.addo 10 (.t 1)),Og 61 true 63 (.load false 1 (.t 62)),Og 61 true 64 (.call 126 [(.t 63),(Ki 0),(Ki 1048576)]),Oo 65 (.pick (.t 61) (.t 64) (.k (.bool false))),oM 8 65]
 (.seq (.drawn [Qo (oM 66 6),Qo (Oo 67 (.un .not (.t 66))),Qo (oM 68 67),Qo (Og 68 false 69 (.addo 7 (.t 1))),Qo (Og 68 false 70 (.load false 1 (.t 69))),Qo (Og 68 false 71 (.lenL (.t 70))),Qo (Og 68 false 72 (.bin .gtr (.t 71) (Ki 0))),Qo (Oo 73 (.pick (.t 68) (.k (.bool true)) (.t 72))),Qo (Oo 74 (.call 118 [(.t 73),(Ki 17)])),Qo (oA 75 6 1),Qo (oL 76 75),Qo (oG 77 11 1),Qo (oJ 78 175 77),Qo (oC 79 .add 76 78),Qo (oB 80 .leq 79 4096),Qo (Oo 81 (.call 118 [(.t 80),(Ki 8)])),Qo (oM 82 6),Qo (Oo 83 (.un .not (.t 82))),Qo (oM 84 83),Qo (gM 84 false 85 7),Qo (Og 84 false 86 (.un .not (.t 85))),Qo (Oo 87 (.pick (.t 84) (.k (.bool true)) (.t 86))),Qo (Oo 88 (.call 118 [(.t 87),(Ki 3)])),Qo (oM 89 8),Qo (Oo 90 (.call 118 [(.t 89),(Ki 2)])),Qo (oA 91 10 1),Qo (oL 92 91),Qo (oA 93 9 1),Qo (oL 94 93),Qo (oC 95 .leq 92 94),Qe (Oo 96 (.call 118 [(.t 95),(Ki 9)])),Qe (Oo 97 (.bslc 1 5 [Zi 0] [(0,(.t 74)),(1,(.t 81)),(2,(.t 88)),(3,(.t 90)),(4,(.t 96))])),Qe (oJ 98 117 97),Qo (oM 2 98)])
 .ret)))))))
abbrev h128:HF:=⟨h128c,[.tmp 2],99,false⟩
def h129c:HC:=
 (sR [Oo 1 (.box (.t 0)),Oo 2 (.mov (.k (.string ⟨#[]⟩)))]
 (sR [oA 7 5 1,oL 8 7,oM 3 8]
 (.seq (sR [oA 9 4 1,oL 10 9,Oo 11 (.un .not (.t 10))]
 (.cond (.t 11) (.region [oA 13 7 1,oL 14 13,oJ 15 176 14,oM 12 15,oE 16 12 0,oE 17 12 1,oM 3 16])
 .skip))
 (sR [oA 18 4 1,oL 19 18,oJ 20 177 19,oM 4 20]
 (sR [oM 21 4,oA 22 1 1,oL 23 22,Oo 24 (.lenS (.t 23)),oC 25 .add 21 24,oJ 26 178 25,oM 5 26]
 (.seq (.regR [0] [oM 27 5,oM 28 3,Oo 29 (.lenS (.t 28)),oC 30 .add 27 29,oJ 31 178 30,Oo 32 (.mk 1 1 L8 (.t 31) (.t 31)),oM 6 32])
 (.seq (.regR [179] [oM 33 6,oA 34 0 1,oL 35 34,Oo 36 (.call 179 [(.t 33),(Ki 0),(Ki 4),(.t 35)])])
 (.seq (.regR [179] [oM 37 6,oM 38 6,oN 39 38,Oo 40 (.call 179 [(.t 37),(Ki 4),(Ki 4),(.t 39)])])
 (.seq (.regR [179] [oM 41 6,oA 42 1 1,oL 43 42,Oo 44 (.lenS (.t 43)),Oo 45 (.call 179 [(.t 41),(Ki 9),(Ki 1),(.t 44)])])
 (.seq (.regR [179] [oM 46 6,oM 47 4,Oo 48 (.call 179 [(.t 46),(Ki 10),(Ki 2),(.t 47)])])
 (.seq (.regR [179] [oM 49 6,oA 50 3 1,oL 51 50,Oo 52 (.call 179 [(.t 49),(Ki 12),(Ki 2),(.t 51)])])
 (.seq (.regR [179] [oM 53 6,oA 54 2 1,oL 55 54,Oo 56 (.call 179 [(.t 53),(Ki 14),(Ki 2),(.t 55)])])
 (.seq (sR [oA 57 4 1,oL 58 57]
 (.cond (.t 58) (.seq (.regR [179] [oM 59 6,oM 60 3,Oo 61 (.lenS (.t 60)),Oo 62 (.call 179 [(.t 59),(Ki 16),(Ki 4),(.t 61)])])
 (.regR [179] [oM 63 6,oM 64 5,Oo 65 (.call 179 [(.t 63),(Ki 20),(Ki 4),(.t 64)])]))
 (.seq (.regR [179] [oM 66 6,Oo 67 (.call 179 [(.t 66),(Ki 8),(Ki 1),(Ki 1)])])
 (.seq (.regR [179] [oM 68 6,oA 69 6 1,oL 70 69,Oo 71 (.call 179 [(.t 68),(Ki 16),(Ki 4),(.t 70)])])
 (.seq (.drawnF [(0,4),(1,4),(2,4)] [oM 72 6,oA 73 6 1,oL 74 73,oG 75 11 1,oJ 76 175 75,oC 77 .add 74 76,oB 78 .sub 77 1,Oo 79 (.call 179 [(.t 72),(Ki 20),(Ki 4),(.t 78)])])
 (.seq (.regR [179] [oM 80 6,oM 81 5,Oo 82 (.call 179 [(.t 80),(Ki 24),(Ki 2),(.t 81)])])
 (.seq (.regR [179] [oM 83 6,oA 84 8 1,oL 85 84,Oo 86 (.call 179 [(.t 83),(Ki 28),(Ki 4),(.t 85)])])
 (.seq (.regR [179] [oM 87 6,oA 88 9 1,oL 89 88,Oo 90 (.call 179 [(.t 87),(Ki 32),(Ki 4),(.t 89)])])
 (.regR [179] [oM 91 6,oA 92 10 1,oL 93 92,Oo 94 (.call 179 [(.t 91),(Ki 36),(Ki 4),(.t 93)])])))))))))
 (.seq (.drawnF [] [oM 95 6,oM 96 4,Oo 97 (.slL 1 (.t 95) (some (.t 96)) none),oA 98 1 1,oL 99 98,Oo 100 (.cpys (.t 97) (.t 99))])
 (sR [oM 101 6,oM 102 5,Oo 103 (.slL 1 (.t 101) (some (.t 102)) none),oM 104 3,Oo 105 (.cpys (.t 103) (.t 104))]
 (sR [oM 106 6,Oo 107 (.cvbs (.t 106)),oM 2 107]
 .ret))))))))))))))))
abbrev h129:HF:=⟨h129c,[.tmp 2],108,false⟩
def h130c:HC:=
 (sR [Oo 4 (.mov (.k (.bool false)))]
 (sR [oM 5 0,oM 6 1,kC 7 64 5 6,oB 8 .geq 7 0,oM 4 8]
 .ret))
abbrev h130:HF:=⟨h130c,[.tmp 4],9,false⟩
def h131c:HC:=
 (sR [Oo 2 (.box (.t 0)),Oo 3 (.mov (.k (.bool false)))]
 (sR [oA 4 0 1,oL 5 4,oA 6 0 2,oL 7 6,oC 8 .eql 5 7,oM 9 8,Og 9 true 10 (.addo 1 (.t 1)),Og 9 true 11 (.load false 1 (.t 10)),Og 9 true 12 (.addo 1 (.t 2)),Og 9 true 13 (.load false 1 (.t 12)),Og 9 true 14 (.bin .eql (.t 11) (.t 13)),Oo 15 (.pick (.t 9) (.t 14) (.k (.bool false))),oM 16 15,Og 16 true 17 (.addo 6 (.t 1)),Og 16 true 18 (.load false 1 (.t 17)),Og 16 true 19 (.addo 6 (.t 2)),Og 16 true 20 (.load false 1 (.t 19)),Og 16 true 21 (.bin .eql (.t 18) (.t 20)),Oo 22 (.pick (.t 16) (.t 21) (.k (.bool false))),oM 3 22]
 .ret))
abbrev h131:HF:=⟨h131c,[.tmp 3],23,false⟩
def h132c:HC:=
 (sR [Oo 2 (.mov (.k (.slice none 0 0)))]
 (.seq (sR [oM 3 0,Oo 4 (.isnil false false (.t 3))]
 (.cond (.t 4) (sR [Oo 2 (.mov (.k (.slice none 0 0)))]
 .ret)
 .skip))
 (sR [Oo 5 (.bslc 11 0 nR []),oM 6 0,Oo 7 (.app 11 120 nR (.t 5) (.t 6)),oM 2 7]
 .ret)))
abbrev h132:HF:=⟨h132c,[.tmp 2],8,true⟩
theorem h132_ok:CK Tryz.f132 h132c:=by unfold CK;kernel_rfl
theorem aDr:RK Tryz.f132 [.tmp 2]:=by unfold RK;kernel_rfl
def h133c:HC:=
 (sR [Oo 1 (.box (.t 0)),Oo 2 (.alloc nR)]
 (sR [oA 3 7 1,oL 4 3,oJ 5 78 4,oA 6 7 1,oS 1 6 5]
 (sR [oG 7 11 1,oS 11 2 7]
 .ret)))
abbrev h133:HF:=⟨h133c,[.cell 2 true 11],8,false⟩
def h134c:HC:=
 (sR [oM 5 0,oN 6 5,oM 4 6]
 (.region [oM 7 0,oM 8 4,oM 9 4,Oo 10 (.conv .u64 (.t 9)),oJ 11 181 10,oM 12 1,Oo 13 (.call 180 [(.t 7),(Ki 0),(.t 8),(.t 11),(.t 12)])]))
abbrev h134:HF:=⟨h134c,[],14,true⟩
def h136l0:HC:=
 (.seq (sR [oM 6 5,oM 7 0,oN 8 7,oC 9 .lss 6 8]
 (.cond (.t 9) .skip
 (.exit 0)))
 (.seq (.block 1 (sR [oM 12 0,oM 13 5,oI 14 1 12 13,oL 15 14,oM 16 1,oC 17 .eql 15 16]
 (.cond (.t 17) (sR [Oo 4 (.mov (.k (.bool true)))]
 .ret)
 .skip)))
 (.region [oM 10 5,oB 11 .add 10 1,oM 5 11])))
def h136c:HC:=
 (sR [Oo 4 (.mov (.k (.bool false)))]
 (.seq (sR [oK 5 0]
 (.block 0 (.loop [0,0,3] h136l0)))
 (sR [Oo 4 (.mov (.k (.bool false)))]
 .ret)))
abbrev h136:HF:=⟨h136c,[.tmp 4],18,false⟩
def h137l0:HC:=
 (.seq (sR [oM 33 3,oM 34 0,Oo 35 (.lenS (.t 34)),oC 36 .lss 33 35]
 (.cond (.t 36) .skip
 (.exit 0)))
 (.seq (.block 1 (sR [oM 39 0,oM 40 3,Oo 41 (.ixS (.t 39) (.t 40)),oJ 42 182 41,Oo 43 (.un .not (.t 42))]
 (.cond (.t 43) (sR [oK 2 4]
 .ret)
 .skip)))
 (.region [oM 37 3,oB 38 .add 37 1,oM 3 38])))
def h137c:HC:=
 (sR [oK 2 0]
 (.seq (sR [oM 4 0,Oo 5 (.lenS (.t 4)),oB 6 .gtr 5 32]
 (.cond (.t 6) (sR [oK 2 8]
 .ret)
 .skip))
 (.seq (sR [oM 7 0,Oo 8 (.bin .eql (.t 7) (.k (.string ⟨#[]⟩))),oM 9 8,gM 9 false 10 0,Og 9 false 11 (.bin .eql (.t 10) (.k (.string ⟨#[46]⟩))),Oo 12 (.pick (.t 9) (.k (.bool true)) (.t 11)),oM 13 12,gM 13 false 14 0,Og 13 false 15 (.bin .eql (.t 14) (.k (.string ⟨#[46,46]⟩))),Oo 16 (.pick (.t 13) (.k (.bool true)) (.t 15)),oM 17 16,gM 17 false 18 0,gM 17 false 19 0,Og 17 false 20 (.lenS (.t 19)),Og 17 false 21 (.bin .sub (.t 20) (Ki 1)),Og 17 false 22 (.ixS (.t 18) (.t 21)),Og 17 false 23 (.bin .eql (.t 22) (.k (.int .u8 32))),Oo 24 (.pick (.t 17) (.k (.bool true)) (.t 23)),oM 25 24,gM 25 false 26 0,gM 25 false 27 0,Og 25 false 28 (.lenS (.t 27)),Og 25 false 29 (.bin .sub (.t 28) (Ki 1)),Og 25 false 30 (.ixS (.t 26) (.t 29)),Og 25 false 31 (.bin .eql (.t 30) (.k (.int .u8 46))),Oo 32 (.pick (.t 25) (.k (.bool true)) (.t 31))]
 (.cond (.t 32) (sR [oK 2 4]
 .ret)
 .skip))
 (.seq (sR [oK 3 0]
 (.block 0 (.loop [0,2] h137l0)))
 (sR [oK 2 0]
 .ret)))))
abbrev h137:HF:=⟨h137c,[.tmp 2],44,false⟩
def h138c:HC:=
 (sR [Oo 2 (.mov (.k (.bool false)))]
 (sR [Oo 3 (.bslc 1 5 [Zi 0] [(0,(Ki 16)),(1,(Ki 48)),(2,(Ki 96)),(3,(Ki 112)),(4,(Ki 144))]),oM 4 0,kC 5 136 3 4,oM 2 5]
 .ret))
abbrev h138:HF:=⟨h138c,[.tmp 2],6,false⟩
def h139c:HC:=
 (sR [oK 2 0]
 (sR [oM 6 0,oJ 7 183 6,oM 5 7,oE 8 5 0,oE 9 5 1,oM 3 8,oM 4 9]
 (sR [oM 10 4,oM 2 10]
 .ret)))
abbrev h139:HF:=⟨h139c,[.tmp 2],11,false⟩
def h140c:HC:=
 (sR [Oo 2 (.mov (.k (.string ⟨#[]⟩)))]
 (.seq (sR [oM 3 0,Oo 4 (.call 19 [(.t 3),(Ki (-128)),(Ki 127)])]
 (.cond (.t 4) (sR [oM 5 0,Oo 6 (.call 45 [(.t 5),(Ki 256)]),Oo 7 (.call 90 [(.t 6),(Ki 1)]),oM 2 7]
 .ret)
 .skip))
 (sR [oM 8 0,Oo 9 (.call 45 [(.t 8),(Ki 65536)]),Oo 10 (.call 90 [(.t 9),(Ki 2)]),oM 2 10]
 .ret)))
abbrev h140:HF:=⟨h140c,[.tmp 2],11,false⟩
def h141c:HC:=
 (sR [oK 4 0]
 (sR [oM 6 0,oM 7 1,oC 8 .quo 6 7,oM 5 8]
 (.seq (sR [oM 9 0,oM 10 1,oC 11 .rem 9 10,oB 12 .lss 11 0]
 (.cond (.t 12) (.region [oM 13 5,oB 14 .sub 13 1,oM 5 14])
 .skip))
 (sR [oM 15 5,oM 4 15]
 .ret))))
abbrev h141:HF:=⟨h141c,[.tmp 4],16,false⟩
def h142c:HC:=
 (sR [oK 2 0]
 (sR [oM 3 0,Oo 4 (.lenS (.t 3)),oB 5 .eql 4 512,Oo 6 (.call 155 [(.t 5),(Ki 10)]),oM 2 6]
 .ret))
abbrev h142:HF:=⟨h142c,[.tmp 2],7,false⟩
def h143l0:HC:=
 (sR [oB 9 .lss 8 8]
 (.seq (.cond (.t 9) .skip
 (.exit 0))
 (.seq (.block 1 (sR [oM 10 8,oM 5 10]
 (sR [oM 11 3,Oo 12 (.call 145 [(.t 11),(Ki 40)]),oJ 13 144 12,oB 14 .eql 13 0,oM 15 14,gM 15 false 16 3,gM 15 false 17 5,Og 15 false 18 (.call 147 [(.t 17)]),Og 15 false 19 (.call 145 [(.t 16),(.t 18)]),gM 15 false 20 3,Og 15 false 21 (.call 145 [(.t 20),(Ki 40)]),Og 15 false 22 (.bin .neq (.t 19) (.t 21)),Oo 23 (.pick (.t 15) (.k (.bool true)) (.t 22))]
 (.cond (.t 23) (.region [oM 24 4,oM 25 5,Oo 26 (.bslc 1 1 [Zi 0] [(0,(.t 25))]),Oo 27 (.app 1 8 [Zi 0] (.t 24) (.t 26)),oM 4 27])
 .skip))))
 (.region [oB 28 .add 8 1,oM 8 28]))))
def h143c:HC:=
 (sR [Oo 2 (.mov (.k (.slice none 0 0)))]
 (sR [oM 6 0,Oo 7 (.cvsb (.t 6)),oM 3 7]
 (sR [Oo 4 (.mov (.k (.slice none 0 0)))]
 (.gh (.nil 4 1) (.seq (sR [oK 8 0]
 (.block 0 (.loop [3,0,3] h143l0)))
 (sR [oM 29 4,oM 2 29]
 .ret))))))
abbrev h143:HF:=⟨h143c,[.tmp 2],30,false⟩
def h144c:HC:=
 (sR [oK 2 0]
 (.seq (.drawn [Qo (oM 3 0),Qo (Oo 4 (.ixS (.t 3) (Ki 0))),Qo (Oo 5 (.conv .i64 (.t 4))),Qo (oM 6 0),Qo (Oo 7 (.ixS (.t 6) (Ki 1))),Qo (Oo 8 (.conv .i64 (.t 7))),Qo (Oo 9 (.bin .shl (.t 8) (.k (.int .u64 8)))),Qo (oC 10 .or 5 9),Qo (oM 2 10)])
 .ret))
abbrev h144:HF:=⟨h144c,[.tmp 2],11,false⟩
def h145c:HC:=
 (sR [Oo 4 (.mov (.k (.string ⟨#[]⟩)))]
 (sR [oM 5 0,oM 6 1,oM 7 1,oB 8 .add 7 2,Oo 9 (.slL 1 (.t 5) (some (.t 6)) (some (.t 8))),Oo 10 (.cvbs (.t 9)),oM 4 10]
 .ret))
abbrev h145:HF:=⟨h145c,[.tmp 4],11,false⟩
def h146c:HC:=
 (.region [oM 6 0,oM 7 1,Oo 8 (.slL 1 (.t 6) (some (.t 7)) none),oM 9 2,Oo 10 (.cpys (.t 8) (.t 9))])
abbrev h146:HF:=⟨h146c,[],11,false⟩
def h147c:HC:=
 (sR [oK 2 0]
 (sR [oM 3 0,oB 4 .add 3 1,oB 5 .mul 4 64,oB 6 .sub 5 2,oM 2 6]
 .ret))
abbrev h147:HF:=⟨h147c,[.tmp 2],7,false⟩
def h148c:HC:=
 (sR [Oo 4 (.mov (.k (.bool false)))]
 (sR [oM 5 0,oM 6 1,kC 7 184 5 6,oM 4 7]
 .ret))
abbrev h148:HF:=⟨h148c,[.tmp 4],8,false⟩
def h149l0:HC:=
 (sR [oC 10 .lss 9 8]
 (.seq (.cond (.t 10) .skip
 (.exit 0))
 (.seq (.block 1 (sR [oM 11 9,oM 6 11]
 (sR [oM 12 1,oA 13 0 3,oL 14 13,oM 15 6,oC 16 .add 14 15,oM 17 2,Oo 18 (.conv .u8 (.t 17)),oI 19 1 12 16,oS 1 19 18]
 (.region [oM 20 2,Oo 21 (.bin .shr (.t 20) (.k (.int .u64 8))),oM 2 21]))))
 (.region [oB 22 .add 9 1,oM 9 22]))))
def h149c:HC:=
 (sR [Oo 3 (.box (.t 0))]
 (sR [oA 7 1 3,oL 8 7,oK 9 0]
 (.block 0 (.loop [1,0,0,4,0] h149l0))))
abbrev h149:HF:=⟨h149c,[],23,false⟩
def h153c:HC:=
 (sR [Oo 2 (.alloc nR),Oo 3 (.mov (.k (.bool false)))]
 (.seq (sR [oM 11 0,Oo 12 (.lenS (.t 11)),oB 13 .lss 12 24]
 (.cond (.t 13) (sR [Oo 14 (.build nR []),oS 11 2 14,Oo 3 (.mov (.k (.bool false)))]
 .ret)
 .skip))
 (.seq (.drawn [Qo (oM 15 0),Qo (Oo 16 (.call 187 [(.t 15),(Ki 0),(Ki 4)])),Qo (oM 17 0),Qo (Oo 18 (.call 187 [(.t 17),(Ki 14),(Ki 2)])),Qo (oM 19 0),Qo (Oo 20 (.call 187 [(.t 19),(Ki 12),(Ki 2)])),Qo (oM 21 0),Qo (Oo 22 (.ixS (.t 21) (Ki 8))),Qo (Oo 23 (.bin .eql (.t 22) (.k (.int .u8 0)))),Qo (Oo 24 (.build nR [(0,1,(.t 16)),(2,1,(.t 18)),(3,1,(.t 20)),(4,1,(.t 23))])),Qe (Oo 4 (.alloc nR)),Qe (oS 11 4 24)])
 (sR [oA 25 4 4,oL 26 25,oJ 27 177 26,oM 28 0,Oo 29 (.call 187 [(.t 28),(Ki 9),(Ki 1)]),oM 5 27,oM 6 29]
 (sR [oM 30 5,oM 31 6,oC 32 .add 30 31,oJ 33 178 32,oM 7 33]
 (.seq (sR [oM 34 7,oM 35 0,Oo 36 (.lenS (.t 35)),oC 37 .gtr 34 36]
 (.cond (.t 37) (sR [Oo 38 (.build nR []),oS 11 2 38,Oo 3 (.mov (.k (.bool false)))]
 .ret)
 .skip))
 (sR [oM 39 0,oM 40 5,oM 41 5,oM 42 6,oC 43 .add 41 42,Oo 44 (.slS (.t 39) (some (.t 40)) (some (.t 43))),oA 45 1 4,oS 1 45 44]
 (.seq (sR [oA 46 4 4,oL 47 46]
 (.cond (.t 47) (sR [oM 48 0,Oo 49 (.call 187 [(.t 48),(Ki 16),(Ki 4)]),oM 8 49]
 (.seq (sR [oM 50 8,oM 51 0,Oo 52 (.lenS (.t 51)),oM 53 7,oC 54 .sub 52 53,oC 55 .gtr 50 54]
 (.cond (.t 55) (sR [Oo 56 (.build nR []),oS 11 2 56,Oo 3 (.mov (.k (.bool false)))]
 .ret)
 .skip))
 (sR [oM 57 0,oM 58 7,oM 59 7,oM 60 8,oC 61 .add 59 60,Oo 62 (.slS (.t 57) (some (.t 58)) (some (.t 61))),oA 63 5 4,oS 1 63 62]
 (sR [oG 64 11 4,oS 11 2 64,Oo 3 (.mov (.k (.bool true)))]
 .ret))))
 .skip))
 (sR [oM 65 0,Oo 66 (.call 187 [(.t 65),(Ki 16),(Ki 4)]),oM 67 0,Oo 68 (.call 187 [(.t 67),(Ki 28),(Ki 4)]),oM 69 0,Oo 70 (.call 187 [(.t 69),(Ki 32),(Ki 4)]),oM 71 0,Oo 72 (.call 187 [(.t 71),(Ki 36),(Ki 4)]),oA 73 6 4,oS 1 73 66,oA 74 8 4,oS 1 74 68,oA 75 9 4,oS 1 75 70,oA 76 10 4,oS 1 76 72]
 (sR [oM 78 0,oM 79 7,Oo 80 (.slS (.t 78) (some (.t 79)) none),oJ 81 189 80,oJ 82 188 81,oM 77 82,oE 83 77 0,oE 84 77 1,oM 9 83,oM 10 84]
 (sR [oM 85 9,oA 86 7 4,oS 1 86 85]
 (sR [oG 87 11 4,oM 88 10,oB 89 .eql 88 0,oS 11 2 87,oM 3 89]
 .ret))))))))))))
abbrev h153:HF:=⟨h153c,[.cell 2 true 11,.tmp 3],90,false⟩
def h154l0:HC:=
 (sR [oC 8 .lss 7 6]
 (.seq (.cond (.t 8) .skip
 (.exit 0))
 (.seq (.block 1 (sR [oI 9 1 5 7,oL 10 9,oM 4 10]
 (sR [oM 11 4,oB 12 .neq 11 0]
 (.cond (.t 12) (sR [oM 13 4,oM 2 13]
 .ret)
 .skip))))
 (.region [oB 14 .add 7 1,oM 7 14]))))
def h154c:HC:=
 (sR [oK 2 0]
 (.seq (sR [oM 5 0,oN 6 5,oK 7 0]
 (.block 0 (.loop [5,0,0] h154l0)))
 (sR [oK 2 0]
 .ret)))
abbrev h154:HF:=⟨h154c,[.tmp 2],15,false⟩
def h155c:HC:=
 (sR [oK 4 0]
 (.seq (sR [oM 5 0]
 (.cond (.t 5) (sR [oK 4 0]
 .ret)
 .skip))
 (sR [oM 6 1,oM 4 6]
 .ret)))
abbrev h155:HF:=⟨h155c,[.tmp 4],7,false⟩
def h156c:HC:=
 (sR [Oo 4 (.mov (.k (.string ⟨#[]⟩)))]
 (.seq (sR [oM 7 0,Oo 8 (.bin .eql (.t 7) (.k (.string ⟨#[]⟩))),oM 9 8,gM 9 false 10 1,Og 9 false 11 (.bin .eql (.t 10) (.k (.string ⟨#[]⟩))),Oo 12 (.pick (.t 9) (.k (.bool true)) (.t 11))]
 (.cond (.t 12) (sR [oM 13 0,oM 4 13]
 .ret)
 .skip))
 (.seq (sR [oM 14 1,Oo 15 (.lenS (.t 14)),oB 16 .eql 15 1,oM 17 16,gM 17 true 18 1,Og 17 true 19 (.ixS (.t 18) (Ki 0)),Og 17 true 20 (.bin .lss (.t 19) (.k (.int .u8 128))),Oo 21 (.pick (.t 17) (.t 20) (.k (.bool false)))]
 (.cond (.t 21) (.seq (.drawn [Qo (oM 22 0),Qo (oM 23 1),Qo (Oo 24 (.ixS (.t 23) (Ki 0))),Qo (kC 25 191 22 24),Qo (oM 26 1),Qo (Oo 27 (.ixS (.t 26) (Ki 0))),Qe (kC 28 190 25 27),Qo (oM 4 28)])
 .ret)
 .skip))
 (.seq (sR [oM 30 1,oJ 31 192 30,oM 29 31,oE 32 29 0,oE 33 29 1,Oo 5 (.alloc (List.replicate 256 (.bool false))),oS 256 5 32,oM 6 33]
 (sR [oM 34 6]
 (.cond (.t 34) (sR [oM 35 0,kC 36 194 35 5,kC 37 193 36 5,oM 4 37]
 .ret)
 .skip)))
 (sR [oM 38 0,oM 39 1,kC 40 196 38 39,oM 41 1,kC 42 195 40 41,oM 4 42]
 .ret)))))
abbrev h156:HF:=⟨h156c,[.tmp 4],43,false⟩
def h157c:HC:=
 (sR [Oo 6 (.mov (.k (.bool false)))]
 (sR [oM 7 1,oM 8 0,oC 9 .leq 7 8,oM 10 9,gM 10 true 11 0,gM 10 true 12 2,Og 10 true 13 (.bin .leq (.t 11) (.t 12)),Oo 14 (.pick (.t 10) (.t 13) (.k (.bool false))),oM 6 14]
 .ret))
abbrev h157:HF:=⟨h157c,[.tmp 6],15,false⟩
def h158c:HC:=
 (sR [Oo 2 (.mov (.k (.string ⟨#[]⟩)))]
 (sR [oM 3 0,Oo 4 (.conv .u8 (.t 3)),oM 5 0,Oo 6 (.bin .shr (.t 5) (.k (.int .u64 8))),Oo 7 (.conv .u8 (.t 6)),Oo 8 (.bslc 1 2 L8 [(0,(.t 4)),(1,(.t 7))]),Oo 9 (.cvbs (.t 8)),oM 2 9]
 .ret))
abbrev h158:HF:=⟨h158c,[.tmp 2],10,false⟩
def h159l0:HC:=
 (.seq (sR [oM 10 6,oB 11 .leq 10 8]
 (.cond (.t 11) .skip
 (.exit 0)))
 (.seq (.block 1 (sR [oM 14 6,oB 15 .mul 14 64,oB 16 .sub 15 2,oM 7 16]
 (sR [oM 17 5,oM 18 0,oM 19 7,oM 20 7,oB 21 .add 20 2,Oo 22 (.slS (.t 18) (some (.t 19)) (some (.t 21))),oC 23 .add 17 22,oM 5 23]
 (.region [oM 24 0,oM 25 7,oM 26 1,Oo 27 (.call 90 [(.t 26),(Ki 2)]),Oo 28 (.call 161 [(.t 24),(.t 25),(.t 27)]),oM 0 28]))))
 (.region [oM 12 6,oB 13 .add 12 1,oM 6 13])))
def h159c:HC:=
 (sR [Oo 4 (.mov (.k (.string ⟨#[]⟩)))]
 (sR [oM 8 1,Oo 9 (.call 90 [(.t 8),(Ki 2)]),oM 5 9]
 (.seq (sR [oK 6 1]
 (.block 0 (.loop [0,0,3,0] h159l0)))
 (sR [oM 29 0,oM 30 5,Oo 31 (.call 161 [(.t 29),(Ki 40),(.t 30)]),oM 4 31]
 .ret))))
abbrev h159:HF:=⟨h159c,[.tmp 4],32,false⟩
def h160l0:HC:=
 (sR [oC 9 .lss 8 7]
 (.seq (.cond (.t 9) .skip
 (.exit 0))
 (.seq (.block 1 (sR [oM 10 8,oM 5 10]
 (sR [oM 11 1,oM 12 0,oM 13 5,oI 14 1 12 13,oL 15 14,oC 16 .eql 11 15]
 (.cond (.t 16) (sR [oM 17 5,oM 4 17]
 .ret)
 .skip))))
 (.region [oB 18 .add 8 1,oM 8 18]))))
def h160c:HC:=
 (sR [oK 4 0]
 (.seq (sR [oM 6 0,oN 7 6,oK 8 0]
 (.block 0 (.loop [0,0,5,0] h160l0)))
 (sR [Oo 4 (.mov (Ki (-1)))]
 .ret)))
abbrev h160:HF:=⟨h160c,[.tmp 4],19,false⟩
def h161c:HC:=
 (sR [Oo 6 (.mov (.k (.string ⟨#[]⟩)))]
 (.seq (.drawn [Qo (oM 7 0),Qo (oM 8 1),Qo (Oo 9 (.slS (.t 7) none (some (.t 8)))),Qo (oM 10 2),Qo (oC 11 .add 9 10),Qo (oM 12 0),Qo (oM 13 1),Qo (oM 14 2),Qo (Oo 15 (.lenS (.t 14))),Qo (oC 16 .add 13 15),Qo (Oo 17 (.slS (.t 12) (some (.t 16)) none)),Qo (oC 18 .add 11 17),Qo (oM 6 18)])
 .ret))
abbrev h161:HF:=⟨h161c,[.tmp 6],19,false⟩
def h162l0:HC:=
 (.seq (sR [oM 18 5,oM 19 0,Oo 20 (.lenS (.t 19)),oC 21 .lss 18 20,oM 22 21,gM 22 true 23 0,gM 22 true 24 5,Og 22 true 25 (.ixS (.t 23) (.t 24)),Og 22 true 26 (.bin .neq (.t 25) (.k (.int .u8 0))),Oo 27 (.pick (.t 22) (.t 26) (.k (.bool false)))]
 (.cond (.t 27) .skip
 (.exit 0)))
 (.block 1 (.seq (.drawn [Qo (oM 28 0),Qo (oM 29 5),Qo (Oo 30 (.ixS (.t 28) (.t 29))),Qo (Oo 31 (.conv .i64 (.t 30))),Qo (oB 32 .rem 31 16),Qo (oM 33 0),Qo (oM 34 5),Qo (Oo 35 (.ixS (.t 33) (.t 34))),Qo (Oo 36 (.conv .i64 (.t 35))),Qo (oB 37 .quo 36 16),Qo (oM 7 32),Qo (oM 8 37)])
 (.seq (sR [oM 38 7,Oo 39 (.call 19 [(.t 38),(Ki 1),(Ki 2)]),Oo 40 (.un .not (.t 39)),oM 41 40,gM 41 false 42 8,Og 41 false 43 (.call 19 [(.t 42),(Ki 0),(Ki 2)]),Og 41 false 44 (.un .not (.t 43)),Oo 45 (.pick (.t 41) (.k (.bool true)) (.t 44)),oM 46 45,gM 46 false 47 5,Og 46 false 48 (.bin .add (.t 47) (Ki 1)),gM 46 false 49 7,Og 46 false 50 (.bin .add (.t 48) (.t 49)),gM 46 false 51 8,Og 46 false 52 (.bin .add (.t 50) (.t 51)),gM 46 false 53 0,Og 46 false 54 (.lenS (.t 53)),Og 46 false 55 (.bin .gtr (.t 52) (.t 54)),Oo 56 (.pick (.t 46) (.k (.bool true)) (.t 55))]
 (.cond (.t 56) (sR [Oo 2 (.mov (.k (.slice none 0 0))),oK 3 3]
 .ret)
 .skip))
 (sR [oM 58 0,oM 59 5,oB 60 .add 59 1,oM 61 7,Oo 62 (.call 197 [(.t 58),(.t 60),(.t 61)]),oM 57 62,oE 63 57 0,oE 64 57 1,oM 9 63,oM 10 64]
 (.seq (sR [oM 65 10,Oo 66 (.un .not (.t 65))]
 (.cond (.t 66) (sR [Oo 2 (.mov (.k (.slice none 0 0))),oK 3 3]
 .ret)
 .skip))
 (sR [oM 67 9,Oo 68 (.build [Zi 0,Zi 0] [(0,1,(Ki (-1))),(1,1,(.t 67))]),Oo 11 (.alloc [Zi 0,Zi 0]),oS 2 11 68]
 (.seq (sR [oM 69 8,oB 70 .gtr 69 0]
 (.cond (.t 70) (sR [oM 72 0,oM 73 5,oB 74 .add 73 1,oM 75 7,oC 76 .add 74 75,oM 77 8,Oo 78 (.call 197 [(.t 72),(.t 76),(.t 77)]),oM 71 78,oE 79 71 0,oE 80 71 1,oM 12 79,oM 13 80]
 (sR [oM 81 6,oM 82 12,oC 83 .add 81 82,oM 6 83]
 (.seq (sR [oM 84 13,Oo 85 (.un .not (.t 84)),oM 86 85,gM 86 false 87 6,Og 86 false 88 (.bin .eql (.t 87) (Ki (-1))),Oo 89 (.pick (.t 86) (.k (.bool true)) (.t 88))]
 (.cond (.t 89) (sR [Oo 2 (.mov (.k (.slice none 0 0))),oK 3 3]
 .ret)
 .skip))
 (.region [oM 90 6,oA 91 0 11,oS 1 91 90]))))
 .skip))
 (sR [oM 92 4,oG 93 2 11,Oo 94 (.bslc 2 1 [Zi 0,Zi 0] [(0,(.t 93))]),Oo 95 (.app 2 16 [Zi 0,Zi 0] (.t 92) (.t 94)),oM 4 95]
 (.region [oM 96 5,oB 97 .add 96 1,oM 98 7,oC 99 .add 97 98,oM 100 8,oC 101 .add 99 100,oM 5 101]))))))))))
def h162c:HC:=
 (sR [Oo 2 (.mov (.k (.slice none 0 0))),oK 3 0]
 (.seq (sR [oM 15 0,Oo 16 (.lenS (.t 15)),oB 17 .gtr 16 400]
 (.cond (.t 17) (sR [Oo 2 (.mov (.k (.slice none 0 0))),oK 3 8]
 .ret)
 .skip))
 (sR [Oo 4 (.mov (.k (.slice none 0 0)))]
 (.gh (.nil 4 2) (sR [oK 5 0,oK 6 0]
 (.seq (.block 0 (.loop [0,3,0,0] h162l0))
 (.seq (sR [oM 102 5,oM 103 0,Oo 104 (.lenS (.t 103)),oB 105 .sub 104 1,oC 106 .neq 102 105]
 (.cond (.t 106) (sR [Oo 2 (.mov (.k (.slice none 0 0))),oK 3 3]
 .ret)
 .skip))
 (.seq (sR [oM 107 4,oJ 108 139 107,oM 14 108]
 (sR [oM 109 14,oB 110 .neq 109 0]
 (.cond (.t 110) (sR [oM 111 14,Oo 2 (.mov (.k (.slice none 0 0))),oM 3 111]
 .ret)
 .skip)))
 (sR [oM 112 4,oM 2 112,oK 3 0]
 .ret)))))))))
abbrev h162:HF:=⟨h162c,[.tmp 2,.tmp 3],113,false⟩
def h163c:HC:=
 (sR [Oo 2 (.mov (.k (.string ⟨#[]⟩)))]
 (sR [oM 3 0,Oo 4 (.call 198 [(.t 3),(Ki 10)]),oM 2 4]
 .ret))
abbrev h163:HF:=⟨h163c,[.tmp 2],5,false⟩
def h166c:HC:=
 (sR [Oo 3 (.box (.t 0)),Oo 4 (.mov (.k (.bool false)))]
 (.seq (.drawn [Qo (oA 5 2 3),Qo (oL 6 5),Qo (oL 7 1),Qo (oL 8 2),Qo (oI 9 11 7 8),Qo (oA 10 2 9),Qo (oL 11 10),Qo (oC 12 .eql 6 11),Qo (oM 4 12)])
 .ret))
abbrev h166:HF:=⟨h166c,[.tmp 4],13,false⟩
def h167l0:HC:=
 (sR [oC 9 .lss 8 7]
 (.seq (.cond (.t 9) .skip
 (.exit 0))
 (.seq (.block 1 (sR [oI 10 1 6 8,oL 11 10,oM 5 11]
 (sR [oM 12 5,oM 13 3,oC 14 .neq 12 13]
 (.cond (.t 14) (sR [oM 15 5,oM 2 15]
 .ret)
 .skip))))
 (.region [oB 16 .add 8 1,oM 8 16]))))
def h167c:HC:=
 (sR [oK 2 0]
 (sR [oK 3 0]
 (.seq (sR [oM 6 0,oN 7 6,oK 8 0]
 (.block 0 (.loop [3,2,0,0] h167l0)))
 (sR [oM 17 3,oM 2 17]
 .ret))))
abbrev h167:HF:=⟨h167c,[.tmp 2],18,false⟩
def h168c:HC:=
 (sR [oK 4 0]
 (sR [oM 7 0,oJ 8 202 7,oM 5 8]
 (sR [oM 9 1,oJ 10 202 9,oM 6 10]
 (.seq (sR [oM 11 5]
 (.cond (.t 11) (.seq (sR [oM 12 6]
 (.cond (.t 12) (sR [oK 4 0]
 .ret)
 .skip))
 (sR [Oo 4 (.mov (Ki (-1)))]
 .ret))
 .skip))
 (.seq (sR [oM 13 6]
 (.cond (.t 13) (sR [oK 4 1]
 .ret)
 .skip))
 (.seq (sR [oM 14 0,oM 15 1,oC 16 .lss 14 15]
 (.cond (.t 16) (sR [Oo 4 (.mov (Ki (-1)))]
 .ret)
 .skip))
 (.seq (sR [oM 17 0,oM 18 1,oC 19 .gtr 17 18]
 (.cond (.t 19) (sR [oK 4 1]
 .ret)
 .skip))
 (sR [oK 4 0]
 .ret))))))))
abbrev h168:HF:=⟨h168c,[.tmp 4],20,false⟩
def h169c:HC:=
 (sR [oK 4 0]
 (sR [oM 7 0,oJ 8 203 7,oM 5 8]
 (sR [oM 9 1,oJ 10 203 9,oM 6 10]
 (.seq (sR [oM 11 5]
 (.cond (.t 11) (.seq (sR [oM 12 6]
 (.cond (.t 12) (sR [oK 4 0]
 .ret)
 .skip))
 (sR [Oo 4 (.mov (Ki (-1)))]
 .ret))
 .skip))
 (.seq (sR [oM 13 6]
 (.cond (.t 13) (sR [oK 4 1]
 .ret)
 .skip))
 (.seq (sR [oM 14 0,oM 15 1,oC 16 .lss 14 15]
 (.cond (.t 16) (sR [Oo 4 (.mov (Ki (-1)))]
 .ret)
 .skip))
 (.seq (sR [oM 17 0,oM 18 1,oC 19 .gtr 17 18]
 (.cond (.t 19) (sR [oK 4 1]
 .ret)
 .skip))
 (sR [oK 4 0]
 .ret))))))))
abbrev h169:HF:=⟨h169c,[.tmp 4],20,false⟩
def h170c:HC:=
 (sR [Oo 2 (.box (.t 0)),Oo 3 (.box (.t 1)),oK 4 0]
 (.seq (sR [oA 6 0 2,oL 7 6,oA 8 0 3,oL 9 8,kC 10 171 7 9,oM 5 10]
 (sR [oM 11 5,oB 12 .neq 11 0]
 (.cond (.t 12) (sR [oM 13 5,oM 4 13]
 .ret)
 .skip)))
 (.seq (sR [oA 14 1 2,oL 15 14,oA 16 1 3,oL 17 16,oC 18 .lss 15 17]
 (.cond (.t 18) (sR [Oo 4 (.mov (Ki (-1)))]
 .ret)
 .skip))
 (.seq (sR [oA 19 1 2,oL 20 19,oA 21 1 3,oL 22 21,oC 23 .gtr 20 22]
 (.cond (.t 23) (sR [oK 4 1]
 .ret)
 .skip))
 (sR [oA 24 2 2,oL 25 24,oA 26 2 3,oL 27 26,kC 28 171 25 27,oM 4 28]
 .ret)))))
abbrev h170:HF:=⟨h170c,[.tmp 4],29,false⟩
def h171c:HC:=
 (sR [oK 4 0]
 (.seq (sR [oM 5 0,oM 6 1,oC 7 .lss 5 6]
 (.cond (.t 7) (sR [Oo 4 (.mov (Ki (-1)))]
 .ret)
 .skip))
 (.seq (sR [oM 8 0,oM 9 1,oC 10 .gtr 8 9]
 (.cond (.t 10) (sR [oK 4 1]
 .ret)
 .skip))
 (sR [oK 4 0]
 .ret))))
abbrev h171:HF:=⟨h171c,[.tmp 4],11,false⟩
def h172c:HC:=
 (sR [Oo 0 (.mov (.k (.map none)))]
 (.seq .bad
 .ret))
abbrev h172:HF:=⟨h172c,[.tmp 0],3,false⟩
def h173c:HC:=
 (sR [oK 2 0]
 (sR [oM 3 0,Oo 4 (.lenS (.t 3)),oB 5 .leq 4 32,Oo 6 (.call 205 [(.t 5),(Ki 8)]),oM 7 0,oJ 8 206 7,Oo 9 (.call 205 [(.t 8),(Ki 4)]),Oo 10 (.bslc 1 2 [Zi 0] [(0,(.t 6)),(1,(.t 9))]),oJ 11 204 10,oM 2 11]
 .ret))
abbrev h173:HF:=⟨h173c,[.tmp 2],12,false⟩
def h174l0:HC:=
 (sR [oC 14 .lss 13 12]
 (.seq (.cond (.t 14) .skip
 (.exit 0))
 (.seq (.block 1 (sR [oM 15 13,oI 16 2 11 13,oG 17 2 16,Oo 6 (.alloc [Zi 0,Zi 0]),oM 5 15,oS 2 6 17]
 (.seq (sR [oG 18 2 6,oJ 19 207 18,oM 7 19]
 (sR [oM 20 7,oB 21 .neq 20 0]
 (.cond (.t 21) (sR [oM 22 5,oM 23 7,oM 2 22,oM 3 23]
 .ret)
 .skip)))
 (.seq (.seq (.drawn [Qo (oM 24 5),Qo (oB 25 .gtr 24 0),Qo (oM 26 25),Qo (gM 26 true 27 0),Qo (gM 26 true 28 5),Qo (Og 26 true 29 (.bin .sub (.t 28) (Ki 1))),Qo (Og 26 true 30 (.ixL 2 (.t 27) (.t 29))),Qo (Og 26 true 31 (.load true 2 (.t 30))),Qo (Og 26 true 32 (.load true 2 (.t 6))),Qe (Og 26 true 33 (.call 208 [(.t 31),(.t 32)])),Qo (Oo 34 (.pick (.t 26) (.t 33) (.k (.bool false))))])
 (.cond (.t 34) (sR [oM 35 5,oM 2 35,oK 3 3]
 .ret)
 .skip))
 (sR [oG 36 2 6,kC 37 209 4 36,Oo 38 (.un .not (.t 37))]
 (.cond (.t 38) (sR [oM 39 5,oM 2 39,oK 3 23]
 .ret)
 .skip))))))
 (.region [oB 40 .add 13 1,oM 13 40]))))
def h174c:HC:=
 (sR [oK 2 0,oK 3 0]
 (.seq (sR [oM 8 0,oN 9 8,oB 10 .gtr 9 64]
 (.cond (.t 10) (sR [oK 2 0,oK 3 8]
 .ret)
 .skip))
 (sR [Oo 4 (.alloc (List.replicate 512 (.bool false)))]
 (.seq (sR [oM 11 0,oN 12 11,oK 13 0]
 (.block 0 (.loop [0,3,6,0,0] h174l0)))
 (sR [oM 41 0,oJ 42 211 41,oB 43 .leq 42 4096,Oo 44 (.call 210 [(.t 43),(Ki 8)]),oK 2 0,oM 3 44]
 .ret)))))
abbrev h174:HF:=⟨h174c,[.tmp 2,.tmp 3],45,false⟩
def h175l0:HC:=
 (sR [oC 10 .lss 9 8]
 (.seq (.cond (.t 10) .skip
 (.exit 0))
 (.seq (.block 1 (sR [oI 11 2 7 9,oG 12 2 11,Oo 5 (.alloc [Zi 0,Zi 0]),oS 2 5 12]
 (.region [oM 13 3,oA 14 1 5,oL 15 14,oC 16 .add 13 15,oM 3 16])))
 (.region [oB 17 .add 9 1,oM 9 17]))))
def h175c:HC:=
 (sR [Oo 1 (.box (.t 0)),oK 2 0]
 (sR [oK 3 0]
 (.seq (sR [oA 6 7 1,oL 7 6,oN 8 7,oK 9 0]
 (.block 0 (.loop [3,3,0,0] h175l0)))
 (sR [oM 18 3,oM 2 18]
 .ret))))
abbrev h175:HF:=⟨h175c,[.tmp 2],19,false⟩
def h176l0:HC:=
 (sR [oC 20 .lss 19 18]
 (.seq (.cond (.t 20) .skip
 (.exit 0))
 (.seq (.block 1 (sR [oI 21 2 17 19,oG 22 2 21,Oo 8 (.alloc [Zi 0,Zi 0]),oS 2 8 22]
 (sR [oA 23 1 8,oL 24 23,oJ 25 213 24,oM 9 25]
 (sR [oK 10 0]
 (.seq (sR [oG 26 2 8,oJ 27 214 26,Oo 28 (.un .not (.t 27))]
 (.cond (.t 28) (.region [oA 29 0 8,oL 30 29,oM 31 6,oC 32 .sub 30 31,oJ 33 213 32,oM 10 33])
 .skip))
 (sR [oM 34 5,oM 35 10,Oo 36 (.bin .shl (.t 35) (.k (.int .u64 4))),oM 37 9,oC 38 .or 36 37,Oo 39 (.conv .u8 (.t 38)),Oo 40 (.bslc 1 1 L8 [(0,(.t 39))]),Oo 41 (.app 1 1 L8 (.t 34) (.t 40)),oM 5 41]
 (sR [oM 42 5,oA 43 1 8,oL 44 43,oM 45 9,kC 46 215 44 45,Oo 47 (.app 1 1 L8 (.t 42) (.t 46)),oM 5 47]
 (sR [oG 48 2 8,oJ 49 214 48,Oo 50 (.un .not (.t 49))]
 (.cond (.t 50) (sR [oM 51 5,oA 52 0 8,oL 53 52,oM 54 6,oC 55 .sub 53 54,oM 56 10,kC 57 215 55 56,Oo 58 (.app 1 1 L8 (.t 51) (.t 57)),oM 5 58]
 (.region [oA 59 0 8,oL 60 59,oM 6 60]))
 .skip)))))))))
 (.region [oB 61 .add 19 1,oM 19 61]))))
def h176c:HC:=
 (sR [Oo 2 (.mov (.k (.string ⟨#[]⟩))),oK 3 0]
 (.seq (sR [oM 11 0,Oo 12 (.bslc 1 1 [(.slice none 0 0)] [(0,(.t 11))]),oJ 13 212 12,oM 4 13]
 (sR [oM 14 4,oB 15 .neq 14 0]
 (.cond (.t 15) (sR [oM 16 4,Oo 2 (.mov (.k (.string ⟨#[]⟩))),oM 3 16]
 .ret)
 .skip)))
 (sR [Oo 5 (.mov (.k (.slice none 0 0)))]
 (.gh (.nil 5 1) (sR [oK 6 0]
 (.seq (sR [oM 17 0,oN 18 17,oK 19 0]
 (.block 0 (.loop [5,0,10,0,0] h176l0)))
 (sR [oM 62 5,Oo 63 (.bslc 1 1 L8 [(0,(.k (.int .u8 0)))]),Oo 64 (.app 1 1 L8 (.t 62) (.t 63)),Oo 65 (.cvbs (.t 64)),oM 2 65,oK 3 0]
 .ret)))))))
abbrev h176:HF:=⟨h176c,[.tmp 2,.tmp 3],66,false⟩
def h177c:HC:=
 (sR [oK 2 0]
 (.seq (sR [oM 3 0]
 (.cond (.t 3) (sR [oK 2 24]
 .ret)
 .skip))
 (sR [oK 2 40]
 .ret)))
abbrev h177:HF:=⟨h177c,[.tmp 2],4,false⟩
def h178c:HC:=
 (sR [oK 2 0]
 (sR [oM 3 0,oB 4 .add 3 8,oB 5 .sub 4 1,oB 6 .quo 5 8,oB 7 .mul 6 8,oM 2 7]
 .ret))
abbrev h178:HF:=⟨h178c,[.tmp 2],8,false⟩
def h179l0:HC:=
 (sR [oC 11 .lss 10 9]
 (.seq (.cond (.t 11) .skip
 (.exit 0))
 (.seq (.block 1 (sR [oM 12 10,oM 8 12]
 (sR [oM 13 0,oM 14 1,oM 15 8,oC 16 .add 14 15,oM 17 3,Oo 18 (.conv .u8 (.t 17)),oI 19 1 13 16,oS 1 19 18]
 (.region [oM 20 3,Oo 21 (.bin .shr (.t 20) (.k (.int .u64 8))),oM 3 21]))))
 (.region [oB 22 .add 10 1,oM 10 22]))))
def h179c:HC:=
 (sR [oM 9 2,oK 10 0]
 (.block 0 (.loop [0,0,1,5,0] h179l0)))
abbrev h179:HF:=⟨h179c,[],23,false⟩
def h182l0:HC:=
 (.seq (sR [oM 10 3,oB 11 .lss 10 9]
 (.cond (.t 11) .skip
 (.exit 0)))
 (.seq (.block 1 (sR [oM 14 3,Oo 15 (.ixS (.k (.string ⟨#[34,42,47,58,60,62,63,92,124]⟩)) (.t 14)),oM 16 0,oC 17 .eql 15 16]
 (.cond (.t 17) (sR [Oo 2 (.mov (.k (.bool false)))]
 .ret)
 .skip)))
 (.region [oM 12 3,oB 13 .add 12 1,oM 3 13])))
def h182c:HC:=
 (sR [Oo 2 (.mov (.k (.bool false)))]
 (.seq (sR [oM 4 0,Oo 5 (.bin .lss (.t 4) (.k (.int .u8 32))),oM 6 5,gM 6 false 7 0,Og 6 false 8 (.bin .gtr (.t 7) (.k (.int .u8 126))),Oo 9 (.pick (.t 6) (.k (.bool true)) (.t 8))]
 (.cond (.t 9) (sR [Oo 2 (.mov (.k (.bool false)))]
 .ret)
 .skip))
 (.seq (sR [oK 3 0]
 (.block 0 (.loop [0,2] h182l0)))
 (sR [Oo 2 (.mov (.k (.bool true)))]
 .ret))))
abbrev h182:HF:=⟨h182c,[.tmp 2],18,false⟩
def h183l0:HC:=
 (.seq (sR [oM 8 4,oM 9 0,oN 10 9,oC 11 .lss 8 10]
 (.cond (.t 11) .skip
 (.exit 0)))
 (.seq (.block 1 (.seq (sR [oM 14 0,oM 15 4,oI 16 2 14 15,oG 17 2 16,oJ 18 226 17,Oo 19 (.un .not (.t 18))]
 (.cond (.t 19) (sR [oM 20 4,oM 2 20,oK 3 2]
 .ret)
 .skip))
 (.seq (.seq (.drawn [Qo (oM 21 4),Qo (oB 22 .gtr 21 0),Qo (oM 23 22),Qo (gM 23 true 24 0),Qo (gM 23 true 25 4),Qo (Og 23 true 26 (.bin .sub (.t 25) (Ki 1))),Qo (Og 23 true 27 (.ixL 2 (.t 24) (.t 26))),Qo (Og 23 true 28 (.load true 2 (.t 27))),Qo (gM 23 true 29 0),Qo (gM 23 true 30 4),Qo (Og 23 true 31 (.ixL 2 (.t 29) (.t 30))),Qo (Og 23 true 32 (.load true 2 (.t 31))),Qe (Og 23 true 33 (.call 227 [(.t 28),(.t 32)])),Qo (Oo 34 (.pick (.t 23) (.t 33) (.k (.bool false))))])
 (.cond (.t 34) (sR [oM 35 4,oM 2 35,oK 3 3]
 .ret)
 .skip))
 (sR [oM 36 0,oM 37 4,kC 38 228 36 37]
 (.cond (.t 38) (sR [oM 39 4,oM 2 39,oK 3 23]
 .ret)
 .skip)))))
 (.region [oM 12 4,oB 13 .add 12 1,oM 4 13])))
def h183c:HC:=
 (sR [oK 2 0,oK 3 0]
 (.seq (sR [oM 5 0,oN 6 5,oB 7 .gtr 6 64]
 (.cond (.t 7) (sR [oK 2 0,oK 3 8]
 .ret)
 .skip))
 (.seq (sR [oK 4 0]
 (.block 0 (.loop [0,3] h183l0)))
 (.seq (sR [oM 40 0,oJ 41 92 40,oB 42 .gtr 41 4096]
 (.cond (.t 42) (sR [oK 2 0,oK 3 8]
 .ret)
 .skip))
 (sR [oK 2 0,oK 3 0]
 .ret)))))
abbrev h183:HF:=⟨h183c,[.tmp 2,.tmp 3],43,false⟩
def h184c:HC:=
 (sR [Oo 4 (.mov (.k (.bool false)))]
 (sR [oM 5 0,Oo 6 (.lenS (.t 5)),oM 7 1,Oo 8 (.lenS (.t 7)),oC 9 .geq 6 8,oM 10 9,gM 10 true 11 0,gM 10 true 12 1,Og 10 true 13 (.lenS (.t 12)),Og 10 true 14 (.slS (.t 11) none (some (.t 13))),gM 10 true 15 1,Og 10 true 16 (.bin .eql (.t 14) (.t 15)),Oo 17 (.pick (.t 10) (.t 16) (.k (.bool false))),oM 4 17]
 .ret))
abbrev h184:HF:=⟨h184c,[.tmp 4],18,false⟩
def h187l0:HC:=
 (.seq (sR [oM 11 8,oB 12 .geq 11 0]
 (.cond (.t 12) .skip
 (.exit 0)))
 (.seq (.block 1 (.region [oM 15 7,Oo 16 (.bin .shl (.t 15) (.k (.int .u64 8))),oM 17 0,oM 18 1,oM 19 8,oC 20 .add 18 19,Oo 21 (.ixS (.t 17) (.t 20)),Oo 22 (.conv .i64 (.t 21)),oC 23 .or 16 22,oM 7 23]))
 (.region [oM 13 8,oB 14 .sub 13 1,oM 8 14])))
def h187c:HC:=
 (sR [oK 6 0]
 (sR [oK 7 0]
 (.seq (sR [oM 9 2,oB 10 .sub 9 1,oM 8 10]
 (.block 0 (.loop [0,0,5,0] h187l0)))
 (sR [oM 24 7,oM 6 24]
 .ret))))
abbrev h187:HF:=⟨h187c,[.tmp 6],25,false⟩
def h188l0:HC:=
 (.seq (sR [oL 12 1,Oo 13 (.bin .neq (.t 12) (.k (.string ⟨#[]⟩))),oM 14 13,Og 14 true 15 (.load false 1 (.t 1)),Og 14 true 16 (.ixS (.t 15) (Ki 0)),Og 14 true 17 (.bin .neq (.t 16) (.k (.int .u8 0))),Oo 18 (.pick (.t 14) (.t 17) (.k (.bool false)))]
 (.cond (.t 18) .skip
 (.exit 0)))
 (.block 1 (sR [oM 20 5,kC 21 231 1 20,oM 19 21,oE 22 19 0,oE 23 19 1,Oo 6 (.alloc [Zi 0,Zi 0]),oS 2 6 22,oM 7 23]
 (.seq (sR [oM 24 7,Oo 25 (.un .not (.t 24))]
 (.cond (.t 25) (sR [Oo 2 (.mov (.k (.slice none 0 0))),oK 3 3]
 .ret)
 .skip))
 (.seq (sR [oG 26 2 6,oJ 27 214 26,Oo 28 (.un .not (.t 27))]
 (.cond (.t 28) (.region [oA 29 0 6,oL 30 29,oM 5 30])
 .skip))
 (.region [oM 31 4,oG 32 2 6,Oo 33 (.bslc 2 1 [Zi 0,Zi 0] [(0,(.t 32))]),Oo 34 (.app 2 16 [Zi 0,Zi 0] (.t 31) (.t 33)),oM 4 34]))))))
def h188c:HC:=
 (sR [Oo 1 (.box (.t 0)),Oo 2 (.mov (.k (.slice none 0 0))),oK 3 0]
 (.seq (sR [oL 9 1,Oo 10 (.lenS (.t 9)),oB 11 .gtr 10 400]
 (.cond (.t 11) (sR [Oo 2 (.mov (.k (.slice none 0 0))),oK 3 8]
 .ret)
 .skip))
 (sR [Oo 4 (.mov (.k (.slice none 0 0)))]
 (.gh (.nil 4 2) (sR [oK 5 0]
 (.seq (.block 0 (.loop [1,2,0] h188l0))
 (.seq (sR [oL 35 1,Oo 36 (.lenS (.t 35)),oB 37 .neq 36 1]
 (.cond (.t 37) (sR [Oo 2 (.mov (.k (.slice none 0 0))),oK 3 3]
 .ret)
 .skip))
 (.seq (sR [oM 38 4,Oo 39 (.bslc 1 1 [(.slice none 0 0)] [(0,(.t 38))]),oJ 40 212 39,oM 8 40]
 (sR [oM 41 8,oB 42 .neq 41 0]
 (.cond (.t 42) (sR [oM 43 8,Oo 2 (.mov (.k (.slice none 0 0))),oM 3 43]
 .ret)
 .skip)))
 (sR [oM 44 4,oM 2 44,oK 3 0]
 .ret)))))))))
abbrev h188:HF:=⟨h188c,[.tmp 2,.tmp 3],45,false⟩
def h189l0:HC:=
 (.seq (sR [oM 5 3,oM 6 0,Oo 7 (.lenS (.t 6)),oC 8 .lss 5 7]
 (.cond (.t 8) .skip
 (.exit 0)))
 (.block 1 (sR [oM 9 0,oM 10 3,Oo 11 (.ixS (.t 9) (.t 10)),Oo 12 (.conv .i64 (.t 11)),oM 4 12]
 (.seq (sR [oM 13 4,oB 14 .eql 13 0]
 (.cond (.t 14) (sR [oM 15 0,oM 16 3,oB 17 .add 16 1,Oo 18 (.slS (.t 15) none (some (.t 17))),oM 2 18]
 .ret)
 .skip))
 (.region [oM 19 3,oM 20 4,oB 21 .and 20 15,Oo 22 (.bin .add (Ki 1) (.t 21)),oM 23 4,Oo 24 (.bin .shr (.t 23) (.k (.int .u64 4))),oC 25 .add 22 24,oC 26 .add 19 25,oM 3 26])))))
def h189c:HC:=
 (sR [Oo 2 (.mov (.k (.string ⟨#[]⟩)))]
 (.seq (sR [oK 3 0]
 (.block 0 (.loop [0,2] h189l0)))
 (sR [oM 27 0,oM 2 27]
 .ret)))
abbrev h189:HF:=⟨h189c,[.tmp 2],28,false⟩
def h190l0:HC:=
 (.seq (sR [oM 5 0,Oo 6 (.lenS (.t 5)),oB 7 .gtr 6 0,oM 8 7,gM 8 true 9 0,Og 8 true 10 (.ixS (.t 9) (Ki 0)),gM 8 true 11 1,Og 8 true 12 (.bin .eql (.t 10) (.t 11)),Oo 13 (.pick (.t 8) (.t 12) (.k (.bool false)))]
 (.cond (.t 13) .skip
 (.exit 0)))
 (.block 1 (.region [oM 14 0,Oo 15 (.slS (.t 14) (some (Ki 1)) none),oM 0 15])))
def h190c:HC:=
 (sR [Oo 4 (.mov (.k (.string ⟨#[]⟩)))]
 (.seq (.block 0 (.loop [0,0] h190l0))
 (sR [oM 16 0,oM 4 16]
 .ret)))
abbrev h190:HF:=⟨h190c,[.tmp 4],17,false⟩
def h191l0:HC:=
 (.seq (sR [oM 5 0,Oo 6 (.lenS (.t 5)),oB 7 .gtr 6 0,oM 8 7,gM 8 true 9 0,gM 8 true 10 0,Og 8 true 11 (.lenS (.t 10)),Og 8 true 12 (.bin .sub (.t 11) (Ki 1)),Og 8 true 13 (.ixS (.t 9) (.t 12)),gM 8 true 14 1,Og 8 true 15 (.bin .eql (.t 13) (.t 14)),Oo 16 (.pick (.t 8) (.t 15) (.k (.bool false)))]
 (.cond (.t 16) .skip
 (.exit 0)))
 (.block 1 (.region [oM 17 0,oM 18 0,Oo 19 (.lenS (.t 18)),oB 20 .sub 19 1,Oo 21 (.slS (.t 17) none (some (.t 20))),oM 0 21])))
def h191c:HC:=
 (sR [Oo 4 (.mov (.k (.string ⟨#[]⟩)))]
 (.seq (.block 0 (.loop [0,0] h191l0))
 (sR [oM 22 0,oM 4 22]
 .ret)))
abbrev h191:HF:=⟨h191c,[.tmp 4],23,false⟩
def h197c:HC:=
 (sR [oK 6 0,Oo 7 (.mov (.k (.bool false)))]
 (sR [oM 9 0,oM 10 1,oM 11 2,Oo 12 (.call 57 [(.t 9),(.t 10),(.t 11)]),oM 8 12]
 (.seq (sR [oM 13 8,oM 14 2,Oo 15 (.bin .mul (Ki 8) (.t 14)),oB 16 .sub 15 1,oJ 17 46 16,oC 18 .geq 13 17]
 (.cond (.t 18) (.region [oM 19 8,oM 20 2,Oo 21 (.bin .mul (Ki 8) (.t 20)),oJ 22 46 21,oC 23 .sub 19 22,oM 8 23])
 .skip))
 (sR [oM 24 8,oM 25 8,oJ 26 140 25,Oo 27 (.lenS (.t 26)),oM 28 2,oC 29 .eql 27 28,oM 6 24,oM 7 29]
 .ret))))
abbrev h197:HF:=⟨h197c,[.tmp 6,.tmp 7],30,false⟩
def h198c:HC:=
 (sR [Oo 4 (.mov (.k (.string ⟨#[]⟩)))]
 (.seq (sR [oM 10 1,oB 11 .eql 10 10]
 (.cond (.t 11) (.seq (sR [oM 12 0,Oo 13 (.bin .leq (Ki 0) (.t 12)),oM 14 13,gM 14 true 15 0,Og 14 true 16 (.bin .lss (.t 15) (Ki 100)),Oo 17 (.pick (.t 14) (.t 16) (.k (.bool false)))]
 (.cond (.t 17) (sR [oM 18 0,oJ 19 236 18,oM 4 19]
 .ret)
 .skip))
 (sR [Oo 5 (.alloc [(.int .u8 0),(.int .u8 0),(.int .u8 0),(.int .u8 0),(.int .u8 0),(.int .u8 0),(.int .u8 0),(.int .u8 0),(.int .u8 0),(.int .u8 0),(.int .u8 0),(.int .u8 0),(.int .u8 0),(.int .u8 0),(.int .u8 0),(.int .u8 0),(.int .u8 0),(.int .u8 0),(.int .u8 0),(.int .u8 0),(.int .u8 0),(.int .u8 0),(.int .u8 0),(.int .u8 0)])]
 (sR [oM 20 0,Oo 21 (.conv .u64 (.t 20)),oM 6 21]
 (.seq (sR [oM 22 0,oB 23 .lss 22 0]
 (.cond (.t 23) (.region [oM 24 6,Oo 25 (.un .neg (.t 24)),oM 6 25])
 .skip))
 (sR [oM 26 6,oJ 27 237 26,oM 7 27]
 (sR [oM 28 7,Oo 29 (.bin .add (Ki 1) (.t 28)),Oo 30 (.slA 24 1 (.t 5) (some (Ki 1)) (some (.t 29))),oM 31 6,kC 32 238 30 31]
 (.seq (sR [oM 33 0,oB 34 .lss 33 0]
 (.cond (.t 34) (sR [Oo 35 (.ixA 24 1 (.t 5) (Ki 0)),On (.store 1 (.t 35) (.k (.int .u8 45)))]
 (sR [oM 36 7,Oo 37 (.bin .add (Ki 1) (.t 36)),Oo 38 (.slA 24 1 (.t 5) none (some (.t 37))),Oo 39 (.cvbs (.t 38)),oM 4 39]
 .ret))
 .skip))
 (sR [oM 40 7,Oo 41 (.bin .add (Ki 1) (.t 40)),Oo 42 (.slA 24 1 (.t 5) (some (Ki 1)) (some (.t 41))),Oo 43 (.cvbs (.t 42)),oM 4 43]
 .ret))))))))
 .skip))
 (sR [oM 45 0,Oo 46 (.conv .u64 (.t 45)),oM 47 1,oM 48 0,oB 49 .lss 48 0,Oo 50 (.call 239 [(.k (.slice none 0 0)),(.t 46),(.t 47),(.t 49),(.k (.bool false))]),oM 44 50,oE 51 44 0,oE 52 44 1,oM 8 51,oM 9 52]
 (sR [oM 53 9,oM 4 53]
 .ret))))
abbrev h198:HF:=⟨h198c,[.tmp 4],54,false⟩
def h202c:HC:=
 (sR [Oo 2 (.mov (.k (.bool false)))]
 (sR [oM 3 0,oM 4 0,oC 5 .neq 3 4,oM 2 5]
 .ret))
abbrev h202:HF:=⟨h202c,[.tmp 2],6,false⟩
def h203c:HC:=
 (sR [Oo 2 (.mov (.k (.bool false)))]
 (sR [oM 3 0,oM 4 0,oC 5 .neq 3 4,oM 2 5]
 .ret))
abbrev h203:HF:=⟨h203c,[.tmp 2],6,false⟩
def h204l0:HC:=
 (sR [oC 8 .lss 7 6]
 (.seq (.cond (.t 8) .skip
 (.exit 0))
 (.seq (.block 1 (sR [oI 9 1 5 7,oL 10 9,oM 4 10]
 (sR [oM 11 4,oB 12 .neq 11 0]
 (.cond (.t 12) (sR [oM 13 4,oM 2 13]
 .ret)
 .skip))))
 (.region [oB 14 .add 7 1,oM 7 14]))))
def h204c:HC:=
 (sR [oK 2 0]
 (.seq (sR [oM 5 0,oN 6 5,oK 7 0]
 (.block 0 (.loop [5,0,0] h204l0)))
 (sR [oK 2 0]
 .ret)))
abbrev h204:HF:=⟨h204c,[.tmp 2],15,false⟩
def h205c:HC:=
 (sR [oK 4 0]
 (.seq (sR [oM 5 0]
 (.cond (.t 5) (sR [oK 4 0]
 .ret)
 .skip))
 (sR [oM 6 1,oM 4 6]
 .ret)))
abbrev h205:HF:=⟨h205c,[.tmp 4],7,false⟩
def h206c:HC:=
 (sR [Oo 2 (.mov (.k (.bool false)))]
 (sR [oM 3 0,Oo 4 (.bin .neq (.t 3) (.k (.string ⟨#[]⟩))),oM 5 4,gM 5 true 6 0,Og 5 true 7 (.lenS (.t 6)),Og 5 true 8 (.bin .leq (.t 7) (Ki 32)),Oo 9 (.pick (.t 5) (.t 8) (.k (.bool false))),oM 10 9,gM 10 true 11 0,Og 10 true 12 (.call 249 [(.t 11),(.f 250)]),Oo 13 (.pick (.t 10) (.t 12) (.k (.bool false))),oM 14 13,gM 14 true 15 0,Og 14 true 16 (.bin .neq (.t 15) (.k (.string ⟨#[46,46]⟩))),Oo 17 (.pick (.t 14) (.t 16) (.k (.bool false))),oM 18 17,gM 18 true 19 0,Og 18 true 20 (.call 251 [(.t 19),(.k (.string ⟨#[32]⟩))]),Og 18 true 21 (.un .not (.t 20)),Oo 22 (.pick (.t 18) (.t 21) (.k (.bool false))),oM 23 22,gM 23 true 24 0,Og 23 true 25 (.call 251 [(.t 24),(.k (.string ⟨#[46]⟩))]),Og 23 true 26 (.un .not (.t 25)),Oo 27 (.pick (.t 23) (.t 26) (.k (.bool false))),oM 2 27]
 .ret))
abbrev h206:HF:=⟨h206c,[.tmp 2],28,false⟩
def h207c:HC:=
 (sR [Oo 1 (.box (.t 0)),oK 2 0]
 (.seq (sR [oG 3 2 1,oJ 4 214 3]
 (.cond (.t 4) (sR [oA 5 1 1,oL 6 5,Oo 7 (.call 252 [(.t 6),(Ki 1),(Ki 4096)]),Oo 8 (.call 210 [(.t 7),(Ki 2)]),oM 2 8]
 .ret)
 .skip))
 (.seq (sR [oA 9 0 1,oL 10 9,Oo 11 (.call 252 [(.t 10),(Ki 0),(Ki 511)]),Oo 12 (.un .not (.t 11))]
 (.cond (.t 12) (sR [oK 2 2]
 .ret)
 .skip))
 (sR [oA 13 1 1,oL 14 13,oA 15 0 1,oL 16 15,Oo 17 (.bin .sub (Ki 512) (.t 16)),Oo 18 (.call 252 [(.t 14),(Ki 1),(.t 17)]),Oo 19 (.call 210 [(.t 18),(Ki 2)]),oM 2 19]
 .ret))))
abbrev h207:HF:=⟨h207c,[.tmp 2],20,false⟩
def h208c:HC:=
 (sR [Oo 2 (.box (.t 0)),Oo 3 (.box (.t 1)),Oo 4 (.mov (.k (.bool false)))]
 (.seq (.drawn [Qo (oG 5 2 2),Qo (oJ 6 214 5),Qo (oG 7 2 3),Qe (oJ 8 214 7),Qo (Oo 9 (.binb false (.t 6) (.t 8))),Qo (oM 10 9),Qo (Og 10 true 11 (.load true 2 (.t 2))),Qe (Og 10 true 12 (.call 214 [(.t 11)])),Qo (gM 10 true 13 12),Qo (Og 13 false 14 (.addo 0 (.t 2))),Qo (Og 13 false 15 (.load false 1 (.t 14))),Qo (Og 13 false 16 (.addo 1 (.t 2))),Qo (Og 13 false 17 (.load false 1 (.t 16))),Qo (Og 13 false 18 (.bin .add (.t 15) (.t 17))),Qo (Og 13 false 19 (.addo 0 (.t 3))),Qo (Og 13 false 20 (.load false 1 (.t 19))),Qo (Og 13 false 21 (.bin .eql (.t 18) (.t 20))),Qo (Og 10 true 22 (.pick (.t 13) (.k (.bool true)) (.t 21))),Qo (Oo 23 (.pick (.t 10) (.t 22) (.k (.bool false)))),Qo (oM 4 23)])
 .ret))
abbrev h208:HF:=⟨h208c,[.tmp 4],24,false⟩
def h209l0:HC:=
 (.seq (sR [oM 11 6,oA 12 0 3,oL 13 12,oA 14 1 3,oL 15 14,oC 16 .add 13 15,oC 17 .lss 11 16]
 (.cond (.t 17) .skip
 (.exit 0)))
 (.seq (.block 1 (sR [oM 20 5,oM 21 20,gM 21 true 22 0,gM 21 true 23 6,Og 21 true 24 (.nilc (.t 22)),Og 21 true 25 (.ixA 512 1 (.t 24) (.t 23)),Og 21 true 26 (.load false 1 (.t 25)),Og 21 true 27 (.un .not (.t 26)),Oo 28 (.pick (.t 21) (.t 27) (.k (.bool false))),oM 5 28]
 (.region [oM 29 0,oM 30 6,Oo 31 (.nilc (.t 29)),Oo 32 (.ixA 512 1 (.t 31) (.t 30)),On (.store 1 (.t 32) (.k (.bool true)))])))
 (.region [oM 18 6,oB 19 .add 18 1,oM 6 19])))
def h209c:HC:=
 (sR [Oo 3 (.box (.t 1)),Oo 4 (.mov (.k (.bool false)))]
 (.seq (sR [oG 7 2 3,oJ 8 214 7]
 (.cond (.t 8) (sR [Oo 4 (.mov (.k (.bool true)))]
 .ret)
 .skip))
 (sR [Oo 5 (.mov (.k (.bool true)))]
 (.seq (sR [oA 9 0 3,oL 10 9,oM 6 10]
 (.block 0 (.loop [0,2,1,0] h209l0)))
 (sR [oM 33 5,oM 4 33]
 .ret)))))
abbrev h209:HF:=⟨h209c,[.tmp 4],34,false⟩
def h210c:HC:=
 (sR [oK 4 0]
 (.seq (sR [oM 5 0]
 (.cond (.t 5) (sR [oK 4 0]
 .ret)
 .skip))
 (sR [oM 6 1,oM 4 6]
 .ret)))
abbrev h210:HF:=⟨h210c,[.tmp 4],7,false⟩
def h211l0:HC:=
 (sR [oC 9 .lss 8 7]
 (.seq (.cond (.t 9) .skip
 (.exit 0))
 (.seq (.block 1 (sR [oI 10 2 6 8,oG 11 2 10,Oo 5 (.alloc [Zi 0,Zi 0]),oS 2 5 11]
 (.region [oM 12 3,oA 13 1 5,oL 14 13,oC 15 .add 12 14,oM 3 15])))
 (.region [oB 16 .add 8 1,oM 8 16]))))
def h211c:HC:=
 (sR [oK 2 0]
 (sR [oK 3 0]
 (.seq (sR [oM 6 0,oN 7 6,oK 8 0]
 (.block 0 (.loop [3,2,0,0] h211l0)))
 (sR [oM 17 3,oM 2 17]
 .ret))))
abbrev h211:HF:=⟨h211c,[.tmp 2],18,false⟩
def h212l0:HC:=
 (sR [oC 10 .lss 9 8]
 (.seq (.cond (.t 10) .skip
 (.exit 0))
 (.seq (.block 1 (sR [oI 11 1 7 9,oL 12 11,oM 4 12]
 (sR [oM 14 4,oJ 15 174 14,oM 13 15,oE 16 13 0,oE 17 13 1,oM 5 16,oM 6 17]
 (sR [oM 18 6,oB 19 .neq 18 0]
 (.cond (.t 19) (sR [oM 20 6,oM 2 20]
 .ret)
 .skip)))))
 (.region [oB 21 .add 9 1,oM 9 21]))))
def h212c:HC:=
 (sR [oK 2 0]
 (.seq (sR [oM 7 0,oN 8 7,oK 9 0]
 (.block 0 (.loop [7,0,0] h212l0)))
 (sR [oK 2 0]
 .ret)))
abbrev h212:HF:=⟨h212c,[.tmp 2],22,false⟩
def h213l0:HC:=
 (.seq (.seq (.drawn [Qo (oM 4 0),Qo (oM 5 3),Qo (Oo 6 (.bin .mul (Ki 8) (.t 5))),Qo (oB 7 .sub 6 1),Qo (Oo 8 (.bin .shl (Ki (-1)) (.t 7))),Qo (oM 9 3),Qo (Oo 10 (.bin .mul (Ki 8) (.t 9))),Qo (oB 11 .sub 10 1),Qo (Oo 12 (.bin .shl (Ki 1) (.t 11))),Qo (oB 13 .sub 12 1),Qe (Oo 14 (.call 252 [(.t 4),(.t 8),(.t 13)])),Qo (Oo 15 (.un .not (.t 14)))])
 (.cond (.t 15) .skip
 (.exit 0)))
 (.block 1 (.region [oM 16 3,oB 17 .add 16 1,oM 3 17])))
def h213c:HC:=
 (sR [oK 2 0]
 (sR [oK 3 1]
 (.seq (.block 0 (.loop [0,2] h213l0))
 (sR [oM 18 3,oM 2 18]
 .ret))))
abbrev h213:HF:=⟨h213c,[.tmp 2],19,false⟩
def h214c:HC:=
 (sR [Oo 1 (.box (.t 0)),Oo 2 (.mov (.k (.bool false)))]
 (sR [oA 3 0 1,oL 4 3,Oo 5 (.bin .eql (.t 4) (Ki (-1))),oM 2 5]
 .ret))
abbrev h214:HF:=⟨h214c,[.tmp 2],6,false⟩
def h215l0:HC:=
 (sR [oC 8 .lss 7 6]
 (.seq (.cond (.t 8) .skip
 (.exit 0))
 (.seq (.block 1 (sR [oM 9 5,oM 10 0,Oo 11 (.conv .u8 (.t 10)),Oo 12 (.bslc 1 1 L8 [(0,(.t 11))]),Oo 13 (.app 1 1 L8 (.t 9) (.t 12)),oM 5 13]
 (.region [oM 14 0,Oo 15 (.bin .shr (.t 14) (.k (.int .u64 8))),oM 0 15])))
 (.region [oB 16 .add 7 1,oM 7 16]))))
def h215c:HC:=
 (sR [Oo 4 (.mov (.k (.slice none 0 0)))]
 (sR [Oo 5 (.mov (.k (.slice none 0 0)))]
 (.gh (.nil 5 1) (.seq (sR [oM 6 1,oK 7 0]
 (.block 0 (.loop [0,4,0,0] h215l0)))
 (sR [oM 17 5,oM 4 17]
 .ret)))))
abbrev h215:HF:=⟨h215c,[.tmp 4],18,false⟩
def h225c:HC:=
 (sR [oK 2 0]
 (.seq (sR [oM 3 0,Oo 4 (.bin .geq (.t 3) (.k (.int .u64 4294967296)))]
 (.cond (.t 4) (sR [oM 5 0,Oo 6 (.bin .shr (.t 5) (.k (.int .u64 32))),oM 0 6]
 (.region [oK 2 32]))
 .skip))
 (.seq (sR [oM 7 0,Oo 8 (.bin .geq (.t 7) (.k (.int .u64 65536)))]
 (.cond (.t 8) (sR [oM 9 0,Oo 10 (.bin .shr (.t 9) (.k (.int .u64 16))),oM 0 10]
 (.region [oM 11 2,oB 12 .add 11 16,oM 2 12]))
 .skip))
 (.seq (sR [oM 13 0,Oo 14 (.bin .geq (.t 13) (.k (.int .u64 256)))]
 (.cond (.t 14) (sR [oM 15 0,Oo 16 (.bin .shr (.t 15) (.k (.int .u64 8))),oM 0 16]
 (.region [oM 17 2,oB 18 .add 17 8,oM 2 18]))
 .skip))
 (sR [oM 19 2,oM 20 0,Oo 21 (.conv .u8 (.t 20)),Oo 22 (.ixS (.k (.string ⟨#[0,1,2,2,3,3,3,3,4,4,4,4,4,4,4,4,5,5,5,5,5,5,5,5,5,5,5,5,5,5,5,5,6,6,6,6,6,6,6,6,6,6,6,6,6,6,6,6,6,6,6,6,6,6,6,6,6,6,6,6,6,6,6,6,7,7,7,7,7,7,7,7,7,7,7,7,7,7,7,7,7,7,7,7,7,7,7,7,7,7,7,7,7,7,7,7,7,7,7,7,7,7,7,7,7,7,7,7,7,7,7,7,7,7,7,7,7,7,7,7,7,7,7,7,7,7,7,7,8,8,8,8,8,8,8,8,8,8,8,8,8,8,8,8,8,8,8,8,8,8,8,8,8,8,8,8,8,8,8,8,8,8,8,8,8,8,8,8,8,8,8,8,8,8,8,8,8,8,8,8,8,8,8,8,8,8,8,8,8,8,8,8,8,8,8,8,8,8,8,8,8,8,8,8,8,8,8,8,8,8,8,8,8,8,8,8,8,8,8,8,8,8,8,8,8,8,8,8,8,8,8,8,8,8,8,8,8,8,8,8,8,8,8,8,8,8,8,8,8,8,8,8,8,8,8,8]⟩)) (.t 21)),Oo 23 (.conv .i64 (.t 22)),oC 24 .add 19 23,oM 2 24]
 .ret)))))
abbrev h225:HF:=⟨h225c,[.tmp 2],25,false⟩
def h226c:HC:=
 (sR [Oo 1 (.box (.t 0)),Oo 2 (.mov (.k (.bool false)))]
 (.seq (sR [oA 3 0 1,oL 4 3,Oo 5 (.bin .eql (.t 4) (Ki (-1)))]
 (.cond (.t 5) (sR [oA 6 1 1,oL 7 6,Oo 8 (.call 19 [(.t 7),(Ki 1),(Ki 4096)]),oM 2 8]
 .ret)
 .skip))
 (sR [oA 9 0 1,oL 10 9,Oo 11 (.call 19 [(.t 10),(Ki 0),(Ki 511)]),oM 12 11,Og 12 true 13 (.addo 1 (.t 1)),Og 12 true 14 (.load false 1 (.t 13)),Og 12 true 15 (.addo 0 (.t 1)),Og 12 true 16 (.load false 1 (.t 15)),Og 12 true 17 (.bin .sub (Ki 512) (.t 16)),Og 12 true 18 (.call 19 [(.t 14),(Ki 1),(.t 17)]),Oo 19 (.pick (.t 12) (.t 18) (.k (.bool false))),oM 2 19]
 .ret)))
abbrev h226:HF:=⟨h226c,[.tmp 2],20,false⟩
def h227c:HC:=
 (sR [Oo 2 (.box (.t 0)),Oo 3 (.box (.t 1)),Oo 4 (.mov (.k (.bool false)))]
 (.seq (sR [oA 5 0 2,oL 6 5,Oo 7 (.bin .eql (.t 6) (Ki (-1))),oM 8 7,Og 8 false 9 (.addo 0 (.t 3)),Og 8 false 10 (.load false 1 (.t 9)),Og 8 false 11 (.bin .eql (.t 10) (Ki (-1))),Oo 12 (.pick (.t 8) (.k (.bool true)) (.t 11))]
 (.cond (.t 12) (sR [oA 13 0 2,oL 14 13,oA 15 0 3,oL 16 15,oC 17 .eql 14 16,oM 4 17]
 .ret)
 .skip))
 (sR [oA 18 0 3,oL 19 18,oA 20 0 2,oL 21 20,oA 22 1 2,oL 23 22,oC 24 .add 21 23,oC 25 .eql 19 24,oM 4 25]
 .ret)))
abbrev h227:HF:=⟨h227c,[.tmp 4],26,false⟩
def h228l0:HC:=
 (.seq (sR [oM 6 5,oM 7 1,oC 8 .lss 6 7]
 (.cond (.t 8) .skip
 (.exit 0)))
 (.seq (.block 1 (.seq (.drawn [Qo (oM 11 0),Qo (oM 12 5),Qo (oI 13 2 11 12),Qo (oG 14 2 13),Qo (oM 15 0),Qo (oM 16 1),Qo (oI 17 2 15 16),Qo (oG 18 2 17),Qe (kC 19 258 14 18)])
 (.cond (.t 19) (sR [Oo 4 (.mov (.k (.bool true)))]
 .ret)
 .skip)))
 (.region [oM 9 5,oB 10 .add 9 1,oM 5 10])))
def h228c:HC:=
 (sR [Oo 4 (.mov (.k (.bool false)))]
 (.seq (sR [oK 5 0]
 (.block 0 (.loop [0,0,3] h228l0)))
 (sR [Oo 4 (.mov (.k (.bool false)))]
 .ret)))
abbrev h228:HF:=⟨h228c,[.tmp 4],20,false⟩
def h231c:HC:=
 (sR [Oo 4 (.alloc [Zi 0,Zi 0]),Oo 5 (.mov (.k (.bool false)))]
 (sR [oM 13 0,Oo 14 (.nilc (.t 13)),oL 15 14,Oo 16 (.ixS (.t 15) (Ki 0)),Oo 17 (.conv .i64 (.t 16)),oM 6 17]
 (sR [oM 18 0,oM 19 0,Oo 20 (.nilc (.t 19)),oL 21 20,Oo 22 (.slS (.t 21) (some (Ki 1)) none),Oo 23 (.nilc (.t 18)),oS 1 23 22]
 (sR [oM 24 6,oB 25 .and 24 15,oM 26 6,Oo 27 (.bin .shr (.t 26) (.k (.int .u64 4))),oM 7 25,oM 8 27]
 (.seq (sR [oM 28 7,Oo 29 (.call 252 [(.t 28),(Ki 1),(Ki 2)]),Oo 30 (.un .not (.t 29)),oM 31 30,gM 31 false 32 8,Og 31 false 33 (.bin .gtr (.t 32) (Ki 2)),Oo 34 (.pick (.t 31) (.k (.bool true)) (.t 33))]
 (.cond (.t 34) (sR [Oo 35 (.build [Zi 0,Zi 0] []),oS 2 4 35,Oo 5 (.mov (.k (.bool false)))]
 .ret)
 .skip))
 (sR [oM 37 0,oM 38 7,kC 39 259 37 38,oM 36 39,oE 40 36 0,oE 41 36 1,oM 9 40,oM 10 41]
 (.seq (sR [oM 42 10,Oo 43 (.un .not (.t 42)),oM 44 43,gM 44 false 45 8,Og 44 false 46 (.bin .eql (.t 45) (Ki 0)),Oo 47 (.pick (.t 44) (.k (.bool true)) (.t 46))]
 (.cond (.t 47) (sR [oM 48 9,Oo 49 (.build [Zi 0,Zi 0] [(0,1,(Ki (-1))),(1,1,(.t 48))]),oM 50 10,oS 2 4 49,oM 5 50]
 .ret)
 .skip))
 (sR [oM 52 0,oM 53 8,kC 54 259 52 53,oM 51 54,oE 55 51 0,oE 56 51 1,oM 11 55,oM 10 56]
 (sR [oM 57 1,oM 58 11,oC 59 .add 57 58,oM 60 9,Oo 61 (.build [Zi 0,Zi 0] [(0,1,(.t 59)),(1,1,(.t 60))]),Oo 12 (.alloc [Zi 0,Zi 0]),oS 2 12 61]
 (.seq (.drawn [Qo (oG 62 2 12),Qo (oM 63 10),Qo (oM 64 63),Qo (Og 64 true 65 (.load true 2 (.t 12))),Qo (Og 64 true 66 (.call 214 [(.t 65)])),Qo (Og 64 true 67 (.un .not (.t 66))),Qo (Oo 68 (.pick (.t 64) (.t 67) (.k (.bool false)))),Qe (oS 2 4 62),Qo (oM 5 68)])
 .ret))))))))))
abbrev h231:HF:=⟨h231c,[.cell 4 true 2,.tmp 5],69,false⟩
def h236c:HC:=
 (sR [Oo 2 (.mov (.k (.string ⟨#[]⟩)))]
 (.seq (sR [oM 3 0,oB 4 .lss 3 10]
 (.cond (.t 4) (sR [oM 5 0,oM 6 0,oB 7 .add 6 1,Oo 8 (.slS (.k (.string ⟨#[48,49,50,51,52,53,54,55,56,57,97,98,99,100,101,102,103,104,105,106,107,108,109,110,111,112,113,114,115,116,117,118,119,120,121,122]⟩)) (some (.t 5)) (some (.t 7))),oM 2 8]
 .ret)
 .skip))
 (sR [oM 9 0,oB 10 .mul 9 2,oM 11 0,oB 12 .mul 11 2,oB 13 .add 12 2,Oo 14 (.slS (.k (.string ⟨#[48,48,48,49,48,50,48,51,48,52,48,53,48,54,48,55,48,56,48,57,49,48,49,49,49,50,49,51,49,52,49,53,49,54,49,55,49,56,49,57,50,48,50,49,50,50,50,51,50,52,50,53,50,54,50,55,50,56,50,57,51,48,51,49,51,50,51,51,51,52,51,53,51,54,51,55,51,56,51,57,52,48,52,49,52,50,52,51,52,52,52,53,52,54,52,55,52,56,52,57,53,48,53,49,53,50,53,51,53,52,53,53,53,54,53,55,53,56,53,57,54,48,54,49,54,50,54,51,54,52,54,53,54,54,54,55,54,56,54,57,55,48,55,49,55,50,55,51,55,52,55,53,55,54,55,55,55,56,55,57,56,48,56,49,56,50,56,51,56,52,56,53,56,54,56,55,56,56,56,57,57,48,57,49,57,50,57,51,57,52,57,53,57,54,57,55,57,56,57,57]⟩)) (some (.t 10)) (some (.t 13))),oM 2 14]
 .ret)))
abbrev h236:HF:=⟨h236c,[.tmp 2],15,false⟩
def h237c:HC:=
 (sR [oK 2 0]
 (sR [oM 4 0,oJ 5 225 4,oJ 6 263 5,oM 3 6]
 (sR [oM 7 3,oM 8 0,oM 9 3,Oo 10 (.ixA 20 1 (.g 12) (.t 9)),oL 11 10,oC 12 .geq 8 11,oJ 13 264 12,oC 14 .add 7 13,oM 2 14]
 .ret)))
abbrev h237:HF:=⟨h237c,[.tmp 2],15,false⟩
def h238l0:HC:=
 (.seq (sR [oM 19 4,oB 20 .geq 19 8]
 (.cond (.t 20) .skip
 (.exit 0)))
 (.block 1 (sR [oM 21 1,Oo 22 (.bin .rem (.t 21) (.k (.int .u64 100000000))),Oo 23 (.conv .u32 (.t 22)),oM 5 23]
 (sR [oM 24 1,Oo 25 (.bin .quo (.t 24) (.k (.int .u64 100000000))),oM 1 25]
 (sR [oM 26 5,Oo 27 (.bin .quo (.t 26) (.k (.int .u32 10000))),oM 28 5,Oo 29 (.bin .rem (.t 28) (.k (.int .u32 10000))),oM 6 27,oM 7 29]
 (sR [oM 30 7,Oo 31 (.bin .quo (.t 30) (.k (.int .u32 100))),Oo 32 (.bin .mul (.t 31) (.k (.int .u32 2))),oM 33 7,Oo 34 (.bin .rem (.t 33) (.k (.int .u32 100))),Oo 35 (.bin .mul (.t 34) (.k (.int .u32 2))),oM 8 32,oM 9 35]
 (sR [oM 36 6,Oo 37 (.bin .quo (.t 36) (.k (.int .u32 100))),Oo 38 (.bin .mul (.t 37) (.k (.int .u32 2))),oM 39 6,Oo 40 (.bin .rem (.t 39) (.k (.int .u32 100))),Oo 41 (.bin .mul (.t 40) (.k (.int .u32 2))),oM 10 38,oM 11 41]
 (.seq (.drawn [Qo (oM 42 0),Qo (oM 43 4),Qo (oB 44 .sub 43 1),Qo (oM 45 0),Qo (oM 46 4),Qo (oB 47 .sub 46 2),Qo (oM 48 9),Qo (Oo 49 (.bin .add (.t 48) (.k (.int .u32 1)))),Qo (Oo 50 (.ixS (.k (.string ⟨#[48,48,48,49,48,50,48,51,48,52,48,53,48,54,48,55,48,56,48,57,49,48,49,49,49,50,49,51,49,52,49,53,49,54,49,55,49,56,49,57,50,48,50,49,50,50,50,51,50,52,50,53,50,54,50,55,50,56,50,57,51,48,51,49,51,50,51,51,51,52,51,53,51,54,51,55,51,56,51,57,52,48,52,49,52,50,52,51,52,52,52,53,52,54,52,55,52,56,52,57,53,48,53,49,53,50,53,51,53,52,53,53,53,54,53,55,53,56,53,57,54,48,54,49,54,50,54,51,54,52,54,53,54,54,54,55,54,56,54,57,55,48,55,49,55,50,55,51,55,52,55,53,55,54,55,55,55,56,55,57,56,48,56,49,56,50,56,51,56,52,56,53,56,54,56,55,56,56,56,57,57,48,57,49,57,50,57,51,57,52,57,53,57,54,57,55,57,56,57,57]⟩)) (.t 49))),Qo (oM 51 9),Qo (Oo 52 (.ixS (.k (.string ⟨#[48,48,48,49,48,50,48,51,48,52,48,53,48,54,48,55,48,56,48,57,49,48,49,49,49,50,49,51,49,52,49,53,49,54,49,55,49,56,49,57,50,48,50,49,50,50,50,51,50,52,50,53,50,54,50,55,50,56,50,57,51,48,51,49,51,50,51,51,51,52,51,53,51,54,51,55,51,56,51,57,52,48,52,49,52,50,52,51,52,52,52,53,52,54,52,55,52,56,52,57,53,48,53,49,53,50,53,51,53,52,53,53,53,54,53,55,53,56,53,57,54,48,54,49,54,50,54,51,54,52,54,53,54,54,54,55,54,56,54,57,55,48,55,49,55,50,55,51,55,52,55,53,55,54,55,55,55,56,55,57,56,48,56,49,56,50,56,51,56,52,56,53,56,54,56,55,56,56,56,57,57,48,57,49,57,50,57,51,57,52,57,53,57,54,57,55,57,56,57,57]⟩)) (.t 51))),Qo (oI 53 1 42 44),Qe (oS 1 53 50),Qo (oI 54 1 45 47),Qe (oS 1 54 52)])
 (.seq (.drawn [Qo (oM 55 0),Qo (oM 56 4),Qo (oB 57 .sub 56 3),Qo (oM 58 0),Qo (oM 59 4),Qo (oB 60 .sub 59 4),Qo (oM 61 8),Qo (Oo 62 (.bin .add (.t 61) (.k (.int .u32 1)))),Qo (Oo 63 (.ixS (.k (.string ⟨#[48,48,48,49,48,50,48,51,48,52,48,53,48,54,48,55,48,56,48,57,49,48,49,49,49,50,49,51,49,52,49,53,49,54,49,55,49,56,49,57,50,48,50,49,50,50,50,51,50,52,50,53,50,54,50,55,50,56,50,57,51,48,51,49,51,50,51,51,51,52,51,53,51,54,51,55,51,56,51,57,52,48,52,49,52,50,52,51,52,52,52,53,52,54,52,55,52,56,52,57,53,48,53,49,53,50,53,51,53,52,53,53,53,54,53,55,53,56,53,57,54,48,54,49,54,50,54,51,54,52,54,53,54,54,54,55,54,56,54,57,55,48,55,49,55,50,55,51,55,52,55,53,55,54,55,55,55,56,55,57,56,48,56,49,56,50,56,51,56,52,56,53,56,54,56,55,56,56,56,57,57,48,57,49,57,50,57,51,57,52,57,53,57,54,57,55,57,56,57,57]⟩)) (.t 62))),Qo (oM 64 8),Qo (Oo 65 (.ixS (.k (.string ⟨#[48,48,48,49,48,50,48,51,48,52,48,53,48,54,48,55,48,56,48,57,49,48,49,49,49,50,49,51,49,52,49,53,49,54,49,55,49,56,49,57,50,48,50,49,50,50,50,51,50,52,50,53,50,54,50,55,50,56,50,57,51,48,51,49,51,50,51,51,51,52,51,53,51,54,51,55,51,56,51,57,52,48,52,49,52,50,52,51,52,52,52,53,52,54,52,55,52,56,52,57,53,48,53,49,53,50,53,51,53,52,53,53,53,54,53,55,53,56,53,57,54,48,54,49,54,50,54,51,54,52,54,53,54,54,54,55,54,56,54,57,55,48,55,49,55,50,55,51,55,52,55,53,55,54,55,55,55,56,55,57,56,48,56,49,56,50,56,51,56,52,56,53,56,54,56,55,56,56,56,57,57,48,57,49,57,50,57,51,57,52,57,53,57,54,57,55,57,56,57,57]⟩)) (.t 64))),Qo (oI 66 1 55 57),Qe (oS 1 66 63),Qo (oI 67 1 58 60),Qe (oS 1 67 65)])
 (.seq (.drawn [Qo (oM 68 0),Qo (oM 69 4),Qo (oB 70 .sub 69 5),Qo (oM 71 0),Qo (oM 72 4),Qo (oB 73 .sub 72 6),Qo (oM 74 11),Qo (Oo 75 (.bin .add (.t 74) (.k (.int .u32 1)))),Qo (Oo 76 (.ixS (.k (.string ⟨#[48,48,48,49,48,50,48,51,48,52,48,53,48,54,48,55,48,56,48,57,49,48,49,49,49,50,49,51,49,52,49,53,49,54,49,55,49,56,49,57,50,48,50,49,50,50,50,51,50,52,50,53,50,54,50,55,50,56,50,57,51,48,51,49,51,50,51,51,51,52,51,53,51,54,51,55,51,56,51,57,52,48,52,49,52,50,52,51,52,52,52,53,52,54,52,55,52,56,52,57,53,48,53,49,53,50,53,51,53,52,53,53,53,54,53,55,53,56,53,57,54,48,54,49,54,50,54,51,54,52,54,53,54,54,54,55,54,56,54,57,55,48,55,49,55,50,55,51,55,52,55,53,55,54,55,55,55,56,55,57,56,48,56,49,56,50,56,51,56,52,56,53,56,54,56,55,56,56,56,57,57,48,57,49,57,50,57,51,57,52,57,53,57,54,57,55,57,56,57,57]⟩)) (.t 75))),Qo (oM 77 11),Qo (Oo 78 (.ixS (.k (.string ⟨#[48,48,48,49,48,50,48,51,48,52,48,53,48,54,48,55,48,56,48,57,49,48,49,49,49,50,49,51,49,52,49,53,49,54,49,55,49,56,49,57,50,48,50,49,50,50,50,51,50,52,50,53,50,54,50,55,50,56,50,57,51,48,51,49,51,50,51,51,51,52,51,53,51,54,51,55,51,56,51,57,52,48,52,49,52,50,52,51,52,52,52,53,52,54,52,55,52,56,52,57,53,48,53,49,53,50,53,51,53,52,53,53,53,54,53,55,53,56,53,57,54,48,54,49,54,50,54,51,54,52,54,53,54,54,54,55,54,56,54,57,55,48,55,49,55,50,55,51,55,52,55,53,55,54,55,55,55,56,55,57,56,48,56,49,56,50,56,51,56,52,56,53,56,54,56,55,56,56,56,57,57,48,57,49,57,50,57,51,57,52,57,53,57,54,57,55,57,56,57,57]⟩)) (.t 77))),Qo (oI 79 1 68 70),Qe (oS 1 79 76),Qo (oI 80 1 71 73),Qe (oS 1 80 78)])
 (.seq (.drawn [Qo (oM 81 0),Qo (oM 82 4),Qo (oB 83 .sub 82 7),Qo (oM 84 0),Qo (oM 85 4),Qo (oB 86 .sub 85 8),Qo (oM 87 10),Qo (Oo 88 (.bin .add (.t 87) (.k (.int .u32 1)))),Qo (Oo 89 (.ixS (.k (.string ⟨#[48,48,48,49,48,50,48,51,48,52,48,53,48,54,48,55,48,56,48,57,49,48,49,49,49,50,49,51,49,52,49,53,49,54,49,55,49,56,49,57,50,48,50,49,50,50,50,51,50,52,50,53,50,54,50,55,50,56,50,57,51,48,51,49,51,50,51,51,51,52,51,53,51,54,51,55,51,56,51,57,52,48,52,49,52,50,52,51,52,52,52,53,52,54,52,55,52,56,52,57,53,48,53,49,53,50,53,51,53,52,53,53,53,54,53,55,53,56,53,57,54,48,54,49,54,50,54,51,54,52,54,53,54,54,54,55,54,56,54,57,55,48,55,49,55,50,55,51,55,52,55,53,55,54,55,55,55,56,55,57,56,48,56,49,56,50,56,51,56,52,56,53,56,54,56,55,56,56,56,57,57,48,57,49,57,50,57,51,57,52,57,53,57,54,57,55,57,56,57,57]⟩)) (.t 88))),Qo (oM 90 10),Qo (Oo 91 (.ixS (.k (.string ⟨#[48,48,48,49,48,50,48,51,48,52,48,53,48,54,48,55,48,56,48,57,49,48,49,49,49,50,49,51,49,52,49,53,49,54,49,55,49,56,49,57,50,48,50,49,50,50,50,51,50,52,50,53,50,54,50,55,50,56,50,57,51,48,51,49,51,50,51,51,51,52,51,53,51,54,51,55,51,56,51,57,52,48,52,49,52,50,52,51,52,52,52,53,52,54,52,55,52,56,52,57,53,48,53,49,53,50,53,51,53,52,53,53,53,54,53,55,53,56,53,57,54,48,54,49,54,50,54,51,54,52,54,53,54,54,54,55,54,56,54,57,55,48,55,49,55,50,55,51,55,52,55,53,55,54,55,55,55,56,55,57,56,48,56,49,56,50,56,51,56,52,56,53,56,54,56,55,56,56,56,57,57,48,57,49,57,50,57,51,57,52,57,53,57,54,57,55,57,56,57,57]⟩)) (.t 90))),Qo (oI 92 1 81 83),Qe (oS 1 92 89),Qo (oI 93 1 84 86),Qe (oS 1 93 91)])
 (.region [oM 94 4,oB 95 .sub 94 8,oM 4 95]))))))))))))
def h238c:HC:=
 (sR [oM 17 0,oN 18 17,oM 4 18]
 (.seq (.block 0 (.loop [0,0,2] h238l0))
 (sR [oM 96 1,Oo 97 (.conv .u32 (.t 96)),oM 12 97]
 (.seq (sR [oM 98 4,oB 99 .geq 98 4]
 (.cond (.t 99) (sR [oM 100 12,Oo 101 (.bin .rem (.t 100) (.k (.int .u32 10000))),oM 13 101]
 (sR [oM 102 12,Oo 103 (.bin .quo (.t 102) (.k (.int .u32 10000))),oM 12 103]
 (sR [oM 104 13,Oo 105 (.bin .quo (.t 104) (.k (.int .u32 100))),Oo 106 (.bin .mul (.t 105) (.k (.int .u32 2))),oM 107 13,Oo 108 (.bin .rem (.t 107) (.k (.int .u32 100))),Oo 109 (.bin .mul (.t 108) (.k (.int .u32 2))),oM 14 106,oM 15 109]
 (.seq (.drawn [Qo (oM 110 0),Qo (oM 111 4),Qo (oB 112 .sub 111 1),Qo (oM 113 0),Qo (oM 114 4),Qo (oB 115 .sub 114 2),Qo (oM 116 15),Qo (Oo 117 (.bin .add (.t 116) (.k (.int .u32 1)))),Qo (Oo 118 (.ixS (.k (.string ⟨#[48,48,48,49,48,50,48,51,48,52,48,53,48,54,48,55,48,56,48,57,49,48,49,49,49,50,49,51,49,52,49,53,49,54,49,55,49,56,49,57,50,48,50,49,50,50,50,51,50,52,50,53,50,54,50,55,50,56,50,57,51,48,51,49,51,50,51,51,51,52,51,53,51,54,51,55,51,56,51,57,52,48,52,49,52,50,52,51,52,52,52,53,52,54,52,55,52,56,52,57,53,48,53,49,53,50,53,51,53,52,53,53,53,54,53,55,53,56,53,57,54,48,54,49,54,50,54,51,54,52,54,53,54,54,54,55,54,56,54,57,55,48,55,49,55,50,55,51,55,52,55,53,55,54,55,55,55,56,55,57,56,48,56,49,56,50,56,51,56,52,56,53,56,54,56,55,56,56,56,57,57,48,57,49,57,50,57,51,57,52,57,53,57,54,57,55,57,56,57,57]⟩)) (.t 117))),Qo (oM 119 15),Qo (Oo 120 (.ixS (.k (.string ⟨#[48,48,48,49,48,50,48,51,48,52,48,53,48,54,48,55,48,56,48,57,49,48,49,49,49,50,49,51,49,52,49,53,49,54,49,55,49,56,49,57,50,48,50,49,50,50,50,51,50,52,50,53,50,54,50,55,50,56,50,57,51,48,51,49,51,50,51,51,51,52,51,53,51,54,51,55,51,56,51,57,52,48,52,49,52,50,52,51,52,52,52,53,52,54,52,55,52,56,52,57,53,48,53,49,53,50,53,51,53,52,53,53,53,54,53,55,53,56,53,57,54,48,54,49,54,50,54,51,54,52,54,53,54,54,54,55,54,56,54,57,55,48,55,49,55,50,55,51,55,52,55,53,55,54,55,55,55,56,55,57,56,48,56,49,56,50,56,51,56,52,56,53,56,54,56,55,56,56,56,57,57,48,57,49,57,50,57,51,57,52,57,53,57,54,57,55,57,56,57,57]⟩)) (.t 119))),Qo (oI 121 1 110 112),Qe (oS 1 121 118),Qo (oI 122 1 113 115),Qe (oS 1 122 120)])
 (.seq (.drawn [Qo (oM 123 0),Qo (oM 124 4),Qo (oB 125 .sub 124 3),Qo (oM 126 0),Qo (oM 127 4),Qo (oB 128 .sub 127 4),Qo (oM 129 14),Qo (Oo 130 (.bin .add (.t 129) (.k (.int .u32 1)))),Qo (Oo 131 (.ixS (.k (.string ⟨#[48,48,48,49,48,50,48,51,48,52,48,53,48,54,48,55,48,56,48,57,49,48,49,49,49,50,49,51,49,52,49,53,49,54,49,55,49,56,49,57,50,48,50,49,50,50,50,51,50,52,50,53,50,54,50,55,50,56,50,57,51,48,51,49,51,50,51,51,51,52,51,53,51,54,51,55,51,56,51,57,52,48,52,49,52,50,52,51,52,52,52,53,52,54,52,55,52,56,52,57,53,48,53,49,53,50,53,51,53,52,53,53,53,54,53,55,53,56,53,57,54,48,54,49,54,50,54,51,54,52,54,53,54,54,54,55,54,56,54,57,55,48,55,49,55,50,55,51,55,52,55,53,55,54,55,55,55,56,55,57,56,48,56,49,56,50,56,51,56,52,56,53,56,54,56,55,56,56,56,57,57,48,57,49,57,50,57,51,57,52,57,53,57,54,57,55,57,56,57,57]⟩)) (.t 130))),Qo (oM 132 14),Qo (Oo 133 (.ixS (.k (.string ⟨#[48,48,48,49,48,50,48,51,48,52,48,53,48,54,48,55,48,56,48,57,49,48,49,49,49,50,49,51,49,52,49,53,49,54,49,55,49,56,49,57,50,48,50,49,50,50,50,51,50,52,50,53,50,54,50,55,50,56,50,57,51,48,51,49,51,50,51,51,51,52,51,53,51,54,51,55,51,56,51,57,52,48,52,49,52,50,52,51,52,52,52,53,52,54,52,55,52,56,52,57,53,48,53,49,53,50,53,51,53,52,53,53,53,54,53,55,53,56,53,57,54,48,54,49,54,50,54,51,54,52,54,53,54,54,54,55,54,56,54,57,55,48,55,49,55,50,55,51,55,52,55,53,55,54,55,55,55,56,55,57,56,48,56,49,56,50,56,51,56,52,56,53,56,54,56,55,56,56,56,57,57,48,57,49,57,50,57,51,57,52,57,53,57,54,57,55,57,56,57,57]⟩)) (.t 132))),Qo (oI 134 1 123 125),Qe (oS 1 134 131),Qo (oI 135 1 126 128),Qe (oS 1 135 133)])
 (.region [oM 136 4,oB 137 .sub 136 4,oM 4 137]))))))
 .skip))
 (.seq (sR [oM 138 4,oB 139 .geq 138 2]
 (.cond (.t 139) (sR [oM 140 12,Oo 141 (.bin .rem (.t 140) (.k (.int .u32 100))),Oo 142 (.bin .mul (.t 141) (.k (.int .u32 2))),oM 16 142]
 (sR [oM 143 12,Oo 144 (.bin .quo (.t 143) (.k (.int .u32 100))),oM 12 144]
 (.seq (.drawn [Qo (oM 145 0),Qo (oM 146 4),Qo (oB 147 .sub 146 1),Qo (oM 148 0),Qo (oM 149 4),Qo (oB 150 .sub 149 2),Qo (oM 151 16),Qo (Oo 152 (.bin .add (.t 151) (.k (.int .u32 1)))),Qo (Oo 153 (.ixS (.k (.string ⟨#[48,48,48,49,48,50,48,51,48,52,48,53,48,54,48,55,48,56,48,57,49,48,49,49,49,50,49,51,49,52,49,53,49,54,49,55,49,56,49,57,50,48,50,49,50,50,50,51,50,52,50,53,50,54,50,55,50,56,50,57,51,48,51,49,51,50,51,51,51,52,51,53,51,54,51,55,51,56,51,57,52,48,52,49,52,50,52,51,52,52,52,53,52,54,52,55,52,56,52,57,53,48,53,49,53,50,53,51,53,52,53,53,53,54,53,55,53,56,53,57,54,48,54,49,54,50,54,51,54,52,54,53,54,54,54,55,54,56,54,57,55,48,55,49,55,50,55,51,55,52,55,53,55,54,55,55,55,56,55,57,56,48,56,49,56,50,56,51,56,52,56,53,56,54,56,55,56,56,56,57,57,48,57,49,57,50,57,51,57,52,57,53,57,54,57,55,57,56,57,57]⟩)) (.t 152))),Qo (oM 154 16),Qo (Oo 155 (.ixS (.k (.string ⟨#[48,48,48,49,48,50,48,51,48,52,48,53,48,54,48,55,48,56,48,57,49,48,49,49,49,50,49,51,49,52,49,53,49,54,49,55,49,56,49,57,50,48,50,49,50,50,50,51,50,52,50,53,50,54,50,55,50,56,50,57,51,48,51,49,51,50,51,51,51,52,51,53,51,54,51,55,51,56,51,57,52,48,52,49,52,50,52,51,52,52,52,53,52,54,52,55,52,56,52,57,53,48,53,49,53,50,53,51,53,52,53,53,53,54,53,55,53,56,53,57,54,48,54,49,54,50,54,51,54,52,54,53,54,54,54,55,54,56,54,57,55,48,55,49,55,50,55,51,55,52,55,53,55,54,55,55,55,56,55,57,56,48,56,49,56,50,56,51,56,52,56,53,56,54,56,55,56,56,56,57,57,48,57,49,57,50,57,51,57,52,57,53,57,54,57,55,57,56,57,57]⟩)) (.t 154))),Qo (oI 156 1 145 147),Qe (oS 1 156 153),Qo (oI 157 1 148 150),Qe (oS 1 157 155)])
 (.region [oM 158 4,oB 159 .sub 158 2,oM 4 159]))))
 .skip))
 (sR [oM 160 4,oB 161 .gtr 160 0]
 (.cond (.t 161) (.region [oM 162 0,oM 163 12,Oo 164 (.bin .add (.k (.int .u32 48)) (.t 163)),Oo 165 (.conv .u8 (.t 164)),Oo 166 (.ixL 1 (.t 162) (Ki 0)),oS 1 166 165])
 .skip)))))))
abbrev h238:HF:=⟨h238c,[],167,false⟩
def h239l0:HC:=
 (.seq (sR [oM 44 1,oM 45 15,oC 46 .geq 44 45]
 (.cond (.t 46) .skip
 (.exit 0)))
 (.block 1 (sR [oM 47 13,oB 48 .sub 47 1,oM 13 48]
 (sR [oM 49 13,oM 50 1,oM 51 16,oC 52 .and 50 51,Oo 53 (.ixS (.k (.string ⟨#[48,49,50,51,52,53,54,55,56,57,97,98,99,100,101,102,103,104,105,106,107,108,109,110,111,112,113,114,115,116,117,118,119,120,121,122]⟩)) (.t 52)),Oo 54 (.ixA 65 1 (.t 12) (.t 49)),oS 1 54 53]
 (.region [oM 55 1,oM 56 14,oC 57 .shr 55 56,oM 1 57])))))
def h239l1:HC:=
 (.seq (sR [oM 66 1,oM 67 17,oC 68 .geq 66 67]
 (.cond (.t 68) .skip
 (.exit 2)))
 (.block 3 (sR [oM 69 13,oB 70 .sub 69 1,oM 13 70]
 (sR [oM 71 1,oM 72 17,oC 73 .quo 71 72,oM 18 73]
 (sR [oM 74 13,oM 75 1,oM 76 18,oM 77 17,oC 78 .mul 76 77,oC 79 .sub 75 78,Oo 80 (.ixS (.k (.string ⟨#[48,49,50,51,52,53,54,55,56,57,97,98,99,100,101,102,103,104,105,106,107,108,109,110,111,112,113,114,115,116,117,118,119,120,121,122]⟩)) (.t 79)),Oo 81 (.ixA 65 1 (.t 12) (.t 74)),oS 1 81 80]
 (.region [oM 82 18,oM 1 82]))))))
def h239c:HC:=
 (sR [Oo 10 (.mov (.k (.slice none 0 0))),Oo 11 (.mov (.k (.string ⟨#[]⟩)))]
 (.seq (sR [oM 19 2,oB 20 .lss 19 2,oM 21 20,gM 21 false 22 2,Og 21 false 23 (.bin .eql (.t 22) (Ki 10)),Oo 24 (.pick (.t 21) (.k (.bool true)) (.t 23)),oM 25 24,gM 25 false 26 2,Og 25 false 27 (.bin .gtr (.t 26) (Ki 36)),Oo 28 (.pick (.t 25) (.k (.bool true)) (.t 27))]
 (.cond (.t 28) .bad
 .skip))
 (sR [Oo 12 (.alloc [(.int .u8 0),(.int .u8 0),(.int .u8 0),(.int .u8 0),(.int .u8 0),(.int .u8 0),(.int .u8 0),(.int .u8 0),(.int .u8 0),(.int .u8 0),(.int .u8 0),(.int .u8 0),(.int .u8 0),(.int .u8 0),(.int .u8 0),(.int .u8 0),(.int .u8 0),(.int .u8 0),(.int .u8 0),(.int .u8 0),(.int .u8 0),(.int .u8 0),(.int .u8 0),(.int .u8 0),(.int .u8 0),(.int .u8 0),(.int .u8 0),(.int .u8 0),(.int .u8 0),(.int .u8 0),(.int .u8 0),(.int .u8 0),(.int .u8 0),(.int .u8 0),(.int .u8 0),(.int .u8 0),(.int .u8 0),(.int .u8 0),(.int .u8 0),(.int .u8 0),(.int .u8 0),(.int .u8 0),(.int .u8 0),(.int .u8 0),(.int .u8 0),(.int .u8 0),(.int .u8 0),(.int .u8 0),(.int .u8 0),(.int .u8 0),(.int .u8 0),(.int .u8 0),(.int .u8 0),(.int .u8 0),(.int .u8 0),(.int .u8 0),(.int .u8 0),(.int .u8 0),(.int .u8 0),(.int .u8 0),(.int .u8 0),(.int .u8 0),(.int .u8 0),(.int .u8 0),(.int .u8 0)])]
 (sR [oK 13 65]
 (.seq (sR [oM 30 3]
 (.cond (.t 30) (.region [oM 31 1,Oo 32 (.un .neg (.t 31)),oM 1 32])
 .skip))
 (.seq (sR [oM 33 2,oJ 34 265 33]
 (.cond (.t 34) (sR [oM 35 2,Oo 36 (.conv .u64 (.t 35)),oJ 37 266 36,Oo 38 (.conv .u64 (.t 37)),oM 14 38]
 (sR [oM 39 2,Oo 40 (.conv .u64 (.t 39)),oM 15 40]
 (sR [oM 41 2,Oo 42 (.conv .u64 (.t 41)),Oo 43 (.bin .sub (.t 42) (.k (.int .u64 1))),oM 16 43]
 (.seq (.block 0 (.loop [0,0,1,0,5,0,0,0,0,0,0] h239l0))
 (sR [oM 58 13,oB 59 .sub 58 1,oM 13 59]
 (.region [oM 60 13,oM 61 1,Oo 62 (.ixS (.k (.string ⟨#[48,49,50,51,52,53,54,55,56,57,97,98,99,100,101,102,103,104,105,106,107,108,109,110,111,112,113,114,115,116,117,118,119,120,121,122]⟩)) (.t 61)),Oo 63 (.ixA 65 1 (.t 12) (.t 60)),oS 1 63 62]))))))
 (sR [oM 64 2,Oo 65 (.conv .u64 (.t 64)),oM 17 65]
 (.seq (.block 2 (.loop [0,0,1,0,5,0,0,0,3] h239l1))
 (sR [oM 83 13,oB 84 .sub 83 1,oM 13 84]
 (.region [oM 85 13,oM 86 1,Oo 87 (.ixS (.k (.string ⟨#[48,49,50,51,52,53,54,55,56,57,97,98,99,100,101,102,103,104,105,106,107,108,109,110,111,112,113,114,115,116,117,118,119,120,121,122]⟩)) (.t 86)),Oo 88 (.ixA 65 1 (.t 12) (.t 85)),oS 1 88 87]))))))
 (.seq (sR [oM 89 3]
 (.cond (.t 89) (sR [oM 90 13,oB 91 .sub 90 1,oM 13 91]
 (.region [oM 92 13,Oo 93 (.ixA 65 1 (.t 12) (.t 92)),On (.store 1 (.t 93) (.k (.int .u8 45)))]))
 .skip))
 (.seq (sR [oM 94 4]
 (.cond (.t 94) (sR [oM 95 0,oM 96 13,Oo 97 (.slA 65 1 (.t 12) (some (.t 96)) none),Oo 98 (.app 1 1 L8 (.t 95) (.t 97)),oM 10 98]
 .ret)
 .skip))
 (sR [oM 99 13,Oo 100 (.slA 65 1 (.t 12) (some (.t 99)) none),Oo 101 (.cvbs (.t 100)),oM 11 101]
 .ret)))))))))
abbrev h239:HF:=⟨h239c,[.tmp 10,.tmp 11],102,false⟩
def h249c:HC:=
 (sR [Oo 3 (.box (.t 1)),Oo 4 (.mov (.k (.bool false)))]
 (sR [oM 5 0,Oo 6 (.cvsb (.t 5)),Oo 7 (.mkfn 273 [(.t 3)]),kC 8 272 6 7,Oo 9 (.un .not (.t 8)),oM 4 9]
 .ret))
abbrev h249:HF:=⟨h249c,[.tmp 4],10,false⟩
def h250c:HC:=
 (sR [Oo 2 (.mov (.k (.bool false)))]
 (sR [oM 3 0,Oo 4 (.bin .leq (.k (.int .u8 32)) (.t 3)),oM 5 4,gM 5 true 6 0,Og 5 true 7 (.bin .leq (.t 6) (.k (.int .u8 126))),Oo 8 (.pick (.t 5) (.t 7) (.k (.bool false))),oM 9 8,gM 9 true 10 0,Og 9 true 11 (.call 274 [(.k (.string ⟨#[34,42,47,58,60,62,63,92,124]⟩)),(.t 10)]),Og 9 true 12 (.bin .lss (.t 11) (Ki 0)),Oo 13 (.pick (.t 9) (.t 12) (.k (.bool false))),oM 2 13]
 .ret))
abbrev h250:HF:=⟨h250c,[.tmp 2],14,false⟩
def h251c:HC:=
 (sR [Oo 4 (.mov (.k (.bool false)))]
 (sR [oM 5 0,oM 6 1,kC 7 275 5 6,oM 4 7]
 .ret))
abbrev h251:HF:=⟨h251c,[.tmp 4],8,false⟩
def h252c:HC:=
 (sR [Oo 6 (.mov (.k (.bool false)))]
 (sR [oM 7 1,oM 8 0,oC 9 .leq 7 8,oM 10 9,gM 10 true 11 0,gM 10 true 12 2,Og 10 true 13 (.bin .leq (.t 11) (.t 12)),Oo 14 (.pick (.t 10) (.t 13) (.k (.bool false))),oM 6 14]
 .ret))
abbrev h252:HF:=⟨h252c,[.tmp 6],15,false⟩
def h258c:HC:=
 (sR [Oo 2 (.box (.t 0)),Oo 3 (.box (.t 1)),Oo 4 (.mov (.k (.bool false)))]
 (sR [oA 5 0 2,oL 6 5,Oo 7 (.bin .neq (.t 6) (Ki (-1))),oM 8 7,Og 8 true 9 (.addo 0 (.t 3)),Og 8 true 10 (.load false 1 (.t 9)),Og 8 true 11 (.bin .neq (.t 10) (Ki (-1))),Oo 12 (.pick (.t 8) (.t 11) (.k (.bool false))),oM 13 12,Og 13 true 14 (.addo 0 (.t 2)),Og 13 true 15 (.load false 1 (.t 14)),Og 13 true 16 (.addo 0 (.t 3)),Og 13 true 17 (.load false 1 (.t 16)),Og 13 true 18 (.addo 1 (.t 3)),Og 13 true 19 (.load false 1 (.t 18)),Og 13 true 20 (.bin .add (.t 17) (.t 19)),Og 13 true 21 (.bin .lss (.t 15) (.t 20)),Oo 22 (.pick (.t 13) (.t 21) (.k (.bool false))),oM 23 22,Og 23 true 24 (.addo 0 (.t 3)),Og 23 true 25 (.load false 1 (.t 24)),Og 23 true 26 (.addo 0 (.t 2)),Og 23 true 27 (.load false 1 (.t 26)),Og 23 true 28 (.addo 1 (.t 2)),Og 23 true 29 (.load false 1 (.t 28)),Og 23 true 30 (.bin .add (.t 27) (.t 29)),Og 23 true 31 (.bin .lss (.t 25) (.t 30)),Oo 32 (.pick (.t 23) (.t 31) (.k (.bool false))),oM 4 32]
 .ret))
abbrev h258:HF:=⟨h258c,[.tmp 4],33,false⟩
def h259l0:HC:=
 (.seq (sR [oM 16 7,oB 17 .geq 16 0]
 (.cond (.t 17) .skip
 (.exit 0)))
 (.seq (.block 1 (.region [oM 20 6,Oo 21 (.bin .shl (.t 20) (.k (.int .u64 8))),oM 22 0,Oo 23 (.nilc (.t 22)),oL 24 23,oM 25 7,Oo 26 (.ixS (.t 24) (.t 25)),Oo 27 (.conv .i64 (.t 26)),oC 28 .or 21 27,oM 6 28]))
 (.region [oM 18 7,oB 19 .sub 18 1,oM 7 19])))
def h259c:HC:=
 (sR [oK 4 0,Oo 5 (.mov (.k (.bool false)))]
 (.seq (sR [oM 8 1,oM 9 0,Oo 10 (.nilc (.t 9)),oL 11 10,Oo 12 (.lenS (.t 11)),oC 13 .gtr 8 12]
 (.cond (.t 13) (sR [oK 4 0,Oo 5 (.mov (.k (.bool false)))]
 .ret)
 .skip))
 (sR [oK 6 0]
 (.seq (sR [oM 14 1,oB 15 .sub 14 1,oM 7 15]
 (.block 0 (.loop [0,0,4,0] h259l0)))
 (sR [oM 29 0,oM 30 0,Oo 31 (.nilc (.t 30)),oL 32 31,oM 33 1,Oo 34 (.slS (.t 32) (some (.t 33)) none),Oo 35 (.nilc (.t 29)),oS 1 35 34]
 (.seq (sR [oM 36 6,oM 37 1,Oo 38 (.bin .mul (Ki 8) (.t 37)),oB 39 .sub 38 1,Oo 40 (.bin .shl (Ki 1) (.t 39)),oC 41 .geq 36 40]
 (.cond (.t 41) (.region [oM 42 6,oM 43 1,Oo 44 (.bin .mul (Ki 8) (.t 43)),Oo 45 (.bin .shl (Ki 1) (.t 44)),oC 46 .sub 42 45,oM 6 46])
 .skip))
 (sR [oM 47 6,oM 48 6,oJ 49 213 48,oM 50 1,oC 51 .eql 49 50,oM 4 47,oM 5 51]
 .ret)))))))
abbrev h259:HF:=⟨h259c,[.tmp 4,.tmp 5],52,false⟩
def h263c:HC:=
 (sR [oK 2 0]
 (sR [oM 3 0,oB 4 .mul 3 78913,Oo 5 (.bin .shr (.t 4) (.k (.int .u64 18))),oM 2 5]
 .ret))
abbrev h263:HF:=⟨h263c,[.tmp 2],6,false⟩
def h264c:HC:=
 (sR [oK 2 0]
 (.seq (sR [oM 3 0]
 (.cond (.t 3) (sR [oK 2 1]
 .ret)
 .skip))
 (sR [oK 2 0]
 .ret)))
abbrev h264:HF:=⟨h264c,[.tmp 2],4,false⟩
def h265c:HC:=
 (sR [Oo 2 (.mov (.k (.bool false)))]
 (sR [oM 3 0,oM 4 0,oB 5 .sub 4 1,oC 6 .and 3 5,oB 7 .eql 6 0,oM 2 7]
 .ret))
abbrev h265:HF:=⟨h265c,[.tmp 2],8,false⟩
def h266c:HC:=
 (sR [oK 2 0]
 (.seq (.cond (.k (.bool false)) (sR [oM 3 0,Oo 4 (.conv .u32 (.t 3)),oJ 5 278 4,oM 2 5]
 .ret)
 .skip)
 (sR [oM 6 0,oJ 7 279 6,oM 2 7]
 .ret)))
abbrev h266:HF:=⟨h266c,[.tmp 2],8,false⟩
def h272c:HC:=
 (sR [Oo 4 (.mov (.k (.bool false)))]
 (sR [oM 5 0,oM 6 1,kC 7 282 5 6,oB 8 .geq 7 0,oM 4 8]
 .ret))
abbrev h272:HF:=⟨h272c,[.tmp 4],9,false⟩
def h273c:HC:=
 (sR [Oo 3 (.mov (.k (.bool false)))]
 (sR [oL 4 1,oM 5 0,Oo 6 (.callv (.t 4) [(.t 5)]),Oo 7 (.un .not (.t 6)),oM 3 7]
 .ret))
abbrev h273:HF:=⟨h273c,[.tmp 3],8,false⟩
def h274c:HC:=
 (sR [oK 4 0]
 (sR [oM 5 0,oM 6 1,kC 7 240 5 6,oM 4 7]
 .ret))
abbrev h274:HF:=⟨h274c,[.tmp 4],8,false⟩
def h275c:HC:=
 (sR [Oo 4 (.mov (.k (.bool false)))]
 (sR [oM 5 0,Oo 6 (.lenS (.t 5)),oM 7 1,Oo 8 (.lenS (.t 7)),oC 9 .geq 6 8,oM 10 9,gM 10 true 11 0,gM 10 true 12 0,Og 10 true 13 (.lenS (.t 12)),gM 10 true 14 1,Og 10 true 15 (.lenS (.t 14)),Og 10 true 16 (.bin .sub (.t 13) (.t 15)),Og 10 true 17 (.slS (.t 11) (some (.t 16)) none),gM 10 true 18 1,Og 10 true 19 (.bin .eql (.t 17) (.t 18)),Oo 20 (.pick (.t 10) (.t 19) (.k (.bool false))),oM 4 20]
 .ret))
abbrev h275:HF:=⟨h275c,[.tmp 4],21,false⟩
def h278c:HC:=
 (sR [oK 2 0]
 (.seq (sR [oM 3 0,Oo 4 (.bin .eql (.t 3) (.k (.int .u32 0)))]
 (.cond (.t 4) (sR [oK 2 32]
 .ret)
 .skip))
 (sR [oM 5 0,oM 6 0,Oo 7 (.un .neg (.t 6)),oC 8 .and 5 7,Oo 9 (.bin .mul (.t 8) (.k (.int .u32 125613361))),Oo 10 (.bin .shr (.t 9) (.k (.int .u64 27))),Oo 11 (.ixA 32 1 (.g 17) (.t 10)),oL 12 11,Oo 13 (.conv .i64 (.t 12)),oM 2 13]
 .ret)))
abbrev h278:HF:=⟨h278c,[.tmp 2],14,false⟩
def h279c:HC:=
 (sR [oK 2 0]
 (.seq (sR [oM 3 0,Oo 4 (.bin .eql (.t 3) (.k (.int .u64 0)))]
 (.cond (.t 4) (sR [oK 2 64]
 .ret)
 .skip))
 (sR [oM 5 0,oM 6 0,Oo 7 (.un .neg (.t 6)),oC 8 .and 5 7,Oo 9 (.bin .mul (.t 8) (.k (.int .u64 285870213051353865))),Oo 10 (.bin .shr (.t 9) (.k (.int .u64 58))),Oo 11 (.ixA 64 1 (.g 18) (.t 10)),oL 12 11,Oo 13 (.conv .i64 (.t 12)),oM 2 13]
 .ret)))
abbrev h279:HF:=⟨h279c,[.tmp 2],14,false⟩
def h282l0:HC:=
 (sR [oC 9 .lss 8 7]
 (.seq (.cond (.t 9) .skip
 (.exit 0))
 (.seq (.block 1 (sR [oM 10 8,oM 5 10]
 (sR [oM 11 1,oM 12 0,oM 13 5,oI 14 1 12 13,oL 15 14,Oo 16 (.callv (.t 11) [(.t 15)])]
 (.cond (.t 16) (sR [oM 17 5,oM 4 17]
 .ret)
 .skip))))
 (.region [oB 18 .add 8 1,oM 8 18]))))
def h282c:HC:=
 (sR [oK 4 0]
 (.seq (sR [oM 6 0,oN 7 6,oK 8 0]
 (.block 0 (.loop [0,0,5,0] h282l0)))
 (sR [Oo 4 (.mov (Ki (-1)))]
 .ret)))
abbrev h282:HF:=⟨h282c,[.tmp 4],19,false⟩
def aHP:FuncId->Option HF
  | 6=>some h6
  | 9=>some h9
  | 12=>some h12
  | 13=>some h13
  | 14=>some h14
  | 15=>some h15
  | 16=>some h16
  | 17=>some h17
  | 18=>some h18
  | 19=>some h19
  | 20=>some h20
  | 21=>some h21
  | 22=>some h22
  | 23=>some h23
  | 25=>some h25
  | 26=>some h26
  | 27=>some h27
  | 29=>some h29
  | 35=>some h35
  | 37=>some h37
  | 38=>some h38
  | 39=>some h39
  | 40=>some h40
  | 41=>some h41
  | _=>none
theorem aDs(f:FuncId)(h:HF)(hf:aHP f=some h):Dq Tryz.prog f=true/\∃ fn,Tryz.prog.funcs[f]?=some fn/\fn.ntmps=h.nt/\fn.body.bind (bF Tryz.prog)=some h.code.er/\fn.results.toList.mapM (gD Tryz.prog)=some h.rs:=by
  unfold aHP at hf;split at hf
  · exact tk hf (by kernel_rfl) Tryz.func6 Tryz.ntmps6 (by unfold CK;kernel_rfl) (by unfold RK;kernel_rfl)
  · exact tk hf (by kernel_rfl) Tryz.func9 Tryz.ntmps9 (by unfold CK;kernel_rfl) (by unfold RK;kernel_rfl)
  · exact tk hf (by kernel_rfl) Tryz.func12 Tryz.ntmps12 (by unfold CK;kernel_rfl) (by unfold RK;kernel_rfl)
  · exact tk hf (by kernel_rfl) Tryz.func13 Tryz.ntmps13 (by unfold CK;kernel_rfl) (by unfold RK;kernel_rfl)
  · exact tk hf (by kernel_rfl) Tryz.func14 Tryz.ntmps14 (by unfold CK;kernel_rfl) (by unfold RK;kernel_rfl)
  · exact tk hf (by kernel_rfl) Tryz.func15 Tryz.ntmps15 (by unfold CK;kernel_rfl) (by unfold RK;kernel_rfl)
  · exact tk hf (by kernel_rfl) Tryz.func16 Tryz.ntmps16 (by unfold CK;kernel_rfl) (by unfold RK;kernel_rfl)
  · exact tk hf (by kernel_rfl) Tryz.func17 Tryz.ntmps17 (by unfold CK;kernel_rfl) (by unfold RK;kernel_rfl)
  · exact tk hf (by kernel_rfl) Tryz.func18 Tryz.ntmps18 (by unfold CK;kernel_rfl) (by unfold RK;kernel_rfl)
  · exact tk hf (by kernel_rfl) Tryz.func19 Tryz.ntmps19 (by unfold CK;kernel_rfl) (by unfold RK;kernel_rfl)
  · exact tk hf (by kernel_rfl) Tryz.func20 Tryz.ntmps20 (by unfold CK;kernel_rfl) (by unfold RK;kernel_rfl)
  · exact tk hf (by kernel_rfl) Tryz.func21 Tryz.ntmps21 (by unfold CK;kernel_rfl) (by unfold RK;kernel_rfl)
  · exact tk hf (by kernel_rfl) Tryz.func22 Tryz.ntmps22 (by unfold CK;kernel_rfl) (by unfold RK;kernel_rfl)
  · exact tk hf (by kernel_rfl) Tryz.func23 Tryz.ntmps23 (by unfold CK;kernel_rfl) (by unfold RK;kernel_rfl)
  · exact tk hf (by kernel_rfl) Tryz.func25 Tryz.ntmps25 (by unfold CK;kernel_rfl) (by unfold RK;kernel_rfl)
  · exact tk hf (by kernel_rfl) Tryz.func26 Tryz.ntmps26 (by unfold CK;kernel_rfl) (by unfold RK;kernel_rfl)
  · exact tk hf (by kernel_rfl) Tryz.func27 Tryz.ntmps27 (by unfold CK;kernel_rfl) (by unfold RK;kernel_rfl)
  · exact tk hf (by kernel_rfl) Tryz.func29 Tryz.ntmps29 (by unfold CK;kernel_rfl) (by unfold RK;kernel_rfl)
  · exact tk hf (by kernel_rfl) Tryz.func35 Tryz.ntmps35 (by unfold CK;kernel_rfl) (by unfold RK;kernel_rfl)
  · exact tk hf (by kernel_rfl) Tryz.func37 Tryz.ntmps37 (by unfold CK;kernel_rfl) (by unfold RK;kernel_rfl)
  · exact tk hf (by kernel_rfl) Tryz.func38 Tryz.ntmps38 (by unfold CK;kernel_rfl) (by unfold RK;kernel_rfl)
  · exact tk hf (by kernel_rfl) Tryz.func39 Tryz.ntmps39 (by unfold CK;kernel_rfl) (by unfold RK;kernel_rfl)
  · exact tk hf (by kernel_rfl) Tryz.func40 Tryz.ntmps40 (by unfold CK;kernel_rfl) (by unfold RK;kernel_rfl)
  · exact tk hf (by kernel_rfl) Tryz.func41 Tryz.ntmps41 (by unfold CK;kernel_rfl) (by unfold RK;kernel_rfl)
  · cases hf
def aHQ:FuncId->Option HF
  | 44=>some h44
  | 45=>some h45
  | 46=>some h46
  | 47=>some h47
  | 48=>some h48
  | 49=>some h49
  | 50=>some h50
  | 51=>some h51
  | 55=>some h55
  | 56=>some h56
  | 57=>some h57
  | 58=>some h58
  | 59=>some h59
  | 60=>some h60
  | 61=>some h61
  | 62=>some h62
  | 63=>some h63
  | 64=>some h64
  | 65=>some h65
  | 66=>some h66
  | 67=>some h67
  | 68=>some h68
  | 69=>some h69
  | 70=>some h70
  | _=>none
theorem aDt(f:FuncId)(h:HF)(hf:aHQ f=some h):Dq Tryz.prog f=true/\∃ fn,Tryz.prog.funcs[f]?=some fn/\fn.ntmps=h.nt/\fn.body.bind (bF Tryz.prog)=some h.code.er/\fn.results.toList.mapM (gD Tryz.prog)=some h.rs:=by
  unfold aHQ at hf;split at hf
  · exact tk hf (by kernel_rfl) Tryz.func44 Tryz.ntmps44 (by unfold CK;kernel_rfl) (by unfold RK;kernel_rfl)
  · exact tk hf (by kernel_rfl) Tryz.func45 Tryz.ntmps45 (by unfold CK;kernel_rfl) (by unfold RK;kernel_rfl)
  · exact tk hf (by kernel_rfl) Tryz.func46 Tryz.ntmps46 (by unfold CK;kernel_rfl) (by unfold RK;kernel_rfl)
  · exact tk hf (by kernel_rfl) Tryz.func47 Tryz.ntmps47 (by unfold CK;kernel_rfl) (by unfold RK;kernel_rfl)
  · exact tk hf (by kernel_rfl) Tryz.func48 Tryz.ntmps48 (by unfold CK;kernel_rfl) (by unfold RK;kernel_rfl)
  · exact tk hf (by kernel_rfl) Tryz.func49 Tryz.ntmps49 (by unfold CK;kernel_rfl) (by unfold RK;kernel_rfl)
  · exact tk hf (by kernel_rfl) Tryz.func50 Tryz.ntmps50 (by unfold CK;kernel_rfl) (by unfold RK;kernel_rfl)
  · exact tk hf (by kernel_rfl) Tryz.func51 Tryz.ntmps51 (by unfold CK;kernel_rfl) (by unfold RK;kernel_rfl)
  · exact tk hf (by kernel_rfl) Tryz.func55 Tryz.ntmps55 (by unfold CK;kernel_rfl) (by unfold RK;kernel_rfl)
  · exact tk hf (by kernel_rfl) Tryz.func56 Tryz.ntmps56 (by unfold CK;kernel_rfl) (by unfold RK;kernel_rfl)
  · exact tk hf (by kernel_rfl) Tryz.func57 Tryz.ntmps57 (by unfold CK;kernel_rfl) (by unfold RK;kernel_rfl)
  · exact tk hf (by kernel_rfl) Tryz.func58 Tryz.ntmps58 (by unfold CK;kernel_rfl) (by unfold RK;kernel_rfl)
  · exact tk hf (by kernel_rfl) Tryz.func59 Tryz.ntmps59 (by unfold CK;kernel_rfl) (by unfold RK;kernel_rfl)
  · exact tk hf (by kernel_rfl) Tryz.func60 Tryz.ntmps60 (by unfold CK;kernel_rfl) (by unfold RK;kernel_rfl)
  · exact tk hf (by kernel_rfl) Tryz.func61 Tryz.ntmps61 (by unfold CK;kernel_rfl) (by unfold RK;kernel_rfl)
  · exact tk hf (by kernel_rfl) Tryz.func62 Tryz.ntmps62 (by unfold CK;kernel_rfl) (by unfold RK;kernel_rfl)
  · exact tk hf (by kernel_rfl) Tryz.func63 Tryz.ntmps63 (by unfold CK;kernel_rfl) (by unfold RK;kernel_rfl)
  · exact tk hf (by kernel_rfl) Tryz.func64 Tryz.ntmps64 (by unfold CK;kernel_rfl) (by unfold RK;kernel_rfl)
  · exact tk hf (by kernel_rfl) Tryz.func65 Tryz.ntmps65 (by unfold CK;kernel_rfl) (by unfold RK;kernel_rfl)
  · exact tk hf (by kernel_rfl) Tryz.func66 Tryz.ntmps66 (by unfold CK;kernel_rfl) (by unfold RK;kernel_rfl)
  · exact tk hf (by kernel_rfl) Tryz.func67 Tryz.ntmps67 h67_ok Y3
  · exact tk hf (by kernel_rfl) Tryz.func68 Tryz.ntmps68 (by unfold CK;kernel_rfl) (by unfold RK;kernel_rfl)
  · exact tk hf (by kernel_rfl) Tryz.func69 Tryz.ntmps69 (by unfold CK;kernel_rfl) (by unfold RK;kernel_rfl)
  · exact tk hf (by kernel_rfl) Tryz.func70 Tryz.ntmps70 (by unfold CK;kernel_rfl) (by unfold RK;kernel_rfl)
  · cases hf
def aHR:FuncId->Option HF
  | 72=>some h72
  | 73=>some h73
  | 74=>some h74
  | 75=>some h75
  | 76=>some h76
  | 80=>some h80
  | 83=>some h83
  | 84=>some h84
  | 85=>some h85
  | 86=>some h86
  | 87=>some h87
  | 88=>some h88
  | 89=>some h89
  | 90=>some h90
  | 91=>some h91
  | 92=>some h92
  | 93=>some h93
  | 94=>some h94
  | 95=>some h95
  | 96=>some h96
  | 97=>some h97
  | 98=>some h98
  | 99=>some h99
  | 101=>some h101
  | _=>none
theorem aDu(f:FuncId)(h:HF)(hf:aHR f=some h):Dq Tryz.prog f=true/\∃ fn,Tryz.prog.funcs[f]?=some fn/\fn.ntmps=h.nt/\fn.body.bind (bF Tryz.prog)=some h.code.er/\fn.results.toList.mapM (gD Tryz.prog)=some h.rs:=by
  unfold aHR at hf;split at hf
  · exact tk hf (by kernel_rfl) Tryz.func72 Tryz.ntmps72 (by unfold CK;kernel_rfl) (by unfold RK;kernel_rfl)
  · exact tk hf (by kernel_rfl) Tryz.func73 Tryz.ntmps73 (by unfold CK;kernel_rfl) (by unfold RK;kernel_rfl)
  · exact tk hf (by kernel_rfl) Tryz.func74 Tryz.ntmps74 (by unfold CK;kernel_rfl) (by unfold RK;kernel_rfl)
  · exact tk hf (by kernel_rfl) Tryz.func75 Tryz.ntmps75 (by unfold CK;kernel_rfl) (by unfold RK;kernel_rfl)
  · exact tk hf (by kernel_rfl) Tryz.func76 Tryz.ntmps76 (by unfold CK;kernel_rfl) (by unfold RK;kernel_rfl)
  · exact tk hf (by kernel_rfl) Tryz.func80 Tryz.ntmps80 (by unfold CK;kernel_rfl) (by unfold RK;kernel_rfl)
  · exact tk hf (by kernel_rfl) Tryz.func83 Tryz.ntmps83 (by unfold CK;kernel_rfl) (by unfold RK;kernel_rfl)
  · exact tk hf (by kernel_rfl) Tryz.func84 Tryz.ntmps84 (by unfold CK;kernel_rfl) (by unfold RK;kernel_rfl)
  · exact tk hf (by kernel_rfl) Tryz.func85 Tryz.ntmps85 (by unfold CK;kernel_rfl) (by unfold RK;kernel_rfl)
  · exact tk hf (by kernel_rfl) Tryz.func86 Tryz.ntmps86 (by unfold CK;kernel_rfl) (by unfold RK;kernel_rfl)
  · exact tk hf (by kernel_rfl) Tryz.func87 Tryz.ntmps87 (by unfold CK;kernel_rfl) (by unfold RK;kernel_rfl)
  · exact tk hf (by kernel_rfl) Tryz.func88 Tryz.ntmps88 (by unfold CK;kernel_rfl) (by unfold RK;kernel_rfl)
  · exact tk hf (by kernel_rfl) Tryz.func89 Tryz.ntmps89 (by unfold CK;kernel_rfl) (by unfold RK;kernel_rfl)
  · exact tk hf (by kernel_rfl) Tryz.func90 Tryz.ntmps90 (by unfold CK;kernel_rfl) (by unfold RK;kernel_rfl)
  · exact tk hf (by kernel_rfl) Tryz.func91 Tryz.ntmps91 (by unfold CK;kernel_rfl) (by unfold RK;kernel_rfl)
  · exact tk hf (by kernel_rfl) Tryz.func92 Tryz.ntmps92 (by unfold CK;kernel_rfl) (by unfold RK;kernel_rfl)
  · exact tk hf (by kernel_rfl) Tryz.func93 Tryz.ntmps93 (by unfold CK;kernel_rfl) (by unfold RK;kernel_rfl)
  · exact tk hf (by kernel_rfl) Tryz.func94 Tryz.ntmps94 (by unfold CK;kernel_rfl) (by unfold RK;kernel_rfl)
  · exact tk hf (by kernel_rfl) Tryz.func95 Tryz.ntmps95 (by unfold CK;kernel_rfl) (by unfold RK;kernel_rfl)
  · exact tk hf (by kernel_rfl) Tryz.func96 Tryz.ntmps96 (by unfold CK;kernel_rfl) (by unfold RK;kernel_rfl)
  · exact tk hf (by kernel_rfl) Tryz.func97 Tryz.ntmps97 (by unfold CK;kernel_rfl) (by unfold RK;kernel_rfl)
  · exact tk hf (by kernel_rfl) Tryz.func98 Tryz.ntmps98 (by unfold CK;kernel_rfl) (by unfold RK;kernel_rfl)
  · exact tk hf (by kernel_rfl) Tryz.func99 Tryz.ntmps99 (by unfold CK;kernel_rfl) (by unfold RK;kernel_rfl)
  · exact tk hf (by kernel_rfl) Tryz.func101 Tryz.ntmps101 (by unfold CK;kernel_rfl) (by unfold RK;kernel_rfl)
  · cases hf
def aHS:FuncId->Option HF
  | 102=>some h102
  | 103=>some h103
  | 104=>some h104
  | 105=>some h105
  | 106=>some h106
  | 107=>some h107
  | 108=>some h108
  | 112=>some h112
  | 116=>some h116
  | 117=>some h117
  | 118=>some h118
  | 119=>some h119
  | 120=>some h120
  | 121=>some h121
  | 122=>some h122
  | 123=>some h123
  | 124=>some h124
  | 125=>some h125
  | 126=>some h126
  | 127=>some h127
  | 128=>some h128
  | 129=>some h129
  | 130=>some h130
  | 131=>some h131
  | _=>none
theorem aDv(f:FuncId)(h:HF)(hf:aHS f=some h):Dq Tryz.prog f=true/\∃ fn,Tryz.prog.funcs[f]?=some fn/\fn.ntmps=h.nt/\fn.body.bind (bF Tryz.prog)=some h.code.er/\fn.results.toList.mapM (gD Tryz.prog)=some h.rs:=by
  unfold aHS at hf;split at hf
  · exact tk hf (by kernel_rfl) Tryz.func102 Tryz.ntmps102 (by unfold CK;kernel_rfl) (by unfold RK;kernel_rfl)
  · exact tk hf (by kernel_rfl) Tryz.func103 Tryz.ntmps103 (by unfold CK;kernel_rfl) (by unfold RK;kernel_rfl)
  · exact tk hf (by kernel_rfl) Tryz.func104 Tryz.ntmps104 (by unfold CK;kernel_rfl) (by unfold RK;kernel_rfl)
  · exact tk hf (by kernel_rfl) Tryz.func105 Tryz.ntmps105 (by unfold CK;kernel_rfl) (by unfold RK;kernel_rfl)
  · exact tk hf (by kernel_rfl) Tryz.func106 Tryz.ntmps106 (by unfold CK;kernel_rfl) (by unfold RK;kernel_rfl)
  · exact tk hf (by kernel_rfl) Tryz.func107 Tryz.ntmps107 (by unfold CK;kernel_rfl) (by unfold RK;kernel_rfl)
  · exact tk hf (by kernel_rfl) Tryz.func108 Tryz.ntmps108 (by unfold CK;kernel_rfl) (by unfold RK;kernel_rfl)
  · exact tk hf (by kernel_rfl) Tryz.func112 Tryz.ntmps112 (by unfold CK;kernel_rfl) (by unfold RK;kernel_rfl)
  · exact tk hf (by kernel_rfl) Tryz.func116 Tryz.ntmps116 (by unfold CK;kernel_rfl) (by unfold RK;kernel_rfl)
  · exact tk hf (by kernel_rfl) Tryz.func117 Tryz.ntmps117 (by unfold CK;kernel_rfl) (by unfold RK;kernel_rfl)
  · exact tk hf (by kernel_rfl) Tryz.func118 Tryz.ntmps118 (by unfold CK;kernel_rfl) (by unfold RK;kernel_rfl)
  · exact tk hf (by kernel_rfl) Tryz.func119 Tryz.ntmps119 (by unfold CK;kernel_rfl) (by unfold RK;kernel_rfl)
  · exact tk hf (by kernel_rfl) Tryz.func120 Tryz.ntmps120 (by unfold CK;kernel_rfl) (by unfold RK;kernel_rfl)
  · exact tk hf (by kernel_rfl) Tryz.func121 Tryz.ntmps121 (by unfold CK;kernel_rfl) (by unfold RK;kernel_rfl)
  · exact tk hf (by kernel_rfl) Tryz.func122 Tryz.ntmps122 (by unfold CK;kernel_rfl) (by unfold RK;kernel_rfl)
  · exact tk hf (by kernel_rfl) Tryz.func123 Tryz.ntmps123 (by unfold CK;kernel_rfl) (by unfold RK;kernel_rfl)
  · exact tk hf (by kernel_rfl) Tryz.func124 Tryz.ntmps124 (by unfold CK;kernel_rfl) (by unfold RK;kernel_rfl)
  · exact tk hf (by kernel_rfl) Tryz.func125 Tryz.ntmps125 (by unfold CK;kernel_rfl) (by unfold RK;kernel_rfl)
  · exact tk hf (by kernel_rfl) Tryz.func126 Tryz.ntmps126 (by unfold CK;kernel_rfl) (by unfold RK;kernel_rfl)
  · exact tk hf (by kernel_rfl) Tryz.func127 Tryz.ntmps127 (by unfold CK;kernel_rfl) (by unfold RK;kernel_rfl)
  · exact tk hf (by kernel_rfl) Tryz.func128 Tryz.ntmps128 (by unfold CK;kernel_rfl) (by unfold RK;kernel_rfl)
  · exact tk hf (by kernel_rfl) Tryz.func129 Tryz.ntmps129 (by unfold CK;kernel_rfl) (by unfold RK;kernel_rfl)
  · exact tk hf (by kernel_rfl) Tryz.func130 Tryz.ntmps130 (by unfold CK;kernel_rfl) (by unfold RK;kernel_rfl)
  · exact tk hf (by kernel_rfl) Tryz.func131 Tryz.ntmps131 (by unfold CK;kernel_rfl) (by unfold RK;kernel_rfl)
  · cases hf
def aHT:FuncId->Option HF
  | 133=>some h133
  | 136=>some h136
  | 137=>some h137
  | 138=>some h138
  | 139=>some h139
  | 140=>some h140
  | 141=>some h141
  | 142=>some h142
  | 143=>some h143
  | 144=>some h144
  | 145=>some h145
  | 146=>some h146
  | 147=>some h147
  | 148=>some h148
  | 149=>some h149
  | 153=>some h153
  | 154=>some h154
  | 155=>some h155
  | 156=>some h156
  | 157=>some h157
  | 158=>some h158
  | 159=>some h159
  | 160=>some h160
  | 161=>some h161
  | _=>none
theorem aDw(f:FuncId)(h:HF)(hf:aHT f=some h):Dq Tryz.prog f=true/\∃ fn,Tryz.prog.funcs[f]?=some fn/\fn.ntmps=h.nt/\fn.body.bind (bF Tryz.prog)=some h.code.er/\fn.results.toList.mapM (gD Tryz.prog)=some h.rs:=by
  unfold aHT at hf;split at hf
  · exact tk hf (by kernel_rfl) Tryz.func133 Tryz.ntmps133 (by unfold CK;kernel_rfl) (by unfold RK;kernel_rfl)
  · exact tk hf (by kernel_rfl) Tryz.func136 Tryz.ntmps136 (by unfold CK;kernel_rfl) (by unfold RK;kernel_rfl)
  · exact tk hf (by kernel_rfl) Tryz.func137 Tryz.ntmps137 (by unfold CK;kernel_rfl) (by unfold RK;kernel_rfl)
  · exact tk hf (by kernel_rfl) Tryz.func138 Tryz.ntmps138 (by unfold CK;kernel_rfl) (by unfold RK;kernel_rfl)
  · exact tk hf (by kernel_rfl) Tryz.func139 Tryz.ntmps139 (by unfold CK;kernel_rfl) (by unfold RK;kernel_rfl)
  · exact tk hf (by kernel_rfl) Tryz.func140 Tryz.ntmps140 (by unfold CK;kernel_rfl) (by unfold RK;kernel_rfl)
  · exact tk hf (by kernel_rfl) Tryz.func141 Tryz.ntmps141 (by unfold CK;kernel_rfl) (by unfold RK;kernel_rfl)
  · exact tk hf (by kernel_rfl) Tryz.func142 Tryz.ntmps142 (by unfold CK;kernel_rfl) (by unfold RK;kernel_rfl)
  · exact tk hf (by kernel_rfl) Tryz.func143 Tryz.ntmps143 (by unfold CK;kernel_rfl) (by unfold RK;kernel_rfl)
  · exact tk hf (by kernel_rfl) Tryz.func144 Tryz.ntmps144 (by unfold CK;kernel_rfl) (by unfold RK;kernel_rfl)
  · exact tk hf (by kernel_rfl) Tryz.func145 Tryz.ntmps145 (by unfold CK;kernel_rfl) (by unfold RK;kernel_rfl)
  · exact tk hf (by kernel_rfl) Tryz.func146 Tryz.ntmps146 (by unfold CK;kernel_rfl) (by unfold RK;kernel_rfl)
  · exact tk hf (by kernel_rfl) Tryz.func147 Tryz.ntmps147 (by unfold CK;kernel_rfl) (by unfold RK;kernel_rfl)
  · exact tk hf (by kernel_rfl) Tryz.func148 Tryz.ntmps148 (by unfold CK;kernel_rfl) (by unfold RK;kernel_rfl)
  · exact tk hf (by kernel_rfl) Tryz.func149 Tryz.ntmps149 (by unfold CK;kernel_rfl) (by unfold RK;kernel_rfl)
  · exact tk hf (by kernel_rfl) Tryz.func153 Tryz.ntmps153 (by unfold CK;kernel_rfl) (by unfold RK;kernel_rfl)
  · exact tk hf (by kernel_rfl) Tryz.func154 Tryz.ntmps154 (by unfold CK;kernel_rfl) (by unfold RK;kernel_rfl)
  · exact tk hf (by kernel_rfl) Tryz.func155 Tryz.ntmps155 (by unfold CK;kernel_rfl) (by unfold RK;kernel_rfl)
  · exact tk hf (by kernel_rfl) Tryz.func156 Tryz.ntmps156 (by unfold CK;kernel_rfl) (by unfold RK;kernel_rfl)
  · exact tk hf (by kernel_rfl) Tryz.func157 Tryz.ntmps157 (by unfold CK;kernel_rfl) (by unfold RK;kernel_rfl)
  · exact tk hf (by kernel_rfl) Tryz.func158 Tryz.ntmps158 (by unfold CK;kernel_rfl) (by unfold RK;kernel_rfl)
  · exact tk hf (by kernel_rfl) Tryz.func159 Tryz.ntmps159 (by unfold CK;kernel_rfl) (by unfold RK;kernel_rfl)
  · exact tk hf (by kernel_rfl) Tryz.func160 Tryz.ntmps160 (by unfold CK;kernel_rfl) (by unfold RK;kernel_rfl)
  · exact tk hf (by kernel_rfl) Tryz.func161 Tryz.ntmps161 (by unfold CK;kernel_rfl) (by unfold RK;kernel_rfl)
  · cases hf
def aHU:FuncId->Option HF
  | 162=>some h162
  | 163=>some h163
  | 166=>some h166
  | 167=>some h167
  | 168=>some h168
  | 169=>some h169
  | 170=>some h170
  | 171=>some h171
  | 173=>some h173
  | 174=>some h174
  | 175=>some h175
  | 176=>some h176
  | 177=>some h177
  | 178=>some h178
  | 179=>some h179
  | 182=>some h182
  | 183=>some h183
  | 184=>some h184
  | 187=>some h187
  | 188=>some h188
  | 189=>some h189
  | 190=>some h190
  | 191=>some h191
  | 197=>some h197
  | _=>none
theorem aDx(f:FuncId)(h:HF)(hf:aHU f=some h):Dq Tryz.prog f=true/\∃ fn,Tryz.prog.funcs[f]?=some fn/\fn.ntmps=h.nt/\fn.body.bind (bF Tryz.prog)=some h.code.er/\fn.results.toList.mapM (gD Tryz.prog)=some h.rs:=by
  unfold aHU at hf;split at hf
  · exact tk hf (by kernel_rfl) Tryz.func162 Tryz.ntmps162 (by unfold CK;kernel_rfl) (by unfold RK;kernel_rfl)
  · exact tk hf (by kernel_rfl) Tryz.func163 Tryz.ntmps163 (by unfold CK;kernel_rfl) (by unfold RK;kernel_rfl)
  · exact tk hf (by kernel_rfl) Tryz.func166 Tryz.ntmps166 (by unfold CK;kernel_rfl) (by unfold RK;kernel_rfl)
  · exact tk hf (by kernel_rfl) Tryz.func167 Tryz.ntmps167 (by unfold CK;kernel_rfl) (by unfold RK;kernel_rfl)
  · exact tk hf (by kernel_rfl) Tryz.func168 Tryz.ntmps168 (by unfold CK;kernel_rfl) (by unfold RK;kernel_rfl)
  · exact tk hf (by kernel_rfl) Tryz.func169 Tryz.ntmps169 (by unfold CK;kernel_rfl) (by unfold RK;kernel_rfl)
  · exact tk hf (by kernel_rfl) Tryz.func170 Tryz.ntmps170 (by unfold CK;kernel_rfl) (by unfold RK;kernel_rfl)
  · exact tk hf (by kernel_rfl) Tryz.func171 Tryz.ntmps171 (by unfold CK;kernel_rfl) (by unfold RK;kernel_rfl)
  · exact tk hf (by kernel_rfl) Tryz.func173 Tryz.ntmps173 (by unfold CK;kernel_rfl) (by unfold RK;kernel_rfl)
  · exact tk hf (by kernel_rfl) Tryz.func174 Tryz.ntmps174 (by unfold CK;kernel_rfl) (by unfold RK;kernel_rfl)
  · exact tk hf (by kernel_rfl) Tryz.func175 Tryz.ntmps175 (by unfold CK;kernel_rfl) (by unfold RK;kernel_rfl)
  · exact tk hf (by kernel_rfl) Tryz.func176 Tryz.ntmps176 (by unfold CK;kernel_rfl) (by unfold RK;kernel_rfl)
  · exact tk hf (by kernel_rfl) Tryz.func177 Tryz.ntmps177 (by unfold CK;kernel_rfl) (by unfold RK;kernel_rfl)
  · exact tk hf (by kernel_rfl) Tryz.func178 Tryz.ntmps178 (by unfold CK;kernel_rfl) (by unfold RK;kernel_rfl)
  · exact tk hf (by kernel_rfl) Tryz.func179 Tryz.ntmps179 (by unfold CK;kernel_rfl) (by unfold RK;kernel_rfl)
  · exact tk hf (by kernel_rfl) Tryz.func182 Tryz.ntmps182 (by unfold CK;kernel_rfl) (by unfold RK;kernel_rfl)
  · exact tk hf (by kernel_rfl) Tryz.func183 Tryz.ntmps183 (by unfold CK;kernel_rfl) (by unfold RK;kernel_rfl)
  · exact tk hf (by kernel_rfl) Tryz.func184 Tryz.ntmps184 (by unfold CK;kernel_rfl) (by unfold RK;kernel_rfl)
  · exact tk hf (by kernel_rfl) Tryz.func187 Tryz.ntmps187 (by unfold CK;kernel_rfl) (by unfold RK;kernel_rfl)
  · exact tk hf (by kernel_rfl) Tryz.func188 Tryz.ntmps188 (by unfold CK;kernel_rfl) (by unfold RK;kernel_rfl)
  · exact tk hf (by kernel_rfl) Tryz.func189 Tryz.ntmps189 (by unfold CK;kernel_rfl) (by unfold RK;kernel_rfl)
  · exact tk hf (by kernel_rfl) Tryz.func190 Tryz.ntmps190 (by unfold CK;kernel_rfl) (by unfold RK;kernel_rfl)
  · exact tk hf (by kernel_rfl) Tryz.func191 Tryz.ntmps191 (by unfold CK;kernel_rfl) (by unfold RK;kernel_rfl)
  · exact tk hf (by kernel_rfl) Tryz.func197 Tryz.ntmps197 (by unfold CK;kernel_rfl) (by unfold RK;kernel_rfl)
  · cases hf
def aHV:FuncId->Option HF
  | 198=>some h198
  | 202=>some h202
  | 203=>some h203
  | 204=>some h204
  | 205=>some h205
  | 206=>some h206
  | 207=>some h207
  | 208=>some h208
  | 209=>some h209
  | 210=>some h210
  | 211=>some h211
  | 212=>some h212
  | 213=>some h213
  | 214=>some h214
  | 215=>some h215
  | 225=>some h225
  | 226=>some h226
  | 227=>some h227
  | 228=>some h228
  | 231=>some h231
  | 236=>some h236
  | 237=>some h237
  | 238=>some h238
  | 239=>some h239
  | _=>none
theorem aDy(f:FuncId)(h:HF)(hf:aHV f=some h):Dq Tryz.prog f=true/\∃ fn,Tryz.prog.funcs[f]?=some fn/\fn.ntmps=h.nt/\fn.body.bind (bF Tryz.prog)=some h.code.er/\fn.results.toList.mapM (gD Tryz.prog)=some h.rs:=by
  unfold aHV at hf;split at hf
  · exact tk hf (by kernel_rfl) Tryz.func198 Tryz.ntmps198 (by unfold CK;kernel_rfl) (by unfold RK;kernel_rfl)
  · exact tk hf (by kernel_rfl) Tryz.func202 Tryz.ntmps202 (by unfold CK;kernel_rfl) (by unfold RK;kernel_rfl)
  · exact tk hf (by kernel_rfl) Tryz.func203 Tryz.ntmps203 (by unfold CK;kernel_rfl) (by unfold RK;kernel_rfl)
  · exact tk hf (by kernel_rfl) Tryz.func204 Tryz.ntmps204 (by unfold CK;kernel_rfl) (by unfold RK;kernel_rfl)
  · exact tk hf (by kernel_rfl) Tryz.func205 Tryz.ntmps205 (by unfold CK;kernel_rfl) (by unfold RK;kernel_rfl)
  · exact tk hf (by kernel_rfl) Tryz.func206 Tryz.ntmps206 (by unfold CK;kernel_rfl) (by unfold RK;kernel_rfl)
  · exact tk hf (by kernel_rfl) Tryz.func207 Tryz.ntmps207 (by unfold CK;kernel_rfl) (by unfold RK;kernel_rfl)
  · exact tk hf (by kernel_rfl) Tryz.func208 Tryz.ntmps208 (by unfold CK;kernel_rfl) (by unfold RK;kernel_rfl)
  · exact tk hf (by kernel_rfl) Tryz.func209 Tryz.ntmps209 (by unfold CK;kernel_rfl) (by unfold RK;kernel_rfl)
  · exact tk hf (by kernel_rfl) Tryz.func210 Tryz.ntmps210 (by unfold CK;kernel_rfl) (by unfold RK;kernel_rfl)
  · exact tk hf (by kernel_rfl) Tryz.func211 Tryz.ntmps211 (by unfold CK;kernel_rfl) (by unfold RK;kernel_rfl)
  · exact tk hf (by kernel_rfl) Tryz.func212 Tryz.ntmps212 (by unfold CK;kernel_rfl) (by unfold RK;kernel_rfl)
  · exact tk hf (by kernel_rfl) Tryz.func213 Tryz.ntmps213 (by unfold CK;kernel_rfl) (by unfold RK;kernel_rfl)
  · exact tk hf (by kernel_rfl) Tryz.func214 Tryz.ntmps214 (by unfold CK;kernel_rfl) (by unfold RK;kernel_rfl)
  · exact tk hf (by kernel_rfl) Tryz.func215 Tryz.ntmps215 (by unfold CK;kernel_rfl) (by unfold RK;kernel_rfl)
  · exact tk hf (by kernel_rfl) Tryz.func225 Tryz.ntmps225 (by unfold CK;kernel_rfl) (by unfold RK;kernel_rfl)
  · exact tk hf (by kernel_rfl) Tryz.func226 Tryz.ntmps226 (by unfold CK;kernel_rfl) (by unfold RK;kernel_rfl)
  · exact tk hf (by kernel_rfl) Tryz.func227 Tryz.ntmps227 (by unfold CK;kernel_rfl) (by unfold RK;kernel_rfl)
  · exact tk hf (by kernel_rfl) Tryz.func228 Tryz.ntmps228 (by unfold CK;kernel_rfl) (by unfold RK;kernel_rfl)
  · exact tk hf (by kernel_rfl) Tryz.func231 Tryz.ntmps231 (by unfold CK;kernel_rfl) (by unfold RK;kernel_rfl)
  · exact tk hf (by kernel_rfl) Tryz.func236 Tryz.ntmps236 (by unfold CK;kernel_rfl) (by unfold RK;kernel_rfl)
  · exact tk hf (by kernel_rfl) Tryz.func237 Tryz.ntmps237 (by unfold CK;kernel_rfl) (by unfold RK;kernel_rfl)
  · exact tk hf (by kernel_rfl) Tryz.func238 Tryz.ntmps238 (by unfold CK;kernel_rfl) (by unfold RK;kernel_rfl)
  · exact tk hf (by kernel_rfl) Tryz.func239 Tryz.ntmps239 (by unfold CK;kernel_rfl) (by unfold RK;kernel_rfl)
  · cases hf
def aHW:FuncId->Option HF
  | 249=>some h249
  | 250=>some h250
  | 251=>some h251
  | 252=>some h252
  | 258=>some h258
  | 259=>some h259
  | 263=>some h263
  | 264=>some h264
  | 265=>some h265
  | 266=>some h266
  | 272=>some h272
  | 273=>some h273
  | 274=>some h274
  | 275=>some h275
  | 278=>some h278
  | 279=>some h279
  | 282=>some h282
  | _=>none
theorem aDz(f:FuncId)(h:HF)(hf:aHW f=some h):Dq Tryz.prog f=true/\∃ fn,Tryz.prog.funcs[f]?=some fn/\fn.ntmps=h.nt/\fn.body.bind (bF Tryz.prog)=some h.code.er/\fn.results.toList.mapM (gD Tryz.prog)=some h.rs:=by
  unfold aHW at hf;split at hf
  · exact tk hf (by kernel_rfl) Tryz.func249 Tryz.ntmps249 (by unfold CK;kernel_rfl) (by unfold RK;kernel_rfl)
  · exact tk hf (by kernel_rfl) Tryz.func250 Tryz.ntmps250 (by unfold CK;kernel_rfl) (by unfold RK;kernel_rfl)
  · exact tk hf (by kernel_rfl) Tryz.func251 Tryz.ntmps251 (by unfold CK;kernel_rfl) (by unfold RK;kernel_rfl)
  · exact tk hf (by kernel_rfl) Tryz.func252 Tryz.ntmps252 (by unfold CK;kernel_rfl) (by unfold RK;kernel_rfl)
  · exact tk hf (by kernel_rfl) Tryz.func258 Tryz.ntmps258 (by unfold CK;kernel_rfl) (by unfold RK;kernel_rfl)
  · exact tk hf (by kernel_rfl) Tryz.func259 Tryz.ntmps259 (by unfold CK;kernel_rfl) (by unfold RK;kernel_rfl)
  · exact tk hf (by kernel_rfl) Tryz.func263 Tryz.ntmps263 (by unfold CK;kernel_rfl) (by unfold RK;kernel_rfl)
  · exact tk hf (by kernel_rfl) Tryz.func264 Tryz.ntmps264 (by unfold CK;kernel_rfl) (by unfold RK;kernel_rfl)
  · exact tk hf (by kernel_rfl) Tryz.func265 Tryz.ntmps265 (by unfold CK;kernel_rfl) (by unfold RK;kernel_rfl)
  · exact tk hf (by kernel_rfl) Tryz.func266 Tryz.ntmps266 (by unfold CK;kernel_rfl) (by unfold RK;kernel_rfl)
  · exact tk hf (by kernel_rfl) Tryz.func272 Tryz.ntmps272 (by unfold CK;kernel_rfl) (by unfold RK;kernel_rfl)
  · exact tk hf (by kernel_rfl) Tryz.func273 Tryz.ntmps273 (by unfold CK;kernel_rfl) (by unfold RK;kernel_rfl)
  · exact tk hf (by kernel_rfl) Tryz.func274 Tryz.ntmps274 (by unfold CK;kernel_rfl) (by unfold RK;kernel_rfl)
  · exact tk hf (by kernel_rfl) Tryz.func275 Tryz.ntmps275 (by unfold CK;kernel_rfl) (by unfold RK;kernel_rfl)
  · exact tk hf (by kernel_rfl) Tryz.func278 Tryz.ntmps278 (by unfold CK;kernel_rfl) (by unfold RK;kernel_rfl)
  · exact tk hf (by kernel_rfl) Tryz.func279 Tryz.ntmps279 (by unfold CK;kernel_rfl) (by unfold RK;kernel_rfl)
  · exact tk hf (by kernel_rfl) Tryz.func282 Tryz.ntmps282 (by unfold CK;kernel_rfl) (by unfold RK;kernel_rfl)
  · cases hf
def Tbt:FuncId->Option HF:=fun f=>if f < 42 then aHP f else if f < 71 then aHQ f else if f < 102 then aHR f else if f < 132 then aHS f else if f < 162 then aHT f else if f < 198 then aHU f else if f < 240 then aHV f else aHW f
def Tb(B:aW):HT:=⟨Tbt,B⟩
theorem J0(B:aW):T8 Tryz.prog (Tb B):=by
  intro f h hf
  change Tbt f=some h at hf
  unfold Tbt at hf;split at hf
  · exact aDs f h hf
  split at hf
  · exact aDt f h hf
  split at hf
  · exact aDu f h hf
  split at hf
  · exact aDv f h hf
  split at hf
  · exact aDw f h hf
  split at hf
  · exact aDx f h hf
  split at hf
  · exact aDy f h hf
  exact aDz f h hf
end Go.Proofs.YtcplecjhmnblpaaGreatDoor
