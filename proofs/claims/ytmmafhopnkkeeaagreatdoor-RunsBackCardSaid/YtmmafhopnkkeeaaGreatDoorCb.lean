/- The functions of the translation as codes with hints: printed by a program, held by the kernel against the translation. Conditions: none. -/
import Derived.Test.YtmmafhopnkkeeaaGreatDoorNd
import Derived.Test.YtmmafhopnkkeeaaGreatDoorChecked
import Derived.KernelRfl
namespace Go.Proofs.YtmmafhopnkkeeaaGreatDoor
abbrev qZ0:List Value:=[(.slice none 0 0)]
abbrev qZ1:List Value:=[(.int .u8 0)]
abbrev qZ2:List Value:=[(.string ⟨#[]⟩)]
abbrev sR (l:List AOp) (b:HC):HC:=.seq (.region l) b
abbrev gM (g:Nat) (b:Bool) (d x:Nat):AOp:=Og g b d (.mov (.t x))
abbrev oJ (d f x:Nat):AOp:=Oo d (.call f [.t x])
abbrev oJ2 (d f x y:Nat):AOp:=Oo d (.call f [.t x,.t y])
abbrev oA (d o x:Nat):AOp:=Oo d (.addo o (.t x))
abbrev oL (d x:Nat):AOp:=Oo d (.load false 1 (.t x))
abbrev oG (d n x:Nat):AOp:=Oo d (.load true n (.t x))
abbrev oM (d x:Nat):AOp:=Oo d (.mov (.t x))
abbrev oK (d:Nat) (n:Int):AOp:=Oo d (.mov (Ki n))
abbrev oE (d x n:Nat):AOp:=Oo d (.ext (.t x) n)
abbrev oS (n x y:Nat):AOp:=On (.store n (.t x) (.t y))
abbrev oI (d z x i:Nat):AOp:=Oo d (.ixL z (.t x) (.t i))
abbrev oB (d:Nat) (b:BinOp) (x:Nat) (n:Int):AOp:=Oo d (.bin b (.t x) (Ki n))
abbrev oC (d:Nat) (b:BinOp) (x y:Nat):AOp:=Oo d (.bin b (.t x) (.t y))
abbrev oN (d x:Nat):AOp:=Oo d (.lenL (.t x))
abbrev CK (f:Func) (h:HC):Prop:=f.body.bind (compileC Tryz.prog)=some h.er
abbrev RK (f:Func) (r:List RetV):Prop:=f.results.toList.mapM (retOf Tryz.prog)=some r
theorem tk {f:FuncId} {h k:HF} {fn:Func} (hf:some k=some h) (h0:okF Tryz.prog f=true) (h1:Tryz.prog.funcs[f]?=some fn) (h2:fn.ntmps=k.nt) (h3:CK fn k.code) (h4:RK fn k.rs):okF Tryz.prog f=true∧∃ fn,Tryz.prog.funcs[f]?=some fn∧fn.ntmps=h.nt∧fn.body.bind (compileC Tryz.prog)=some h.code.er∧fn.results.toList.mapM (retOf Tryz.prog)=some h.rs:=by
  cases hf
  exact ⟨h0,fn,h1,h2,h3,h4⟩
def h3c:HC:=
 (sR [Oo 4 (.mov (.k (.bool false)))]
 (.seq (sR [Oo 9 (.call 6 []),Oo 10 (.un .not (.t 9))]
 (.cond (.t 10) (sR [Oo 4 (.mov (.k (.bool false)))]
 .ret)
 .skip))
 (.seq (sR [oM 11 0,oJ 12 7 11,Oo 13 (.un .not (.t 12)),oM 14 13,gM 14 false 15 1,Og 14 false 16 (.lenS (.t 15)),Og 14 false 17 (.bin .gtr (.t 16) (Ki 900)),Oo 18 (.pick (.t 14) (.k (.bool true)) (.t 17))]
 (.cond (.t 18) (sR [Oo 4 (.mov (.k (.bool true)))]
 .ret)
 .skip))
 (sR [oM 20 1,oJ 21 8 20,oM 19 21,oE 22 19 0,oE 23 19 1,oM 5 22,oM 6 23]
 (sR [oM 25 1,oJ 26 9 25,oM 24 26,oE 27 24 0,oE 28 24 1,oM 7 27,oM 8 28]
 (sR [oM 29 5,oM 30 6,oM 31 7,oM 32 8,Oo 33 (.call 10 [(.t 29),(.t 30),(.t 31),(.t 32)]),oM 34 33,gM 34 true 35 0,Og 34 true 36 (.call 12 [(.t 35)]),Og 34 true 37 (.call 11 [(.t 36)]),gM 34 true 38 0,Og 34 true 39 (.call 13 [(.t 38)]),Og 34 true 40 (.bin .eql (.t 37) (.t 39)),Oo 41 (.pick (.t 34) (.t 40) (.k (.bool false))),oM 4 41]
 .ret))))))
abbrev h3:HF:=⟨h3c,[.tmp 4],42,false⟩
def h4c:HC:=
 (sR [Oo 4 (.mov (.k (.bool false)))]
 (.seq (sR [Oo 15 (.call 6 []),Oo 16 (.un .not (.t 15))]
 (.cond (.t 16) (sR [Oo 4 (.mov (.k (.bool false)))]
 .ret)
 .skip))
 (.seq (sR [oM 17 1,Oo 18 (.lenS (.t 17)),oB 19 .gtr 18 420]
 (.cond (.t 19) (sR [Oo 4 (.mov (.k (.bool true)))]
 .ret)
 .skip))
 (.seq (sR [oM 21 1,oJ 22 14 21,oM 20 22,oE 23 20 0,oE 24 20 1,oM 5 23,oM 6 24]
 (sR [oM 25 6,oB 26 .eql 25 0]
 (.cond (.t 26) (sR [oM 28 5,oJ 29 15 28,oM 27 29,oE 30 27 0,oE 31 27 1,oM 7 30,oM 8 31]
 (sR [oM 32 8,oB 33 .neq 32 0,oM 34 33,gM 34 false 35 7,gM 34 false 36 1,Og 34 false 37 (.bin .neq (.t 35) (.t 36)),Oo 38 (.pick (.t 34) (.k (.bool true)) (.t 37))]
 (.cond (.t 38) (sR [Oo 4 (.mov (.k (.bool false)))]
 .ret)
 .skip)))
 .skip)))
 (.seq (sR [oM 39 0,oJ 40 7 39,Oo 41 (.un .not (.t 40)),oM 42 41,gM 42 false 43 0,Og 42 false 44 (.call 16 [(.t 43)]),Og 42 false 45 (.bin .neq (.t 44) (Ki 0)),Oo 46 (.pick (.t 42) (.k (.bool true)) (.t 45))]
 (.cond (.t 46) (sR [Oo 4 (.mov (.k (.bool true)))]
 .ret)
 .skip))
 (sR [oM 48 0,oJ 49 12 48,oJ 50 15 49,oM 47 50,oE 51 47 0,oE 52 47 1,oM 9 51,oM 10 52]
 (sR [oM 54 9,oJ 55 14 54,oM 53 55,oE 56 53 0,oE 57 53 1,oM 11 56,oM 12 57]
 (sR [oM 59 0,oJ 60 12 59,oJ 61 11 60,oJ 62 8 61,oM 58 62,oE 63 58 0,oE 64 58 1,oM 13 63,oM 14 64]
 (sR [oM 65 10,oB 66 .eql 65 0,oM 67 66,gM 67 true 68 12,Og 67 true 69 (.bin .eql (.t 68) (Ki 0)),Oo 70 (.pick (.t 67) (.t 69) (.k (.bool false))),oM 71 70,gM 71 true 72 11,gM 71 true 73 0,Og 71 true 74 (.call 17 [(.t 72),(.t 73)]),Oo 75 (.pick (.t 71) (.t 74) (.k (.bool false))),oM 76 75,gM 76 true 77 14,Og 76 true 78 (.bin .eql (.t 77) (Ki 0)),Oo 79 (.pick (.t 76) (.t 78) (.k (.bool false))),oM 80 79,gM 80 true 81 13,gM 80 true 82 0,Og 80 true 83 (.call 17 [(.t 81),(.t 82)]),Oo 84 (.pick (.t 80) (.t 83) (.k (.bool false))),oM 4 84]
 .ret)))))))))
abbrev h4:HF:=⟨h4c,[.tmp 4],85,false⟩
def h6c:HC:=
 (sR [Oo 0 (.mov (.k (.bool false)))]
 (sR [Oo 12 (.call 26 []),oJ 13 15 12,oM 11 13,oE 14 11 0,oE 15 11 1,oM 1 14,oM 2 15]
 (sR [Oo 17 (.call 26 []),Oo 18 (.call 27 [(.t 17),(Ki 1)]),oM 16 18,oE 19 16 0,oE 20 16 1,Oo 3 (.alloc [Zi 0,Zi 0]),oS 2 3 19,oM 4 20]
 (sR [Oo 22 (.call 26 []),Oo 23 (.call 28 [(.t 22),(Ki 2),(Ki 3)]),oM 21 23,oE 24 21 0,oE 25 21 1,oM 5 24,oM 6 25]
 (sR [Oo 27 (.call 26 []),Oo 28 (.build [Zi 0,Zi 0] [(0,1,(Ki 8)),(1,1,(Ki 2))]),Oo 29 (.bslc 2 1 [Zi 0,Zi 0] [(0,(.t 28))]),Oo 30 (.call 29 [(.t 27),(Ki 3),(.t 29)]),oM 26 30,oE 31 26 0,oE 32 26 1,oM 7 31,oM 8 32]
 (sR [Oo 34 (.call 26 []),Oo 35 (.build [Zi 0,Zi 0] [(0,1,(Ki 6)),(1,1,(Ki 1))]),Oo 36 (.bslc 2 1 [Zi 0,Zi 0] [(0,(.t 35))]),oJ2 37 30 34 36,oM 33 37,oE 38 33 0,oE 39 33 1,oM 9 38,oM 10 39]
 (sR [oM 40 2,oB 41 .eql 40 0,oM 42 41,gM 42 true 43 1,Og 42 true 44 (.bin .eql (.t 43) (.k (.string ⟨#[17,3,5,1,2,17,1,255,0]⟩))),Oo 45 (.pick (.t 42) (.t 44) (.k (.bool false))),oM 46 45,gM 46 true 47 4,Og 46 true 48 (.bin .eql (.t 47) (Ki 0)),Oo 49 (.pick (.t 46) (.t 48) (.k (.bool false))),oM 50 49,Og 50 true 51 (.load true 2 (.t 3)),Og 50 true 52 (.build [Zi 0,Zi 0] [(0,1,(Ki 6)),(1,1,(Ki 2))]),Og 50 true 53 (.eqs false [.i,.i] (.t 51) (.t 52)),Oo 54 (.pick (.t 50) (.t 53) (.k (.bool false))),oM 55 54,gM 55 true 56 6,Og 55 true 57 (.bin .eql (.t 56) (Ki 0)),Oo 58 (.pick (.t 55) (.t 57) (.k (.bool false))),oM 59 58,gM 59 true 60 5,Og 59 true 61 (.call 13 [(.t 60)]),Og 59 true 62 (.bin .eql (.t 61) (.k (.string ⟨#[55,43,49,32,45,43,50]⟩))),Oo 63 (.pick (.t 59) (.t 62) (.k (.bool false))),oM 64 63,gM 64 true 65 8,Og 64 true 66 (.bin .eql (.t 65) (Ki 0)),Oo 67 (.pick (.t 64) (.t 66) (.k (.bool false))),oM 68 67,gM 68 true 69 7,Og 68 true 70 (.call 13 [(.t 69)]),Og 68 true 71 (.bin .eql (.t 70) (.k (.string ⟨#[53,43,53,32,52,43,49]⟩))),Oo 72 (.pick (.t 68) (.t 71) (.k (.bool false))),oM 73 72,gM 73 true 74 10,Og 73 true 75 (.bin .eql (.t 74) (Ki 0)),Oo 76 (.pick (.t 73) (.t 75) (.k (.bool false))),oM 77 76,gM 77 true 78 9,Og 77 true 79 (.call 13 [(.t 78)]),Og 77 true 80 (.bin .eql (.t 79) (.k (.string ⟨#[52,43,50,32,55,43,49]⟩))),Oo 81 (.pick (.t 77) (.t 80) (.k (.bool false))),oM 0 81]
 .ret)))))))
abbrev h6:HF:=⟨h6c,[.tmp 0],82,false⟩
theorem h6_ok:CK Tryz.f6 h6c:=by unfold CK;kernel_rfl
theorem r6_ok:RK Tryz.f6 [.tmp 0]:=by unfold RK;kernel_rfl
def h7c:HC:=
 (sR [Oo 2 (.mov (.k (.bool false)))]
 (sR [oM 3 0,oN 4 3,oB 5 .leq 4 80,oM 2 5]
 .ret))
abbrev h7:HF:=⟨h7c,[.tmp 2],6,false⟩
def h8c:HC:=
 (sR [Oo 1 (.box (.t 0)),Oo 2 (.alloc qZ0),Oo 3 (.alloc [Zi 0])]
 (.seq (sR [oL 14 1,Oo 15 (.lenS (.t 14)),oB 16 .gtr 15 200000]
 (.cond (.t 16) (sR [On (.store 1 (.t 2) (.k (.slice none 0 0))),On (.store 1 (.t 3) (Ki 8))]
 .ret)
 .skip))
 (sR [Oo 4 (.alloc qZ0)]
 (.seq (sR [oL 17 1,Oo 18 (.call 31 [(.t 17),(.k (.string ⟨#[32]⟩))])]
 (.block 0 .bad))
 (.seq (sR [oL 56 4,Oo 57 (.bslc 1 1 qZ0 [(0,(.t 56))]),oJ 58 34 57,oM 13 58]
 (sR [oM 59 13,oB 60 .neq 59 0]
 (.cond (.t 60) (sR [oM 61 13,On (.store 1 (.t 2) (.k (.slice none 0 0))),oS 1 3 61]
 .ret)
 .skip)))
 (sR [oL 62 4,oS 1 2 62,On (.store 1 (.t 3) (Ki 0))]
 .ret))))))
abbrev h8:HF:=⟨h8c,[.cell 2 false 1,.cell 3 false 1],63,false⟩
def h9l0:HC:=
 (.seq (sR [oM 20 6,oM 21 5,oN 22 21,oC 23 .lss 20 22]
 (.cond (.t 23) .skip
 (.exit 0)))
 (.seq (.block 1 (sR [oM 26 5,oM 27 6,oI 28 1 26 27,oL 29 28,Oo 30 (.call 35 [(.t 29),(.k (.int .u8 43))]),oM 7 30]
 (.seq (sR [oM 31 7,oN 32 31,oB 33 .neq 32 2]
 (.cond (.t 33) (sR [Oo 2 (.mov (.k (.slice none 0 0))),oK 3 7]
 .ret)
 .skip))
 (sR [oM 35 7,Oo 36 (.ixL 1 (.t 35) (Ki 1)),oL 37 36,Oo 38 (.call 36 [(.t 37),(Ki 4)]),oM 34 38,oE 39 34 0,oE 40 34 1,oM 8 39,oM 9 40]
 (sR [oM 42 7,Oo 43 (.ixL 1 (.t 42) (Ki 0)),oL 44 43,Oo 45 (.call 36 [(.t 44),(Ki 4)]),oM 41 45,oE 46 41 0,oE 47 41 1,oM 10 46,oM 11 47]
 (.seq (sR [oM 48 7,Oo 49 (.ixL 1 (.t 48) (Ki 0)),oL 50 49,Oo 51 (.bin .eql (.t 50) (.k (.string ⟨#[45]⟩)))]
 (.cond (.t 51) (.region [Oo 10 (.mov (Ki (-1))),Oo 11 (.mov (.k (.bool true)))])
 (.region [oM 52 11,oM 53 52,gM 53 true 54 10,Og 53 true 55 (.bin .geq (.t 54) (Ki 0)),Oo 56 (.pick (.t 53) (.t 55) (.k (.bool false))),oM 11 56])))
 (.seq (sR [oM 57 9,Oo 58 (.un .not (.t 57)),oM 59 58,gM 59 false 60 11,Og 59 false 61 (.un .not (.t 60)),Oo 62 (.pick (.t 59) (.k (.bool true)) (.t 61)),oM 63 62,gM 63 false 64 8,Og 63 false 65 (.bin .lss (.t 64) (Ki 0)),Oo 66 (.pick (.t 63) (.k (.bool true)) (.t 65))]
 (.cond (.t 66) (sR [Oo 2 (.mov (.k (.slice none 0 0))),oK 3 7]
 .ret)
 .skip))
 (.region [oM 67 4,oM 68 10,oM 69 8,Oo 70 (.build [Zi 0,Zi 0] [(0,1,(.t 68)),(1,1,(.t 69))]),Oo 71 (.bslc 2 1 [Zi 0,Zi 0] [(0,(.t 70))]),Oo 72 (.app 2 16 [Zi 0,Zi 0] (.t 67) (.t 71)),oM 4 72]))))))))
 (.region [oM 24 6,oB 25 .add 24 1,oM 6 25])))
def h9c:HC:=
 (sR [Oo 2 (.mov (.k (.slice none 0 0))),oK 3 0]
 (.seq (sR [oM 13 0,Oo 14 (.lenS (.t 13)),oB 15 .gtr 14 200000]
 (.cond (.t 15) (sR [Oo 2 (.mov (.k (.slice none 0 0))),oK 3 8]
 .ret)
 .skip))
 (.seq (sR [oM 16 0,Oo 17 (.bin .eql (.t 16) (.k (.string ⟨#[]⟩)))]
 (.cond (.t 17) (sR [Oo 2 (.mov (.k (.slice none 0 0))),oK 3 0]
 .ret)
 .skip))
 (sR [Oo 4 (.mov (.k (.slice none 0 0)))]
 (.gh (.nil 4 2) (sR [oM 18 0,Oo 19 (.call 35 [(.t 18),(.k (.int .u8 32))]),oM 5 19]
 (.seq (sR [oK 6 0]
 (.block 0 (.loop [4,0,0] h9l0)))
 (.seq (sR [oM 73 4,oJ 74 16 73,oM 12 74]
 (sR [oM 75 12,oB 76 .neq 75 0]
 (.cond (.t 76) (sR [oM 77 12,Oo 2 (.mov (.k (.slice none 0 0))),oM 3 77]
 .ret)
 .skip)))
 (sR [oM 78 4,oM 2 78,oK 3 0]
 .ret)))))))))
abbrev h9:HF:=⟨h9c,[.tmp 2,.tmp 3],79,false⟩
def h10c:HC:=
 (sR [Oo 8 (.mov (.k (.bool false)))]
 (sR [oM 9 1,oM 10 3,oC 11 .eql 9 10,oM 12 11,gM 12 true 13 3,Og 12 true 14 (.bin .neq (.t 13) (Ki 0)),gM 12 true 15 14,gM 15 true 16 0,Og 15 true 17 (.lenL (.t 16)),Og 15 true 18 (.bin .eql (.t 17) (Ki 0)),Og 12 true 19 (.pick (.t 15) (.t 18) (.k (.bool false))),gM 12 true 20 19,gM 20 false 21 3,Og 20 false 22 (.bin .eql (.t 21) (Ki 0)),gM 20 false 23 22,gM 23 true 24 0,gM 23 true 25 2,Og 23 true 26 (.call 17 [(.t 24),(.t 25)]),Og 20 false 27 (.pick (.t 23) (.t 26) (.k (.bool false))),Og 12 true 28 (.pick (.t 20) (.k (.bool true)) (.t 27)),Oo 29 (.pick (.t 12) (.t 28) (.k (.bool false))),oM 8 29]
 .ret))
abbrev h10:HF:=⟨h10c,[.tmp 8],30,false⟩
def h11l0:HC:=
 (sR [oC 10 .lss 9 8]
 (.seq (.cond (.t 10) .skip
 (.exit 0))
 (.seq (.block 1 (sR [oI 11 2 7 9,oG 12 2 11,Oo 5 (.alloc [Zi 0,Zi 0]),oS 2 5 12]
 (sR [Oo 6 (.mov (.k (.string ⟨#[45]⟩)))]
 (.seq (sR [oG 13 2 5,oJ 14 37 13,Oo 15 (.un .not (.t 14))]
 (.cond (.t 15) (.region [oA 16 0 5,oL 17 16,oJ 18 38 17,oM 6 18])
 .skip))
 (.region [oM 19 3,oM 20 6,Oo 21 (.bin .add (.t 20) (.k (.string ⟨#[43]⟩))),oA 22 1 5,oL 23 22,oJ 24 38 23,oC 25 .add 21 24,Oo 26 (.bslc 1 1 qZ2 [(0,(.t 25))]),Oo 27 (.app 1 16 qZ2 (.t 19) (.t 26)),oM 3 27])))))
 (.region [oB 28 .add 9 1,oM 9 28]))))
def h11c:HC:=
 (sR [Oo 2 (.mov (.k (.string ⟨#[]⟩)))]
 (sR [Oo 3 (.mov (.k (.slice none 0 0)))]
 (.gh (.nil 3 1) (.seq (sR [oM 7 0,oN 8 7,oK 9 0]
 (.block 0 (.loop [3,3,0,0] h11l0)))
 (sR [oM 29 3,Oo 30 (.call 39 [(.t 29),(.k (.string ⟨#[32]⟩))]),oM 2 30]
 .ret)))))
abbrev h11:HF:=⟨h11c,[.tmp 2],31,false⟩
def h12c:HC:=
 (sR [Oo 2 (.mov (.k (.slice none 0 0)))]
 (sR [Oo 3 (.bslc 2 0 [Zi 0,Zi 0] []),oM 4 0,Oo 5 (.app 2 16 [Zi 0,Zi 0] (.t 3) (.t 4)),oM 2 5]
 .ret))
abbrev h12:HF:=⟨h12c,[.tmp 2],6,true⟩
def h13l0:HC:=
 (.seq (sR [oM 6 4,oM 7 0,oN 8 7,oC 9 .lss 6 8]
 (.cond (.t 9) .skip
 (.exit 0)))
 (.seq (.block 1 (.seq (sR [oM 12 4,oB 13 .gtr 12 0]
 (.cond (.t 13) (.region [oM 14 3,Oo 15 (.bin .add (.t 14) (.k (.string ⟨#[32]⟩))),oM 3 15])
 .skip))
 (sR [oM 16 0,oM 17 4,oI 18 2 16 17,oA 19 0 18,oL 20 19,oJ 21 40 20,oM 5 21]
 (.seq (sR [oM 22 0,oM 23 4,oI 24 2 22 23,oA 25 0 24,oL 26 25,Oo 27 (.bin .eql (.t 26) (Ki (-1)))]
 (.cond (.t 27) (.region [Oo 5 (.mov (.k (.string ⟨#[45]⟩)))])
 .skip))
 (.region [oM 28 3,oM 29 5,oC 30 .add 28 29,Oo 31 (.bin .add (.t 30) (.k (.string ⟨#[43]⟩))),oM 32 0,oM 33 4,oI 34 2 32 33,oA 35 1 34,oL 36 35,oJ 37 40 36,oC 38 .add 31 37,oM 3 38])))))
 (.region [oM 10 4,oB 11 .add 10 1,oM 4 11])))
def h13c:HC:=
 (sR [Oo 2 (.mov (.k (.string ⟨#[]⟩)))]
 (sR [Oo 3 (.mov (.k (.string ⟨#[]⟩)))]
 (.seq (sR [oK 4 0]
 (.block 0 (.loop [0,2,0] h13l0)))
 (sR [oM 39 3,oM 2 39]
 .ret))))
abbrev h13:HF:=⟨h13c,[.tmp 2],40,false⟩
def h14l0:HC:=
 (.seq (sR [oL 12 1,Oo 13 (.bin .neq (.t 12) (.k (.string ⟨#[]⟩))),oM 14 13,Og 14 true 15 (.load false 1 (.t 1)),Og 14 true 16 (.ixS (.t 15) (Ki 0)),Og 14 true 17 (.bin .neq (.t 16) (.k (.int .u8 0))),Oo 18 (.pick (.t 14) (.t 17) (.k (.bool false)))]
 (.cond (.t 18) .skip
 (.exit 0)))
 (.block 1 (sR [oM 20 5,oJ2 21 41 1 20,oM 19 21,oE 22 19 0,oE 23 19 1,Oo 6 (.alloc [Zi 0,Zi 0]),oS 2 6 22,oM 7 23]
 (.seq (sR [oM 24 7,Oo 25 (.un .not (.t 24))]
 (.cond (.t 25) (sR [Oo 2 (.mov (.k (.slice none 0 0))),oK 3 3]
 .ret)
 .skip))
 (.seq (sR [oG 26 2 6,oJ 27 37 26,Oo 28 (.un .not (.t 27))]
 (.cond (.t 28) (.region [oA 29 0 6,oL 30 29,oM 5 30])
 .skip))
 (.region [oM 31 4,oG 32 2 6,Oo 33 (.bslc 2 1 [Zi 0,Zi 0] [(0,(.t 32))]),Oo 34 (.app 2 16 [Zi 0,Zi 0] (.t 31) (.t 33)),oM 4 34]))))))
def h14c:HC:=
 (sR [Oo 1 (.box (.t 0)),Oo 2 (.mov (.k (.slice none 0 0))),oK 3 0]
 (.seq (sR [oL 9 1,Oo 10 (.lenS (.t 9)),oB 11 .gtr 10 400]
 (.cond (.t 11) (sR [Oo 2 (.mov (.k (.slice none 0 0))),oK 3 8]
 .ret)
 .skip))
 (sR [Oo 4 (.mov (.k (.slice none 0 0)))]
 (.gh (.nil 4 2) (sR [oK 5 0]
 (.seq (.block 0 (.loop [1,2,0] h14l0))
 (.seq (sR [oL 35 1,Oo 36 (.lenS (.t 35)),oB 37 .neq 36 1]
 (.cond (.t 37) (sR [Oo 2 (.mov (.k (.slice none 0 0))),oK 3 3]
 .ret)
 .skip))
 (.seq (sR [oM 38 4,Oo 39 (.bslc 1 1 qZ0 [(0,(.t 38))]),oJ 40 34 39,oM 8 40]
 (sR [oM 41 8,oB 42 .neq 41 0]
 (.cond (.t 42) (sR [oM 43 8,Oo 2 (.mov (.k (.slice none 0 0))),oM 3 43]
 .ret)
 .skip)))
 (sR [oM 44 4,oM 2 44,oK 3 0]
 .ret)))))))))
abbrev h14:HF:=⟨h14c,[.tmp 2,.tmp 3],45,false⟩
def h15l0:HC:=
 (sR [oC 20 .lss 19 18]
 (.seq (.cond (.t 20) .skip
 (.exit 0))
 (.seq (.block 1 (sR [oI 21 2 17 19,oG 22 2 21,Oo 8 (.alloc [Zi 0,Zi 0]),oS 2 8 22]
 (sR [oA 23 1 8,oL 24 23,oJ 25 42 24,oM 9 25]
 (sR [oK 10 0]
 (.seq (sR [oG 26 2 8,oJ 27 37 26,Oo 28 (.un .not (.t 27))]
 (.cond (.t 28) (.region [oA 29 0 8,oL 30 29,oM 31 6,oC 32 .sub 30 31,oJ 33 42 32,oM 10 33])
 .skip))
 (sR [oM 34 5,oM 35 10,Oo 36 (.bin .shl (.t 35) (.k (.int .u64 4))),oM 37 9,oC 38 .or 36 37,Oo 39 (.conv .u8 (.t 38)),Oo 40 (.bslc 1 1 qZ1 [(0,(.t 39))]),Oo 41 (.app 1 1 qZ1 (.t 34) (.t 40)),oM 5 41]
 (sR [oM 42 5,oA 43 1 8,oL 44 43,oM 45 9,oJ2 46 43 44 45,Oo 47 (.app 1 1 qZ1 (.t 42) (.t 46)),oM 5 47]
 (sR [oG 48 2 8,oJ 49 37 48,Oo 50 (.un .not (.t 49))]
 (.cond (.t 50) (sR [oM 51 5,oA 52 0 8,oL 53 52,oM 54 6,oC 55 .sub 53 54,oM 56 10,oJ2 57 43 55 56,Oo 58 (.app 1 1 qZ1 (.t 51) (.t 57)),oM 5 58]
 (.region [oA 59 0 8,oL 60 59,oM 6 60]))
 .skip)))))))))
 (.region [oB 61 .add 19 1,oM 19 61]))))
def h15c:HC:=
 (sR [Oo 2 (.mov (.k (.string ⟨#[]⟩))),oK 3 0]
 (.seq (sR [oM 11 0,Oo 12 (.bslc 1 1 qZ0 [(0,(.t 11))]),oJ 13 34 12,oM 4 13]
 (sR [oM 14 4,oB 15 .neq 14 0]
 (.cond (.t 15) (sR [oM 16 4,Oo 2 (.mov (.k (.string ⟨#[]⟩))),oM 3 16]
 .ret)
 .skip)))
 (sR [Oo 5 (.mov (.k (.slice none 0 0)))]
 (.gh (.nil 5 1) (sR [oK 6 0]
 (.seq (sR [oM 17 0,oN 18 17,oK 19 0]
 (.block 0 (.loop [5,0,10,0,0] h15l0)))
 (sR [oM 62 5,Oo 63 (.bslc 1 1 qZ1 [(0,(.k (.int .u8 0)))]),Oo 64 (.app 1 1 qZ1 (.t 62) (.t 63)),Oo 65 (.cvbs (.t 64)),oM 2 65,oK 3 0]
 .ret)))))))
abbrev h15:HF:=⟨h15c,[.tmp 2,.tmp 3],66,false⟩
def h16c:HC:=
 (sR [oK 2 0]
 (sR [oM 6 0,oJ 7 44 6,oM 5 7,oE 8 5 0,oE 9 5 1,oM 3 8,oM 4 9]
 (sR [oM 10 4,oM 2 10]
 .ret)))
abbrev h16:HF:=⟨h16c,[.tmp 2],11,false⟩
def h17l0:HC:=
 (.seq (sR [oM 11 5,oM 12 0,oN 13 12,oC 14 .lss 11 13]
 (.cond (.t 14) .skip
 (.exit 0)))
 (.seq (.block 1 (.seq (.drawn [Qo (oM 17 0),Qo (oM 18 5),Qo (oI 19 2 17 18),Qo (oG 20 2 19),Qo (oM 21 1),Qo (oM 22 5),Qo (oI 23 2 21 22),Qo (oG 24 2 23),Qo (Oo 25 (.eqs true [.i,.i] (.t 20) (.t 24)))])
 (.cond (.t 25) (sR [Oo 4 (.mov (.k (.bool false)))]
 .ret)
 .skip)))
 (.region [oM 15 5,oB 16 .add 15 1,oM 5 16])))
def h17c:HC:=
 (sR [Oo 4 (.mov (.k (.bool false)))]
 (.seq (sR [oM 6 0,oN 7 6,oM 8 1,oN 9 8,oC 10 .neq 7 9]
 (.cond (.t 10) (sR [Oo 4 (.mov (.k (.bool false)))]
 .ret)
 .skip))
 (.seq (sR [oK 5 0]
 (.block 0 (.loop [0,0,3] h17l0)))
 (sR [Oo 4 (.mov (.k (.bool true)))]
 .ret))))
abbrev h17:HF:=⟨h17c,[.tmp 4],26,false⟩
def h25c:HC:=
 (sR [Oo 6 (.mov (.k (.bool false)))]
 (sR [oM 7 1,oM 8 0,oC 9 .leq 7 8,oM 10 9,gM 10 true 11 0,gM 10 true 12 2,Og 10 true 13 (.bin .leq (.t 11) (.t 12)),Oo 14 (.pick (.t 10) (.t 13) (.k (.bool false))),oM 6 14]
 .ret))
abbrev h25:HF:=⟨h25c,[.tmp 6],15,false⟩
def h26c:HC:=
 (sR [Oo 0 (.mov (.k (.slice none 0 0)))]
 (sR [Oo 1 (.build [Zi 0,Zi 0] [(0,1,(Ki 5)),(1,1,(Ki 3))]),Oo 2 (.build [Zi 0,Zi 0] [(0,1,(Ki (-1))),(1,1,(Ki 2))]),Oo 3 (.build [Zi 0,Zi 0] [(0,1,(Ki 4)),(1,1,(Ki 1))]),Oo 4 (.bslc 2 3 [Zi 0,Zi 0] [(0,(.t 1)),(1,(.t 2)),(2,(.t 3))]),oM 0 4]
 .ret))
abbrev h26:HF:=⟨h26c,[.tmp 0],5,false⟩
def h27l0:HC:=
 (sR [oC 25 .lss 24 23]
 (.seq (.cond (.t 25) .skip
 (.exit 0))
 (.seq (.block 1 (sR [oI 26 2 22 24,oG 27 2 26,Oo 8 (.alloc [Zi 0,Zi 0]),oS 2 8 27]
 (.seq (sR [oM 28 1,oA 29 1 8,oL 30 29,oC 31 .lss 28 30]
 (.cond (.t 31) (sR [oA 32 1 8,oL 33 32,oM 34 1,oC 35 .sub 33 34,Oo 36 (.build [Zi 0,Zi 0] [(0,1,(Ki (-1))),(1,1,(.t 35))]),Oo 9 (.alloc [Zi 0,Zi 0]),oS 2 9 36]
 (.seq (sR [oG 37 2 8,oJ 38 37 37,Oo 39 (.un .not (.t 38))]
 (.cond (.t 39) (.region [oA 40 0 8,oL 41 40,oM 42 1,oC 43 .add 41 42,oA 44 0 9,oS 1 44 43])
 .skip))
 (sR [oG 45 2 9,oS 2 4 45,oK 5 0]
 .ret)))
 .skip))
 (.region [oM 46 1,oA 47 1 8,oL 48 47,oC 49 .sub 46 48,oM 1 49]))))
 (.region [oB 50 .add 24 1,oM 24 50]))))
def h27c:HC:=
 (sR [Oo 4 (.alloc [Zi 0,Zi 0]),oK 5 0]
 (.seq (sR [oM 10 0,Oo 11 (.bslc 1 1 qZ0 [(0,(.t 10))]),oJ 12 34 11,oM 13 1,oB 14 .geq 13 0,Oo 15 (.call 66 [(.t 14),(Ki 2)]),Oo 16 (.bslc 1 2 [Zi 0] [(0,(.t 12)),(1,(.t 15))]),oJ 17 65 16,oM 6 17]
 (sR [oM 18 6,oB 19 .neq 18 0]
 (.cond (.t 19) (sR [Oo 20 (.build [Zi 0,Zi 0] []),oM 21 6,oS 2 4 20,oM 5 21]
 .ret)
 .skip)))
 (.seq (sR [oM 22 0,oN 23 22,oK 24 0]
 (.block 0 (.loop [1,2,17,0,0] h27l0)))
 (sR [Oo 51 (.build [Zi 0,Zi 0] []),oS 2 4 51,oK 5 37]
 .ret))))
abbrev h27:HF:=⟨h27c,[.cell 4 true 2,.tmp 5],52,false⟩
def h28c:HC:=
 (sR [Oo 6 (.mov (.k (.slice none 0 0))),oK 7 0]
 (.seq (sR [oM 9 0,oM 10 1,oM 11 2,Oo 12 (.call 67 [(.t 9),(.t 10),(.t 11)]),oM 8 12]
 (sR [oM 13 8,oB 14 .neq 13 0]
 (.cond (.t 14) (sR [oM 15 8,Oo 6 (.mov (.k (.slice none 0 0))),oM 7 15]
 .ret)
 .skip)))
 (sR [oM 16 0,oM 17 1,oM 18 2,Oo 19 (.call 69 [(.t 16),(.t 17),(.t 18)]),Oo 20 (.bslc 1 1 qZ0 [(0,(.t 19))]),oJ 21 68 20,oE 22 21 0,oE 23 21 1,oM 6 22,oM 7 23]
 .ret)))
abbrev h28:HF:=⟨h28c,[.tmp 6,.tmp 7],24,false⟩
def h29c:HC:=
 (sR [Oo 6 (.mov (.k (.slice none 0 0))),oK 7 0]
 (sR [oK 8 0]
 (.seq (sR [oM 10 2,Oo 11 (.bslc 1 1 qZ0 [(0,(.t 10))]),oJ 12 34 11,oB 13 .eql 12 0]
 (.cond (.t 13) (.region [oM 14 2,oJ 15 70 14,oM 8 15])
 .skip))
 (.seq (sR [oM 16 0,oM 17 1,oM 18 2,oM 19 8,Oo 20 (.call 71 [(.t 16),(.t 17),(.t 18),(.t 19)]),oM 9 20]
 (sR [oM 21 9,oB 22 .neq 21 0]
 (.cond (.t 22) (sR [oM 23 9,Oo 6 (.mov (.k (.slice none 0 0))),oM 7 23]
 .ret)
 .skip)))
 (sR [oM 24 0,oM 25 1,Oo 26 (.call 69 [(.t 24),(Ki 0),(.t 25)]),oM 27 2,oM 28 0,oM 29 1,oM 30 8,oC 31 .add 29 30,oM 32 0,oJ 33 70 32,Oo 34 (.call 69 [(.t 28),(.t 31),(.t 33)]),Oo 35 (.bslc 1 3 qZ0 [(0,(.t 26)),(1,(.t 27)),(2,(.t 34))]),oJ 36 68 35,oE 37 36 0,oE 38 36 1,oM 6 37,oM 7 38]
 .ret)))))
abbrev h29:HF:=⟨h29c,[.tmp 6,.tmp 7],39,false⟩
def h30l0:HC:=
 (sR [oB 22 .lss 21 512]
 (.seq (.cond (.t 22) .skip
 (.exit 0))
 (.seq (.block 1 (sR [oM 23 21,oM 9 23]
 (.region [oM 24 9,oM 25 9,Oo 26 (.ixA 512 1 (.t 7) (.t 25)),oL 27 26,oM 28 27,gM 28 true 29 9,Og 28 true 30 (.ixA 512 1 (.t 8) (.t 29)),Og 28 true 31 (.load false 1 (.t 30)),Og 28 true 32 (.un .not (.t 31)),Oo 33 (.pick (.t 28) (.t 32) (.k (.bool false))),Oo 34 (.ixA 512 1 (.t 7) (.t 24)),oS 1 34 33])))
 (.region [oB 35 .add 21 1,oM 21 35]))))
def h30c:HC:=
 (sR [Oo 4 (.mov (.k (.slice none 0 0))),oK 5 0]
 (.seq (sR [oM 10 0,oM 11 1,Oo 12 (.bslc 1 2 qZ0 [(0,(.t 10)),(1,(.t 11))]),oJ 13 34 12,oM 6 13]
 (sR [oM 14 6,oB 15 .neq 14 0]
 (.cond (.t 15) (sR [oM 16 6,Oo 4 (.mov (.k (.slice none 0 0))),oM 5 16]
 .ret)
 .skip)))
 (sR [Oo 7 (.alloc (List.replicate 512 (.bool false))),Oo 8 (.alloc (List.replicate 512 (.bool false)))]
 (sR [oM 17 0,oJ2 18 72 7 17]
 (sR [oM 19 1,oJ2 20 72 8 19]
 (.seq (sR [oK 21 0]
 (.block 0 (.loop [7,0,12] h30l0)))
 (sR [oJ 36 73 7,oM 4 36,oK 5 0]
 .ret)))))))
abbrev h30:HF:=⟨h30c,[.tmp 4,.tmp 5],37,false⟩
def h34l0:HC:=
 (sR [oC 10 .lss 9 8]
 (.seq (.cond (.t 10) .skip
 (.exit 0))
 (.seq (.block 1 (sR [oI 11 1 7 9,oL 12 11,oM 4 12]
 (sR [oM 14 4,oJ 15 76 14,oM 13 15,oE 16 13 0,oE 17 13 1,oM 5 16,oM 6 17]
 (sR [oM 18 6,oB 19 .neq 18 0]
 (.cond (.t 19) (sR [oM 20 6,oM 2 20]
 .ret)
 .skip)))))
 (.region [oB 21 .add 9 1,oM 9 21]))))
def h34c:HC:=
 (sR [oK 2 0]
 (.seq (sR [oM 7 0,oN 8 7,oK 9 0]
 (.block 0 (.loop [7,0,0] h34l0)))
 (sR [oK 2 0]
 .ret)))
abbrev h34:HF:=⟨h34c,[.tmp 2],22,false⟩
def h35l0:HC:=
 (.seq (sR [oM 8 7,oM 9 0,Oo 10 (.lenS (.t 9)),oC 11 .lss 8 10]
 (.cond (.t 11) .skip
 (.exit 0)))
 (.seq (.block 1 (sR [oM 14 0,oM 15 7,Oo 16 (.ixS (.t 14) (.t 15)),oM 17 1,oC 18 .eql 16 17]
 (.cond (.t 18) (sR [oM 19 5,oM 20 0,oM 21 6,oM 22 7,Oo 23 (.slS (.t 20) (some (.t 21)) (some (.t 22))),Oo 24 (.bslc 1 1 qZ2 [(0,(.t 23))]),Oo 25 (.app 1 16 qZ2 (.t 19) (.t 24)),oM 5 25]
 (.region [oM 26 7,oB 27 .add 26 1,oM 6 27]))
 .skip)))
 (.region [oM 12 7,oB 13 .add 12 1,oM 7 13])))
def h35c:HC:=
 (sR [Oo 4 (.mov (.k (.slice none 0 0)))]
 (sR [Oo 5 (.mov (.k (.slice none 0 0)))]
 (.gh (.nil 5 1) (sR [oK 6 0]
 (.seq (sR [oK 7 0]
 (.block 0 (.loop [0,0,3,0,0] h35l0)))
 (sR [oM 28 5,oM 29 0,oM 30 6,Oo 31 (.slS (.t 29) (some (.t 30)) none),Oo 32 (.bslc 1 1 qZ2 [(0,(.t 31))]),Oo 33 (.app 1 16 qZ2 (.t 28) (.t 32)),oM 4 33]
 .ret))))))
abbrev h35:HF:=⟨h35c,[.tmp 4],34,false⟩
def h36l0:HC:=
 (.seq (sR [oM 41 8,oM 42 0,Oo 43 (.lenS (.t 42)),oC 44 .lss 41 43]
 (.cond (.t 44) .skip
 (.exit 0)))
 (.seq (.block 1 (.seq (sR [oM 47 0,oM 48 8,Oo 49 (.ixS (.t 47) (.t 48)),Oo 50 (.bin .lss (.t 49) (.k (.int .u8 48))),oM 51 50,gM 51 false 52 0,gM 51 false 53 8,Og 51 false 54 (.ixS (.t 52) (.t 53)),Og 51 false 55 (.bin .gtr (.t 54) (.k (.int .u8 57))),Oo 56 (.pick (.t 51) (.k (.bool true)) (.t 55))]
 (.cond (.t 56) (sR [oK 4 0,Oo 5 (.mov (.k (.bool false)))]
 .ret)
 .skip))
 (.region [oM 57 7,Oo 58 (.bin .mul (Ki 10) (.t 57)),oM 59 0,oM 60 8,Oo 61 (.ixS (.t 59) (.t 60)),Oo 62 (.bin .sub (.t 61) (.k (.int .u8 48))),Oo 63 (.conv .i64 (.t 62)),oC 64 .add 58 63,oM 7 64])))
 (.region [oM 45 8,oB 46 .add 45 1,oM 8 46])))
def h36c:HC:=
 (sR [oK 4 0,Oo 5 (.mov (.k (.bool false)))]
 (sR [oK 6 0]
 (.seq (sR [oM 9 0,Oo 10 (.lenS (.t 9)),oB 11 .gtr 10 0,oM 12 11,gM 12 true 13 0,Og 12 true 14 (.ixS (.t 13) (Ki 0)),Og 12 true 15 (.bin .eql (.t 14) (.k (.int .u8 45))),Oo 16 (.pick (.t 12) (.t 15) (.k (.bool false)))]
 (.cond (.t 16) (.region [oK 6 1])
 .skip))
 (.seq (sR [oM 17 0,Oo 18 (.lenS (.t 17)),oM 19 6,oC 20 .eql 18 19,oM 21 20,gM 21 false 22 0,Og 21 false 23 (.lenS (.t 22)),gM 21 false 24 6,Og 21 false 25 (.bin .sub (.t 23) (.t 24)),gM 21 false 26 1,Og 21 false 27 (.bin .gtr (.t 25) (.t 26)),Oo 28 (.pick (.t 21) (.k (.bool true)) (.t 27)),oM 29 28,gM 29 false 30 0,gM 29 false 31 6,Og 29 false 32 (.ixS (.t 30) (.t 31)),Og 29 false 33 (.bin .eql (.t 32) (.k (.int .u8 48))),gM 29 false 34 33,gM 34 true 35 0,Og 34 true 36 (.lenS (.t 35)),Og 34 true 37 (.bin .gtr (.t 36) (Ki 1)),Og 29 false 38 (.pick (.t 34) (.t 37) (.k (.bool false))),Oo 39 (.pick (.t 29) (.k (.bool true)) (.t 38))]
 (.cond (.t 39) (sR [oK 4 0,Oo 5 (.mov (.k (.bool false)))]
 .ret)
 .skip))
 (sR [oK 7 0]
 (.seq (sR [oM 40 6,oM 8 40]
 (.block 0 (.loop [0,5,0,0] h36l0)))
 (.seq (sR [oM 65 6,oB 66 .eql 65 1]
 (.cond (.t 66) (.region [oM 67 7,Oo 68 (.un .neg (.t 67)),oM 7 68])
 .skip))
 (sR [oM 69 7,oM 4 69,Oo 5 (.mov (.k (.bool true)))]
 .ret))))))))
abbrev h36:HF:=⟨h36c,[.tmp 4,.tmp 5],70,false⟩
def h37c:HC:=
 (sR [Oo 1 (.box (.t 0)),Oo 2 (.mov (.k (.bool false)))]
 (sR [oA 3 0 1,oL 4 3,Oo 5 (.bin .eql (.t 4) (Ki (-1))),oM 2 5]
 .ret))
abbrev h37:HF:=⟨h37c,[.tmp 2],6,false⟩
def h40l0:HC:=
 (.seq (sR [oM 10 0,oB 11 .neq 10 0]
 (.cond (.t 11) .skip
 (.exit 0)))
 (.block 1 (sR [oM 12 0,oB 13 .rem 12 10,oM 5 13]
 (sR [oM 14 5,oJ 15 81 14,Oo 16 (.bin .add (Ki 48) (.t 15)),Oo 17 (.conv .u8 (.t 16)),Oo 18 (.bslc 1 1 qZ1 [(0,(.t 17))]),Oo 19 (.cvbs (.t 18)),oM 20 3,oC 21 .add 19 20,oM 3 21]
 (.region [oM 22 0,oB 23 .quo 22 10,oM 0 23])))))
def h40c:HC:=
 (sR [Oo 2 (.mov (.k (.string ⟨#[]⟩)))]
 (.seq (sR [oM 6 0,oB 7 .eql 6 0]
 (.cond (.t 7) (sR [Oo 2 (.mov (.k (.string ⟨#[48]⟩)))]
 .ret)
 .skip))
 (sR [Oo 3 (.mov (.k (.string ⟨#[]⟩))),Oo 4 (.mov (.k (.string ⟨#[]⟩)))]
 (.seq (sR [oM 8 0,oB 9 .lss 8 0]
 (.cond (.t 9) (.region [Oo 4 (.mov (.k (.string ⟨#[45]⟩)))])
 .skip))
 (.seq (.block 0 (.loop [0,2,0] h40l0))
 (sR [oM 24 4,oM 25 3,oC 26 .add 24 25,oM 2 26]
 .ret))))))
abbrev h40:HF:=⟨h40c,[.tmp 2],27,false⟩
def h41c:HC:=
 (sR [Oo 4 (.alloc [Zi 0,Zi 0]),Oo 5 (.mov (.k (.bool false)))]
 (sR [oM 13 0,Oo 14 (.nilc (.t 13)),oL 15 14,Oo 16 (.ixS (.t 15) (Ki 0)),Oo 17 (.conv .i64 (.t 16)),oM 6 17]
 (sR [oM 18 0,oM 19 0,Oo 20 (.nilc (.t 19)),oL 21 20,Oo 22 (.slS (.t 21) (some (Ki 1)) none),Oo 23 (.nilc (.t 18)),oS 1 23 22]
 (sR [oM 24 6,oB 25 .and 24 15,oM 26 6,Oo 27 (.bin .shr (.t 26) (.k (.int .u64 4))),oM 7 25,oM 8 27]
 (.seq (sR [oM 28 7,Oo 29 (.call 82 [(.t 28),(Ki 1),(Ki 2)]),Oo 30 (.un .not (.t 29)),oM 31 30,gM 31 false 32 8,Og 31 false 33 (.bin .gtr (.t 32) (Ki 2)),Oo 34 (.pick (.t 31) (.k (.bool true)) (.t 33))]
 (.cond (.t 34) (sR [Oo 35 (.build [Zi 0,Zi 0] []),oS 2 4 35,Oo 5 (.mov (.k (.bool false)))]
 .ret)
 .skip))
 (sR [oM 37 0,oM 38 7,oJ2 39 83 37 38,oM 36 39,oE 40 36 0,oE 41 36 1,oM 9 40,oM 10 41]
 (.seq (sR [oM 42 10,Oo 43 (.un .not (.t 42)),oM 44 43,gM 44 false 45 8,Og 44 false 46 (.bin .eql (.t 45) (Ki 0)),Oo 47 (.pick (.t 44) (.k (.bool true)) (.t 46))]
 (.cond (.t 47) (sR [oM 48 9,Oo 49 (.build [Zi 0,Zi 0] [(0,1,(Ki (-1))),(1,1,(.t 48))]),oM 50 10,oS 2 4 49,oM 5 50]
 .ret)
 .skip))
 (sR [oM 52 0,oM 53 8,oJ2 54 83 52 53,oM 51 54,oE 55 51 0,oE 56 51 1,oM 11 55,oM 10 56]
 (sR [oM 57 1,oM 58 11,oC 59 .add 57 58,oM 60 9,Oo 61 (.build [Zi 0,Zi 0] [(0,1,(.t 59)),(1,1,(.t 60))]),Oo 12 (.alloc [Zi 0,Zi 0]),oS 2 12 61]
 (.seq (.drawn [Qo (oG 62 2 12),Qo (oM 63 10),Qo (oM 64 63),Qo (Og 64 true 65 (.load true 2 (.t 12))),Qo (Og 64 true 66 (.call 37 [(.t 65)])),Qo (Og 64 true 67 (.un .not (.t 66))),Qo (Oo 68 (.pick (.t 64) (.t 67) (.k (.bool false)))),Qe (oS 2 4 62),Qo (oM 5 68)])
 .ret))))))))))
abbrev h41:HF:=⟨h41c,[.cell 4 true 2,.tmp 5],69,false⟩
def h42l0:HC:=
 (.seq (.seq (.drawn [Qo (oM 4 0),Qo (oM 5 3),Qo (Oo 6 (.bin .mul (Ki 8) (.t 5))),Qo (oB 7 .sub 6 1),Qo (Oo 8 (.bin .shl (Ki (-1)) (.t 7))),Qo (oM 9 3),Qo (Oo 10 (.bin .mul (Ki 8) (.t 9))),Qo (oB 11 .sub 10 1),Qo (Oo 12 (.bin .shl (Ki 1) (.t 11))),Qo (oB 13 .sub 12 1),Qe (Oo 14 (.call 82 [(.t 4),(.t 8),(.t 13)])),Qo (Oo 15 (.un .not (.t 14)))])
 (.cond (.t 15) .skip
 (.exit 0)))
 (.block 1 (.region [oM 16 3,oB 17 .add 16 1,oM 3 17])))
def h42c:HC:=
 (sR [oK 2 0]
 (sR [oK 3 1]
 (.seq (.block 0 (.loop [0,2] h42l0))
 (sR [oM 18 3,oM 2 18]
 .ret))))
abbrev h42:HF:=⟨h42c,[.tmp 2],19,false⟩
def h43l0:HC:=
 (sR [oC 8 .lss 7 6]
 (.seq (.cond (.t 8) .skip
 (.exit 0))
 (.seq (.block 1 (sR [oM 9 5,oM 10 0,Oo 11 (.conv .u8 (.t 10)),Oo 12 (.bslc 1 1 qZ1 [(0,(.t 11))]),Oo 13 (.app 1 1 qZ1 (.t 9) (.t 12)),oM 5 13]
 (.region [oM 14 0,Oo 15 (.bin .shr (.t 14) (.k (.int .u64 8))),oM 0 15])))
 (.region [oB 16 .add 7 1,oM 7 16]))))
def h43c:HC:=
 (sR [Oo 4 (.mov (.k (.slice none 0 0)))]
 (sR [Oo 5 (.mov (.k (.slice none 0 0)))]
 (.gh (.nil 5 1) (.seq (sR [oM 6 1,oK 7 0]
 (.block 0 (.loop [0,4,0,0] h43l0)))
 (sR [oM 17 5,oM 4 17]
 .ret)))))
abbrev h43:HF:=⟨h43c,[.tmp 4],18,false⟩
def h44l0:HC:=
 (.seq (sR [oM 8 4,oM 9 0,oN 10 9,oC 11 .lss 8 10]
 (.cond (.t 11) .skip
 (.exit 0)))
 (.seq (.block 1 (.seq (sR [oM 14 0,oM 15 4,oI 16 2 14 15,oG 17 2 16,oJ 18 84 17,Oo 19 (.un .not (.t 18))]
 (.cond (.t 19) (sR [oM 20 4,oM 2 20,oK 3 2]
 .ret)
 .skip))
 (.seq (.seq (.drawn [Qo (oM 21 4),Qo (oB 22 .gtr 21 0),Qo (oM 23 22),Qo (gM 23 true 24 0),Qo (gM 23 true 25 4),Qo (Og 23 true 26 (.bin .sub (.t 25) (Ki 1))),Qo (Og 23 true 27 (.ixL 2 (.t 24) (.t 26))),Qo (Og 23 true 28 (.load true 2 (.t 27))),Qo (gM 23 true 29 0),Qo (gM 23 true 30 4),Qo (Og 23 true 31 (.ixL 2 (.t 29) (.t 30))),Qo (Og 23 true 32 (.load true 2 (.t 31))),Qe (Og 23 true 33 (.call 85 [(.t 28),(.t 32)])),Qo (Oo 34 (.pick (.t 23) (.t 33) (.k (.bool false))))])
 (.cond (.t 34) (sR [oM 35 4,oM 2 35,oK 3 3]
 .ret)
 .skip))
 (sR [oM 36 0,oM 37 4,oJ2 38 86 36 37]
 (.cond (.t 38) (sR [oM 39 4,oM 2 39,oK 3 23]
 .ret)
 .skip)))))
 (.region [oM 12 4,oB 13 .add 12 1,oM 4 13])))
def h44c:HC:=
 (sR [oK 2 0,oK 3 0]
 (.seq (sR [oM 5 0,oN 6 5,oB 7 .gtr 6 64]
 (.cond (.t 7) (sR [oK 2 0,oK 3 8]
 .ret)
 .skip))
 (.seq (sR [oK 4 0]
 (.block 0 (.loop [0,3] h44l0)))
 (.seq (sR [oM 40 0,oJ 41 87 40,oB 42 .gtr 41 4096]
 (.cond (.t 42) (sR [oK 2 0,oK 3 8]
 .ret)
 .skip))
 (sR [oK 2 0,oK 3 0]
 .ret)))))
abbrev h44:HF:=⟨h44c,[.tmp 2,.tmp 3],43,false⟩
def h65l0:HC:=
 (sR [oC 8 .lss 7 6]
 (.seq (.cond (.t 8) .skip
 (.exit 0))
 (.seq (.block 1 (sR [oI 9 1 5 7,oL 10 9,oM 4 10]
 (sR [oM 11 4,oB 12 .neq 11 0]
 (.cond (.t 12) (sR [oM 13 4,oM 2 13]
 .ret)
 .skip))))
 (.region [oB 14 .add 7 1,oM 7 14]))))
def h65c:HC:=
 (sR [oK 2 0]
 (.seq (sR [oM 5 0,oN 6 5,oK 7 0]
 (.block 0 (.loop [5,0,0] h65l0)))
 (sR [oK 2 0]
 .ret)))
abbrev h65:HF:=⟨h65c,[.tmp 2],15,false⟩
def h66c:HC:=
 (sR [oK 4 0]
 (.seq (sR [oM 5 0]
 (.cond (.t 5) (sR [oK 4 0]
 .ret)
 .skip))
 (sR [oM 6 1,oM 4 6]
 .ret)))
abbrev h66:HF:=⟨h66c,[.tmp 4],7,false⟩
def h67c:HC:=
 (sR [oK 6 0]
 (sR [oM 7 0,Oo 8 (.bslc 1 1 qZ0 [(0,(.t 7))]),oJ 9 34 8,oM 10 1,Oo 11 (.call 82 [(.t 10),(Ki 0),(Ki 4096)]),oM 12 11,gM 12 true 13 2,Og 12 true 14 (.call 82 [(.t 13),(Ki 0),(Ki 4096)]),Oo 15 (.pick (.t 12) (.t 14) (.k (.bool false))),Oo 16 (.call 66 [(.t 15),(Ki 2)]),oM 17 1,oM 18 0,oJ 19 70 18,oM 20 2,oC 21 .sub 19 20,oC 22 .leq 17 21,Oo 23 (.call 66 [(.t 22),(Ki 37)]),Oo 24 (.bslc 1 3 [Zi 0] [(0,(.t 9)),(1,(.t 16)),(2,(.t 23))]),oJ 25 65 24,oM 6 25]
 .ret))
abbrev h67:HF:=⟨h67c,[.tmp 6],26,false⟩
def h68l0:HC:=
 (sR [oC 10 .lss 9 8]
 (.seq (.cond (.t 10) .skip
 (.exit 0))
 (.seq (.block 1 (sR [oI 11 1 7 9,oL 12 11,oM 6 12]
 (.region [oM 13 6,oJ2 14 106 4 13])))
 (.region [oB 15 .add 9 1,oM 9 15]))))
def h68c:HC:=
 (sR [Oo 2 (.mov (.k (.slice none 0 0))),oK 3 0]
 (sR [Oo 4 (.alloc qZ0)]
 (.gh (.nilB 4 0 2) (.seq (sR [oM 7 0,oN 8 7,oK 9 0]
 (.block 0 (.loop [4,2,0,0] h68l0)))
 (sR [oJ 16 107 4,oE 17 16 0,oE 18 16 1,oM 2 17,oM 3 18]
 .ret)))))
abbrev h68:HF:=⟨h68c,[.tmp 2,.tmp 3],19,false⟩
def h69l0:HC:=
 (sR [oC 16 .lss 15 14]
 (.seq (.cond (.t 16) .skip
 (.exit 0))
 (.seq (.block 1 (sR [oI 17 2 13 15,oG 18 2 17,Oo 9 (.alloc [Zi 0,Zi 0]),oS 2 9 18]
 (sR [oM 19 1,oA 20 1 9,oL 21 20,Oo 22 (.min2 (.t 19) (.t 21)),oM 10 22]
 (sR [oM 23 1,oM 24 10,oC 25 .sub 23 24,oM 1 25]
 (sR [oM 26 2,oA 27 1 9,oL 28 27,oM 29 10,oC 30 .sub 28 29,Oo 31 (.min2 (.t 26) (.t 30)),oM 11 31]
 (sR [oM 32 2,oM 33 11,oC 34 .sub 32 33,oM 2 34]
 (.seq (sR [oM 35 11,oB 36 .eql 35 0]
 (.cond (.t 36) (.exit 1)
 .skip))
 (sR [oM 37 11,Oo 38 (.build [Zi 0,Zi 0] [(0,1,(Ki (-1))),(1,1,(.t 37))]),Oo 12 (.alloc [Zi 0,Zi 0]),oS 2 12 38]
 (.seq (sR [oG 39 2 9,oJ 40 37 39,Oo 41 (.un .not (.t 40))]
 (.cond (.t 41) (.region [oA 42 0 9,oL 43 42,oM 44 10,oC 45 .add 43 44,oA 46 0 12,oS 1 46 45])
 .skip))
 (.region [oM 47 7,oG 48 2 12,Oo 49 (.bslc 2 1 [Zi 0,Zi 0] [(0,(.t 48))]),Oo 50 (.app 2 16 [Zi 0,Zi 0] (.t 47) (.t 49)),oM 7 50]))))))))))
 (.region [oB 51 .add 15 1,oM 15 51]))))
def h69c:HC:=
 (sR [Oo 6 (.mov (.k (.slice none 0 0)))]
 (sR [Oo 7 (.mov (.k (.slice none 0 0)))]
 (.gh (.nil 7 2) (.seq (sR [oM 13 0,oN 14 13,oK 15 0]
 (.block 0 (.loop [1,0,4,5,0,0] h69l0)))
 (sR [oM 52 7,oM 6 52]
 .ret)))))
abbrev h69:HF:=⟨h69c,[.tmp 6],53,false⟩
def h70l0:HC:=
 (sR [oC 9 .lss 8 7]
 (.seq (.cond (.t 9) .skip
 (.exit 0))
 (.seq (.block 1 (sR [oI 10 2 6 8,oG 11 2 10,Oo 5 (.alloc [Zi 0,Zi 0]),oS 2 5 11]
 (.region [oM 12 3,oA 13 1 5,oL 14 13,oC 15 .add 12 14,oM 3 15])))
 (.region [oB 16 .add 8 1,oM 8 16]))))
def h70c:HC:=
 (sR [oK 2 0]
 (sR [oK 3 0]
 (.seq (sR [oM 6 0,oN 7 6,oK 8 0]
 (.block 0 (.loop [3,2,0,0] h70l0)))
 (sR [oM 17 3,oM 2 17]
 .ret))))
abbrev h70:HF:=⟨h70c,[.tmp 2],18,false⟩
def h71c:HC:=
 (sR [oK 8 0]
 (sR [oM 9 0,oM 10 2,Oo 11 (.bslc 1 2 qZ0 [(0,(.t 9)),(1,(.t 10))]),oJ 12 34 11,oM 13 1,Oo 14 (.call 82 [(.t 13),(Ki 0),(Ki 4096)]),Oo 15 (.call 66 [(.t 14),(Ki 2)]),oM 16 1,oM 17 0,oJ 18 70 17,oM 19 3,oC 20 .sub 18 19,oC 21 .leq 16 20,Oo 22 (.call 66 [(.t 21),(Ki 37)]),Oo 23 (.bslc 1 3 [Zi 0] [(0,(.t 12)),(1,(.t 15)),(2,(.t 22))]),oJ 24 65 23,oM 8 24]
 .ret))
abbrev h71:HF:=⟨h71c,[.tmp 8],25,false⟩
def h72l0:HC:=
 (sR [oC 9 .lss 8 7]
 (.seq (.cond (.t 9) .skip
 (.exit 0))
 (.seq (.block 1 (sR [oI 10 2 6 8,oG 11 2 10,Oo 5 (.alloc [Zi 0,Zi 0]),oS 2 5 11]
 (.region [oM 12 0,oG 13 2 5,oJ2 14 108 12 13])))
 (.region [oB 15 .add 8 1,oM 8 15]))))
def h72c:HC:=
 (sR [oM 6 1,oN 7 6,oK 8 0]
 (.block 0 (.loop [0,5,0,0] h72l0)))
abbrev h72:HF:=⟨h72c,[],16,false⟩
def h73l0:HC:=
 (sR [oB 8 .lss 7 512]
 (.seq (.cond (.t 8) .skip
 (.exit 0))
 (.seq (.block 1 (.seq (.drawn [Qo (oM 9 7),Qo (Oo 10 (.nilc (.t 6))),Qo (Oo 11 (.ixA 512 1 (.t 10) (.t 7))),Qo (oL 12 11),Qo (oM 4 9),Qo (oM 5 12)])
 (sR [oM 13 5]
 (.cond (.t 13) (.region [oM 14 4,Oo 15 (.build [Zi 0,Zi 0] [(0,1,(.t 14)),(1,1,(Ki 1))]),oJ2 16 109 3 15])
 .skip))))
 (.region [oB 17 .add 7 1,oM 7 17]))))
def h73c:HC:=
 (sR [Oo 2 (.mov (.k (.slice none 0 0)))]
 (sR [Oo 3 (.alloc qZ0)]
 (.gh (.nilB 3 0 2) (.seq (sR [oM 6 0,oK 7 0]
 (.block 0 (.loop [3,2,0] h73l0)))
 (sR [oA 18 0 3,oL 19 18,oM 2 19]
 .ret)))))
abbrev h73:HF:=⟨h73c,[.tmp 2],20,false⟩
def h76l0:HC:=
 (sR [oC 14 .lss 13 12]
 (.seq (.cond (.t 14) .skip
 (.exit 0))
 (.seq (.block 1 (sR [oM 15 13,oI 16 2 11 13,oG 17 2 16,Oo 6 (.alloc [Zi 0,Zi 0]),oM 5 15,oS 2 6 17]
 (.seq (sR [oG 18 2 6,oJ 19 114 18,oM 7 19]
 (sR [oM 20 7,oB 21 .neq 20 0]
 (.cond (.t 21) (sR [oM 22 5,oM 23 7,oM 2 22,oM 3 23]
 .ret)
 .skip)))
 (.seq (.seq (.drawn [Qo (oM 24 5),Qo (oB 25 .gtr 24 0),Qo (oM 26 25),Qo (gM 26 true 27 0),Qo (gM 26 true 28 5),Qo (Og 26 true 29 (.bin .sub (.t 28) (Ki 1))),Qo (Og 26 true 30 (.ixL 2 (.t 27) (.t 29))),Qo (Og 26 true 31 (.load true 2 (.t 30))),Qo (Og 26 true 32 (.load true 2 (.t 6))),Qe (Og 26 true 33 (.call 115 [(.t 31),(.t 32)])),Qo (Oo 34 (.pick (.t 26) (.t 33) (.k (.bool false))))])
 (.cond (.t 34) (sR [oM 35 5,oM 2 35,oK 3 3]
 .ret)
 .skip))
 (sR [oG 36 2 6,oJ2 37 108 4 36,Oo 38 (.un .not (.t 37))]
 (.cond (.t 38) (sR [oM 39 5,oM 2 39,oK 3 23]
 .ret)
 .skip))))))
 (.region [oB 40 .add 13 1,oM 13 40]))))
def h76c:HC:=
 (sR [oK 2 0,oK 3 0]
 (.seq (sR [oM 8 0,oN 9 8,oB 10 .gtr 9 64]
 (.cond (.t 10) (sR [oK 2 0,oK 3 8]
 .ret)
 .skip))
 (sR [Oo 4 (.alloc (List.replicate 512 (.bool false)))]
 (.seq (sR [oM 11 0,oN 12 11,oK 13 0]
 (.block 0 (.loop [0,3,6,0,0] h76l0)))
 (sR [oM 41 0,oJ 42 70 41,oB 43 .leq 42 4096,Oo 44 (.call 66 [(.t 43),(Ki 8)]),oK 2 0,oM 3 44]
 .ret)))))
abbrev h76:HF:=⟨h76c,[.tmp 2,.tmp 3],45,false⟩
def h81c:HC:=
 (sR [oK 2 0]
 (sR [oM 3 0,oM 4 0,Oo 5 (.un .neg (.t 4)),Oo 6 (.max2 (.t 3) (.t 5)),oM 2 6]
 .ret))
abbrev h81:HF:=⟨h81c,[.tmp 2],7,false⟩
def h82c:HC:=
 (sR [Oo 6 (.mov (.k (.bool false)))]
 (sR [oM 7 1,oM 8 0,oC 9 .leq 7 8,oM 10 9,gM 10 true 11 0,gM 10 true 12 2,Og 10 true 13 (.bin .leq (.t 11) (.t 12)),Oo 14 (.pick (.t 10) (.t 13) (.k (.bool false))),oM 6 14]
 .ret))
abbrev h82:HF:=⟨h82c,[.tmp 6],15,false⟩
def h83l0:HC:=
 (.seq (sR [oM 16 7,oB 17 .geq 16 0]
 (.cond (.t 17) .skip
 (.exit 0)))
 (.seq (.block 1 (.region [oM 20 6,Oo 21 (.bin .shl (.t 20) (.k (.int .u64 8))),oM 22 0,Oo 23 (.nilc (.t 22)),oL 24 23,oM 25 7,Oo 26 (.ixS (.t 24) (.t 25)),Oo 27 (.conv .i64 (.t 26)),oC 28 .or 21 27,oM 6 28]))
 (.region [oM 18 7,oB 19 .sub 18 1,oM 7 19])))
def h83c:HC:=
 (sR [oK 4 0,Oo 5 (.mov (.k (.bool false)))]
 (.seq (sR [oM 8 1,oM 9 0,Oo 10 (.nilc (.t 9)),oL 11 10,Oo 12 (.lenS (.t 11)),oC 13 .gtr 8 12]
 (.cond (.t 13) (sR [oK 4 0,Oo 5 (.mov (.k (.bool false)))]
 .ret)
 .skip))
 (sR [oK 6 0]
 (.seq (sR [oM 14 1,oB 15 .sub 14 1,oM 7 15]
 (.block 0 (.loop [0,0,4,0] h83l0)))
 (sR [oM 29 0,oM 30 0,Oo 31 (.nilc (.t 30)),oL 32 31,oM 33 1,Oo 34 (.slS (.t 32) (some (.t 33)) none),Oo 35 (.nilc (.t 29)),oS 1 35 34]
 (.seq (sR [oM 36 6,oM 37 1,Oo 38 (.bin .mul (Ki 8) (.t 37)),oB 39 .sub 38 1,Oo 40 (.bin .shl (Ki 1) (.t 39)),oC 41 .geq 36 40]
 (.cond (.t 41) (.region [oM 42 6,oM 43 1,Oo 44 (.bin .mul (Ki 8) (.t 43)),Oo 45 (.bin .shl (Ki 1) (.t 44)),oC 46 .sub 42 45,oM 6 46])
 .skip))
 (sR [oM 47 6,oM 48 6,oJ 49 42 48,oM 50 1,oC 51 .eql 49 50,oM 4 47,oM 5 51]
 .ret)))))))
abbrev h83:HF:=⟨h83c,[.tmp 4,.tmp 5],52,false⟩
def h84c:HC:=
 (sR [Oo 1 (.box (.t 0)),Oo 2 (.mov (.k (.bool false)))]
 (.seq (sR [oA 3 0 1,oL 4 3,Oo 5 (.bin .eql (.t 4) (Ki (-1)))]
 (.cond (.t 5) (sR [oA 6 1 1,oL 7 6,Oo 8 (.call 25 [(.t 7),(Ki 1),(Ki 4096)]),oM 2 8]
 .ret)
 .skip))
 (sR [oA 9 0 1,oL 10 9,Oo 11 (.call 25 [(.t 10),(Ki 0),(Ki 511)]),oM 12 11,Og 12 true 13 (.addo 1 (.t 1)),Og 12 true 14 (.load false 1 (.t 13)),Og 12 true 15 (.addo 0 (.t 1)),Og 12 true 16 (.load false 1 (.t 15)),Og 12 true 17 (.bin .sub (Ki 512) (.t 16)),Og 12 true 18 (.call 25 [(.t 14),(Ki 1),(.t 17)]),Oo 19 (.pick (.t 12) (.t 18) (.k (.bool false))),oM 2 19]
 .ret)))
abbrev h84:HF:=⟨h84c,[.tmp 2],20,false⟩
def h85c:HC:=
 (sR [Oo 2 (.box (.t 0)),Oo 3 (.box (.t 1)),Oo 4 (.mov (.k (.bool false)))]
 (.seq (sR [oA 5 0 2,oL 6 5,Oo 7 (.bin .eql (.t 6) (Ki (-1))),oM 8 7,Og 8 false 9 (.addo 0 (.t 3)),Og 8 false 10 (.load false 1 (.t 9)),Og 8 false 11 (.bin .eql (.t 10) (Ki (-1))),Oo 12 (.pick (.t 8) (.k (.bool true)) (.t 11))]
 (.cond (.t 12) (sR [oA 13 0 2,oL 14 13,oA 15 0 3,oL 16 15,oC 17 .eql 14 16,oM 4 17]
 .ret)
 .skip))
 (sR [oA 18 0 3,oL 19 18,oA 20 0 2,oL 21 20,oA 22 1 2,oL 23 22,oC 24 .add 21 23,oC 25 .eql 19 24,oM 4 25]
 .ret)))
abbrev h85:HF:=⟨h85c,[.tmp 4],26,false⟩
def h86l0:HC:=
 (.seq (sR [oM 6 5,oM 7 1,oC 8 .lss 6 7]
 (.cond (.t 8) .skip
 (.exit 0)))
 (.seq (.block 1 (.seq (.drawn [Qo (oM 11 0),Qo (oM 12 5),Qo (oI 13 2 11 12),Qo (oG 14 2 13),Qo (oM 15 0),Qo (oM 16 1),Qo (oI 17 2 15 16),Qo (oG 18 2 17),Qe (oJ2 19 118 14 18)])
 (.cond (.t 19) (sR [Oo 4 (.mov (.k (.bool true)))]
 .ret)
 .skip)))
 (.region [oM 9 5,oB 10 .add 9 1,oM 5 10])))
def h86c:HC:=
 (sR [Oo 4 (.mov (.k (.bool false)))]
 (.seq (sR [oK 5 0]
 (.block 0 (.loop [0,0,3] h86l0)))
 (sR [Oo 4 (.mov (.k (.bool false)))]
 .ret)))
abbrev h86:HF:=⟨h86c,[.tmp 4],20,false⟩
def h87l0:HC:=
 (.seq (sR [oM 5 4,oM 6 0,oN 7 6,oC 8 .lss 5 7]
 (.cond (.t 8) .skip
 (.exit 0)))
 (.seq (.block 1 (.region [oM 11 3,oM 12 0,oM 13 4,oI 14 2 12 13,oA 15 1 14,oL 16 15,oC 17 .add 11 16,oM 3 17]))
 (.region [oM 9 4,oB 10 .add 9 1,oM 4 10])))
def h87c:HC:=
 (sR [oK 2 0]
 (sR [oK 3 0]
 (.seq (sR [oK 4 0]
 (.block 0 (.loop [0,2,0] h87l0)))
 (sR [oM 18 3,oM 2 18]
 .ret))))
abbrev h87:HF:=⟨h87c,[.tmp 2],19,false⟩
def h106l0:HC:=
 (sR [oC 9 .lss 8 7]
 (.seq (.cond (.t 9) .skip
 (.exit 0))
 (.seq (.block 1 (sR [oI 10 2 6 8,oG 11 2 10,Oo 5 (.alloc [Zi 0,Zi 0]),oS 2 5 11]
 (.region [oM 12 0,oG 13 2 5,oJ2 14 109 12 13])))
 (.region [oB 15 .add 8 1,oM 8 15]))))
def h106c:HC:=
 (sR [oM 6 1,oN 7 6,oK 8 0]
 (.block 0 (.loop [0,5,0,0] h106l0)))
abbrev h106:HF:=⟨h106c,[],16,false⟩
def h107l0:HC:=
 (sR [oC 15 .lss 14 13]
 (.seq (.cond (.t 15) .skip
 (.exit 0))
 (.seq (.block 1 (sR [oI 16 2 12 14,oG 17 2 16,Oo 7 (.alloc [Zi 0,Zi 0]),oS 2 7 17]
 (.region [oG 18 2 7,oJ2 19 108 4 18,oM 20 19,gM 20 true 21 5,Oo 22 (.pick (.t 20) (.t 21) (.k (.bool false))),oM 5 22])))
 (.region [oB 23 .add 14 1,oM 14 23]))))
def h107c:HC:=
 (sR [Oo 2 (.mov (.k (.slice none 0 0))),oK 3 0]
 (sR [Oo 4 (.alloc (List.replicate 512 (.bool false)))]
 (sR [Oo 5 (.mov (.k (.bool true)))]
 (.seq (sR [oM 9 0,Oo 10 (.nilc (.t 9)),oA 11 0 10,oL 12 11,oN 13 12,oK 14 0]
 (.block 0 (.loop [0,3,0,6,0,0] h107l0)))
 (.seq (.seq (.drawn [Qo (oM 24 5),Qo (Oo 25 (.call 66 [(.t 24),(Ki 23)])),Qo (oM 26 0),Qo (Oo 27 (.nilc (.t 26))),Qo (oA 28 0 27),Qo (oL 29 28),Qe (oJ 30 70 29),Qo (oB 31 .leq 30 4096),Qo (oM 32 31),Qo (gM 32 true 33 0),Qo (Og 32 true 34 (.nilc (.t 33))),Qo (Og 32 true 35 (.addo 0 (.t 34))),Qo (Og 32 true 36 (.load false 1 (.t 35))),Qo (Og 32 true 37 (.lenL (.t 36))),Qo (Og 32 true 38 (.bin .leq (.t 37) (Ki 64))),Qo (Oo 39 (.pick (.t 32) (.t 38) (.k (.bool false)))),Qe (Oo 40 (.call 66 [(.t 39),(Ki 8)])),Qe (Oo 41 (.bslc 1 2 [Zi 0] [(0,(.t 25)),(1,(.t 40))])),Qe (oJ 42 65 41),Qo (oM 8 42)])
 (sR [oM 43 8,oB 44 .neq 43 0]
 (.cond (.t 44) (sR [oM 45 8,Oo 2 (.mov (.k (.slice none 0 0))),oM 3 45]
 .ret)
 .skip)))
 (sR [oM 46 0,Oo 47 (.nilc (.t 46)),oA 48 0 47,oL 49 48,oM 2 49,oK 3 0]
 .ret))))))
abbrev h107:HF:=⟨h107c,[.tmp 2,.tmp 3],50,false⟩
def h108l0:HC:=
 (.seq (sR [oM 11 6,oA 12 0 3,oL 13 12,oA 14 1 3,oL 15 14,oC 16 .add 13 15,oC 17 .lss 11 16]
 (.cond (.t 17) .skip
 (.exit 0)))
 (.seq (.block 1 (sR [oM 20 5,oM 21 20,gM 21 true 22 0,gM 21 true 23 6,Og 21 true 24 (.nilc (.t 22)),Og 21 true 25 (.ixA 512 1 (.t 24) (.t 23)),Og 21 true 26 (.load false 1 (.t 25)),Og 21 true 27 (.un .not (.t 26)),Oo 28 (.pick (.t 21) (.t 27) (.k (.bool false))),oM 5 28]
 (.region [oM 29 0,oM 30 6,Oo 31 (.nilc (.t 29)),Oo 32 (.ixA 512 1 (.t 31) (.t 30)),On (.store 1 (.t 32) (.k (.bool true)))])))
 (.region [oM 18 6,oB 19 .add 18 1,oM 6 19])))
def h108c:HC:=
 (sR [Oo 3 (.box (.t 1)),Oo 4 (.mov (.k (.bool false)))]
 (.seq (sR [oG 7 2 3,oJ 8 37 7]
 (.cond (.t 8) (sR [Oo 4 (.mov (.k (.bool true)))]
 .ret)
 .skip))
 (sR [Oo 5 (.mov (.k (.bool true)))]
 (.seq (sR [oA 9 0 3,oL 10 9,oM 6 10]
 (.block 0 (.loop [0,2,1,0] h108l0)))
 (sR [oM 33 5,oM 4 33]
 .ret)))))
abbrev h108:HF:=⟨h108c,[.tmp 4],34,false⟩
def h109c:HC:=
 (sR [Oo 3 (.box (.t 1))]
 (.seq (sR [oM 5 0,Oo 6 (.nilc (.t 5)),oA 7 0 6,oL 8 7,oN 9 8,oM 4 9]
 (.seq (.drawn [Qo (oM 10 4),Qo (oB 11 .gtr 10 0),Qo (oM 12 11),Qo (gM 12 true 13 0),Qo (Og 12 true 14 (.nilc (.t 13))),Qo (Og 12 true 15 (.addo 0 (.t 14))),Qo (Og 12 true 16 (.load false 1 (.t 15))),Qo (gM 12 true 17 4),Qo (Og 12 true 18 (.bin .sub (.t 17) (Ki 1))),Qo (Og 12 true 19 (.ixL 2 (.t 16) (.t 18))),Qo (Og 12 true 20 (.load true 2 (.t 19))),Qo (Og 12 true 21 (.load true 2 (.t 3))),Qe (Og 12 true 22 (.call 115 [(.t 20),(.t 21)])),Qo (Oo 23 (.pick (.t 12) (.t 22) (.k (.bool false))))])
 (.cond (.t 23) (.seq (.drawn [Qo (oM 24 0),Qo (Oo 25 (.nilc (.t 24))),Qo (oA 26 0 25),Qo (oL 27 26),Qo (oM 28 4),Qo (oB 29 .sub 28 1),Qo (oI 30 2 27 29),Qo (oA 31 1 30),Qo (oL 32 31),Qo (oA 33 1 3),Qo (oL 34 33),Qo (oC 35 .add 32 34),Qo (oI 36 2 27 29),Qo (oA 37 1 36),Qe (oS 1 37 35)])
 .ret)
 .skip)))
 (.drawn [Qo (oM 38 0),Qo (oM 39 0),Qo (Oo 40 (.nilc (.t 39))),Qo (oA 41 0 40),Qo (oL 42 41),Qo (oG 43 2 3),Qe (Oo 44 (.bslc 2 1 [Zi 0,Zi 0] [(0,(.t 43))])),Qe (Oo 45 (.app 2 16 [Zi 0,Zi 0] (.t 42) (.t 44))),Qo (Oo 46 (.nilc (.t 38))),Qo (oA 47 0 46),Qe (oS 1 47 45)])))
abbrev h109:HF:=⟨h109c,[],48,false⟩
def h114c:HC:=
 (sR [Oo 1 (.box (.t 0)),oK 2 0]
 (.seq (sR [oG 3 2 1,oJ 4 37 3]
 (.cond (.t 4) (sR [oA 5 1 1,oL 6 5,Oo 7 (.call 82 [(.t 6),(Ki 1),(Ki 4096)]),Oo 8 (.call 66 [(.t 7),(Ki 2)]),oM 2 8]
 .ret)
 .skip))
 (.seq (sR [oA 9 0 1,oL 10 9,Oo 11 (.call 82 [(.t 10),(Ki 0),(Ki 511)]),Oo 12 (.un .not (.t 11))]
 (.cond (.t 12) (sR [oK 2 2]
 .ret)
 .skip))
 (sR [oA 13 1 1,oL 14 13,oA 15 0 1,oL 16 15,Oo 17 (.bin .sub (Ki 512) (.t 16)),Oo 18 (.call 82 [(.t 14),(Ki 1),(.t 17)]),Oo 19 (.call 66 [(.t 18),(Ki 2)]),oM 2 19]
 .ret))))
abbrev h114:HF:=⟨h114c,[.tmp 2],20,false⟩
def h115c:HC:=
 (sR [Oo 2 (.box (.t 0)),Oo 3 (.box (.t 1)),Oo 4 (.mov (.k (.bool false)))]
 (.seq (.drawn [Qo (oG 5 2 2),Qo (oJ 6 37 5),Qo (oG 7 2 3),Qe (oJ 8 37 7),Qo (Oo 9 (.binb false (.t 6) (.t 8))),Qo (oM 10 9),Qo (Og 10 true 11 (.load true 2 (.t 2))),Qe (Og 10 true 12 (.call 37 [(.t 11)])),Qo (gM 10 true 13 12),Qo (Og 13 false 14 (.addo 0 (.t 2))),Qo (Og 13 false 15 (.load false 1 (.t 14))),Qo (Og 13 false 16 (.addo 1 (.t 2))),Qo (Og 13 false 17 (.load false 1 (.t 16))),Qo (Og 13 false 18 (.bin .add (.t 15) (.t 17))),Qo (Og 13 false 19 (.addo 0 (.t 3))),Qo (Og 13 false 20 (.load false 1 (.t 19))),Qo (Og 13 false 21 (.bin .eql (.t 18) (.t 20))),Qo (Og 10 true 22 (.pick (.t 13) (.k (.bool true)) (.t 21))),Qo (Oo 23 (.pick (.t 10) (.t 22) (.k (.bool false)))),Qo (oM 4 23)])
 .ret))
abbrev h115:HF:=⟨h115c,[.tmp 4],24,false⟩
def h118c:HC:=
 (sR [Oo 2 (.box (.t 0)),Oo 3 (.box (.t 1)),Oo 4 (.mov (.k (.bool false)))]
 (sR [oA 5 0 2,oL 6 5,Oo 7 (.bin .neq (.t 6) (Ki (-1))),oM 8 7,Og 8 true 9 (.addo 0 (.t 3)),Og 8 true 10 (.load false 1 (.t 9)),Og 8 true 11 (.bin .neq (.t 10) (Ki (-1))),Oo 12 (.pick (.t 8) (.t 11) (.k (.bool false))),oM 13 12,Og 13 true 14 (.addo 0 (.t 2)),Og 13 true 15 (.load false 1 (.t 14)),Og 13 true 16 (.addo 0 (.t 3)),Og 13 true 17 (.load false 1 (.t 16)),Og 13 true 18 (.addo 1 (.t 3)),Og 13 true 19 (.load false 1 (.t 18)),Og 13 true 20 (.bin .add (.t 17) (.t 19)),Og 13 true 21 (.bin .lss (.t 15) (.t 20)),Oo 22 (.pick (.t 13) (.t 21) (.k (.bool false))),oM 23 22,Og 23 true 24 (.addo 0 (.t 3)),Og 23 true 25 (.load false 1 (.t 24)),Og 23 true 26 (.addo 0 (.t 2)),Og 23 true 27 (.load false 1 (.t 26)),Og 23 true 28 (.addo 1 (.t 2)),Og 23 true 29 (.load false 1 (.t 28)),Og 23 true 30 (.bin .add (.t 27) (.t 29)),Og 23 true 31 (.bin .lss (.t 25) (.t 30)),Oo 32 (.pick (.t 23) (.t 31) (.k (.bool false))),oM 4 32]
 .ret))
abbrev h118:HF:=⟨h118c,[.tmp 4],33,false⟩
def Tbt0:FuncId→Option HF
  | 3=>some h3
  | 4=>some h4
  | 7=>some h7
  | 9=>some h9
  | 10=>some h10
  | 11=>some h11
  | 12=>some h12
  | 13=>some h13
  | 14=>some h14
  | 15=>some h15
  | 16=>some h16
  | 17=>some h17
  | 25=>some h25
  | 26=>some h26
  | 27=>some h27
  | 28=>some h28
  | 29=>some h29
  | 30=>some h30
  | 34=>some h34
  | 35=>some h35
  | 36=>some h36
  | 37=>some h37
  | 40=>some h40
  | 41=>some h41
  | _=>none
theorem Tbt0_ok (f:FuncId) (h:HF) (hf:Tbt0 f=some h):okF Tryz.prog f=true∧∃ fn,Tryz.prog.funcs[f]?=some fn∧fn.ntmps=h.nt∧fn.body.bind (compileC Tryz.prog)=some h.code.er∧fn.results.toList.mapM (retOf Tryz.prog)=some h.rs:=by
  unfold Tbt0 at hf
  split at hf
  · exact tk hf (by kernel_rfl) Tryz.func3 Tryz.ntmps3 (by unfold CK;kernel_rfl) (by unfold RK;kernel_rfl)
  · exact tk hf (by kernel_rfl) Tryz.func4 Tryz.ntmps4 (by unfold CK;kernel_rfl) (by unfold RK;kernel_rfl)
  · exact tk hf (by kernel_rfl) Tryz.func7 Tryz.ntmps7 (by unfold CK;kernel_rfl) (by unfold RK;kernel_rfl)
  · exact tk hf (by kernel_rfl) Tryz.func9 Tryz.ntmps9 (by unfold CK;kernel_rfl) (by unfold RK;kernel_rfl)
  · exact tk hf (by kernel_rfl) Tryz.func10 Tryz.ntmps10 (by unfold CK;kernel_rfl) (by unfold RK;kernel_rfl)
  · exact tk hf (by kernel_rfl) Tryz.func11 Tryz.ntmps11 (by unfold CK;kernel_rfl) (by unfold RK;kernel_rfl)
  · exact tk hf (by kernel_rfl) Tryz.func12 Tryz.ntmps12 (by unfold CK;kernel_rfl) (by unfold RK;kernel_rfl)
  · exact tk hf (by kernel_rfl) Tryz.func13 Tryz.ntmps13 (by unfold CK;kernel_rfl) (by unfold RK;kernel_rfl)
  · exact tk hf (by kernel_rfl) Tryz.func14 Tryz.ntmps14 (by unfold CK;kernel_rfl) (by unfold RK;kernel_rfl)
  · exact tk hf (by kernel_rfl) Tryz.func15 Tryz.ntmps15 (by unfold CK;kernel_rfl) (by unfold RK;kernel_rfl)
  · exact tk hf (by kernel_rfl) Tryz.func16 Tryz.ntmps16 (by unfold CK;kernel_rfl) (by unfold RK;kernel_rfl)
  · exact tk hf (by kernel_rfl) Tryz.func17 Tryz.ntmps17 (by unfold CK;kernel_rfl) (by unfold RK;kernel_rfl)
  · exact tk hf (by kernel_rfl) Tryz.func25 Tryz.ntmps25 (by unfold CK;kernel_rfl) (by unfold RK;kernel_rfl)
  · exact tk hf (by kernel_rfl) Tryz.func26 Tryz.ntmps26 (by unfold CK;kernel_rfl) (by unfold RK;kernel_rfl)
  · exact tk hf (by kernel_rfl) Tryz.func27 Tryz.ntmps27 (by unfold CK;kernel_rfl) (by unfold RK;kernel_rfl)
  · exact tk hf (by kernel_rfl) Tryz.func28 Tryz.ntmps28 (by unfold CK;kernel_rfl) (by unfold RK;kernel_rfl)
  · exact tk hf (by kernel_rfl) Tryz.func29 Tryz.ntmps29 (by unfold CK;kernel_rfl) (by unfold RK;kernel_rfl)
  · exact tk hf (by kernel_rfl) Tryz.func30 Tryz.ntmps30 (by unfold CK;kernel_rfl) (by unfold RK;kernel_rfl)
  · exact tk hf (by kernel_rfl) Tryz.func34 Tryz.ntmps34 (by unfold CK;kernel_rfl) (by unfold RK;kernel_rfl)
  · exact tk hf (by kernel_rfl) Tryz.func35 Tryz.ntmps35 (by unfold CK;kernel_rfl) (by unfold RK;kernel_rfl)
  · exact tk hf (by kernel_rfl) Tryz.func36 Tryz.ntmps36 (by unfold CK;kernel_rfl) (by unfold RK;kernel_rfl)
  · exact tk hf (by kernel_rfl) Tryz.func37 Tryz.ntmps37 (by unfold CK;kernel_rfl) (by unfold RK;kernel_rfl)
  · exact tk hf (by kernel_rfl) Tryz.func40 Tryz.ntmps40 (by unfold CK;kernel_rfl) (by unfold RK;kernel_rfl)
  · exact tk hf (by kernel_rfl) Tryz.func41 Tryz.ntmps41 (by unfold CK;kernel_rfl) (by unfold RK;kernel_rfl)
  · cases hf
def Tbt1:FuncId→Option HF
  | 42=>some h42
  | 43=>some h43
  | 44=>some h44
  | 65=>some h65
  | 66=>some h66
  | 67=>some h67
  | 68=>some h68
  | 69=>some h69
  | 70=>some h70
  | 71=>some h71
  | 72=>some h72
  | 73=>some h73
  | 76=>some h76
  | 81=>some h81
  | 82=>some h82
  | 83=>some h83
  | 84=>some h84
  | 85=>some h85
  | 86=>some h86
  | 87=>some h87
  | 106=>some h106
  | 107=>some h107
  | 108=>some h108
  | 109=>some h109
  | _=>none
theorem Tbt1_ok (f:FuncId) (h:HF) (hf:Tbt1 f=some h):okF Tryz.prog f=true∧∃ fn,Tryz.prog.funcs[f]?=some fn∧fn.ntmps=h.nt∧fn.body.bind (compileC Tryz.prog)=some h.code.er∧fn.results.toList.mapM (retOf Tryz.prog)=some h.rs:=by
  unfold Tbt1 at hf
  split at hf
  · exact tk hf (by kernel_rfl) Tryz.func42 Tryz.ntmps42 (by unfold CK;kernel_rfl) (by unfold RK;kernel_rfl)
  · exact tk hf (by kernel_rfl) Tryz.func43 Tryz.ntmps43 (by unfold CK;kernel_rfl) (by unfold RK;kernel_rfl)
  · exact tk hf (by kernel_rfl) Tryz.func44 Tryz.ntmps44 (by unfold CK;kernel_rfl) (by unfold RK;kernel_rfl)
  · exact tk hf (by kernel_rfl) Tryz.func65 Tryz.ntmps65 (by unfold CK;kernel_rfl) (by unfold RK;kernel_rfl)
  · exact tk hf (by kernel_rfl) Tryz.func66 Tryz.ntmps66 (by unfold CK;kernel_rfl) (by unfold RK;kernel_rfl)
  · exact tk hf (by kernel_rfl) Tryz.func67 Tryz.ntmps67 (by unfold CK;kernel_rfl) (by unfold RK;kernel_rfl)
  · exact tk hf (by kernel_rfl) Tryz.func68 Tryz.ntmps68 (by unfold CK;kernel_rfl) (by unfold RK;kernel_rfl)
  · exact tk hf (by kernel_rfl) Tryz.func69 Tryz.ntmps69 (by unfold CK;kernel_rfl) (by unfold RK;kernel_rfl)
  · exact tk hf (by kernel_rfl) Tryz.func70 Tryz.ntmps70 (by unfold CK;kernel_rfl) (by unfold RK;kernel_rfl)
  · exact tk hf (by kernel_rfl) Tryz.func71 Tryz.ntmps71 (by unfold CK;kernel_rfl) (by unfold RK;kernel_rfl)
  · exact tk hf (by kernel_rfl) Tryz.func72 Tryz.ntmps72 (by unfold CK;kernel_rfl) (by unfold RK;kernel_rfl)
  · exact tk hf (by kernel_rfl) Tryz.func73 Tryz.ntmps73 (by unfold CK;kernel_rfl) (by unfold RK;kernel_rfl)
  · exact tk hf (by kernel_rfl) Tryz.func76 Tryz.ntmps76 (by unfold CK;kernel_rfl) (by unfold RK;kernel_rfl)
  · exact tk hf (by kernel_rfl) Tryz.func81 Tryz.ntmps81 (by unfold CK;kernel_rfl) (by unfold RK;kernel_rfl)
  · exact tk hf (by kernel_rfl) Tryz.func82 Tryz.ntmps82 (by unfold CK;kernel_rfl) (by unfold RK;kernel_rfl)
  · exact tk hf (by kernel_rfl) Tryz.func83 Tryz.ntmps83 (by unfold CK;kernel_rfl) (by unfold RK;kernel_rfl)
  · exact tk hf (by kernel_rfl) Tryz.func84 Tryz.ntmps84 (by unfold CK;kernel_rfl) (by unfold RK;kernel_rfl)
  · exact tk hf (by kernel_rfl) Tryz.func85 Tryz.ntmps85 (by unfold CK;kernel_rfl) (by unfold RK;kernel_rfl)
  · exact tk hf (by kernel_rfl) Tryz.func86 Tryz.ntmps86 (by unfold CK;kernel_rfl) (by unfold RK;kernel_rfl)
  · exact tk hf (by kernel_rfl) Tryz.func87 Tryz.ntmps87 (by unfold CK;kernel_rfl) (by unfold RK;kernel_rfl)
  · exact tk hf (by kernel_rfl) Tryz.func106 Tryz.ntmps106 (by unfold CK;kernel_rfl) (by unfold RK;kernel_rfl)
  · exact tk hf (by kernel_rfl) Tryz.func107 Tryz.ntmps107 (by unfold CK;kernel_rfl) (by unfold RK;kernel_rfl)
  · exact tk hf (by kernel_rfl) Tryz.func108 Tryz.ntmps108 (by unfold CK;kernel_rfl) (by unfold RK;kernel_rfl)
  · exact tk hf (by kernel_rfl) Tryz.func109 Tryz.ntmps109 (by unfold CK;kernel_rfl) (by unfold RK;kernel_rfl)
  · cases hf
def Tbt2:FuncId→Option HF
  | 114=>some h114
  | 115=>some h115
  | 118=>some h118
  | _=>none
theorem Tbt2_ok (f:FuncId) (h:HF) (hf:Tbt2 f=some h):okF Tryz.prog f=true∧∃ fn,Tryz.prog.funcs[f]?=some fn∧fn.ntmps=h.nt∧fn.body.bind (compileC Tryz.prog)=some h.code.er∧fn.results.toList.mapM (retOf Tryz.prog)=some h.rs:=by
  unfold Tbt2 at hf
  split at hf
  · exact tk hf (by kernel_rfl) Tryz.func114 Tryz.ntmps114 (by unfold CK;kernel_rfl) (by unfold RK;kernel_rfl)
  · exact tk hf (by kernel_rfl) Tryz.func115 Tryz.ntmps115 (by unfold CK;kernel_rfl) (by unfold RK;kernel_rfl)
  · exact tk hf (by kernel_rfl) Tryz.func118 Tryz.ntmps118 (by unfold CK;kernel_rfl) (by unfold RK;kernel_rfl)
  · cases hf
def Tbt:FuncId→Option HF:=fun f=>if f < 42 then Tbt0 f else if f < 110 then Tbt1 f else Tbt2 f
def Tb (B:CallT):HT:=⟨Tbt,B⟩
theorem Tb_ok (B:CallT):HTOK Tryz.prog (Tb B):=by
  intro f h hf
  change Tbt f=some h at hf
  unfold Tbt at hf
  by_cases q:f < 42
  · rw [if_pos q] at hf;exact Tbt0_ok f h hf
  rw [if_neg q] at hf;clear q
  by_cases q:f < 110
  · rw [if_pos q] at hf;exact Tbt1_ok f h hf
  rw [if_neg q] at hf;clear q
  exact Tbt2_ok f h hf
end Go.Proofs.YtmmafhopnkkeeaaGreatDoor
