/- Part. Conditions: none. -/
import Derived.Test.YtalhnjjchkmfeabGreatDoorNd
import Derived.Test.YtalhnjjchkmfeabGreatDoorVo
import Derived.Test.YtalhnjjchkmfeabGreatDoorUc
namespace Go.Proofs.YtalhnjjchkmfeabGreatDoor
set_option linter.unusedSimpArgs false
set_option linter.unusedVariables false
set_option maxRecDepth 4000
section
theorem Tr{G:aE}{T T':HT}(c:∀f,T.tab f=T'.tab f)(d:∀f a hp r,T.tab f=none->T.base f a hp=some r->T'.base f a hp=some r):∀(n:Nat)(f:FuncId)(a:L AV)(hp:L aD)(r:AV×L aD),callN G T n f a hp=some r->EV G T' f a hp=some r
 |0,f,a,hp,r,h=>by simp[callN] at h
 | n+1,f,a,hp,r,h=>by
  rw[callN] at h;cases b:T.tab f with
  | none=>
   rw[b] at h;exact jO (by rw[<- c];exact b) (d f a hp r b h)
  | some x=>
   rw[b] at h;obtain⟨m,e⟩:=I1 (calls:=fun _=>EV G T') (call:=callN G T n) (fun f a hp r h=>⟨0,fun _ _=>Tr c d n f a hp r h⟩) h
   exact aNr (by rw[<- c];exact b) (e m (aZe _))
theorem aGB{G:aE}{T T':HT}(d:∀f,T.tab f=T'.tab f)(b:∀f a hp r,T.tab f=none->T.base f a hp=some r->T'.base f a hp=some r){f:FuncId}{a:L AV}{hp:L aD}{r:AV×L aD}(h:EV G T f a hp=some r):EV G T' f a hp=some r:=by
 obtain⟨n,c⟩:=iH h;exact Tr d b n _ _ _ _ c
end
section
variable {G:aE}{bb:Bool}
def Ph:HC:=
 (.seq (.region [Oo 5 (.mov (.t 0)),Oo 6 (.lenL (.t 5)),Oo 4 (.mov (.t 6))])
 (.region [Oo 7 (.mov (.t 0)),Oo 8 (.mov (.t 4)),Oo 9 (.mov (.t 4)),Oo 10 (.conv .u64 (.t 9)),Oo 11 (.call 237 [(.t 10)]),Oo 12 (.mov (.t 1)),Oo 13 (.call 236 [(.t 7),(Ki 0),(.t 8),(.t 11),(.t 12)])]))
def Pi:HC:=
 (.block 1 (.seq (.region [Oo 21 (.mov (.t 2)),Oo 22 (.mov (.t 1)),Oo 23 (.bin .sub (.t 21) (.t 22)),Oo 12 (.mov (.t 23))])
 (.seq (.seq (.region [Oo 24 (.mov (.t 12)),Oo 25 (.bin .leq (.t 24) (Ki 12))])
 (.cond (.t 25) (.seq (.region [Oo 26 (.mov (.t 0)),Oo 27 (.mov (.t 1)),Oo 28 (.mov (.t 2)),Oo 29 (.mov (.t 4)),Oo 30 (.call 267 [(.t 26),(.t 27),(.t 28),(.t 29)])])
 .ret)
 .skip))
 (.seq (.seq (.region [Oo 31 (.mov (.t 3)),Oo 32 (.bin .eql (.t 31) (Ki 0))])
 (.cond (.t 32) (.seq (.region [Oo 33 (.mov (.t 0)),Oo 34 (.mov (.t 1)),Oo 35 (.mov (.t 2)),Oo 36 (.mov (.t 4)),Oo 37 (.call 268 [(.t 33),(.t 34),(.t 35),(.t 36)])])
 .ret)
 .skip))
 (.seq (.seq (.region [Oo 38 (.mov (.t 10)),Oo 39 (.un .not (.t 38))])
 (.cond (.t 39) (.seq (.region [Oo 40 (.mov (.t 0)),Oo 41 (.mov (.t 1)),Oo 42 (.mov (.t 2)),Oo 43 (.mov (.t 4)),Oo 44 (.call 269 [(.t 40),(.t 41),(.t 42),(.t 43)])])
 (.region [Oo 45 (.mov (.t 3)),Oo 46 (.bin .sub (.t 45) (Ki 1)),Oo 3 (.mov (.t 46))]))
 .skip))
 (.seq (.region [Oo 48 (.mov (.t 0)),Oo 49 (.mov (.t 1)),Oo 50 (.mov (.t 2)),Oo 51 (.mov (.t 4)),Oo 52 (.call 270 [(.t 48),(.t 49),(.t 50),(.t 51)]),Oo 47 (.mov (.t 52)),Oo 53 (.ext (.t 47) 0),Oo 54 (.ext (.t 47) 1),Oo 13 (.mov (.t 53)),Oo 14 (.mov (.t 54))])
 (.seq (.seq (.region [Oo 55 (.mov (.t 14)),Oo 56 (.bin .eql (.t 55) (Ki 2))])
 (.cond (.t 56) (.seq (.region [Oo 57 (.mov (.t 0)),Oo 58 (.mov (.t 1)),Oo 59 (.mov (.t 2)),Oo 60 (.mov (.t 4)),Oo 61 (.call 271 [(.t 57),(.t 58),(.t 59),(.t 60)])])
 (.seq (.region [Oo 62 (.mov (.t 2)),Oo 63 (.bin .sub (.t 62) (Ki 1)),Oo 64 (.mov (.t 13)),Oo 65 (.mov (.t 1)),Oo 66 (.bin .sub (.t 64) (.t 65)),Oo 67 (.bin .sub (.t 63) (.t 66)),Oo 13 (.mov (.t 67))])
 (.region [Oo 14 (.mov (Ki 1))])))
 .skip))
 (.seq (.seq (.region [Oo 68 (.mov (.t 10)),Oo 69 (.mov (.t 68)),Og 69 true 70 (.mov (.t 11)),Oo 71 (.pick (.t 69) (.t 70) (.k (.bool false))),Oo 72 (.mov (.t 71)),Og 72 true 73 (.mov (.t 14)),Og 72 true 74 (.bin .eql (.t 73) (Ki 1)),Oo 75 (.pick (.t 72) (.t 74) (.k (.bool false)))])
 (.cond (.t 75) (.seq (.region [Oo 76 (.mov (.t 0)),Oo 77 (.mov (.t 1)),Oo 78 (.mov (.t 2)),Oo 79 (.mov (.t 4)),Oo 80 (.call 272 [(.t 76),(.t 77),(.t 78),(.t 79)])])
 (.cond (.t 80) .ret
 .skip))
 .skip))
 (.seq (.seq (.drawn [Qo (Oo 81 (.mov (.t 1))),Qo (Oo 82 (.bin .gtr (.t 81) (Ki 0))),Qo (Oo 83 (.mov (.t 82))),Qo (Og 83 true 84 (.mov (.t 4))),Qo (Og 83 true 85 (.mov (.t 0))),Qo (Og 83 true 86 (.mov (.t 1))),Qo (Og 83 true 87 (.bin .sub (.t 86) (Ki 1))),Qo (Og 83 true 88 (.ixL 11 (.t 85) (.t 87))),Qo (Og 83 true 89 (.load true 11 (.t 88))),Qo (Og 83 true 90 (.mov (.t 0))),Qo (Og 83 true 91 (.mov (.t 13))),Qo (Og 83 true 92 (.ixL 11 (.t 90) (.t 91))),Qo (Og 83 true 93 (.load true 11 (.t 92))),Qe (Og 83 true 94 (.callv (.t 84) [(.t 89),(.t 93)])),Qo (Og 83 true 95 (.bin .lss (.t 94) (Ki 0))),Qo (Og 83 true 96 (.un .not (.t 95))),Qo (Oo 97 (.pick (.t 83) (.t 96) (.k (.bool false))))])
 (.cond (.t 97) (.seq (.region [Oo 98 (.mov (.t 0)),Oo 99 (.mov (.t 1)),Oo 100 (.mov (.t 2)),Oo 101 (.mov (.t 13)),Oo 102 (.mov (.t 4)),Oo 103 (.call 273 [(.t 98),(.t 99),(.t 100),(.t 101),(.t 102)]),Oo 15 (.mov (.t 103))])
 (.seq (.region [Oo 104 (.mov (.t 15)),Oo 1 (.mov (.t 104))])
 (.exit 1)))
 .skip))
 (.seq (.region [Oo 106 (.mov (.t 0)),Oo 107 (.mov (.t 1)),Oo 108 (.mov (.t 2)),Oo 109 (.mov (.t 13)),Oo 110 (.mov (.t 4)),Oo 111 (.call 274 [(.t 106),(.t 107),(.t 108),(.t 109),(.t 110)]),Oo 105 (.mov (.t 111)),Oo 112 (.ext (.t 105) 0),Oo 113 (.ext (.t 105) 1),Oo 16 (.mov (.t 112)),Oo 17 (.mov (.t 113))])
 (.seq (.region [Oo 114 (.mov (.t 17)),Oo 11 (.mov (.t 114))])
 (.seq (.region [Oo 115 (.mov (.t 16)),Oo 116 (.mov (.t 1)),Oo 117 (.bin .sub (.t 115) (.t 116)),Oo 118 (.mov (.t 2)),Oo 119 (.mov (.t 16)),Oo 120 (.bin .sub (.t 118) (.t 119)),Oo 18 (.mov (.t 117)),Oo 19 (.mov (.t 120))])
 (.seq (.region [Oo 121 (.mov (.t 12)),Oo 122 (.bin .quo (.t 121) (Ki 8)),Oo 20 (.mov (.t 122))])
 (.seq (.region [Oo 123 (.mov (.t 18)),Oo 124 (.mov (.t 19)),Oo 125 (.bin .lss (.t 123) (.t 124))])
 (.cond (.t 125) (.seq (.region [Oo 126 (.mov (.t 18)),Oo 127 (.mov (.t 20)),Oo 128 (.bin .geq (.t 126) (.t 127)),Oo 10 (.mov (.t 128))])
 (.seq (.region [Oo 129 (.mov (.t 0)),Oo 130 (.mov (.t 1)),Oo 131 (.mov (.t 16)),Oo 132 (.mov (.t 3)),Oo 133 (.mov (.t 4)),Oo 134 (.call 236 [(.t 129),(.t 130),(.t 131),(.t 132),(.t 133)])])
 (.region [Oo 135 (.mov (.t 16)),Oo 136 (.bin .add (.t 135) (Ki 1)),Oo 1 (.mov (.t 136))])))
 (.seq (.region [Oo 137 (.mov (.t 19)),Oo 138 (.mov (.t 20)),Oo 139 (.bin .geq (.t 137) (.t 138)),Oo 10 (.mov (.t 139))])
 (.seq (.region [Oo 140 (.mov (.t 0)),Oo 141 (.mov (.t 16)),Oo 142 (.bin .add (.t 141) (Ki 1)),Oo 143 (.mov (.t 2)),Oo 144 (.mov (.t 3)),Oo 145 (.mov (.t 4)),Oo 146 (.call 236 [(.t 140),(.t 142),(.t 143),(.t 144),(.t 145)])])
 (.region [Oo 147 (.mov (.t 16)),Oo 2 (.mov (.t 147))]))))))))))))))))))
def Pj:HC:=
 (.seq (.region [Oo 10 (.mov (.k (.bool true)))])
 (.seq (.region [Oo 11 (.mov (.k (.bool true)))])
 (.block 0 (.loop [0,0,0,0,0,5,0] Pi))))
def aAj:HC:=
 (.seq (.seq (.drawn [Qo (Oo 18 (.mov (.t 9))),Qo (Oo 19 (.mov (.t 1))),Qo (Oo 20 (.bin .gtr (.t 18) (.t 19))),Qo (Oo 21 (.mov (.t 20))),Qo (Og 21 true 22 (.mov (.t 3))),Qo (Og 21 true 23 (.mov (.t 0))),Qo (Og 21 true 24 (.mov (.t 9))),Qo (Og 21 true 25 (.ixL 11 (.t 23) (.t 24))),Qo (Og 21 true 26 (.load true 11 (.t 25))),Qo (Og 21 true 27 (.mov (.t 0))),Qo (Og 21 true 28 (.mov (.t 9))),Qo (Og 21 true 29 (.bin .sub (.t 28) (Ki 1))),Qo (Og 21 true 30 (.ixL 11 (.t 27) (.t 29))),Qo (Og 21 true 31 (.load true 11 (.t 30))),Qe (Og 21 true 32 (.callv (.t 22) [(.t 26),(.t 31)])),Qo (Og 21 true 33 (.bin .lss (.t 32) (Ki 0))),Qo (Oo 34 (.pick (.t 21) (.t 33) (.k (.bool false))))])
 (.cond (.t 34) .skip
 (.exit 2)))
 (.seq (.block 3 (.drawn [Qo (Oo 37 (.mov (.t 0))),Qo (Oo 38 (.mov (.t 9))),Qo (Oo 39 (.mov (.t 0))),Qo (Oo 40 (.mov (.t 9))),Qo (Oo 41 (.bin .sub (.t 40) (Ki 1))),Qo (Oo 42 (.mov (.t 0))),Qo (Oo 43 (.mov (.t 9))),Qo (Oo 44 (.bin .sub (.t 43) (Ki 1))),Qo (Oo 45 (.ixL 11 (.t 42) (.t 44))),Qo (Oo 46 (.load true 11 (.t 45))),Qo (Oo 47 (.mov (.t 0))),Qo (Oo 48 (.mov (.t 9))),Qo (Oo 49 (.ixL 11 (.t 47) (.t 48))),Qo (Oo 50 (.load true 11 (.t 49))),Qo (Oo 51 (.ixL 11 (.t 37) (.t 38))),Qe (On (.store 11 (.t 51) (.t 46))),Qo (Oo 52 (.ixL 11 (.t 39) (.t 41))),Qe (On (.store 11 (.t 52) (.t 50)))]))
 (.region [Oo 35 (.mov (.t 9)),Oo 36 (.bin .sub (.t 35) (Ki 1)),Oo 9 (.mov (.t 36))])))
def Hh:HC:=
 (.seq (.seq (.region [Oo 12 (.mov (.t 8)),Oo 13 (.mov (.t 2)),Oo 14 (.bin .lss (.t 12) (.t 13))])
 (.cond (.t 14) .skip
 (.exit 0)))
 (.seq (.block 1 (.seq (.region [Oo 17 (.mov (.t 8)),Oo 9 (.mov (.t 17))])
 (.block 2 (.loop [0,0,0,0,4,0] aAj))))
 (.region [Oo 15 (.mov (.t 8)),Oo 16 (.bin .add (.t 15) (Ki 1)),Oo 8 (.mov (.t 16))])))
def Pk:HC:=
 (.seq (.region [Oo 10 (.mov (.t 1)),Oo 11 (.bin .add (.t 10) (Ki 1)),Oo 8 (.mov (.t 11))])
 (.block 0 (.loop [0,0,0,0,4] Hh)))
def Pl:HC:=
 (.seq (.region [Oo 2 (.mov (Ki 0))])
 (.seq (.cond (.k (.bool false)) (.seq (.region [Oo 3 (.mov (.t 0)),Oo 4 (.conv .u32 (.t 3)),Oo 5 (.call 275 [(.t 4)]),Oo 2 (.mov (.t 5))])
 .ret)
 .skip)
 (.seq (.region [Oo 6 (.mov (.t 0)),Oo 7 (.call 276 [(.t 6)]),Oo 2 (.mov (.t 7))])
 .ret)))
def Pm:HC:=
 (.seq (.region [Oo 2 (.mov (Ki 0))])
 (.seq (.seq (.region [Oo 3 (.mov (.t 0)),Oo 4 (.bin .geq (.t 3) (.k (.int .u64 4294967296)))])
 (.cond (.t 4) (.seq (.region [Oo 5 (.mov (.t 0)),Oo 6 (.bin .shr (.t 5) (.k (.int .u64 32))),Oo 0 (.mov (.t 6))])
 (.region [Oo 2 (.mov (Ki 32))]))
 .skip))
 (.seq (.seq (.region [Oo 7 (.mov (.t 0)),Oo 8 (.bin .geq (.t 7) (.k (.int .u64 65536)))])
 (.cond (.t 8) (.seq (.region [Oo 9 (.mov (.t 0)),Oo 10 (.bin .shr (.t 9) (.k (.int .u64 16))),Oo 0 (.mov (.t 10))])
 (.region [Oo 11 (.mov (.t 2)),Oo 12 (.bin .add (.t 11) (Ki 16)),Oo 2 (.mov (.t 12))]))
 .skip))
 (.seq (.seq (.region [Oo 13 (.mov (.t 0)),Oo 14 (.bin .geq (.t 13) (.k (.int .u64 256)))])
 (.cond (.t 14) (.seq (.region [Oo 15 (.mov (.t 0)),Oo 16 (.bin .shr (.t 15) (.k (.int .u64 8))),Oo 0 (.mov (.t 16))])
 (.region [Oo 17 (.mov (.t 2)),Oo 18 (.bin .add (.t 17) (Ki 8)),Oo 2 (.mov (.t 18))]))
 .skip))
 (.seq (.region [Oo 19 (.mov (.t 2)),Oo 20 (.mov (.t 0)),Oo 21 (.conv .u8 (.t 20)),Oo 22 (.ixS (.k (.string ⟨#[0,1,2,2,3,3,3,3,4,4,4,4,4,4,4,4,5,5,5,5,5,5,5,5,5,5,5,5,5,5,5,5,6,6,6,6,6,6,6,6,6,6,6,6,6,6,6,6,6,6,6,6,6,6,6,6,6,6,6,6,6,6,6,6,7,7,7,7,7,7,7,7,7,7,7,7,7,7,7,7,7,7,7,7,7,7,7,7,7,7,7,7,7,7,7,7,7,7,7,7,7,7,7,7,7,7,7,7,7,7,7,7,7,7,7,7,7,7,7,7,7,7,7,7,7,7,7,7,8,8,8,8,8,8,8,8,8,8,8,8,8,8,8,8,8,8,8,8,8,8,8,8,8,8,8,8,8,8,8,8,8,8,8,8,8,8,8,8,8,8,8,8,8,8,8,8,8,8,8,8,8,8,8,8,8,8,8,8,8,8,8,8,8,8,8,8,8,8,8,8,8,8,8,8,8,8,8,8,8,8,8,8,8,8,8,8,8,8,8,8,8,8,8,8,8,8,8,8,8,8,8,8,8,8,8,8,8,8,8,8,8,8,8,8,8,8,8,8,8,8,8,8,8,8,8,8]⟩)) (.t 21)),Oo 23 (.conv .i64 (.t 22)),Oo 24 (.bin .add (.t 19) (.t 23)),Oo 2 (.mov (.t 24))])
 .ret)))))
abbrev aGC:HF:=⟨Ph,[],14,true⟩
abbrev aGD:HF:=⟨Pj,[],148,false⟩
abbrev aGE:HF:=⟨Pk,[],53,false⟩
abbrev aGF:HF:=⟨Pl,[.tmp 2],8,false⟩
abbrev aGG:HF:=⟨Pm,[.tmp 2],25,false⟩
def tbS:FuncId->Option HF:=fun f=>if f=201 then some aGC else if f=236 then some aGD else if f=267 then some aGE else if f=237 then some aGF else if f=276 then some aGG else none
noncomputable def TS(G:aE)(C:aN):HT:=⟨tbS,C⟩
theorem aLG{C:aN}:EV G (TS G C) 276 [.one (.dc (.raw (.int .u64 1)))] []=some (vi 1,[]):=by
 refine aA (h:=aGG) rfl ?_;simp (maxSteps:=2000000) (disch:=omega) only[go_sem,Pm];try rfl
theorem aUT{C:aN}:EV G (TS G C) 237 [.one (.dc (.raw (.int .u64 1)))] []=some (vi 1,[]):=by
 have q:=aLG (G:=G) (C:=C);refine aA (h:=aGF) rfl ?_;simp (maxSteps:=2000000) (disch:=omega) only[go_sem,Pl,q];try rfl
theorem aLH{C:aN}:EV G (TS G C) 276 [.one (.dc (.raw (.int .u64 2)))] []=some (vi 2,[]):=by
 refine aA (h:=aGG) rfl ?_;simp (maxSteps:=2000000) (disch:=omega) only[go_sem,Pm];try rfl
theorem aUU{C:aN}:EV G (TS G C) 237 [.one (.dc (.raw (.int .u64 2)))] []=some (vi 2,[]):=by
 have q:=aLH (G:=G) (C:=C);refine aA (h:=aGF) rfl ?_;simp (maxSteps:=2000000) (disch:=omega) only[go_sem,Pl,q];try rfl
theorem aUV{C:aN}(a:aK):EV G (TS G C) 267 [.one (.bls 0 0 1 11),vi 0,vi 1,.one (.fn 152 [])] [.box a.c]=some (.tup [],[.box a.c]):=by
 refine aA (h:=aGE) rfl ?_;simp (maxSteps:=2000000) (disch:=omega) only[go_sem,Pk];rw[zY];simp (maxSteps:=2000000) (disch:=omega) only[go_sem,Hh];try rfl
theorem aUW{C:aN}(a b:aK)(n:Int)(j:EV G (TS G C) 152 [b.v,a.v] []=some (vi n,[]))(l:¬ n<0):EV G (TS G C) 267 [.one (.bls 0 0 2 11),vi 0,vi 2,.one (.fn 152 [])] [.box (a.c++b.c)]=some (.tup [],[.box (a.c++b.c)]):=by
 simp only[aZp,aZn];have e:((0:Int)+1).toNat=1:=rfl;have d:((0:Int)+1-1).toNat=0:=rfl;have f:((0:Int)+1)<2:=by decide
 have g:((1:Int)-1).toNat=0:=rfl;have i:(1:Int).toNat=1:=rfl;refine aA (h:=aGE) rfl ?_;simp (maxSteps:=2000000) (disch:=omega) only[go_sem,Pk];rw[aQ (fun k=>⟨(.one (.bls 0 0 2 11)::vi 0::vi 2::.one (.fn 152 [])::jk 4 (vi (k+1:Nat)::jk 44 [])),[.box (a.c++b.c)]⟩) 1 ?_ ?_]
 ·simp (maxSteps:=2000000) (disch:=omega) only[go_sem,Hh];try rfl
 rfl
 ·intro k m;obtain rfl:k=0:=by omega
  simp only[aZp,aZn];simp (maxSteps:=2000000) (disch:=omega) only[go_sem,Hh];rw[zY];simp (maxSteps:=2000000) (disch:=omega) only[go_sem,aAj,j,l,e,d,f,g,i,Nat.one_mul,Nat.zero_mul,bAC,bAt,aZW,bAg];try rfl
theorem aUX{C:aN}(a:aK):EV G (TS G C) 236 [.one (.bls 0 0 1 11),vi 0,vi 1,vi 1,.one (.fn 152 [])] [.box a.c]=some (.tup [],[.box a.c]):=by
 have q:=aUV (G:=G) (C:=C) a;refine aA (h:=aGD) rfl ?_;simp (maxSteps:=2000000) (disch:=omega) only[go_sem,Pj];rw[zY];simp (maxSteps:=2000000) (disch:=omega) only[go_sem,Pi,q];try rfl
theorem aUY{C:aN}(a b:aK)(n:Int)(d:EV G (TS G C) 152 [b.v,a.v] []=some (vi n,[]))(e:¬ n<0):EV G (TS G C) 236 [.one (.bls 0 0 2 11),vi 0,vi 2,vi 2,.one (.fn 152 [])] [.box (a.c++b.c)]=some (.tup [],[.box (a.c++b.c)]):=by
 have q:=aUW (G:=G) (C:=C) a b n d e;simp only[aZp,aZn] at q ⊢;refine aA (h:=aGD) rfl ?_;simp (maxSteps:=2000000) (disch:=omega) only[go_sem,Pj];rw[zY];simp (maxSteps:=2000000) (disch:=omega) only[go_sem,Pi,q];try rfl
theorem aUZ{C:aN}(a:aK):EV G (TS G C) 201 [.one (.bls 0 0 1 11),.one (.fn 152 [])] [.box a.c]=some (.tup [],[.box a.c]):=by
 have q:=aUX (G:=G) (C:=C) a;have l:=aUT (G:=G) (C:=C);have w:IntKind.u64.wrap 1=1:=by decide
 refine aA (h:=aGC) rfl ?_;simp (maxSteps:=2000000) (disch:=omega) only[go_sem,Ph,q,l,w];try rfl
theorem aU0{C:aN}(a b:aK)(n:Int)(d:EV G (TS G C) 152 [b.v,a.v] []=some (vi n,[]))(e:¬ n<0):EV G (TS G C) 201 [.one (.bls 0 0 2 11),.one (.fn 152 [])] [.box (a.c++b.c)]=some (.tup [],[.box (a.c++b.c)]):=by
 have q:=aUY (G:=G) (C:=C) a b n d e;have l:=aUU (G:=G) (C:=C);have w:IntKind.u64.wrap 2=2:=by decide
 simp only[aZp,aZn] at q ⊢;refine aA (h:=aGC) rfl ?_;simp (maxSteps:=2000000) (disch:=omega) only[go_sem,Ph,q,l,w];try rfl
def aU1(l:L aK):Prop:=(∃a,l=[a])\/∃a b,l=[a,b]/\¬ D0 b a<0
