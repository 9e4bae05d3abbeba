/- Attributes in order: searches. Conditions: none. -/
import Derived.Test.YtcplecjhmnblpaaGreatDoorUg
import Derived.Test.YtcplecjhmnblpaaGreatDoorVi
import Derived.Test.YtcplecjhmnblpaaGreatDoorMb
import Derived.KernelRfl
namespace Go.Proofs.YtcplecjhmnblpaaGreatDoor
set_option linter.unusedSimpArgs false
set_option linter.unusedVariables false
set_option maxRecDepth 4000
section
variable {G:aH} {bb:Bool}
theorem Q8(b:Bool):EV G (Tb (bs bb)) 91 [vb b] []=some (vi (if b=true then 1 else 0),[]):=by
 refine aB rfl ?_;cases b
 all_goals simp (disch:=omega) only[go_sem,h91c]
 all_goals rfl
theorem kS(n:Nat)(h:n<=1000000000):EV G (Tb (bs bb)) 89 [vi n,vi 8] []=some (vi (((n+7) / 8:Nat):Int),[]):=by
 have:=aI5 (G:=G) (bb:=bb) n 8 (by omega) (by omega) (by omega);rwa[show -(-(n:Int) / 8)=(((n+7) / 8:Nat):Int) by omega] at this
theorem Ad(n:Int)(hn:0<=n/\n<=9223372036854775807):EV G (Tb (bs bb)) 90 [vi n,vi 1] []=some (sv (bU n 1),[]):=nJ n 1 hn (by omega)
theorem kT(n:Int)(hn:0<=n/\n<=9223372036854775807):EV G (Tb (bs bb)) 90 [vi n,vi 2] []=some (sv (bU n 2),[]):=nJ n 2 hn (by omega)
theorem nW(n:Int)(hn:0<=n/\n<=9223372036854775807):EV G (Tb (bs bb)) 90 [vi n,vi 4] []=some (sv (bU n 4),[]):=nJ n 4 hn (by omega)
def rU(l:List Int):List Int:=l++List.replicate ((l.length+7) / 8 * 8 - l.length) 0
theorem kU(k:Nat)(h:k<=100000):EV G (Tb (bs bb)) 93 [vi k] []=some (sv (List.replicate k 0),[]):=by
 have:=Gz (G:=G) (B:=bs bb) k (by omega);rwa[aQN] at this
theorem wA(l:List Int)(h:l.length<=10000):EV G (Tb (bs bb)) 94 [sv l] []=some (sv (rU l),[]):=by
 refine aB rfl ?_;have q1:=kS (G:=G) (bb:=bb) l.length (by omega);have q2:=kU (G:=G) (bb:=bb) ((l.length+7) / 8 * 8 - l.length) (by omega);have e:(8:Int) * (((l.length+7) / 8:Nat):Int) - (l.length:Int)=(((l.length+7) / 8 * 8 - l.length:Nat):Int):=by omega
 simp (disch:=first | omega | (simp only[aQc,aQd,aQe,aQb,aA,aQk]<;>omega)) only[go_sem,h94c,q1,e,q2,aQk,rU]
def tB(a:aE):List Int:=bU (if a.res=true then 0 else 1) 1++bU a.nm.length 1++bU (qN a) 2++bU a.fl 2++bU a.id 2
def Dw(a:aE):List Int:=if a.res=true then tB a++bU a.va.length 4++bU (cM a) 4
 else tB a++bU a.fi 4++bU ((a.fi+gZ a.rs - 1) % 4294967296) 4++bU (cM a) 2++List.replicate 2 0++bU a.al 4++bU a.sz 4++bU a.vd 4
def Ks(a:aE):List Int:=if a.res=true then a.va else (iJ a.rs).1++[0]
def rV(a:aE):List Int:=rU (Dw a++a.nm++List.replicate (cM a - qN a - a.nm.length) 0++Ks a)
def fW(a:aE):List Int:=bU a.ty 4++bU (dX a) 4++rV a
structure aE.Ok (a:aE):Prop where
 w:a.W
 ty:a.ty∈H3
 nm:Nr a.nm=true
 rg:(0<=a.id/\a.id<=65535)/\(0<=a.fl/\a.fl<=7)
 e:uC a=0
theorem G5{a:aE}(h:a.Ok):Ks a=pH a:=by
 unfold Ks pH;by_cases hr:a.res=true
 ·rw[if_pos hr,if_pos hr]
 ·rw[if_neg hr,if_neg hr];have h4:=h.e;unfold uC at h4;rw[if_neg hr] at h4;obtain⟨_,_,_,q4,_⟩:=Ca h4;unfold xI;rw[if_neg (by rw[Ke];simpa using q4)]
theorem qC(a:aE):(Dw a).length+8=qN a:=by
 unfold Dw tB qN;split<;>simp only[aQc,aA,aQk]
set_option maxHeartbeats 4000000 in
theorem aI6(a:aE)(h:a.Ok)(hr:a.res=true):EV G (Tb (bs bb)) 38 [a.v] []=some (sv (fW a),[]):=by
 refine aB rfl ?_;obtain⟨b1,b2,b3,b4,b5,b6,b7,b8,b9,b10,b11,b12,b13⟩:=aE.bd h.w h.ty h.nm h.rg h.e;have g1:=G3 h.ty;have g2:=Ac h.nm;obtain⟨g3,g4⟩:=h.rg;have h4:=h.e;unfold uC at h4;rw[if_pos hr] at h4;obtain⟨r1,r2,r3,r4,r5,r6⟩:=G4 h4;have eh:qN a=24:=by simp[qN,hr]
 have hA:24+a.nm.length<=cM a/\cM a<=2000:=by simp only[cM,eh];omega
 have q1:=kS (G:=G) (bb:=bb) (24+a.nm.length) (by omega);have eA:(8:Int) * (((24+a.nm.length+7) / 8:Nat):Int)=((cM a:Nat):Int):=by simp only[cM,eh];omega
 rw[aQ0,show ((24:Nat):Int)=24 from rfl] at q1
 have hs:dX a<=4000/\8<=dX a/\dX a % 8=0:=by
  have:pH a=a.va:=by simp[pH,hr]
  simp only[dX,this];omega
 have hz:(rV a).length=dX a - 8:=by
  have h2:=qC a;rw[rV,rU,G5 h];simp only[aQc,aQk];simp only[dX];have:cM a % 8=0:=by unfold cM;omega
  omega
 have q2:=kU (G:=G) (bb:=bb) (cM a - 24 - a.nm.length) (by omega);have e2:((cM a:Nat):Int) - 24 - (a.nm.length:Int)=((cM a - 24 - a.nm.length:Nat):Int):=by omega
 have f1:Dw a=tB a++bU a.va.length 4++bU (cM a) 4:=by rw[Dw,if_pos hr]
 have l1:(tB a).length=8:=by simp only[tB,aQc,aA]
 have f2:rV a=rU (tB a++bU a.va.length 4++bU (cM a) 4++a.nm++List.replicate (cM a - 24 - a.nm.length) 0++a.va):=by rw[rV,f1,eh,Ks,if_pos hr]
 have f0:tB a=bU 0 1++bU a.nm.length 1++bU 24 2++bU a.fl 2++bU a.id 2:=by rw[tB,if_pos hr,eh];rfl
 have q3:=wA (G:=G) (bb:=bb) (tB a++bU a.va.length 4++bU (cM a) 4++a.nm++List.replicate (cM a - 24 - a.nm.length) 0++a.va) (by simp only[aQc,aA,aQk];omega);rw[<- f2] at q3;have q4:=kS (G:=G) (bb:=bb) ((rV a).length+8) (by omega);rw[aQ0,show ((8:Nat):Int)=8 from rfl] at q4
 have e4:(8:Int) * ((((rV a).length+8+7) / 8:Nat):Int)=((dX a:Nat):Int):=by omega
 rw[f0] at q3;unfold fW;generalize rV a=R at *;generalize cM a=A at *;generalize dX a=N at *;simp (disch:=first | omega | (simp only[aQc,aQd,aQe,aQb,aA,aQk]<;>omega)) only[go_sem,h38c,hr,aF,Q8,q1,eA,Ad,kT,nW,q2,e2,q3,q4,e4,aQ6,aQk]
theorem Kt:EV G (Tb (bs bb)) 93 [vi 2] []=some (sv [0,0],[]):=Gz 2 (by omega)
theorem Cb{l:List bI}(h:(mU l).2=0):(iJ l).1.length<=320:=by
 obtain⟨g1,g2,g3⟩:=sO l (fun r hr'=>(Ab h r hr').1) l.length (aQf _)
 rw[vX] at g1;have:=mL h;omega
set_option maxHeartbeats 4000000 in
theorem aI7(a:aE)(h:a.Ok)(hr:a.res=false):EV G (Tb (bs bb)) 38 [a.v] []=some (sv (fW a),[]):=by
 refine aB rfl ?_;obtain⟨b1,b2,b3,b4,b5,b6,b7,b8,b9,b10,b11,b12,b13⟩:=aE.bd h.w h.ty h.nm h.rg h.e;have hr':¬ a.res=true:=by rw[hr];decide
 have g1:=G3 h.ty;have g2:=Ac h.nm;obtain⟨g3,g4⟩:=h.rg;have h4:=h.e;unfold uC at h4;rw[if_neg hr'] at h4;obtain⟨r1,r2,r3,r4,r5,r6,r7,r8,r9⟩:=Ca h4;obtain⟨c1,c2,c3⟩:=B9 r4;have eh:qN a=40:=by simp[qN,hr]
 have eb:=G5 h;have ef:Ks a=(iJ a.rs).1++[0]:=by rw[Ks,if_neg hr']
 have hl:=Cb r4;have hbl:(pH a).length=(iJ a.rs).1.length+1:=by rw[<- eb,ef];simp
 have hA:40+a.nm.length<=cM a/\cM a<=2000:=by simp only[cM,eh];omega
 have q1:=kS (G:=G) (bb:=bb) (40+a.nm.length) (by omega);have eA:(8:Int) * (((40+a.nm.length+7) / 8:Nat):Int)=((cM a:Nat):Int):=by simp only[cM,eh];omega
 rw[aQ0,show ((40:Nat):Int)=40 from rfl] at q1
 have hs:dX a<=4000/\8<=dX a/\dX a % 8=0:=by
  simp only[dX];omega
 have hz:(rV a).length=dX a - 8:=by
  have h2:=qC a;rw[rV,rU,G5 h];simp only[aQc,aQk];simp only[dX];have:cM a % 8=0:=by unfold cM;omega
  omega
 have q2:=kU (G:=G) (bb:=bb) (cM a - 40 - a.nm.length) (by omega);have e2:((cM a:Nat):Int) - 40 - (a.nm.length:Int)=((cM a - 40 - a.nm.length:Nat):Int):=by omega
 have q5:=Ez (G:=G) (B:=bs bb) a.rs r4;have q6:=vV (G:=G) (B:=bs bb) a.rs (by omega);have q7:=Kh (G:=G) (B:=bs bb) (a.fi+gZ a.rs - 1) 4294967296 (by omega);have l1:(tB a).length=8:=by simp only[tB,aQc,aA]
 have f0:tB a=bU 1 1++bU a.nm.length 1++bU 40 2++bU a.fl 2++bU a.id 2:=by rw[tB,if_neg hr',eh];rfl
 have f1:Dw a=tB a++bU a.fi 4++bU ((a.fi+gZ a.rs - 1) % 4294967296) 4++bU (cM a) 2++[0,0]++bU a.al 4++bU a.sz 4++bU a.vd 4:=by rw[Dw,if_neg hr'];rfl
 have l2:=qC a;have f2:rV a=rU (Dw a++a.nm++List.replicate (cM a - 40 - a.nm.length) 0++((iJ a.rs).1++[0])):=by rw[rV,eh,ef]
 have q3:=wA (G:=G) (bb:=bb) (Dw a++a.nm++List.replicate (cM a - 40 - a.nm.length) 0++((iJ a.rs).1++[0])) (by simp only[aQc,aQk,List.length_singleton];omega);rw[<- f2] at q3;have q4:=kS (G:=G) (bb:=bb) ((rV a).length+8) (by omega);rw[aQ0,show ((8:Nat):Int)=8 from rfl] at q4
 have e4:(8:Int) * ((((rV a).length+8+7) / 8:Nat):Int)=((dX a:Nat):Int):=by omega
 rw[f1,f0] at q3;unfold fW;generalize rV a=R at *;generalize cM a=A at *;generalize dX a=N at *;have hm:0<=(a.fi+gZ a.rs - 1) % 4294967296/\(a.fi+gZ a.rs - 1) % 4294967296<=4294967296:=by omega
 simp (disch:=first | omega | (simp only[aQc,aQd,aQe,aQb,aA,aQk]<;>omega)) only[go_sem,h38c,hr,aF,Q8,q1,eA,Ad,kT,nW,Kt,q2,e2,q3,q4,e4,q5,q6,q7,aQ6,aQk]
theorem Cc(a:aE)(h:a.Ok):EV G (Tb (bs bb)) 38 [a.v] []=some (sv (fW a),[]):=by
 cases hr:a.res with
 | true=>exact aI6 a h hr
 | false=>exact aI7 a h hr
theorem aE1(a:aE)(h:a.Ok):(fW a).length=dX a:=by
 have h2:=qC a;have hb:=G5 h;have h3:cM a % 8=0/\qN a+a.nm.length<=cM a:=by unfold cM;omega
 rw[fW,rV,rU,hb];simp only[aQc,aQk,aA];simp only[dX];omega
theorem Nt(a:aE)(hW:a.W):EV G (Tb (bs bb)) 37 [a.v] []=some (vi (hZ a),[]):=by
 refine aB rfl ?_;have q1:=U9 (G:=G) (bb:=bb) a.ty;have q2:=aAK (G:=G) (bb:=bb) a.nm hW.nm (by have:=hW.nl;omega);have q3:=Vb (G:=G) (bb:=bb) a hW;have q4:=Va (G:=G) (bb:=bb) a;unfold hZ;by_cases c1:a.ty∈H3
 ·rw[if_neg (fun h=>h c1)]
  rw[decide_eq_true c1] at q1;cases c2:Nr a.nm with
  | false=>
   rw[c2] at q2;rw[if_pos rfl];simp (disch:=omega) only[go_sem,h37c,q1,q2]
  | true=>
   rw[c2] at q2;rw[if_neg (by decide)];by_cases d1:0<=a.id/\a.id<=65535
   ·by_cases d2:0<=a.fl/\a.fl<=7
    ·rw[if_neg (fun h=>h ⟨d1,d2⟩)]
     have q5 (h:uC a=0):=Cc (G:=G) (bb:=bb) a ⟨hW,c1,c2,⟨d1,d2⟩,h⟩;have q6 (h:uC a=0):=aE1 a ⟨hW,c1,c2,⟨d1,d2⟩,h⟩;have e6:((dX a:Int) > 440)=(dX a > 440):=by apply propext;omega
     cases c3:a.res with
     | true=>
      simp only[uC,c3,if_true] at q5 q6 ⊢;simp only[aE.v,aE.c,c3] at q3 q4 q5;by_cases c4:G1 a=0
      ·rw[if_neg (fun h=>h c4)]
       by_cases c5:dX a > 440
       ·rw[if_pos c5];simp (disch:=omega) only[go_sem,h37c,q1,q2,bQ,eq_true d1,eq_true d2,q3,c3,q4,c4,q5 c4,q6 c4,e6,eq_true c5]
       ·rw[if_neg c5];simp (disch:=omega) only[go_sem,h37c,q1,q2,bQ,eq_true d1,eq_true d2,q3,c3,q4,c4,q5 c4,q6 c4,e6,c5]
      ·rw[if_pos c4];simp (disch:=omega) only[go_sem,h37c,q1,q2,bQ,eq_true d1,eq_true d2,q3,c3,q4,c4]
     | false=>
      simp only[uC,c3,if_false,aRd] at q5 q6 ⊢;simp only[aE.v,aE.c,c3] at q3 q4 q5;by_cases c4:G2 a=0
      ·rw[if_neg (fun h=>h c4)]
       by_cases c5:dX a > 440
       ·rw[if_pos c5];simp (disch:=omega) only[go_sem,h37c,q1,q2,bQ,eq_true d1,eq_true d2,q3,c3,c4,q5 c4,q6 c4,e6,eq_true c5]
       ·rw[if_neg c5];simp (disch:=omega) only[go_sem,h37c,q1,q2,bQ,eq_true d1,eq_true d2,q3,c3,c4,q5 c4,q6 c4,e6,c5]
      ·rw[if_pos c4];simp (disch:=omega) only[go_sem,h37c,q1,q2,bQ,eq_true d1,eq_true d2,q3,c3,c4]
    ·rw[if_pos (fun h=>d2 h.2)]
     simp (disch:=omega) only[go_sem,h37c,q1,q2,bQ,eq_true d1,d2]
   ·rw[if_pos (fun h=>d1 h.1)]
    simp (disch:=omega) only[go_sem,h37c,q1,q2,bQ,d1]
 ·rw[if_pos c1];rw[decide_eq_false c1] at q1;simp (disch:=omega) only[go_sem,h37c,q1]
end
section
variable {G:aH} {bb:Bool}
section
variable {B:aW}
end
theorem Q9(l:List bI)(hl:l.length<=1000000):EV G (Tb (bs bb)) 78 [iW l] []=some (.one (.bld 0 l.length),[.arr 0 2 (l.map bI.e)]):=by
 refine jE rfl ?_;show (if fZ 2 (l.map bI.e)=true/\(l.map bI.e).length * 16<=140737488355328 then some (AV.one (.bld 0 (l.map bI.e).length),[aC.arr 0 2 (l.map bI.e)]) else none)=_
 rw[if_pos ⟨Q2 l,by rw[aQb];omega⟩,aQb]
theorem Ra(a:aE)(hl:a.rs.length<=1000000):EV G (Tb (bs bb)) 27 [a.v] []=some (a.v,[]):=by
 refine aB rfl ?_;have q:=Nk (G:=G) (B:=bs bb) a.rs hl;simp (disch:=omega) only[go_sem,h27c,q,iE,aQb]
def nK(a b:aE):Bool:=decide (a.ty=b.ty)&&(decide (a.nm=b.nm)&&(decide (a.id=b.id)&&(decide (a.fl=b.fl)&&(decide (a.res=b.res)&&(decide (a.va=b.va)&&(decide (a.fi=b.fi)&&(decide (a.rs=b.rs)&&(decide (a.al=b.al)&&(decide (a.sz=b.sz)&&(decide (a.vd=b.vd)))))))))))
theorem Vc(a b:aE):nK a b=true↔a=b:=by
 cases a;cases b;simp[nK]
set_option maxHeartbeats 4000000 in
theorem aE2(a b:aE)(ha:a.W)(hb:b.W):EV G (Tb (bs bb)) 35 [a.v,b.v] []=some (vb (nK a b),[]):=by
 refine aB rfl ?_;have e1:=cW ha.nm hb.nm;have e2:=cW ha.va hb.va;have q:=Nl (G:=G) (B:=bs bb) a.rs b.rs (by have:=ha.rl;omega);by_cases c0:a.ty=b.ty
 rotate_left
 ·simp (disch:=omega) only[go_sem,h35c,e1,e2,q,c0];simp[nK,c0]
 by_cases c1:a.nm=b.nm
 rotate_left
 ·simp (disch:=omega) only[go_sem,h35c,e1,e2,q,eq_true c0,c1];simp[nK,c0,c1]
 by_cases c2:a.id=b.id
 rotate_left
 ·simp (disch:=omega) only[go_sem,h35c,e1,e2,q,eq_true c0,eq_true c1,c2];simp[nK,c0,c1,c2]
 by_cases c3:a.fl=b.fl
 rotate_left
 ·simp (disch:=omega) only[go_sem,h35c,e1,e2,q,eq_true c0,eq_true c1,eq_true c2,c3];simp[nK,c0,c1,c2,c3]
 by_cases c4:a.res=b.res
 rotate_left
 ·have d4:(a.res==b.res)=false:=by simpa using c4
  simp (disch:=omega) only[go_sem,h35c,e1,e2,q,eq_true c0,eq_true c1,eq_true c2,eq_true c3,d4];simp[nK,c0,c1,c2,c3,c4]
 have d4:(a.res==b.res)=true:=by simpa using c4
 by_cases c5:a.va=b.va
 rotate_left
 ·simp (disch:=omega) only[go_sem,h35c,e1,e2,q,eq_true c0,eq_true c1,eq_true c2,eq_true c3,d4,c5];simp[nK,c0,c1,c2,c3,c4,c5]
 by_cases c6:a.fi=b.fi
 rotate_left
 ·simp (disch:=omega) only[go_sem,h35c,e1,e2,q,eq_true c0,eq_true c1,eq_true c2,eq_true c3,d4,eq_true c5,c6];simp[nK,c0,c1,c2,c3,c4,c5,c6]
 by_cases c7:a.rs=b.rs
 rotate_left
 ·simp (disch:=omega) only[go_sem,h35c,e1,e2,q,eq_true c0,eq_true c1,eq_true c2,eq_true c3,d4,eq_true c5,eq_true c6,c7];simp[nK,c0,c1,c2,c3,c4,c5,c6,c7]
 by_cases c8:a.al=b.al
 rotate_left
 ·simp (disch:=omega) only[go_sem,h35c,e1,e2,q,eq_true c0,eq_true c1,eq_true c2,eq_true c3,d4,eq_true c5,eq_true c6,eq_true c7,c8];simp[nK,c0,c1,c2,c3,c4,c5,c6,c7,c8]
 by_cases c9:a.sz=b.sz
 rotate_left
 ·simp (disch:=omega) only[go_sem,h35c,e1,e2,q,eq_true c0,eq_true c1,eq_true c2,eq_true c3,d4,eq_true c5,eq_true c6,eq_true c7,eq_true c8,c9];simp[nK,c0,c1,c2,c3,c4,c5,c6,c7,c8,c9]
 by_cases c10:a.vd=b.vd
 rotate_left
 ·simp (disch:=omega) only[go_sem,h35c,e1,e2,q,eq_true c0,eq_true c1,eq_true c2,eq_true c3,d4,eq_true c5,eq_true c6,eq_true c7,eq_true c8,eq_true c9,c10];simp[nK,c0,c1,c2,c3,c4,c5,c6,c7,c8,c9,c10]
 simp (disch:=omega) only[go_sem,h35c,e1,e2,q,eq_true c0,eq_true c1,eq_true c2,eq_true c3,d4,eq_true c5,eq_true c6,eq_true c7,eq_true c8,eq_true c9,eq_true c10];simp[nK,c0,c1,c2,c3,c4,c5,c6,c7,c8,c9,c10]
theorem aE.nil_W:aE.nil.W:=⟨iL,iL,aQD _,aQD _,aQD _⟩
end
section
variable {G:aH} {bb:Bool}
end
section
variable {G:aH} {bb:Bool}
abbrev rtv(p:aE × Int):AV:=.tup [p.1.t,.one (.dc (ci p.2))]
end
section
variable {G:aH} {B:aW}
end
section
variable {G:aH} {B:aW}
end
section
variable {G:aH} {bb:Bool}
theorem nX{a:aE}(hW:a.W)(h:hZ a=0):a.Ok:=by
 unfold hZ at h;split at h
 ·exact absurd h (by decide)
 rename_i h1;split at h
 ·exact absurd h (by decide)
 rename_i h2;split at h
 ·exact absurd h (by decide)
 rename_i h3;split at h
 ·rename_i h4;exact absurd h h4
 rename_i h4;exact⟨hW,Classical.not_not.1 h1,by simpa using h2,Classical.not_not.1 h3,Classical.not_not.1 h4⟩
theorem aE.Ok.bd{a:aE}(h:a.Ok):a.Bd:=aE.bd h.w h.ty h.nm h.rg h.e
def eQ(a:aE):List Int:=if hZ a=0 then qO a else []
theorem E1(a:aE)(hW:a.W):EV G (Tb (bs bb)) 102 [a.v] []=some (.tup [.one (.dc (.raw (.string (eG (eQ a))))),.one (.dc (ci (hZ a)))],[]):=by
 refine aB rfl ?_;have q:=vZ (G:=G) (bb:=bb) a hW;unfold eQ;by_cases c:hZ a=0
 ·have q1:=xK (G:=G) (bb:=bb) a (nX hW c).bd;rw[if_pos c];simp (disch:=omega) only[go_sem,h102c,q,c,q1]
 ·rw[if_neg c];simp (disch:=omega) only[go_sem,h102c,q,c,aF]
theorem pK{a:aE}(hW:a.W):(eQ a).length<=440:=by
 unfold eQ;by_cases c:hZ a=0
 ·rw[if_pos c,pI a (nX hW c).bd];unfold hZ at c;split at c
  ·exact absurd c (by decide)
  split at c
  ·exact absurd c (by decide)
  split at c
  ·exact absurd c (by decide)
  split at c
  ·rename_i h4;exact absurd c h4
  split at c
  ·exact absurd c (by decide)
  ·omega
 ·rw[if_neg c];simp
theorem Vd(a:aE)(hW:a.W):EV G (Tb (bs bb)) 121 [a.v] []=some (.tup [.one (.dc (ci (eQ a).length)),.one (.dc (ci (hZ a)))],[]):=by
 refine aB rfl ?_;have q:=E1 (G:=G) (bb:=bb) a hW;have:=pK hW;simp (disch:=omega) only[go_sem,h121c,q]
end
section
variable {G:aH} {bb:Bool}
theorem E2(a:aE):EV G (Tb (bs bb)) 80 [a.v] []=some (.agg [.dc (ci a.ty),.dc (.raw (.string (eG a.nm))),.dc (ci a.fi)],[]):=by
 refine aB rfl ?_;simp (disch:=omega) only[go_sem,h80c,aF]
end
section
variable {G:aH} {bb:Bool}
def jG(a b:Int):Int:=if a < b then -1 else if a > b then 1 else 0
theorem Nu(a:Int):EV G (Tb (bs bb)) 202 [vi a] []=some (vb false,[]):=by
 refine aB rfl ?_;simp (disch:=omega) only[go_sem,h202c]
theorem aI9(a b:Int):EV G (Tb (bs bb)) 168 [vi a,vi b] []=some (vi (jG a b),[]):=by
 refine aB rfl ?_;unfold jG;by_cases c1:a < b
 ·rw[if_pos c1];simp (disch:=omega) only[go_sem,h168c,Nu,eq_true c1]
 ·rw[if_neg c1];by_cases c2:b < a
  ·rw[if_pos c2];simp (disch:=omega) only[go_sem,h168c,Nu,c1,eq_true c2]
  ·rw[if_neg c2];simp (disch:=omega) only[go_sem,h168c,Nu,c1,c2]
theorem xL(a b:Int):EV G (Tb (bs bb)) 171 [vi a,vi b] []=some (vi (jG a b),[]):=by
 refine aB rfl ?_;unfold jG;by_cases c1:a < b
 ·rw[if_pos c1];simp (disch:=omega) only[go_sem,h171c,eq_true c1]
 ·rw[if_neg c1];by_cases c2:b < a
  ·rw[if_pos c2];simp (disch:=omega) only[go_sem,h171c,c1,eq_true c2]
  ·rw[if_neg c2];simp (disch:=omega) only[go_sem,h171c,c1,c2]
theorem Nv(s:ByteArray):EV G (Tb (bs bb)) 203 [.one (.dc (.raw (.string s)))] []=some (vb false,[]):=by
 refine aB rfl ?_;simp (disch:=omega) only[go_sem,h203c]
def ltS(a b:List Int):Bool:=Op.bytesLess (eG a).toList (eG b).toList
def gtS(a b:List Int):Bool:=!(Op.bytesLess (eG a).toList (eG b).toList||(eG a).toList==(eG b).toList)
theorem pL(a b:List Int):eK .lss (sv a) (sv b)=some (vb (ltS a b)):=rfl
theorem wB(a b:List Int):eK .gtr (sv a) (sv b)=some (vb (gtS a b)):=rfl
def tC(a b:List Int):Int:=if ltS a b=true then -1 else if gtS a b=true then 1 else 0
theorem aJa(a b:List Int):EV G (Tb (bs bb)) 169 [sv a,sv b] []=some (vi (tC a b),[]):=by
 refine aB rfl ?_;unfold tC;cases c1:ltS a b with
 | true=>
  rw[if_pos rfl];simp (disch:=omega) only[go_sem,h169c,Nv,pL,c1]
 | false=>
  rw[if_neg (by decide)];cases c2:gtS a b with
  | true=>
   rw[if_pos rfl];simp (disch:=omega) only[go_sem,h169c,Nv,pL,wB,c1,c2]
  | false=>
   rw[if_neg (by decide)];simp (disch:=omega) only[go_sem,h169c,Nv,pL,wB,c1,c2]
theorem aO4(l:List Int)(hl:l.length<=1000):EV G (Tb (bs bb)) 167 [vl (el l)] []=some (vi (aS l),[]):=by
 refine aB rfl ?_;simp (disch:=omega) only[go_sem,h167c,aQb];have round:∀ k (hk:k < l.length),¬ l.getD k 0≠0->Ua [3,2,0,0] 0 (EC (EV G (Tb (bs bb))) G h167l0 ⟨(jk 3 (vi 0::jk 2 (vl (el l)::vi l.length::vi k::jk 9 []))),[]⟩)=some ⟨(jk 3 (vi 0::jk 2 (vl (el l)::vi l.length::vi (k+1:Nat)::jk 9 []))),[]⟩:=fun k hk hz=>by
  rw[eY l k hk] at hz;simp (disch:=omega) only[go_sem,h167l0,aQb,Qu]
 rcases Uz (fun k=>l.getD k 0≠0) l.length with h | ⟨j,hj,h1,h2⟩
 ·rw[bG (fun k=>⟨(jk 3 (vi 0::jk 2 (vl (el l)::vi l.length::vi k::jk 9 []))),[]⟩) l.length ?_ ?_]
  ·rw[kF l h];simp (disch:=omega) only[go_sem,h167l0]
  ·rfl
  ·exact fun k hk=>round k hk (h k hk)
 ·rw[bG (fun k=>⟨(jk 3 (vi 0::jk 2 (vl (el l)::vi l.length::vi k::jk 9 []))),[]⟩) j ?_ ?_]
  ·rw[mV l j hj h2 h1];rw[eY l j hj] at h1;simp (disch:=omega) only[go_sem,h167l0,aQb,Qu]
  ·rfl
  ·exact fun k hk=>round k (by omega) (h2 k hk)
def iF(a b:aE):Int:=aS [jG a.ty b.ty,tC a.nm b.nm,jG a.fi b.fi,jG a.id b.id]
theorem E3(a b:aE):EV G (Tb (bs bb)) 119 [a.v,b.v] []=some (vi (iF a b),[]):=by
 refine aB rfl ?_;have q:=aO4 (G:=G) (bb:=bb) [jG a.ty b.ty,tC a.nm b.nm,jG a.fi b.fi,jG a.id b.id] (by simp);simp only[el,aQo,aQn,Qu] at q;simp (disch:=omega) only[go_sem,h119c,aI9,aJa,q];rfl
def nL(a b:aE):Bool:=decide (a.ty=b.ty)&&(decide (a.nm=b.nm)&&decide (a.fi=b.fi))
theorem E4(a b:aE)(ha:aM a.nm)(hb:aM b.nm):EV G (Tb (bs bb)) 120 [a.v,b.v] []=some (vb (nL a b),[]):=by
 refine aB rfl ?_;have e:=cW ha hb;unfold nL;by_cases c1:a.ty=b.ty
 ·by_cases c2:a.nm=b.nm
  ·simp (disch:=omega) only[go_sem,h120c,e,eq_true c1,eq_true c2]
  ·simp (disch:=omega) only[go_sem,h120c,e,eq_true c1,c2]
 ·simp (disch:=omega) only[go_sem,h120c,e,c1]
abbrev aMG(ty:Int)(nm:List Int)(fi:Int):List aR:=[.dc (ci ty),.dc (.raw (.string (eG nm))),.dc (ci fi)]
theorem aJb(a b:aE):EV G (Tb (bs bb)) 170 [.agg (aMG a.ty a.nm a.fi),.agg (aMG b.ty b.nm b.fi)] []=some (vi (aS [jG a.ty b.ty,tC a.nm b.nm,jG a.fi b.fi]),[]):=by
 refine aB rfl ?_;have q1:=xL (G:=G) (bb:=bb) a.ty b.ty;have q2:=xL (G:=G) (bb:=bb) a.fi b.fi;by_cases c1:jG a.ty b.ty=0
 ·rw[c1] at q1;rw[c1,aP];unfold tC;cases c2:ltS a.nm b.nm with
  | true=>
   rw[if_pos rfl];simp (disch:=omega) only[go_sem,h170c,q1,pL,c2];rfl
  | false=>
   rw[if_neg (by decide)];cases c3:gtS a.nm b.nm with
   | true=>
    rw[if_pos rfl];simp (disch:=omega) only[go_sem,h170c,q1,pL,wB,c2,c3];rfl
   | false=>
    rw[if_neg (by decide)];have e:aS [0,jG a.fi b.fi]=jG a.fi b.fi:=by
     rw[aP];by_cases h:jG a.fi b.fi=0
     ·rw[h];rfl
     ·rw[aQ _ _ h]
    rw[e];simp (disch:=omega) only[go_sem,h170c,q1,q2,pL,wB,c2,c3]
 ·rw[aQ _ _ c1];generalize jG a.ty b.ty=e at c1 q1;simp (disch:=omega) only[go_sem,h170c,q1,c1]
theorem Nw(l:List Int)(e:Int):aS (l++[e])=if aS l≠0 then aS l else e:=by
 induction l with
 | nil=>
  show aS [e]=if (0:Int)≠0 then 0 else e
  rw[if_neg (by decide)];by_cases h:e=0
  ·rw[h];rfl
  ·rw[aQ _ _ h]
 | cons x l ih=>
  by_cases h:x=0
  ·rw[h,aQy,aP,aP,ih]
  ·rw[aQy,aQ _ _ h,aQ _ _ h,if_pos h]
theorem qD(a b:aE):EV G (Tb (bs bb)) 123 [a.v,b.v] []=some (vi (iF a b),[]):=by
 refine aB rfl ?_;have q1:=E2 (G:=G) (bb:=bb) a;have q2:=E2 (G:=G) (bb:=bb) b;have q3:=aJb (G:=G) (bb:=bb) a b;have q4:=xL (G:=G) (bb:=bb) a.id b.id;have e:=Nw [jG a.ty b.ty,tC a.nm b.nm,jG a.fi b.fi] (jG a.id b.id);unfold iF;rw[show [jG a.ty b.ty,tC a.nm b.nm,jG a.fi b.fi,jG a.id b.id]=[jG a.ty b.ty,tC a.nm b.nm,jG a.fi b.fi]++[jG a.id b.id] from rfl,e]
 generalize aS [jG a.ty b.ty,tC a.nm b.nm,jG a.fi b.fi]=x at q3 ⊢;by_cases c:x=0
 ·rw[if_neg (fun h=>h c)]
  simp (disch:=omega) only[go_sem,h123c,q1,q2,q3,q4,eq_true c]
 ·rw[if_pos c];simp (disch:=omega) only[go_sem,h123c,q1,q2,q3,c]
end
section
variable {G:aH} {bb:Bool}
theorem fE(l:List aE)(k:Nat)(hk:k < l.length):l.getD k aE.nil=l[k]:=by simp[List.getD,hk]
theorem Ae(l:List aE):((l.map aE.e).all fun e=>decide (e.length=11))=true:=by simp[aE.e]
abbrev G6:List aR:=[cI (Zi 0),cI (.string (eG [])),cI (Zi 0),cI (Zi 0),cI (.bool false),cI (.string (eG [])),cI (Zi 0),cI (.slice none 0 0),cI (Zi 0),cI (Zi 0),cI (Zi 0)]
end
section
variable {G:aH} {bb:Bool}
theorem ixA(l:List aE)(k:Nat)(hk:k < l.length):(l.map aE.e)[k]?=some l[k].e:=by
 rw[aQh,aQi hk];rfl
noncomputable def Cd(p:aE->Bool)(l:List aE):Int:=if ix (fun k=>p (l.getD k aE.nil)=true) l.length=l.length then -1 else (ix (fun k=>p (l.getD k aE.nil)=true) l.length:Nat)
theorem aAO(l:List aE)(i:Nat)(hi:i < l.length)(a:aE):
  EV G (Tb (bs bb)) 166 [a.v,.one (.ptr 0 0),.one (.ptr 1 0)] [.box [.dc (.slc (l.map aE.e))],.box [.dc (ci i)]]=some (vb (decide (a.id=l[i].id)),[.box [.dc (.slc (l.map aE.e))],.box [.dc (ci i)]]):=by
 refine aB rfl ?_;simp (disch:=omega) only[go_sem,h166c,aQb,ixA,aE.e]
theorem aJc(l:List aE)(i:Nat)(hi:i < l.length)(m:List aE)(hm:m.length<=1000000):
  EV G (Tb (bs bb)) 64 [vl (m.map aE.e),.one (.fn 166 [.ptr 0 0,.ptr 1 0])] [.box [.dc (.slc (l.map aE.e))],.box [.dc (ci i)]]=some (vi (Cd (fun a=>decide (a.id=l[i].id)) m),[.box [.dc (.slc (l.map aE.e))],.box [.dc (ci i)]]):=by
 refine aB rfl ?_;simp (disch:=omega) only[go_sem,h64c,aQb];unfold Cd;rw[gA (fun k=>⟨(vl (m.map aE.e)::.one (.fn 166 [.ptr 0 0,.ptr 1 0])::jk 5 (vi m.length::vi k::jk 10 [])),[.box [.dc (.slc (l.map aE.e))],.box [.dc (ci i)]]⟩) (fun k=>decide ((m.getD k aE.nil).id=l[i].id)=true) m.length ?_ ?_]
 rotate_left
 ·rfl
 ·intro k hk hn;have h3:=hn k (aQf _);rw[fE m k hk] at h3;have h4:decide (m[k].id=l[i].id)=false:=by simpa using h3
  have q:=aAO (G:=G) (bb:=bb) l i hi m[k];rw[h4] at q;simp (disch:=omega) only[go_sem,h64l0,aQb,ixA,aE.e,q]
 obtain⟨hk,hp,hn⟩:=bW (fun k=>decide ((m.getD k aE.nil).id=l[i].id)=true) m.length
 generalize ix (fun k=>decide ((m.getD k aE.nil).id=l[i].id)=true) m.length=k at *
 rcases hp with rfl | ⟨hk',hp⟩
 ·rw[if_pos rfl];simp (disch:=omega) only[go_sem,h64l0,aQb]
 ·rw[if_neg (by omega)];rw[fE m k hk'] at hp;have q:=aAO (G:=G) (bb:=bb) l i hi m[k];rw[hp] at q;simp (disch:=omega) only[go_sem,h64l0,aQb,ixA,aE.e,q]
theorem Ku(p:aE->Bool)(l:List aE):decide (0<=Cd p l)=l.any p:=by
 unfold Cd;obtain⟨hk,hp,hn⟩:=bW (fun k=>p (l.getD k aE.nil)=true) l.length
 generalize ix (fun k=>p (l.getD k aE.nil)=true) l.length=k at *
 rcases hp with rfl | ⟨hk',hp⟩
 ·rw[if_pos rfl]
  symm
  rw[show decide ((0:Int)<=-1)=false from rfl,aRD]
  intro x hx;obtain⟨j,hj,rfl⟩:=List.getElem_of_mem hx;have:=hn j hj;rw[fE l j hj] at this;exact this
 ·rw[if_neg (by omega),decide_eq_true (by omega)]
  symm
  rw[List.any_eq_true];rw[fE l k hk'] at hp;exact⟨l[k],aQm hk',hp⟩
theorem aE3(l:List aE)(i:Nat)(hi:i < l.length)(m:List aE)(hm:m.length<=1000000):
  EV G (Tb (bs bb)) 130 [vl (m.map aE.e),.one (.fn 166 [.ptr 0 0,.ptr 1 0])] [.box [.dc (.slc (l.map aE.e))],.box [.dc (ci i)]]=some (vb (m.any fun a=>decide (a.id=l[i].id)),[.box [.dc (.slc (l.map aE.e))],.box [.dc (ci i)]]):=by
 refine aB rfl ?_;have q:=aJc (G:=G) (bb:=bb) l i hi m hm;rw[<- Ku];simp (disch:=omega) only[go_sem,h130c,q]
theorem aMH{α β:Type}(f:α->Option β)(x y:α):[x,y].mapM f=(f x).bind fun a=>(f y).map fun b=>[a,b]:=by
 simp only[aQ2,List.mapM_nil];cases f x with
 | none=>rfl
 | some a=>cases f y<;>rfl
def Nx(l:List aE)(i:Nat):Bool:=(l.take i).any fun a=>decide (a.id=(l.getD i aE.nil).id)
def jO(l:List aE)(i:Nat):Int:=aS [hZ (l.getD i aE.nil),un (!Nx l i) 23]
theorem wC(l:List aE)(hW:∀ a∈l,a.W)(hl:l.length<=1000)(i:Nat)(hi:i < l.length):EV G (Tb (bs bb)) 116 [vl (l.map aE.e),vi i] []=some (vi (jO l i),[]):=by
 refine aB rfl ?_;have q:=aE3 (G:=G) (bb:=bb) l i hi (l.take i) (by rw[aQj];omega);have q1:=vZ (G:=G) (bb:=bb) l[i] (hW _ (aQm hi));rw[aQY] at q;unfold jO Nx;rw[fE l i hi];simp (disch:=omega) only[go_sem,h116c,aQb,ixA,aE.e,q,q1,Ae,aU,lW,aMH,aQg,aQq]
end
end Go.Proofs.YtcplecjhmnblpaaGreatDoor
