/- Numbers that are read of bytes. Conditions: none. -/
import Derived.Test.YthepfneloomngaaGreatDoorUg
import Derived.Test.YthepfneloomngaaGreatDoorUa
namespace Go.Proofs.YthepfneloomngaaGreatDoor
set_option linter.unusedSimpArgs false
set_option linter.unusedVariables false
set_option maxRecDepth 4000
section
variable {G:aE}{bb:Bool}
theorem aL5(b:Bool):EV G (Tb (bs bb)) 200 [vb b] []=some (vi (if b=true then 1 else 0),[]):=by
 refine aA rfl ?_;cases b;all_goals simp (disch:=omega) only[go_sem,h200c]
 all_goals rfl
theorem B5(n:Nat)(h:n<=1000000000):EV G (Tb (bs bb)) 199 [vi n,vi 8] []=some (vi (((n+7) / 8:Nat):Int),[]):=by
 have:=aOO (G:=G) (bb:=bb) n 8 (by omega) (by omega) (by omega);rwa[show -(-(n:Int) / 8)=(((n+7) / 8:Nat):Int) by omega] at this
theorem Ya(n:Int)(hn:0<=n/\n<=9223372036854775807):EV G (Tb (bs bb)) 25 [vi n,vi 1] []=some (sv (bK n 1),[]):=mF n 1 hn (by omega)
theorem nD(n:Int)(hn:0<=n/\n<=9223372036854775807):EV G (Tb (bs bb)) 25 [vi n,vi 2] []=some (sv (bK n 2),[]):=mF n 2 hn (by omega)
theorem uP(n:Int)(hn:0<=n/\n<=9223372036854775807):EV G (Tb (bs bb)) 25 [vi n,vi 4] []=some (sv (bK n 4),[]):=mF n 4 hn (by omega)
def Di(l:List Int):List Int:=l++List.replicate ((l.length+7) / 8*8-l.length) 0
theorem qE(k:Nat)(h:k<=100000):EV G (Tb (bs bb)) 77 [vi k] []=some (sv (List.replicate k 0),[]):=by
 have:=uN (G:=G) (B:=bs bb) k (by omega);rwa[aYm] at this
theorem Rf(l:List Int)(h:l.length<=10000):EV G (Tb (bs bb)) 201 [sv l] []=some (sv (Di l),[]):=by
 refine aA rfl ?_;have q1:=B5 (G:=G) (bb:=bb) l.length (by omega);have q2:=qE (G:=G) (bb:=bb) ((l.length+7) / 8*8-l.length) (by omega);have e:(8:Int)*(((l.length+7) / 8:Nat):Int)-(l.length:Int)=(((l.length+7) / 8*8-l.length:Nat):Int):=by omega
 simp (disch:=first|omega|(simp only[aXD,aXE,aXH,aXC,aB,aXO]<;>omega)) only[go_sem,h201c,q1,e,q2,aXO,Di]
def J1(a:aJ):List Int:=bK (if a.res=true then 0 else 1) 1++bK a.nm.length 1++bK (tJ a) 2++bK a.fl 2++bK a.id 2
def Uv(a:aJ):List Int:=if a.res=true then J1 a++bK a.va.length 4++bK (eC a) 4
 else J1 a++bK a.fi 4++bK ((a.fi+iF a.rs-1) % 4294967296) 4++bK (eC a) 2++List.replicate 2 0++bK a.al 4++bK a.sz 4++bK a.vd 4
def Yb(a:aJ):List Int:=if a.res=true then a.va else (lF a.rs).1++[0]
def J2(a:aJ):List Int:=Di (Uv a++a.nm++List.replicate (eC a-tJ a-a.nm.length) 0++Yb a)
def iT(a:aJ):List Int:=bK a.ty 4++bK (fQ a) 4++J2 a
structure aJ.Ok (a:aJ):Prop where
 w:a.W
 ty:a.ty∈Lb
 nm:Nd a.nm=true
 rg:(0<=a.id/\a.id<=65535)/\(0<=a.fl/\a.fl<=7)
 e:rZ a=0
theorem Nk{a:aJ}(h:a.Ok):Yb a=rU a:=by
 unfold Yb rU;by_cases hr:a.res=true;rw[if_pos hr,if_pos hr];rw[if_neg hr,if_neg hr];have h4:=h.e;unfold rZ at h4;rw[if_neg hr] at h4;obtain⟨_,_,_,q4,_⟩:=Dh h4;unfold Al;rw[if_neg (by rw[K8];simpa using q4)]
theorem F4(a:aJ):(Uv a).length+8=tJ a:=by
 unfold Uv J1 tJ;split<;>simp only[aXD,aB,aXO]
set_option maxHeartbeats 4000000 in
theorem aOP(a:aJ)(h:a.Ok)(hr:a.res=true):EV G (Tb (bs bb)) 148 [a.v] []=some (sv (iT a),[]):=by
 refine aA rfl ?_;obtain⟨b1,b2,b3,b4,b5,b6,b7,b8,b9,b10,b11,b12,b13⟩:=aJ.bd h.w h.ty h.nm h.rg h.e;have g1:=Nh h.ty;have g2:=F3 h.nm;obtain⟨g3,g4⟩:=h.rg;have h4:=h.e;unfold rZ at h4;rw[if_pos hr] at h4;obtain⟨r1,r2,r3,r4,r5,r6⟩:=Nj h4;have eh:tJ a=24:=by simp[tJ,hr]
 have hA:24+a.nm.length<=eC a/\eC a<=2000:=by simp only[eC,eh];omega
 have q1:=B5 (G:=G) (bb:=bb) (24+a.nm.length) (by omega);have eA:(8:Int)*(((24+a.nm.length+7) / 8:Nat):Int)=((eC a:Nat):Int):=by simp only[eC,eh];omega
 rw[Int.natCast_add,show ((24:Nat):Int)=24 from rfl] at q1
 have hs:fQ a<=4000/\8<=fQ a/\fQ a % 8=0:=by
  have:rU a=a.va:=by simp[rU,hr]
  simp only[fQ,this];omega
 have hz:(J2 a).length=fQ a-8:=by
  have h2:=F4 a;rw[J2,Di,Nk h];simp only[aXD,aXO];simp only[fQ];have:eC a % 8=0:=by unfold eC;omega
  omega
 have q2:=qE (G:=G) (bb:=bb) (eC a-24-a.nm.length) (by omega);have e2:((eC a:Nat):Int)-24-(a.nm.length:Int)=((eC a-24-a.nm.length:Nat):Int):=by omega
 have f1:Uv a=J1 a++bK a.va.length 4++bK (eC a) 4:=by rw[Uv,if_pos hr]
 have l1:(J1 a).length=8:=by simp only[J1,aXD,aB]
 have f2:J2 a=Di (J1 a++bK a.va.length 4++bK (eC a) 4++a.nm++List.replicate (eC a-24-a.nm.length) 0++a.va):=by rw[J2,f1,eh,Yb,if_pos hr]
 have f0:J1 a=bK 0 1++bK a.nm.length 1++bK 24 2++bK a.fl 2++bK a.id 2:=by rw[J1,if_pos hr,eh];rfl
 have q3:=Rf (G:=G) (bb:=bb) (J1 a++bK a.va.length 4++bK (eC a) 4++a.nm++List.replicate (eC a-24-a.nm.length) 0++a.va) (by simp only[aXD,aB,aXO];omega);rw[<- f2] at q3;have q4:=B5 (G:=G) (bb:=bb) ((J2 a).length+8) (by omega);rw[Int.natCast_add,show ((8:Nat):Int)=8 from rfl] at q4
 have e4:(8:Int)*((((J2 a).length+8+7) / 8:Nat):Int)=((fQ a:Nat):Int):=by omega
 rw[f0] at q3;unfold iT;generalize J2 a=R at *;generalize eC a=A at *;generalize fQ a=N at *;simp (disch:=first|omega|(simp only[aXD,aXE,aXH,aXC,aB,aXO]<;>omega)) only[go_sem,h148c,hr,aL,aL5,q1,eA,Ya,nD,uP,q2,e2,q3,q4,e4,aYE,aXO]
theorem aE2:EV G (Tb (bs bb)) 77 [vi 2] []=some (sv [0,0],[]):=uN 2 (by omega)
theorem Rg{l:List aY}(h:(nA l).2=0):(lF l).1.length<=320:=by
 obtain⟨g1,g2,g3⟩:=uM l (fun r hr'=>(Fy h r hr').1) l.length (aXF _)
 rw[B0] at g1;have:=nC h;omega
set_option maxHeartbeats 4000000 in
theorem aOQ(a:aJ)(h:a.Ok)(hr:a.res=false):EV G (Tb (bs bb)) 148 [a.v] []=some (sv (iT a),[]):=by
 refine aA rfl ?_;obtain⟨b1,b2,b3,b4,b5,b6,b7,b8,b9,b10,b11,b12,b13⟩:=aJ.bd h.w h.ty h.nm h.rg h.e;have hr':¬ a.res=true:=by rw[hr];decide
 have g1:=Nh h.ty;have g2:=F3 h.nm;obtain⟨g3,g4⟩:=h.rg;have h4:=h.e;unfold rZ at h4;rw[if_neg hr'] at h4;obtain⟨r1,r2,r3,r4,r5,r6,r7,r8,r9⟩:=Dh h4;obtain⟨c1,c2,c3⟩:=Ni r4;have eh:tJ a=40:=by simp[tJ,hr]
 have eb:=Nk h;have ef:Yb a=(lF a.rs).1++[0]:=by rw[Yb,if_neg hr']
 have hl:=Rg r4;have hbl:(rU a).length=(lF a.rs).1.length+1:=by rw[<- eb,ef];simp
 have hA:40+a.nm.length<=eC a/\eC a<=2000:=by simp only[eC,eh];omega
 have q1:=B5 (G:=G) (bb:=bb) (40+a.nm.length) (by omega);have eA:(8:Int)*(((40+a.nm.length+7) / 8:Nat):Int)=((eC a:Nat):Int):=by simp only[eC,eh];omega
 rw[Int.natCast_add,show ((40:Nat):Int)=40 from rfl] at q1
 have hs:fQ a<=4000/\8<=fQ a/\fQ a % 8=0:=by
  simp only[fQ];omega
 have hz:(J2 a).length=fQ a-8:=by
  have h2:=F4 a;rw[J2,Di,Nk h];simp only[aXD,aXO];simp only[fQ];have:eC a % 8=0:=by unfold eC;omega
  omega
 have q2:=qE (G:=G) (bb:=bb) (eC a-40-a.nm.length) (by omega);have e2:((eC a:Nat):Int)-40-(a.nm.length:Int)=((eC a-40-a.nm.length:Nat):Int):=by omega
 have q5:=aBg (G:=G) (B:=bs bb) a.rs r4;have q6:=H5 (G:=G) (B:=bs bb) a.rs (by omega);have q7:=Q5 (G:=G) (B:=bs bb) (a.fi+iF a.rs-1) 4294967296 (by omega);have l1:(J1 a).length=8:=by simp only[J1,aXD,aB]
 have f0:J1 a=bK 1 1++bK a.nm.length 1++bK 40 2++bK a.fl 2++bK a.id 2:=by rw[J1,if_neg hr',eh];rfl
 have f1:Uv a=J1 a++bK a.fi 4++bK ((a.fi+iF a.rs-1) % 4294967296) 4++bK (eC a) 2++[0,0]++bK a.al 4++bK a.sz 4++bK a.vd 4:=by rw[Uv,if_neg hr'];rfl
 have l2:=F4 a;have f2:J2 a=Di (Uv a++a.nm++List.replicate (eC a-40-a.nm.length) 0++((lF a.rs).1++[0])):=by rw[J2,eh,ef]
 have q3:=Rf (G:=G) (bb:=bb) (Uv a++a.nm++List.replicate (eC a-40-a.nm.length) 0++((lF a.rs).1++[0])) (by simp only[aXD,aXO,List.length_singleton];omega);rw[<- f2] at q3;have q4:=B5 (G:=G) (bb:=bb) ((J2 a).length+8) (by omega);rw[Int.natCast_add,show ((8:Nat):Int)=8 from rfl] at q4
 have e4:(8:Int)*((((J2 a).length+8+7) / 8:Nat):Int)=((fQ a:Nat):Int):=by omega
 rw[f1,f0] at q3;unfold iT;generalize J2 a=R at *;generalize eC a=A at *;generalize fQ a=N at *;have hm:0<=(a.fi+iF a.rs-1) % 4294967296/\(a.fi+iF a.rs-1) % 4294967296<=4294967296:=by omega
 simp (disch:=first|omega|(simp only[aXD,aXE,aXH,aXC,aB,aXO]<;>omega)) only[go_sem,h148c,hr,aL,aL5,q1,eA,Ya,nD,uP,aE2,q2,e2,q3,q4,e4,q5,q6,q7,aYE,aXO]
theorem Ii(a:aJ)(h:a.Ok):EV G (Tb (bs bb)) 148 [a.v] []=some (sv (iT a),[]):=by
 cases hr:a.res with
 |true=>exact aOP a h hr
 |false=>exact aOQ a h hr
theorem aJR(a:aJ)(h:a.Ok):(iT a).length=fQ a:=by
 have h2:=F4 a;have hb:=Nk h;have h3:eC a % 8=0/\tJ a+a.nm.length<=eC a:=by unfold eC;omega
 rw[iT,J2,Di,hb];simp only[aXD,aXO,aB];simp only[fQ];omega
theorem aOR(a:aJ)(hW:a.W):EV G (Tb (bs bb)) 193 [a.v] []=some (vi (fK a),[]):=by
 refine aA rfl ?_;have q1:=aBn (G:=G) (bb:=bb) a.ty;have q2:=aEY (G:=G) (bb:=bb) a.nm hW.nm (by have:=hW.nl;omega);have q3:=aBp (G:=G) (bb:=bb) a hW;have q4:=aBo (G:=G) (bb:=bb) a;unfold fK;by_cases c1:a.ty∈Lb;rw[if_neg (fun h=>h c1)]
 rw[decide_eq_true c1] at q1;cases c2:Nd a.nm with
 |false=>
  rw[c2] at q2;rw[if_pos rfl];simp (disch:=omega) only[go_sem,h193c,q1,q2]
 |true=>
  rw[c2] at q2;rw[if_neg (by decide)];by_cases d1:0<=a.id/\a.id<=65535;by_cases d2:0<=a.fl/\a.fl<=7;rw[if_neg (fun h=>h ⟨d1,d2⟩)]
  have q5 (h:rZ a=0):=Ii (G:=G) (bb:=bb) a ⟨hW,c1,c2,⟨d1,d2⟩,h⟩;have q6 (h:rZ a=0):=aJR a ⟨hW,c1,c2,⟨d1,d2⟩,h⟩;have e6:((fQ a:Int) > 440)=(fQ a > 440):=by apply propext;omega
  cases c3:a.res with
  |true=>
   simp only[rZ,c3,if_true] at q5 q6 ⊢;simp only[aJ.v,aJ.c,c3] at q3 q4 q5;by_cases c4:J0 a=0;rw[if_neg (fun h=>h c4)]
   by_cases c5:fQ a > 440;rw[if_pos c5];simp (disch:=omega) only[go_sem,h193c,q1,q2,cB,eq_true d1,eq_true d2,q3,c3,q4,c4,q5 c4,q6 c4,e6,eq_true c5];rw[if_neg c5];simp (disch:=omega) only[go_sem,h193c,q1,q2,cB,eq_true d1,eq_true d2,q3,c3,q4,c4,q5 c4,q6 c4,e6,c5];rw[if_pos c4];simp (disch:=omega) only[go_sem,h193c,q1,q2,cB,eq_true d1,eq_true d2,q3,c3,q4,c4]
  |false=>
   simp only[rZ,c3,if_false,aYP] at q5 q6 ⊢;simp only[aJ.v,aJ.c,c3] at q3 q4 q5;by_cases c4:Ig a=0;rw[if_neg (fun h=>h c4)]
   by_cases c5:fQ a > 440;rw[if_pos c5];simp (disch:=omega) only[go_sem,h193c,q1,q2,cB,eq_true d1,eq_true d2,q3,c3,c4,q5 c4,q6 c4,e6,eq_true c5];rw[if_neg c5];simp (disch:=omega) only[go_sem,h193c,q1,q2,cB,eq_true d1,eq_true d2,q3,c3,c4,q5 c4,q6 c4,e6,c5];rw[if_pos c4];simp (disch:=omega) only[go_sem,h193c,q1,q2,cB,eq_true d1,eq_true d2,q3,c3,c4]
  rw[if_pos (fun h=>d2 h.2)]
  simp (disch:=omega) only[go_sem,h193c,q1,q2,cB,eq_true d1,d2];rw[if_pos (fun h=>d1 h.1)]
  simp (disch:=omega) only[go_sem,h193c,q1,q2,cB,d1]
 rw[if_pos c1];rw[decide_eq_false c1] at q1;simp (disch:=omega) only[go_sem,h193c,q1]
end
section
variable {G:aE}{B:aO}
def tb3(a b c:Int):Nat->Int
 |0=>a
 |1=>b
 |_=>c
theorem aL6(a b c:Int):tb3 a b c 0=a:=rfl
theorem Rh(a b c:Int):tb3 a b c 1=b:=rfl
theorem aE3(a b c:Int):tb3 a b c 2=c:=rfl
abbrev bS(l:List Int):aC:=.box [.dc (.raw (.string (dL l)))]
def rC:List Int->Int
 |[x]=>if 128<=x then x-256 else x
 |[x,y]=>if 32768<=y*256+x then y*256+x-65536 else y*256+x
 |_=>0
def iG(bs:List Int)(a:Nat):Int×Bool×List Int:=if bs.length<a then (0,false,bs) else (rC (bs.take a),decide (sz (rC (bs.take a))=a),bs.drop a)
def nE(last h:Int)(t:List Int):aY×Bool×List Int:=
 if (1<=h % 16/\h % 16<=2)/\h / 16<=2 then
  if (iG t (h % 16).toNat).2.1=false\/h / 16=0 then (⟨-1,(iG t (h % 16).toNat).1⟩,(iG t (h % 16).toNat).2.1,(iG t (h % 16).toNat).2.2)
  else (⟨last+(iG (iG t (h % 16).toNat).2.2 (h / 16).toNat).1,(iG t (h % 16).toNat).1⟩,(iG (iG t (h % 16).toNat).2.2 (h / 16).toNat).2.1&&!decide (last+(iG (iG t (h % 16).toNat).2.2 (h / 16).toNat).1=-1),(iG (iG t (h % 16).toNat).2.2 (h / 16).toNat).2.2)
 else (⟨0,0⟩,false,t)
theorem aE4(n b:Int)(hn:0<=n/\n<=255)(hb:0<=b/\b<=255):Ui .i64 (n*256) b=n*256+b:=by
 obtain⟨n,rfl⟩:=aYJ hn.1;obtain⟨b,rfl⟩:=aYJ hb.1;have h1:((n:Int)*256)=((n*256:Nat):Int):=by simp
 have h2:n*256 ||| b=n*256+b:=by
  have:=Nat.shiftLeft_add_eq_or_of_lt (show b<2 ^ 8 by omega) n;rw[Nat.shiftLeft_eq] at this;exact this.symm
 rw[Ui,h1,H7,BitVec.ofInt_natCast,BitVec.ofInt_natCast,BitVec.toNat_or,BitVec.toNat_ofNat,BitVec.toNat_ofNat,aYB (by omega),aYB (by omega),h2,zP (by omega)];simp
theorem aL7(h:Int)(hh:0<=h/\h<=255):Uh .i64 h 15=h % 16:=by
 obtain⟨n,rfl⟩:=aYJ hh.1;have h2:n &&& 15=n % 16:=Nat.and_two_pow_sub_one_eq_mod n 4;have h3:(15:Int)=((15:Nat):Int):=rfl;rw[Uh,h3,H7,BitVec.ofInt_natCast,BitVec.ofInt_natCast,BitVec.toNat_and,BitVec.toNat_ofNat,BitVec.toNat_ofNat,aYB (by omega),aYB (by omega),h2,zP (by omega)];simp
theorem Dj(n:Int):n.fdiv 16=n / 16:=Int.fdiv_eq_ediv_of_nonneg _ (by decide)
theorem kO{x:Int}{l:List Int}(h:aM (x::l)):(0<=x/\x<=255)/\aM l:=⟨h x aXV,fun b hb=>h b (aX3 _ hb)⟩
theorem aBq(bs:List Int)(hB:aM bs):EV G (Tb B) 346 [.one (.ptr 0 0),vi 1] [bS bs]=some (.tup [.one (.dc (ci (iG bs 1).1)),.one (bC (iG bs 1).2.1)],[bS (iG bs 1).2.2]):=by
 refine aA rfl ?_
 match bs,hB with
 |[],hB=>
  simp (disch:=first|omega|(simp only[aXD,aXE,aXH,aXC,aB];omega)) only[go_sem,h346c,iG,aF]
  rfl
 |x::t,hB=>
  obtain⟨hx,_⟩:=kO hB;have o1:=aE4 0 x (by omega) hx;rw[Int.zero_mul,aYk] at o1;simp (disch:=first|omega|(simp only[aXD,aXE,aXH,aXC,aB];omega)) only[go_sem,h346c,Int.reduceSub]
  rw[aR (fun k=>⟨(.one (.ptr 0 0)::vi 1::jk 4 (vi (tb3 0 x x k)::vi (tb3 0 (-1) (-1) k)::jk 44 [])),[bS (x::t)]⟩) 1 ?_ ?_]
  have hv:iG (x::t) 1=(rC [x],decide (sz (rC [x])=1),t):=by rw[iG,if_neg (by simp)];rfl
  rw[hv];simp only[rC];by_cases c:128<=x;have s1:=qB (G:=G) (B:=B) (x-256) (by omega);simp (disch:=first|omega|(simp only[aXD,aXE,aXH,aXC,aB];omega)) only[go_sem,h346l0,Rh,Int.reduceMul,Int.reduceSub,Int.reduceToNat,Int.reducePow,Nat.reducePow,Int.reduceNeg,c,s1,bC]
  have s1:=qB (G:=G) (B:=B) x (by omega);simp (disch:=first|omega|(simp only[aXD,aXE,aXH,aXC,aB];omega)) only[go_sem,h346l0,Rh,Int.reduceMul,Int.reduceSub,Int.reduceToNat,Int.reducePow,Nat.reducePow,Int.reduceNeg,c,s1,bC]
  rfl;intro k hk;have hk0:k=0:=by omega
  subst hk0;simp (disch:=first|omega|(simp only[aXD,aXE,aXH,aXC,aB];omega)) only[go_sem,h346l0,aL6,Rh,Int.reduceMul,Int.reduceSub,Int.reduceToNat,Int.reducePow,Nat.reducePow,Int.reduceNeg,o1,Int.zero_mul]
theorem aBr(bs:List Int)(hB:aM bs):EV G (Tb B) 346 [.one (.ptr 0 0),vi 2] [bS bs]=some (.tup [.one (.dc (ci (iG bs 2).1)),.one (bC (iG bs 2).2.1)],[bS (iG bs 2).2.2]):=by
 refine aA rfl ?_
 match bs,hB with
 |[],hB=>
  simp (disch:=first|omega|(simp only[aXD,aXE,aXH,aXC,aB];omega)) only[go_sem,h346c,iG,aF]
  rfl
 |[x],hB=>
  simp (disch:=first|omega|(simp only[aXD,aXE,aXH,aXC,aB];omega)) only[go_sem,h346c,iG,aF]
  rfl
 |x::y::t,hB=>
  obtain⟨hx,hB'⟩:=kO hB;obtain⟨hy,_⟩:=kO hB';have o1:=aE4 0 y (by omega) hy;have o2:=aE4 y x hy hx;rw[Int.zero_mul,aYk] at o1;simp (disch:=first|omega|(simp only[aXD,aXE,aXH,aXC,aB];omega)) only[go_sem,h346c,Int.reduceSub]
  rw[aR (fun k=>⟨(.one (.ptr 0 0)::vi 2::jk 4 (vi (tb3 0 y (y*256+x) k)::vi (tb3 1 0 (-1) k)::jk 44 [])),[bS (x::y::t)]⟩) 2 ?_ ?_]
  have hv:iG (x::y::t) 2=(rC [x,y],decide (sz (rC [x,y])=2),t):=by rw[iG,if_neg (by simp)];rfl
  rw[hv];simp only[rC];by_cases c:32768<=y*256+x;have s1:=qB (G:=G) (B:=B) (y*256+x-65536) (by omega);simp (disch:=first|omega|(simp only[aXD,aXE,aXH,aXC,aB];omega)) only[go_sem,h346l0,aE3,Int.reduceMul,Int.reduceSub,Int.reduceToNat,Int.reducePow,Nat.reducePow,Int.reduceNeg,c,s1,bC]
  have s1:=qB (G:=G) (B:=B) (y*256+x) (by omega);simp (disch:=first|omega|(simp only[aXD,aXE,aXH,aXC,aB];omega)) only[go_sem,h346l0,aE3,Int.reduceMul,Int.reduceSub,Int.reduceToNat,Int.reducePow,Nat.reducePow,Int.reduceNeg,c,s1,bC]
  rfl;intro k hk;rcases (show k=0\/k=1 by omega) with rfl|rfl
  simp (disch:=first|omega|(simp only[aXD,aXE,aXH,aXC,aB];omega)) only[go_sem,h346l0,aL6,Rh,Int.reduceMul,Int.reduceSub,Int.reduceToNat,Int.reducePow,Nat.reducePow,Int.reduceNeg,o1,Int.zero_mul]
  simp (disch:=first|omega|(simp only[aXD,aXE,aXH,aXC,aB];omega)) only[go_sem,h346l0,Rh,aE3,Int.reduceMul,Int.reduceSub,Int.reduceToNat,Int.reducePow,Nat.reducePow,Int.reduceNeg,o2,Int.zero_mul]
theorem Ri(bs:List Int)(hB:aM bs)(a:Int)(ha:1<=a/\a<=2):EV G (Tb B) 346 [.one (.ptr 0 0),vi a] [bS bs]=some (.tup [.one (.dc (ci (iG bs a.toNat).1)),.one (bC (iG bs a.toNat).2.1)],[bS (iG bs a.toNat).2.2]):=by
 rcases (show a=1\/a=2 by omega) with rfl|rfl
 exact aBq bs hB;exact aBr bs hB
theorem Rj{l m:List Int}(h:aM l)(hs:∀x∈m,x∈l):aM m:=fun b hb=>h b (hs b hb)
theorem qF{bs:List Int}(h:aM bs)(a:Nat):aM (iG bs a).2.2:=by
 unfold iG;split;exact h;exact Rj h (fun x hx=>aYl hx)
theorem Nl{bs:List Int}(h:aM bs)(a:Nat):-32768<=(iG bs a).1/\(iG bs a).1<=32767:=by
 unfold iG;split;simp;have h2:aM (bs.take a):=Rj h (fun x hx=>aX6 hx)
 simp only;generalize bs.take a=m at h2
 match m,h2 with
 |[],_=>simp[rC]
 |[x],h2=>have:=h2 x (by simp);simp only[rC];split<;>omega
 |[x,y],h2=>have:=h2 x (by simp);have:=h2 y (by simp);simp only[rC];split<;>omega
 |x::y::z::w,_=>simp[rC]
theorem Ij(bs:List Int)(a:Nat):(iG bs a).2.2.length<=bs.length:=by
 unfold iG;split;exact aXF _;simp
set_option maxHeartbeats 1000000 in
theorem aL8(last h:Int)(t:List Int)(hB:aM (h::t))(hl:-1000000000<=last/\last<=1000000000):EV G (Tb B) 334 [.one (.ptr 0 0),vi last] [bS (h::t)]=
  some (.tup [.agg [.dc (ci (nE last h t).1.s),.dc (ci (nE last h t).1.n)],.one (bC (nE last h t).2.1)],[bS (nE last h t).2.2]):=by
 refine aA rfl ?_;obtain⟨hh,hB'⟩:=kO hB;have ha:=aL7 h hh;unfold nE;by_cases c1:1<=h % 16/\h % 16<=2;by_cases c2:h / 16<=2;rw[if_pos ⟨c1,c2⟩];have s1:=Ri (G:=G) (B:=B) t hB' (h % 16) c1;have k1:=Nl hB' (h % 16).toNat;have b1:=qF hB' (h % 16).toNat;generalize iG t (h % 16).toNat=N1 at s1 k1 b1 ⊢;obtain⟨n1,ok1,t1⟩:=N1;simp only at s1 k1 b1 ⊢;by_cases c3:h / 16=0
 ·rw[if_pos (Or.inr c3)];cases ok1;all_goals simp (disch:=first|omega|(simp only[aXD,aXE,aXH,aXC,aB];omega)) only[go_sem,h334c,Int.reduceToNat,Int.reducePow,ha,Dj,c1,c2,c3,jG,s1,bC]
 cases ok1;rw[if_pos (Or.inl rfl)];simp (disch:=first|omega|(simp only[aXD,aXE,aXH,aXC,aB];omega)) only[go_sem,h334c,Int.reduceToNat,Int.reducePow,ha,Dj,c1,c2,c3,jG,s1,bC]
 ·rw[if_neg (by simp[c3])];have s2:=Ri (G:=G) (B:=B) t1 b1 (h / 16) (by omega);have k2:=Nl b1 (h / 16).toNat;generalize iG t1 (h / 16).toNat=N2 at s2 k2 ⊢;obtain⟨n2,ok2,t2⟩:=N2;simp only at s2 k2 ⊢;cases ok2;all_goals simp (disch:=first|omega|(simp only[aXD,aXE,aXH,aXC,aB];omega)) only[go_sem,h334c,Int.reduceToNat,Int.reducePow,ha,Dj,c1,c2,c3,jG,s1,s2,bC,jH]
 rw[if_neg (by omega)];simp (disch:=first|omega|(simp only[aXD,aXE,aXH,aXC,aB];omega)) only[go_sem,h334c,Int.reduceToNat,Int.reducePow,ha,Dj,c1,c2,jG,bC]
 rw[if_neg (by omega)];simp (disch:=first|omega|(simp only[aXD,aXE,aXH,aXC,aB];omega)) only[go_sem,h334c,Int.reduceToNat,Int.reducePow,ha,Dj,c1,jG,bC]
structure DS where
 bs:List Int
 last:Int
 out:List aY
def kP(z:DS):Option DS:=
 match z.bs with
 |[]=>none
 |h::t=>if h=0 then none else if (nE z.last h t).2.1=true then some ⟨(nE z.last h t).2.2,if (nE z.last h t).1.s=-1 then z.last else (nE z.last h t).1.s,z.out++[(nE z.last h t).1]⟩ else none
def dK(s:List Int):Nat->DS
 |0=>⟨s,0,[]⟩
 |k+1=>(kP (dK s k)).getD (dK s k)
noncomputable def J3(s:List Int):Nat:=ix (fun k=>kP (dK s k)=none) (s.length+1)
def aBs(bs:List Int):Int:=match bs with
 |[]=>3
 |h::t=>if h=0/\t=[] then 0 else 3
def E9(z:DS):List aY×Int:=if aBs z.bs≠0 then ([],3) else if (nA z.out).2≠0 then ([],(nA z.out).2) else (z.out,0)
noncomputable def J4(s:List Int):List aY×Int:=if (s.length:Int) > 400 then ([],8) else E9 (dK s (J3 s))
theorem aE5(last h:Int)(t:List Int):(nE last h t).2.2.length<=t.length:=by
 unfold nE;split;split;exact Ij _ _;exact Nat.le_trans (Ij _ _) (Ij _ _);exact aXF _
theorem aBt(last h:Int){t:List Int}(hB:aM t):aM (nE last h t).2.2:=by
 unfold nE;split;split;exact qF hB _;exact qF (qF hB _) _;exact hB
theorem aJS(last h:Int){t:List Int}(hB:aM t):(nE last h t).1.s=-1\/(nE last h t).1.s=0\/(last-32768<=(nE last h t).1.s/\(nE last h t).1.s<=last+32767):=by
 unfold nE;split;split;exact .inl rfl;have:=Nl (qF hB (h % 16).toNat) (h / 16).toNat;exact .inr (.inr ⟨by simp only;omega,by simp only;omega⟩);exact .inr (.inl rfl)
theorem aE6(s:List Int)(hB:aM s):∀k,(∀j,j<k->¬ kP (dK s j)=none)->(dK s k).bs.length+k<=s.length/\(dK s k).out.length=k/\(-40000*(k:Int)<=(dK s k).last/\(dK s k).last<=40000*k)/\aM (dK s k).bs:=by
 intro k
 induction k with
 |zero=>intro _;exact⟨by simp[dK],rfl,by simp[dK],hB⟩
 |succ k ih=>
  intro h;obtain⟨h1,h2,h3,h4⟩:=ih (fun j hj=>h j (by omega))
  have h5:=h k (by omega);simp only[dK];generalize dK s k=z at h1 h2 h3 h4 h5 ⊢;obtain⟨bs,last,out⟩:=z;simp only at h1 h2 h3 h4 h5;cases bs with
  |nil=>exact absurd rfl h5
  |cons h t=>
   obtain⟨hh,ht⟩:=kO h4;have l1:=aE5 last h t;have l2:=aBt last h ht;have l3:=aJS last h ht;simp only[kP] at h5 ⊢;split;rename_i c;rw[if_pos c] at h5;exact absurd rfl h5;rename_i c;rw[if_neg c] at h5;split;simp only[aYn,aXD,aXE,aXH] at h1 ⊢;refine⟨by omega,by omega,?_,l2⟩;split<;>omega;rename_i c';rw[if_neg c'] at h5;exact absurd rfl h5
theorem aBu(s:List Int)(hB:aM s):J3 s<=s.length/\kP (dK s (J3 s))=none/\∀j,j<J3 s->¬ kP (dK s j)=none:=by
 obtain⟨h1,h2,h3⟩:=bT (fun k=>kP (dK s k)=none) (s.length+1)
 have h4:=(aE6 s hB (J3 s) h3).1;refine⟨by omega,?_,h3⟩;rcases h2 with h2|h2
 exact absurd h4 (by unfold J3;omega);exact h2.2
theorem Rk(h:Int)(t:List Int):(dL (h::t)=dL [])=False:=by
 apply eq_false;intro e;have:=congrArg ByteArray.size e;simp[aF] at this
attribute [go_sem] Rk
set_option maxHeartbeats 1000000 in
theorem aE7(s:List Int)(hB:aM s):EV G (Tb B) 301 [sv s] []=some (.tup [.one (.dc (.slc ((J4 s).1.map aY.e))),.one (.dc (ci (J4 s).2))],[]):=by
 refine aA rfl ?_;unfold J4;by_cases c0:(s.length:Int) > 400;rw[if_pos c0];simp (disch:=first|omega|(simp only[aXD,aXE,aXH,aXC,aB];omega)) only[go_sem,h301c,aXT]
 rw[if_neg c0];simp (disch:=first|omega|(simp only[aXD,aXE,aXH,aXC,aB];omega)) only[go_sem,h301c]
 rw[gF (fun k=>⟨(jk 1 (.one (.ptr 0 0)::jk 2 (.one (.bld 1 (dK s k).out.length)::vi (dK s k).last::jk 39 []))),[bS (dK s k).bs,.arr 0 2 ((dK s k).out.map aY.e)]⟩) (fun k=>kP (dK s k)=none) (s.length+1) ?_ ?_]
 obtain⟨e1,e2,e3⟩:=aBu s hB;obtain⟨g1,g2,g3,g4⟩:=aE6 s hB _ e3;rw[show ix (fun k=>kP (dK s k)=none) (s.length+1)=J3 s from rfl]
 generalize dK s (J3 s)=z at *;obtain⟨bs,last,out⟩:=z;simp only at e2 g1 g2 g3 g4 ⊢;cases bs with
 |nil=>
  rw[show E9 ⟨[],last,out⟩=([],3) from rfl]
  simp (disch:=first|omega|(simp only[aXD,aXE,aXH,aXC,aB];omega)) only[go_sem,h301l0,aL,aXT]
 |cons h t=>
  obtain⟨hh,ht⟩:=kO g4;by_cases c:h=0;subst c
  match t with
  |[]=>
   have hl:=K8 out;by_cases c2:(nA out).2=0;rw[c2] at hl;rw[show E9 ⟨[0],last,out⟩=(out,0) by simp[E9,aBs,c2]];simp (disch:=first|omega|(simp only[aXD,aXE,aXH,aXC,aB];omega)) only[go_sem,h301l0,aL,Fv,hl,kZ]
   rw[show E9 ⟨[0],last,out⟩=([],(nA out).2) by simp[E9,aBs,c2]];simp (disch:=first|omega|(simp only[aXD,aXE,aXH,aXC,aB];omega)) only[go_sem,h301l0,aL,Fv,hl,c2,kZ,aXT]
  |x::t=>
   rw[show E9 ⟨0::x::t,last,out⟩=([],3) by simp[E9,aBs]];simp (disch:=first|omega|(simp only[aXD,aXE,aXH,aXC,aB];omega)) only[go_sem,h301l0,aL,aXT]
  have r1:=aL8 (G:=G) (B:=B) last h t g4 (by omega);simp only[kP,if_neg c] at e2;rw[show E9 ⟨h::t,last,out⟩=([],3) by simp[E9,aBs,c]];generalize nE last h t=r at r1 e2;obtain⟨r,ok,rest⟩:=r;cases ok;simp only at r1;simp (disch:=first|omega|(simp only[aXD,aXE,aXH,aXC,aB];omega)) only[go_sem,h301l0,aL,aXT,r1,c,bC]
  simp at e2
 rfl;intro k hk hn;obtain⟨g1,g2,g3,g4⟩:=aE6 s hB k (fun j hj=>hn j (by omega))
 have e2:=hn k (aXF _);rw[show dK s (k+1)=(kP (dK s k)).getD (dK s k) from rfl]
 generalize dK s k=z at *;obtain⟨bs,last,out⟩:=z;simp only at e2 g1 g2 g3 g4 ⊢;cases bs with
 |nil=>exact absurd rfl e2
 |cons h t=>
  obtain⟨hh,ht⟩:=kO g4;by_cases c:h=0;simp[kP,c] at e2;have r1:=aL8 (G:=G) (B:=B) last h t g4 (by omega);simp only[kP,if_neg c] at e2 ⊢;generalize nE last h t=r at r1 e2;obtain⟨⟨rs,rn⟩,ok,rest⟩:=r;cases ok;simp at e2;simp only at r1;by_cases c2:rs=-1;simp (disch:=first|omega|(simp only[aXD,aXE,aXH,aXC,aB];omega)) only[go_sem,h301l0,aL,r1,c,c2,bC,jH,aYn,Qz,aXD]
  simp (disch:=first|omega|(simp only[aXD,aXE,aXH,aXC,aB];omega)) only[go_sem,h301l0,aL,r1,c,c2,bC,jH,aYn,Qz,aXD]
end
section
variable {G:aE}{B:aO}
end
section
variable {G:aE}{bb:Bool}
theorem aL9{p:Nat->Prop}{n m:Nat}(hm:m<n)(h1:p m)(h2:∀j,j<m->¬ p j):ix p n=m:=by
 obtain⟨g1,g2,g3⟩:=bT p n;rcases Nat.lt_trichotomy (ix p n) m with h|h|h;rcases g2 with g2|⟨_,g2⟩;omega;exact absurd g2 (h2 _ h);exact h;exact absurd h1 (g3 _ h)
theorem B6(n:Int):sz n=1\/sz n=2:=by unfold sz;split<;>simp
theorem aTo(n:Int)(h:-128<=n/\n<=127):rC (bK n 1)=n:=by
 show rC [n % 256]=n;simp only[rC];split<;>omega
theorem aTp(n:Int)(h:-32768<=n/\n<=32767):rC (bK n 2)=n:=by
 show rC [n % 256,n / 256 % 256]=n;simp only[rC];split<;>omega
theorem Yc(n:Int)(h:-32768<=n/\n<=32767)(rest:List Int):iG (bK n (sz n).toNat++rest) (sz n).toNat=(n,true,rest):=by
 unfold iG;rw[if_neg (by rw[aXD,aB];omega),aYX (aB _ _),List.drop_left' (aB _ _)];have e:rC (bK n (sz n).toNat)=n:=by
  unfold sz;split;exact aTo n (by assumption);exact aTp n h
 rw[e];have:sz n=((sz n).toNat:Int):=by have:=B6 n;omega
 rw[decide_eq_true this]
def Fa(last:Int)(r:aY):Int:=if r.s=-1 then sz r.n else 16*sz (r.s-last)+sz r.n
def Rl(last:Int)(r:aY):List Int:=if r.s=-1 then bK r.n (sz r.n).toNat else bK r.n (sz r.n).toNat++bK (r.s-last) (sz (r.s-last)).toNat
theorem B7(last:Int)(r:aY):Bz last r=Fa last r::Rl last r:=by
 unfold Bz Fa Rl;split<;>rfl
theorem aE8(last:Int)(r:aY):Fa last r≠0:=by
 have h1:=B6 r.n;have h2:=B6 (r.s-last);unfold Fa;split<;>omega
theorem aE9{r:aY}(h:bO r.s r.n=0):(1<=r.n/\r.n<=4096)/\(r.s=-1\/0<=r.s/\r.s<=511):=by
 rcases kM h with⟨h1,h2,h3⟩|⟨s,n,h1,h2,h3,h4⟩;exact⟨by omega,by omega⟩
 exact⟨by omega,by omega⟩
theorem aFa{last:Int}{r:aY}(hr:bO r.s r.n=0)(hl:0<=last/\last<=511)(rest:List Int):nE last (Fa last r) (Rl last r++rest)=(r,true,rest):=by
 obtain⟨⟨a1,a2⟩,a3⟩:=aE9 hr;have s1:=B6 r.n;have s2:=B6 (r.s-last);have n1:=Yc r.n (by omega);unfold Fa Rl;by_cases c:r.s=-1;rw[if_pos c,if_pos c];have e1:sz r.n % 16=sz r.n:=by omega
 have e2:sz r.n / 16=0:=by omega
 unfold nE;rw[e1,e2,if_pos (by omega),if_pos (.inr rfl),n1 rest];simp only;cases r;simp only at c;rw[c];rw[if_neg c,if_neg c];have e1:(16*sz (r.s-last)+sz r.n) % 16=sz r.n:=by omega
 have e2:(16*sz (r.s-last)+sz r.n) / 16=sz (r.s-last):=by omega
 unfold nE;rw[e1,e2,if_pos (by omega),aXR,n1,if_neg (by simp;omega)];simp only;rw[Yc (r.s-last) (by omega) rest];simp only;rw[show last+(r.s-last)=r.s by omega,decide_eq_false c];cases r;rfl
def Rm(last:Int)(r:aY):Int:=if r.s=-1 then last else r.s
theorem aBv{last:Int}{r:aY}(hr:bO r.s r.n=0)(hl:0<=last/\last<=511)(rest:List Int)(out:List aY):kP ⟨Bz last r++rest,last,out⟩=some ⟨rest,Rm last r,out++[r]⟩:=by
 rw[B7];unfold kP;simp only[aYd];rw[if_neg (aE8 _ _),aFa hr hl];simp only[if_true];rfl
def fM(last:Int):List aY->List Int
 |[]=>[]
 |r::l=>Bz last r++fM (Rm last r) l
theorem Ik(l:List aY):(lF l).1=fM 0 l:=by
 have key:∀(l:List aY) (p:List Int) (last:Int),(l.foldl est (p,last)).1=p++fM last l:=by
  intro l
  induction l with
  |nil=>intro p last;simp[fM]
  |cons r l ih=>
   intro p last;have e:est (p,last) r=(p++Bz last r,Rm last r):=rfl;rw[aYO,e,ih];simp only[fM,aXR]
 have:=key l [] 0;simpa[lF] using this
def dM:Nat->DS->DS
 |0,z=>z
 |k+1,z=>(kP (dM k z)).getD (dM k z)
theorem aJT(s:List Int):∀k,dK s k=dM k ⟨s,0,[]⟩
 |0=>rfl
 |k+1=>by rw[dK,dM,aJT s k]
theorem Nn{z z':DS}(h:kP z=some z'):∀k,dM (k+1) z=dM k z'
 |0=>by show (kP z).getD z=z';rw[h];rfl
 |k+1=>by rw[dM,Nn h k,dM]
theorem aOT{last:Int}{r:aY}(hr:bO r.s r.n=0)(hl:0<=last/\last<=511):0<=Rm last r/\Rm last r<=511:=by
 have:=(aE9 hr).2;unfold Rm;split<;>omega
theorem aFb:∀(l:List aY) (last:Int) (out:List aY) (rest:List Int),(∀r∈l,bO r.s r.n=0)->0<=last/\last<=511->
  (∃x,dM l.length ⟨fM last l++rest,last,out⟩=⟨rest,x,out++l⟩)/\∀j,j<l.length->¬ kP (dM j ⟨fM last l++rest,last,out⟩)=none
 |[],last,out,rest,_,_=>⟨⟨last,by simp[dM,fM]⟩,fun j hj=>by simp at hj⟩
 | r::l,last,out,rest,h,hl=>by
  have hr:=h r aXV;have hs:=aBv hr hl (fM (Rm last r) l++rest) out;obtain⟨⟨x,h1⟩,h2⟩:=aFb l (Rm last r) (out++[r]) rest (fun q hq=>h q (aX3 _ hq)) (aOT hr hl)
  have e:fM last (r::l)++rest=Bz last r++(fM (Rm last r) l++rest):=by rw[fM,aXR]
  rw[e];refine⟨⟨x, ?_⟩,fun j hj=>?_⟩
  ·show dM (l.length+1) _=_;rw[Nn hs,h1,aXR];rfl
  ·cases j with
   | zero=>
    intro g;have g':kP ⟨Bz last r++(fM (Rm last r) l++rest),last,out⟩=none:=g;rw[hs] at g';cases g'
   | succ j=>rw[Nn hs];exact h2 j (by simpa using hj)
theorem aFc{l:List aY}(h:(nA l).2=0):(fM 0 l).length<=320:=by
 rw[<- Ik];exact Rg h
theorem aJU{l:List aY}(h:(nA l).2=0):J4 ((lF l).1++[0])=(l,0):=by
 have hlen:=aFc h;obtain⟨⟨x,h1⟩,h2⟩:=aFb l 0 [] [0] (M7 h) (by omega);have hl:=nC h;have hll:l.length<(fM 0 l++[0]).length+1:=by
  have:∀(l:List aY) (last:Int),l.length<=(fM last l).length:=by
   intro l
   induction l with
   |nil=>intro _;simp
   |cons r l ih=>intro last;have:=ih (Rm last r);simp only[fM,B7,aXD,aXE];omega
  have:=this l 0;simp only[aXD,aXE,aXH];omega
 rw[Ik];have hE:J3 (fM 0 l++[0])=l.length:=by
  unfold J3;refine aL9 hll ?_ (fun j hj=>?_)
  rw[aJT,h1];rfl;rw[aJT];exact h2 j hj
 unfold J4;rw[if_neg (by simp only[aXD,aXE,aXH];omega),hE,aJT,h1];unfold E9;rw[if_neg (by simp[aBs]),if_neg (by simp only[aX4];omega)];rfl
end
section
variable {G:aE}{bb:Bool}
theorem uQ(p L:List Int)(n:Int)(a:Nat)(h:p.length<=a):∀k,aW (p++L) a n k=p++aW L (a-p.length) n k
 |0=>rfl
 | k+1=>by
  rw[aW,uQ p L n a h k,aW,List.set_append_right _ _ (by omega)];congr 2;omega
theorem Dk(z X:List Int)(n:Int):∀k,z.length=k->aW (z++X) 0 n k=bK n k++X:=by
 have key:∀(k:Nat) (z X:List Int),z.length=k->aW (z++X) 0 n k=bK n k++X:=by
  intro k
  induction k with
  |zero=>
   intro z X h;have:z=[]:=List.length_eq_zero_iff.1 h;subst this;rfl
  |succ k ih=>
   intro z X h;obtain⟨z',x,rfl⟩:∃z' x,z=z'++[x]:=by
    rcases List.eq_nil_or_concat z with rfl|⟨z',x,e⟩;simp at h;exact⟨z',x,by rw[e,List.concat_eq_append]⟩
   have h':z'.length=k:=by simpa using h
   rw[aW,aXR,ih z' ([x]++X) h',aYi,List.set_append_right _ _ (by rw[aB];omega),aB,aYs,bK,aXR];rfl
 exact fun k h=>key k z X h
theorem Il(p L s:List Int)(a:Nat)(h:p.length<=a):fG (p++L) a s=p++fG L (a-p.length) s:=by
 unfold fG;rw[List.take_append,aYe h,List.drop_append,aZc (by omega),aX4,aXR,aXR];rw[show a+s.length-p.length=a-p.length+s.length by omega,aXR]
theorem aFd(z X s:List Int)(h:z.length=s.length):fG (z++X) 0 s=s++X:=by
 unfold fG;rw[aYQ,aX4,aYi,List.drop_left' h]
theorem Np(z X s:List Int)(a:Nat)(ha:a=0)(h:z.length=s.length):fG (z++X) a s=s++X:=by subst ha;exact aFd z X s h
theorem Uw(a b:Nat):zl (a+b)=zl a++zl b:=by unfold zl;rw[List.replicate_append_replicate]
structure aJ.Dc (a:aJ):Prop where
 ty:0<=a.ty/\a.ty<4294967296
 nm:aM a.nm
 nl:a.nm.length<=255
 id:0<=a.id/\a.id<65536
 fl:0<=a.fl/\a.fl<65536
 va:aM a.va
 vl:a.va.length<=1000
 t:a.res=true->a.rs=[]/\a.fi=0/\a.al=0/\a.sz=0/\a.vd=0
 f:a.res=false->a.va=[]/\(nA a.rs).2=0/\(0<=a.fi/\a.fi<4294967296)/\(0<=a.al/\a.al<4294967296)/\(0<=a.sz/\a.sz<4294967296)/\(0<=a.vd/\a.vd<4294967296)
theorem aJ.Dc.bd{a:aJ}(h:a.Dc):a.Bd:=by
 have h1:=h.ty;have h2:=h.nl;have h3:=h.id;have h4:=h.fl;have h5:=h.vl;cases hr:a.res with
 |true=>
  obtain⟨q1,q2,q3,q4,q5⟩:=h.t hr;have:iF a.rs=0:=by rw[q1];rfl
  exact⟨h.nm,h.va,by omega,by omega,by rw[q1];simp,by omega,by omega,by omega,by omega,by omega,by omega,by omega,by omega⟩
 |false=>
  obtain⟨q1,q2,q3,q4,q5,q6⟩:=h.f hr;obtain⟨c1,c2,c3⟩:=Ni q2;exact⟨h.nm,h.va,by omega,by omega,by omega,by omega,by omega,by omega,by omega,by omega,by omega,by omega,by omega⟩
theorem aJ.Ok.dc{a:aJ}(h:a.Ok):a.Dc:=by
 have g1:=Nh h.ty;have g2:=F3 h.nm;obtain⟨g3,g4⟩:=h.rg;have h4:=h.e;unfold rZ at h4;refine⟨by omega,h.w.nm,by omega,by omega,by omega,h.w.va,?_,fun hr=>?_,fun hr=>?_⟩
 split at h4;have:=Nj h4;omega;have:=(Dh h4).2.1;rw[this];simp;rw[if_pos hr] at h4;obtain⟨q1,q2,q3,q4,q5,_⟩:=Nj h4;exact⟨q1,q2,q3,q4,q5⟩;rw[if_neg (by rw[hr];decide)] at h4;obtain⟨r1,r2,r3,r4,r5,r6,r7,r8,r9⟩:=Dh h4;exact⟨r2,r4,by omega,by omega,by omega,by omega⟩
theorem Im{a:aJ}(h:a.Dc):Yb a=rU a:=by
 unfold Yb rU;cases hr:a.res with
 |true=>rfl
 |false=>
  rw[if_neg (by decide),if_neg (by decide)];obtain⟨_,q2,_⟩:=h.f hr;unfold Al;rw[if_neg (by rw[K8];simpa using q2)]
theorem Yd(x:Int):bK (x % 4294967296) 4=bK x 4:=by
 simp only[bK,Ee,aX4,aYd];congr 1;omega;congr 1;omega;congr 1;omega;congr 1;omega
theorem Eh(a:aJ):eC a % 8=0/\tJ a+a.nm.length<=eC a/\eC a+(rU a).length<=fQ a/\fQ a % 8=0/\fQ a<=eC a+(rU a).length+7:=by
 unfold fQ eC;omega
theorem aFe(X N u:Nat)(h:N=X+8+u)(h1:N % 8=0)(h2:u<=7):(X+7) / 8*8-X=u:=by omega
set_option maxHeartbeats 1000000 in
theorem aTq{a:aJ}(h:a.Dc)(hr:a.res=true):uZ a=iT a:=by
 obtain⟨o1,o2,o3,o4,o5⟩:=Eh a;have hb:=Im h;have eh:tJ a=24:=by simp[tJ,hr]
 have ebd:rU a=a.va:=by simp[rU,hr]
 rw[eh] at o2;rw[ebd] at o3 o5;obtain⟨g,eg⟩:∃g,eC a=24+(a.nm.length+g):=⟨eC a-24-a.nm.length,by omega⟩;obtain⟨u,eu⟩:∃u,fQ a=eC a+(a.va.length+u):=⟨fQ a-eC a-a.va.length,by omega⟩;have eN:fQ a=4+(4+(1+(1+(2+(2+(2+(4+(4+(a.nm.length+(g+(a.va.length+u))))))))))):=by omega
 have eZ:zl (fQ a)=zl 4++(zl 4++(zl 1++(zl 1++(zl 2++(zl 2++(zl 2++(zl 4++(zl 4++(zl a.nm.length++(zl g++(zl a.va.length++zl u))))))))))):=by
  conv=>lhs;rw[eN]
  simp only[Uw]
 unfold uZ Rc Rb;rw[if_pos hr,eZ,eh,ebd];simp (disch:=first|omega|(simp only[bF,aB]<;>omega)|fail) only[uQ,Dk,bF,aB,Nat.reduceSub,aYs]
 simp (disch:=first|omega|(simp only[bF,aB]<;>omega)|fail) only[Il,Np,bF,aB,Nat.reduceSub,aYs]
 unfold iT J2 Uv J1 Di;rw[if_pos hr,if_pos hr,eh,hb,ebd];simp only[aXR];simp only[aXD,aB,aXO];have e1:zl 1=bK 0 1:=rfl;have e2:eC a-24-a.nm.length=g:=by omega
 rw[e2];have e3:(1+(1+(2+(2+(2+(4+(4+(a.nm.length+(g+a.va.length))))))))+7) / 8*8-(1+(1+(2+(2+(2+(4+(4+(a.nm.length+(g+a.va.length)))))))))=u:=by omega
 rw[e3];rfl
set_option maxHeartbeats 1000000 in
theorem aTr{a:aJ}(h:a.Dc)(hr:a.res=false):uZ a=iT a:=by
 obtain⟨o1,o2,o3,o4,o5⟩:=Eh a;have hr':¬ a.res=true:=by rw[hr];decide
 have hb:=Im h;have eh:tJ a=40:=by simp[tJ,hr]
 rw[eh] at o2;obtain⟨g,eg⟩:∃g,eC a=40+(a.nm.length+g):=⟨eC a-40-a.nm.length,by omega⟩;obtain⟨u,eu⟩:∃u,fQ a=eC a+((rU a).length+u):=⟨fQ a-eC a-(rU a).length,by omega⟩;have eN:fQ a=4+(4+(1+(1+(2+(2+(2+(4+(4+(2+(2+(4+(4+(4+(a.nm.length+(g+((rU a).length+u)))))))))))))))):=by omega
 have eZ:zl (fQ a)=zl 4++(zl 4++(zl 1++(zl 1++(zl 2++(zl 2++(zl 2++(zl 4++(zl 4++(zl 2++(zl 2++(zl 4++(zl 4++(zl 4++(zl a.nm.length++(zl g++(zl (rU a).length++zl u)))))))))))))))):=by
  conv=>lhs;rw[eN]
  simp only[Uw]
 unfold uZ Rc Rb;rw[if_neg hr',eZ,eh];simp (disch:=first|omega|(simp only[bF,aB]<;>omega)|fail) only[uQ,Dk,bF,aB,Nat.reduceSub,aYs]
 simp (disch:=first|omega|(simp only[bF,aB]<;>omega)|fail) only[Il,Np,bF,aB,Nat.reduceSub,aYs]
 unfold iT J2 Uv J1 Di;rw[if_neg hr',if_neg hr',eh,hb,Yd];simp only[aXR];simp only[aXD,aB,aXO];have e1:zl 1=bK 0 1:=rfl;have e2:eC a-40-a.nm.length=g:=by omega
 rw[e2];have e3:(1+(1+(2+(2+(2+(4+(4+(2+(2+(4+(4+(4+(a.nm.length+(g+(rU a).length)))))))))))))+7) / 8*8-(1+(1+(2+(2+(2+(4+(4+(2+(2+(4+(4+(4+(a.nm.length+(g+(rU a).length))))))))))))))=u:=aFe _ (fQ a) u (by clear eZ eN e2;omega) o4 (by clear eZ eN e2;omega);rw[e3];rfl
theorem Dl{a:aJ}(h:a.Dc):uZ a=iT a:=by
 cases hr:a.res with
 |true=>exact aTq h hr
 |false=>exact aTr h hr
end
section
variable {G:aE}{bb:Bool}
def gv:List Int->Int
 |[]=>0
 |b::t=>b+256*gv t
def gL(l:List Int)(a k:Nat):Int:=gv ((l.drop a).take k)
theorem aOU(l:List Int)(a k:Nat)(h:a<l.length):gL l a (k+1)=l[a]+256*gL l (a+1) k:=by
 unfold gL;rw[aYF h,aZb,gv]
theorem Ye:∀(l:List Int) (m:Nat),aM l->l.length<=m->0<=gv l/\gv l<256 ^ m
 | [],m,_,_=>by
  have:(0:Int) < 256 ^ m:=Int.pow_pos (by decide);simp only[gv];omega
 |b::t,0,_,h=>by simp at h
 | b::t,m+1,hB,h=>by
  obtain⟨hb,ht⟩:=kO hB;have ih:=Ye t m ht (by simpa using h);rw[gv,Int.pow_succ];omega
theorem tK{l:List Int}(h:aM l)(a k:Nat):aM ((l.drop a).take k):=fun b hb=>h b (aYl (aX6 hb))
theorem tL{l:List Int}(h:aM l)(a k:Nat)(hk:k<=4):0<=gL l a k/\gL l a k<4294967296:=by
 have h1:=Ye ((l.drop a).take k) k (tK h a k) (by rw[aXK];omega);unfold gL;rcases (show k=0\/k=1\/k=2\/k=3\/k=4 by omega) with rfl|rfl|rfl|rfl|rfl<;>simp only[Int.reducePow] at h1<;>omega
theorem Ux{l:List Int}(h:aM l)(a:Nat):0<=gL l a 2/\gL l a 2<65536:=by
 have h1:=Ye ((l.drop a).take 2) 2 (tK h a 2) (by rw[aXK];omega);unfold gL;simp only[Int.reducePow] at h1;omega
theorem aFf{l:List Int}(h:aM l)(a:Nat):0<=gL l a 1/\gL l a 1<256:=by
 have h1:=Ye ((l.drop a).take 1) 1 (tK h a 1) (by rw[aXK];omega);unfold gL;simp only[Int.reducePow] at h1;omega
theorem orL(n b:Int)(hn:0<=n/\n<=4294967296)(hb:0<=b/\b<=255):Ui .i64 (n*256) b=n*256+b:=by
 obtain⟨n,rfl⟩:=aYJ hn.1;obtain⟨b,rfl⟩:=aYJ hb.1;have h1:((n:Int)*256)=((n*256:Nat):Int):=by simp
 have h2:n*256 ||| b=n*256+b:=by
  have:=Nat.shiftLeft_add_eq_or_of_lt (show b<2 ^ 8 by omega) n;rw[Nat.shiftLeft_eq] at this;exact this.symm
 rw[Ui,h1,H7,BitVec.ofInt_natCast,BitVec.ofInt_natCast,BitVec.toNat_or,BitVec.toNat_ofNat,BitVec.toNat_ofNat,aYB (by omega),aYB (by omega),h2,zP (by omega)];simp
theorem Ei(l:List Int)(hB:aM l)(a k:Nat)(ha:a+k<=l.length)(hk:k<=4)(hl:l.length<=1000000):EV G (Tb (bs bb)) 300 [sv l,vi a,vi k] []=some (vi (gL l a k),[]):=by
 refine aA rfl ?_;simp (disch:=first|omega|(simp only[aXD,aXE,aXH,aXC,aB];omega)) only[go_sem,h300c]
 rw[aR (fun j=>⟨(sv l::vi a::jk 5 (vi (gL l (a+k-j) j)::vi ((k:Int)-1-j)::jk 16 [])),[]⟩) k ?_ ?_]
 have e:a+k-k=a:=by omega
 have e2:¬ 0<=(k:Int)-1-(k:Int):=by omega
 simp (disch:=first|omega|(simp only[aXD,aXE,aXH,aXC,aB];omega)) only[go_sem,h300l0,e,e2]
 simp[gL,gv,jk];intro j hj;have hx:=hB _ (aXM (show a+k-1-j<l.length by omega));have g1:=tL hB (a+k-j) j (by omega);have e1:gL l (a+k-(j+1)) (j+1)=gL l (a+k-j) j*256+l[a+k-1-j]'(by omega):=by
  have:a+k-(j+1)<l.length:=by omega
  rw[aOU l _ j this,show a+k-(j+1)+1=a+k-j by omega,Int.mul_comm];rw[Int.add_comm];congr 1;congr 1;omega
 have e2:0<=(k:Int)-1-(j:Int):=by omega
 rw[e1];generalize gL l (a+k-j) j=z at g1 ⊢;have eN:((a:Int)+((k:Int)-1-(j:Int))).toNat=a+k-1-j:=by omega
 have hu:=iW _ hx;have o:=orL z _ (by omega) hx;simp (disch:=first|omega|(simp only[aXD,aXE,aXH,aXC,aB];omega)) only[go_sem,h300l0,eq_true e2,aYo,eN,hu,Int.reduceToNat,Int.reducePow,o]
 rw[show (k:Int)-1-(j:Int)-1=(k:Int)-1-((j:Int)+1) by omega]
theorem gv1(n:Int)(h:0<=n/\n<256):gv (bK n 1)=n:=by
 show n % 256+256*0=n;omega
theorem gv2(n:Int)(h:0<=n/\n<65536):gv (bK n 2)=n:=by
 show n % 256+256*(n / 256 % 256+256*0)=n;omega
theorem gv4(n:Int)(h:0<=n/\n<4294967296):gv (bK n 4)=n:=by
 show n % 256+256*(n / 256 % 256+256*(n / 256 / 256 % 256+256*(n / 256 / 256 / 256 % 256+256*0)))=n;omega
theorem gS(p L:List Int)(a k:Nat)(h:p.length<=a):gL (p++L) a k=gL L (a-p.length) k:=by
 unfold gL;rw[List.drop_append,aZc (by omega),aX4]
theorem Nq(z L:List Int)(k:Nat)(h:z.length=k):gL (z++L) 0 k=gv z:=by
 unfold gL;rw[aYq,aYX h]
end
end Go.Proofs.YthepfneloomngaaGreatDoor
