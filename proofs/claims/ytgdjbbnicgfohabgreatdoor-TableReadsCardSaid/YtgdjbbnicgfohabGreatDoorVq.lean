/- Part. Conditions: none. -/
import Derived.Test.YtgdjbbnicgfohabGreatDoorUg
import Derived.Test.YtgdjbbnicgfohabGreatDoorVi
namespace Go.Proofs.YtgdjbbnicgfohabGreatDoor
set_option maxHeartbeats 4000000
set_option linter.unusedSimpArgs false
set_option linter.unusedVariables false
set_option maxRecDepth 4000
section
variable {G:aF}{bb:Bool}
theorem aAT(b:Bool):EV G (Tb (bs bb)) 182 [vb b] []=some (vi (if b=true then 1 else 0),[]):=by
 refine aB rfl ?_;cases b;all_goals simp (disch:=omega) only[go_sem,h182c]
 all_goals rfl
theorem mB(n:Nat)(h:n<=1000000000):EV G (Tb (bs bb)) 128 [vi n,vi 8] []=some (vi (((n+7) / 8:Nat):Int),[]):=by
 have:=aQF (G:=G) (bb:=bb) n 8 (by omega) (by omega) (by omega);rwa[show -(-(n:Int) / 8)=(((n+7) / 8:Nat):Int) by omega] at this
theorem H0(n:Int)(a:0<=n/\n<=9223372036854775807):EV G (Tb (bs bb)) 126 [vi n,vi 1] []=some (sv (bI n 1),[]):=nI n 1 a (by omega)
theorem mC(n:Int)(a:0<=n/\n<=9223372036854775807):EV G (Tb (bs bb)) 126 [vi n,vi 2] []=some (sv (bI n 2),[]):=nI n 2 a (by omega)
theorem qJ(n:Int)(a:0<=n/\n<=9223372036854775807):EV G (Tb (bs bb)) 126 [vi n,vi 4] []=some (sv (bI n 4),[]):=nI n 4 a (by omega)
def uU(l:L Int):L Int:=l++List.replicate ((l.length+7) / 8*8-l.length) 0
theorem mD(k:Nat)(h:k<=100000):EV G (Tb (bs bb)) 125 [vi k] []=some (sv (List.replicate k 0),[]):=by
 have:=Hy (G:=G) (B:=bs bb) k (by omega);rwa[bAd] at this
theorem Dy(l:L Int)(h:l.length<=10000):EV G (Tb (bs bb)) 184 [sv l] []=some (sv (uU l),[]):=by
 refine aB rfl ?_;have a:=mB (G:=G) (bb:=bb) l.length (by omega);have b:=mD (G:=G) (bb:=bb) ((l.length+7) / 8*8-l.length) (by omega);have e:(8:Int)*(((l.length+7) / 8:Nat):Int)-(l.length:Int)=(((l.length+7) / 8*8-l.length:Nat):Int):=by omega
 simp (disch:=first|omega|(simp only[aZB,aZC,aZD,aZA,aA,aZI]<;>omega)) only[go_sem,h184c,a,e,b,aZI,uU]
def Bl(a:aJ):L Int:=bI (if a.res=true then 0 else 1) 1++bI a.nm.length 1++bI (sS a) 2++bI a.fl 2++bI a.id 2
def L5(a:aJ):L Int:=if a.res=true then Bl a++bI a.va.length 4++bI (cX a) 4
 else Bl a++bI a.fi 4++bI ((a.fi+gQ a.rs-1) % 4294967296) 4++bI (cX a) 2++List.replicate 2 0++bI a.al 4++bI a.sz 4++bI a.vd 4
def T6(a:aJ):L Int:=if a.res=true then a.va else (jH a.rs).1++[0]
def uV(a:aJ):L Int:=uU (L5 a++a.nm++List.replicate (cX a-sS a-a.nm.length) 0++T6 a)
def gR(a:aJ):L Int:=bI a.ty 4++bI (fA a) 4++uV a
structure aJ.Ok (a:aJ):Prop where
 w:a.W
 ty:a.ty∈Ni
 nm:P0 a.nm=true
 rg:(0<=a.id/\a.id<=65535)/\(0<=a.fl/\a.fl<=7)
 e:tQ a=0
theorem P5{a:aJ}(h:a.Ok):T6 a=qU a:=by
 unfold T6 qU;by_cases b:a.res=true;rw[if_pos b,if_pos b];rw[if_neg b,if_neg b];have h4:=h.e;unfold tQ at h4;rw[if_neg b] at h4;obtain⟨_,_,_,c,_⟩:=Fa h4;unfold Ch;rw[if_neg (by rw[Nd];simpa using c)]
theorem sU(a:aJ):(L5 a).length+8=sS a:=by
 unfold L5 Bl sS;split<;>simp only[aZB,aA,aZI]
theorem aQG(a:aJ)(h:a.Ok)(b:a.res=true):EV G (Tb (bs bb)) 130 [a.v] []=some (sv (gR a),[]):=by
 refine aB rfl ?_;obtain⟨t,u,x,y,z,C,D,E,F,i,j,k,l⟩:=aJ.bd h.w h.ty h.nm h.rg h.e;have H:=P3 h.ty;have I:=Hz h.nm;obtain⟨J,K⟩:=h.rg;have h4:=h.e;unfold tQ at h4;rw[if_pos b] at h4;obtain⟨S,T,U,V,W,X⟩:=P4 h4;have c:sS a=24:=by simp[sS,b]
 have M:24+a.nm.length<=cX a/\cX a<=2000:=by simp only[cX,c];omega
 have f:=mB (G:=G) (bb:=bb) (24+a.nm.length) (by omega);have o:(8:Int)*(((24+a.nm.length+7) / 8:Nat):Int)=((cX a:Nat):Int):=by simp only[cX,c];omega
 rw[bAu,show ((24:Nat):Int)=24 from rfl] at f
 have O:fA a<=4000/\8<=fA a/\fA a % 8=0:=by
  have:qU a=a.va:=by simp[qU,b]
  simp only[fA,this];omega
 have P:(uV a).length=fA a-8:=by
  have L:=sU a;rw[uV,uU,P5 h];simp only[aZB,aZI];simp only[fA];have:cX a % 8=0:=by unfold cX;omega
  omega
 have s:=mD (G:=G) (bb:=bb) (cX a-24-a.nm.length) (by omega);have m:((cX a:Nat):Int)-24-(a.nm.length:Int)=((cX a-24-a.nm.length:Nat):Int):=by omega
 have q:L5 a=Bl a++bI a.va.length 4++bI (cX a) 4:=by rw[L5,if_pos b]
 have Q:(Bl a).length=8:=by simp only[Bl,aZB,aA]
 have r:uV a=uU (Bl a++bI a.va.length 4++bI (cX a) 4++a.nm++List.replicate (cX a-24-a.nm.length) 0++a.va):=by rw[uV,q,c,T6,if_pos b]
 have p:Bl a=bI 0 1++bI a.nm.length 1++bI 24 2++bI a.fl 2++bI a.id 2:=by rw[Bl,if_pos b,c];rfl
 have d:=Dy (G:=G) (bb:=bb) (Bl a++bI a.va.length 4++bI (cX a) 4++a.nm++List.replicate (cX a-24-a.nm.length) 0++a.va) (by simp only[aZB,aA,aZI];omega);rw[<- r] at d;have g:=mB (G:=G) (bb:=bb) ((uV a).length+8) (by omega);rw[bAu,show ((8:Nat):Int)=8 from rfl] at g
 have n:(8:Int)*((((uV a).length+8+7) / 8:Nat):Int)=((fA a:Nat):Int):=by omega
 rw[p] at d;unfold gR;generalize uV a=R at *;generalize cX a=A at *;generalize fA a=N at *;simp (disch:=first|omega|(simp only[aZB,aZC,aZD,aZA,aA,aZI]<;>omega)) only[go_sem,h130c,b,aG,aAT,f,o,H0,mC,qJ,s,m,d,g,n,bAx,aZI]
theorem T7:EV G (Tb (bs bb)) 125 [vi 2] []=some (sv [0,0],[]):=Hy 2 (by omega)
theorem Kc{l:L aW}(h:(mT l).2=0):(jH l).1.length<=320:=by
 obtain⟨b,c,d⟩:=Ax l (fun r a=>(Hx h r a).1) l.length (aZE _)
 rw[Dv] at b;have:=oH h;omega
theorem aQH(a:aJ)(h:a.Ok)(d:a.res=false):EV G (Tb (bs bb)) 130 [a.v] []=some (sv (gR a),[]):=by
 refine aB rfl ?_;obtain⟨F,H,I,J,K,L,M,O,P,l,m,n,o⟩:=aJ.bd h.w h.ty h.nm h.rg h.e;have b:¬ a.res=true:=by rw[d];decide
 have U:=P3 h.ty;have V:=Hz h.nm;obtain⟨W,X⟩:=h.rg;have h4:=h.e;unfold tQ at h4;rw[if_neg b] at h4;obtain⟨r1,r2,r3,g,r5,r6,r7,r8,r9⟩:=Fa h4;obtain⟨Q,S,T⟩:=Kb g;have c:sS a=40:=by simp[sS,d]
 have s:=P5 h;have i:T6 a=(jH a.rs).1++[0]:=by rw[T6,if_neg b]
 have hl:=Kc g;have y:(qU a).length=(jH a.rs).1.length+1:=by rw[<- s,i];simp
 have Z:40+a.nm.length<=cX a/\cX a<=2000:=by simp only[cX,c];omega
 have j:=mB (G:=G) (bb:=bb) (40+a.nm.length) (by omega);have r:(8:Int)*(((40+a.nm.length+7) / 8:Nat):Int)=((cX a:Nat):Int):=by simp only[cX,c];omega
 rw[bAu,show ((40:Nat):Int)=40 from rfl] at j
 have hs:fA a<=4000/\8<=fA a/\fA a % 8=0:=by
  simp only[fA];omega
 have hz:(uV a).length=fA a-8:=by
  have Y:=sU a;rw[uV,uU,P5 h];simp only[aZB,aZI];simp only[fA];have:cX a % 8=0:=by unfold cX;omega
  omega
 have z:=mD (G:=G) (bb:=bb) (cX a-40-a.nm.length) (by omega);have p:((cX a:Nat):Int)-40-(a.nm.length:Int)=((cX a-40-a.nm.length:Nat):Int):=by omega
 have C:=Nh (G:=G) (B:=bs bb) a.rs g;have D:=rM (G:=G) (B:=bs bb) a.rs (by omega);have E:=Ng (G:=G) (B:=bs bb) (a.fi+gQ a.rs-1) 4294967296 (by omega);have l1:(Bl a).length=8:=by simp only[Bl,aZB,aA]
 have t:Bl a=bI 1 1++bI a.nm.length 1++bI 40 2++bI a.fl 2++bI a.id 2:=by rw[Bl,if_neg b,c];rfl
 have u:L5 a=Bl a++bI a.fi 4++bI ((a.fi+gQ a.rs-1) % 4294967296) 4++bI (cX a) 2++[0,0]++bI a.al 4++bI a.sz 4++bI a.vd 4:=by rw[L5,if_neg b];rfl
 have l2:=sU a;have x:uV a=uU (L5 a++a.nm++List.replicate (cX a-40-a.nm.length) 0++((jH a.rs).1++[0])):=by rw[uV,c,i]
 have f:=Dy (G:=G) (bb:=bb) (L5 a++a.nm++List.replicate (cX a-40-a.nm.length) 0++((jH a.rs).1++[0])) (by simp only[aZB,aZI,bBb];omega);rw[<- x] at f;have k:=mB (G:=G) (bb:=bb) ((uV a).length+8) (by omega);rw[bAu,show ((8:Nat):Int)=8 from rfl] at k
 have q:(8:Int)*((((uV a).length+8+7) / 8:Nat):Int)=((fA a:Nat):Int):=by omega
 rw[u,t] at f;unfold gR;generalize uV a=R at *;generalize cX a=A at *;generalize fA a=N at *;have hm:0<=(a.fi+gQ a.rs-1) % 4294967296/\(a.fi+gQ a.rs-1) % 4294967296<=4294967296:=by omega
 simp (disch:=first|omega|(simp only[aZB,aZC,aZD,aZA,aA,aZI]<;>omega)) only[go_sem,h130c,d,aG,aAT,j,r,H0,mC,qJ,T7,z,p,f,k,q,C,D,E,bAx,aZI]
theorem T8(a:aJ)(h:a.Ok):EV G (Tb (bs bb)) 130 [a.v] []=some (sv (gR a),[]):=by
 cases b:a.res with
 |true=>exact aQG a h b
 |false=>exact aQH a h b
theorem aLZ(a:aJ)(h:a.Ok):(gR a).length=fA a:=by
 have c:=sU a;have b:=P5 h;have h3:cX a % 8=0/\sS a+a.nm.length<=cX a:=by unfold cX;omega
 rw[gR,uV,uU,b];simp only[aZB,aZI,aA];simp only[fA];omega
theorem X7(a:aJ)(m:a.W):EV G (Tb (bs bb)) 131 [a.v] []=some (vi (gI a),[]):=by
 refine aB rfl ?_;have e:=aDg (G:=G) (bb:=bb) a.ty;have g:=aGW (G:=G) (bb:=bb) a.nm m.nm (by have:=m.nl;omega);have k:=aDi (G:=G) (bb:=bb) a m;have n:=aDh (G:=G) (bb:=bb) a;unfold gI;by_cases l:a.ty∈Ni;rw[if_neg (fun h=>h l)]
 rw[decide_eq_true l] at e;cases o:P0 a.nm with
 |false=>
  rw[o] at g;rw[if_pos rfl];simp (disch:=omega) only[go_sem,h131c,e,g]
 |true=>
  rw[o] at g;rw[if_neg (by decide)];by_cases d:0<=a.id/\a.id<=65535;by_cases f:0<=a.fl/\a.fl<=7;rw[if_neg (fun h=>h ⟨d,f⟩)]
  have q5 (h:tQ a=0):=T8 (G:=G) (bb:=bb) a ⟨m,l,o,⟨d,f⟩,h⟩;have q6 (h:tQ a=0):=aLZ a ⟨m,l,o,⟨d,f⟩,h⟩;have p:((fA a:Int) > 440)=(fA a > 440):=by apply propext;omega
  cases i:a.res with
  |true=>
   simp only[tQ,i,if_true] at q5 q6 ⊢;simp only[aJ.v,aJ.c,i] at k n q5;by_cases b:L4 a=0;rw[if_neg (fun h=>h b)]
   by_cases j:fA a > 440;rw[if_pos j];simp (disch:=omega) only[go_sem,h131c,e,g,bN,eq_true d,eq_true f,k,i,n,b,q5 b,q6 b,p,eq_true j];rw[if_neg j];simp (disch:=omega) only[go_sem,h131c,e,g,bN,eq_true d,eq_true f,k,i,n,b,q5 b,q6 b,p,j];rw[if_pos b];simp (disch:=omega) only[go_sem,h131c,e,g,bN,eq_true d,eq_true f,k,i,n,b]
  |false=>
   simp only[tQ,i,if_false,bAP] at q5 q6 ⊢;simp only[aJ.v,aJ.c,i] at k n q5;by_cases b:J9 a=0;rw[if_neg (fun h=>h b)]
   by_cases j:fA a > 440;rw[if_pos j];simp (disch:=omega) only[go_sem,h131c,e,g,bN,eq_true d,eq_true f,k,i,b,q5 b,q6 b,p,eq_true j];rw[if_neg j];simp (disch:=omega) only[go_sem,h131c,e,g,bN,eq_true d,eq_true f,k,i,b,q5 b,q6 b,p,j];rw[if_pos b];simp (disch:=omega) only[go_sem,h131c,e,g,bN,eq_true d,eq_true f,k,i,b]
  rw[if_pos (fun h=>f h.2)]
  simp (disch:=omega) only[go_sem,h131c,e,g,bN,eq_true d,f];rw[if_pos (fun h=>d h.1)]
  simp (disch:=omega) only[go_sem,h131c,e,g,bN,d]
 rw[if_pos l];rw[decide_eq_false l] at e;simp (disch:=omega) only[go_sem,h131c,e]
end
section
variable {G:aF}{B:aO}
def tb3(a b c:Int):Nat->Int
 |0=>a
 |1=>b
 |_=>c
theorem aAU(a b c:Int):tb3 a b c 0=a:=rfl
theorem Dz(a b c:Int):tb3 a b c 1=b:=rfl
theorem T9(a b c:Int):tb3 a b c 2=c:=rfl
abbrev bS(l:L Int):aD:=.box [.dc (.raw (.string (dO l)))]
def nS:L Int->Int
 |[x]=>if 128<=x then x-256 else x
 |[x,y]=>if 32768<=y*256+x then y*256+x-65536 else y*256+x
 |_=>0
def dG(bs:L Int)(a:Nat):Int×Bool×L Int:=if bs.length<a then (0,false,bs) else (nS (bs.take a),decide (sz (nS (bs.take a))=a),bs.drop a)
def iR(a h:Int)(t:L Int):aW×Bool×L Int:=
 if (1<=h % 16/\h % 16<=2)/\h / 16<=2 then
  if (dG t (h % 16).toNat).2.1=false\/h / 16=0 then (⟨-1,(dG t (h % 16).toNat).1⟩,(dG t (h % 16).toNat).2.1,(dG t (h % 16).toNat).2.2)
  else (⟨a+(dG (dG t (h % 16).toNat).2.2 (h / 16).toNat).1,(dG t (h % 16).toNat).1⟩,(dG (dG t (h % 16).toNat).2.2 (h / 16).toNat).2.1&&!decide (a+(dG (dG t (h % 16).toNat).2.2 (h / 16).toNat).1=-1),(dG (dG t (h % 16).toNat).2.2 (h / 16).toNat).2.2)
 else (⟨0,0⟩,false,t)
theorem aG1(n b:Int)(e:0<=n/\n<=255)(d:0<=b/\b<=255):Xv .i64 (n*256) b=n*256+b:=by
 obtain⟨n,rfl⟩:=bAH e.1;obtain⟨b,rfl⟩:=bAH d.1;have a:((n:Int)*256)=((n*256:Nat):Int):=by simp
 have c:n*256 ||| b=n*256+b:=by
  have:=Nat.shiftLeft_add_eq_or_of_lt (show b<2 ^ 8 by omega) n;rw[Nat.shiftLeft_eq] at this;exact this.symm
 rw[Xv,a,J2,BitVec.ofInt_natCast,BitVec.ofInt_natCast,BitVec.toNat_or,BitVec.toNat_ofNat,BitVec.toNat_ofNat,bAy (by omega),bAy (by omega),c,Bv (by omega)];simp
theorem aN6(h:Int)(b:0<=h/\h<=255):Xu .i64 h 15=h % 16:=by
 obtain⟨n,rfl⟩:=bAH b.1;have a:n &&& 15=n % 16:=Nat.and_two_pow_sub_one_eq_mod n 4;have h3:(15:Int)=((15:Nat):Int):=rfl;rw[Xu,h3,J2,BitVec.ofInt_natCast,BitVec.ofInt_natCast,BitVec.toNat_and,BitVec.toNat_ofNat,BitVec.toNat_ofNat,bAy (by omega),bAy (by omega),a,Bv (by omega)];simp
theorem Fb(n:Int):n.fdiv 16=n / 16:=Int.fdiv_eq_ediv_of_nonneg _ (by decide)
theorem jN{x:Int}{l:L Int}(h:aI (x::l)):(0<=x/\x<=255)/\aI l:=⟨h x aZV,fun b a=>h b (aZ2 _ a)⟩
theorem aDj(bs:L Int)(a:aI bs):EV G (Tb B) 287 [.one (.ptr 0 0),vi 1] [bS bs]=some (.tup [.one (.dc (ci (dG bs 1).1)),.one (bC (dG bs 1).2.1)],[bS (dG bs 1).2.2]):=by
 refine aB rfl ?_
 match bs,a with
 |[],a=>
  simp (disch:=first|omega|(simp only[aZB,aZC,aZD,aZA,aA];omega)) only[go_sem,h287c,dG,aC]
  rfl
 |x::t,a=>
  obtain⟨g,_⟩:=jN a;have e:=aG1 0 x (by omega) g;rw[Int.zero_mul,bAg] at e;simp (disch:=first|omega|(simp only[aZB,aZC,aZD,aZA,aA];omega)) only[go_sem,h287c,Int.reduceSub]
  rw[aR (fun k=>⟨(.one (.ptr 0 0)::vi 1::jk 4 (vi (tb3 0 x x k)::vi (tb3 0 (-1) (-1) k)::jk 44 [])),[bS (x::t)]⟩) 1 ?_ ?_]
  have f:dG (x::t) 1=(nS [x],decide (sz (nS [x])=1),t):=by rw[dG,if_neg (by simp)];rfl
  rw[f];simp only[nS];by_cases c:128<=x;have d:=rN (G:=G) (B:=B) (x-256) (by omega);simp (disch:=first|omega|(simp only[aZB,aZC,aZD,aZA,aA];omega)) only[go_sem,h287l0,Dz,Int.reduceMul,Int.reduceSub,Int.reduceToNat,Int.reducePow,Nat.reducePow,Int.reduceNeg,c,d,bC]
  have d:=rN (G:=G) (B:=B) x (by omega);simp (disch:=first|omega|(simp only[aZB,aZC,aZD,aZA,aA];omega)) only[go_sem,h287l0,Dz,Int.reduceMul,Int.reduceSub,Int.reduceToNat,Int.reducePow,Nat.reducePow,Int.reduceNeg,c,d,bC]
  rfl;intro k h;have b:k=0:=by omega
  subst b;simp (disch:=first|omega|(simp only[aZB,aZC,aZD,aZA,aA];omega)) only[go_sem,h287l0,aAU,Dz,Int.reduceMul,Int.reduceSub,Int.reduceToNat,Int.reducePow,Nat.reducePow,Int.reduceNeg,e,Int.zero_mul]
theorem aDk(bs:L Int)(a:aI bs):EV G (Tb B) 287 [.one (.ptr 0 0),vi 2] [bS bs]=some (.tup [.one (.dc (ci (dG bs 2).1)),.one (bC (dG bs 2).2.1)],[bS (dG bs 2).2.2]):=by
 refine aB rfl ?_
 match bs,a with
 |[],a=>
  simp (disch:=first|omega|(simp only[aZB,aZC,aZD,aZA,aA];omega)) only[go_sem,h287c,dG,aC]
  rfl
 |[x],a=>
  simp (disch:=first|omega|(simp only[aZB,aZC,aZD,aZA,aA];omega)) only[go_sem,h287c,dG,aC]
  rfl
 |x::y::t,a=>
  obtain⟨h,b⟩:=jN a;obtain⟨e,_⟩:=jN b;have f:=aG1 0 y (by omega) e;have i:=aG1 y x e h;rw[Int.zero_mul,bAg] at f;simp (disch:=first|omega|(simp only[aZB,aZC,aZD,aZA,aA];omega)) only[go_sem,h287c,Int.reduceSub]
  rw[aR (fun k=>⟨(.one (.ptr 0 0)::vi 2::jk 4 (vi (tb3 0 y (y*256+x) k)::vi (tb3 1 0 (-1) k)::jk 44 [])),[bS (x::y::t)]⟩) 2 ?_ ?_]
  have g:dG (x::y::t) 2=(nS [x,y],decide (sz (nS [x,y])=2),t):=by rw[dG,if_neg (by simp)];rfl
  rw[g];simp only[nS];by_cases c:32768<=y*256+x;have d:=rN (G:=G) (B:=B) (y*256+x-65536) (by omega);simp (disch:=first|omega|(simp only[aZB,aZC,aZD,aZA,aA];omega)) only[go_sem,h287l0,T9,Int.reduceMul,Int.reduceSub,Int.reduceToNat,Int.reducePow,Nat.reducePow,Int.reduceNeg,c,d,bC]
  have d:=rN (G:=G) (B:=B) (y*256+x) (by omega);simp (disch:=first|omega|(simp only[aZB,aZC,aZD,aZA,aA];omega)) only[go_sem,h287l0,T9,Int.reduceMul,Int.reduceSub,Int.reduceToNat,Int.reducePow,Nat.reducePow,Int.reduceNeg,c,d,bC]
  rfl;intro k j;rcases (show k=0\/k=1 by omega) with rfl|rfl
  simp (disch:=first|omega|(simp only[aZB,aZC,aZD,aZA,aA];omega)) only[go_sem,h287l0,aAU,Dz,Int.reduceMul,Int.reduceSub,Int.reduceToNat,Int.reducePow,Nat.reducePow,Int.reduceNeg,f,Int.zero_mul]
  simp (disch:=first|omega|(simp only[aZB,aZC,aZD,aZA,aA];omega)) only[go_sem,h287l0,Dz,T9,Int.reduceMul,Int.reduceSub,Int.reduceToNat,Int.reducePow,Nat.reducePow,Int.reduceNeg,i,Int.zero_mul]
theorem Ua(bs:L Int)(b:aI bs)(a:Int)(c:1<=a/\a<=2):EV G (Tb B) 287 [.one (.ptr 0 0),vi a] [bS bs]=some (.tup [.one (.dc (ci (dG bs a.toNat).1)),.one (bC (dG bs a.toNat).2.1)],[bS (dG bs a.toNat).2.2]):=by
 rcases (show a=1\/a=2 by omega) with rfl|rfl
 exact aDj bs b;exact aDk bs b
theorem D0{l m:L Int}(h:aI l)(c:∀x∈m,x∈l):aI m:=fun b a=>h b (c b a)
theorem rQ{bs:L Int}(h:aI bs)(a:Nat):aI (dG bs a).2.2:=by
 unfold dG;split;exact h;exact D0 h (fun x b=>bAb b)
theorem D3{bs:L Int}(h:aI bs)(a:Nat):-32768<=(dG bs a).1/\(dG bs a).1<=32767:=by
 unfold dG;split;simp;have b:aI (bs.take a):=D0 h (fun x c=>aZ0 c)
 simp only;generalize bs.take a=m at b
 match m,b with
 |[],_=>simp[nS]
 |[x],b=>have:=b x (by simp);simp only[nS];split<;>omega
 |[x,y],b=>have:=b x (by simp);have:=b y (by simp);simp only[nS];split<;>omega
 |x::y::z::w,_=>simp[nS]
theorem Kd(bs:L Int)(a:Nat):(dG bs a).2.2.length<=bs.length:=by
 unfold dG;split;exact aZE _;simp
theorem aN7(a h:Int)(t:L Int)(r:aI (h::t))(v:-1000000000<=a/\a<=1000000000):EV G (Tb B) 267 [.one (.ptr 0 0),vi a] [bS (h::t)]= some (.tup [.agg [.dc (ci (iR a h t).1.s),.dc (ci (iR a h t).1.n)],.one (bC (iR a h t).2.1)],[bS (iR a h t).2.2]):=by
 refine aB rfl ?_;obtain⟨u,c⟩:=jN r;have f:=aN6 h u;unfold iR;by_cases b:1<=h % 16/\h % 16<=2;by_cases d:h / 16<=2;rw[if_pos ⟨b,d⟩];have i:=Ua (G:=G) (B:=B) t c (h % 16) b;have m:=D3 c (h % 16).toNat;have j:=rQ c (h % 16).toNat;generalize dG t (h % 16).toNat=p at i m j ⊢;obtain⟨w,g,t1⟩:=p;simp only at i m j ⊢;by_cases e:h / 16=0
 ·rw[if_pos (Or.inr e)];cases g;all_goals simp (disch:=first|omega|(simp only[aZB,aZC,aZD,aZA,aA];omega)) only[go_sem,h267c,Int.reduceToNat,Int.reducePow,f,Fb,b,d,e,kA,i,bC]
 cases g;rw[if_pos (Or.inl rfl)];simp (disch:=first|omega|(simp only[aZB,aZC,aZD,aZA,aA];omega)) only[go_sem,h267c,Int.reduceToNat,Int.reducePow,f,Fb,b,d,e,kA,i,bC]
 ·rw[if_neg (by simp[e])];have l:=Ua (G:=G) (B:=B) t1 j (h / 16) (by omega);have o:=D3 j (h / 16).toNat;generalize dG t1 (h / 16).toNat=q at l o ⊢;obtain⟨x,k,y⟩:=q;simp only at l o ⊢;cases k;all_goals simp (disch:=first|omega|(simp only[aZB,aZC,aZD,aZA,aA];omega)) only[go_sem,h267c,Int.reduceToNat,Int.reducePow,f,Fb,b,d,e,kA,i,l,bC,kB]
 rw[if_neg (by omega)];simp (disch:=first|omega|(simp only[aZB,aZC,aZD,aZA,aA];omega)) only[go_sem,h267c,Int.reduceToNat,Int.reducePow,f,Fb,b,d,kA,bC]
 rw[if_neg (by omega)];simp (disch:=first|omega|(simp only[aZB,aZC,aZD,aZA,aA];omega)) only[go_sem,h267c,Int.reduceToNat,Int.reducePow,f,Fb,b,kA,bC]
structure DS where
 bs:List Int
 last:Int
 out:List aW
def gO(z:DS):Option DS:=
 match z.bs with
 |[]=>none
 |h::t=>if h=0 then none else if (iR z.last h t).2.1=true then some ⟨(iR z.last h t).2.2,if (iR z.last h t).1.s=-1 then z.last else (iR z.last h t).1.s,z.out++[(iR z.last h t).1]⟩ else none
def dK(s:L Int):Nat->DS
 |0=>⟨s,0,[]⟩
 |k+1=>(gO (dK s k)).getD (dK s k)
noncomputable def Cj(s:L Int):Nat:=ix (fun k=>gO (dK s k)=none) (s.length+1)
def Bm(bs:L Int):Int:=match bs with
 |[]=>3
 |h::t=>if h=0/\t=[] then 0 else 3
def qD(z:DS):L aW×Int:=if Bm z.bs≠0 then ([],3) else if (mT z.out).2≠0 then ([],(mT z.out).2) else (z.out,0)
noncomputable def nN(s:L Int):L aW×Int:=if (s.length:Int) > 400 then ([],8) else qD (dK s (Cj s))
theorem aG2(a h:Int)(t:L Int):(iR a h t).2.2.length<=t.length:=by
 unfold iR;split;split;exact Kd _ _;exact Nat.le_trans (Kd _ _) (Kd _ _);exact aZE _
theorem aDl(a h:Int){t:L Int}(b:aI t):aI (iR a h t).2.2:=by
 unfold iR;split;split;exact rQ b _;exact rQ (rQ b _) _;exact b
theorem aL0(a h:Int){t:L Int}(b:aI t):(iR a h t).1.s=-1\/(iR a h t).1.s=0\/(a-32768<=(iR a h t).1.s/\(iR a h t).1.s<=a+32767):=by
 unfold iR;split;split;exact .inl rfl;have:=D3 (rQ b (h % 16).toNat) (h / 16).toNat;exact .inr (.inr ⟨by simp only;omega,by simp only;omega⟩);exact .inr (.inl rfl)
theorem Uc(s:L Int)(g:aI s):∀k,(∀j,j<k->¬ gO (dK s j)=none)->(dK s k).bs.length+k<=s.length/\(dK s k).out.length=k/\(-40000*(k:Int)<=(dK s k).last/\(dK s k).last<=40000*k)/\aI (dK s k).bs:=by
 intro k
 induction k with
 |zero=>intro _;exact⟨by simp[dK],rfl,by simp[dK],g⟩
 |succ k i=>
  intro h;obtain⟨b,d,h3,h4⟩:=i (fun j o=>h j (by omega))
  have h5:=h k (by omega);simp only[dK];generalize dK s k=z at b d h3 h4 h5 ⊢;obtain⟨bs,a,m⟩:=z;simp only at b d h3 h4 h5;cases bs with
  |nil=>exact absurd rfl h5
  |cons h t=>
   obtain⟨n,e⟩:=jN h4;have p:=aG2 a h t;have l:=aDl a h e;have q:=aL0 a h e;simp only[gO] at h5 ⊢;split;rename_i c;rw[if_pos c] at h5;exact absurd rfl h5;rename_i c;rw[if_neg c] at h5;split;simp only[bAm,aZB,aZC,aZD] at b ⊢;refine⟨by omega,by omega,?_,l⟩;split<;>omega;rename_i f;rw[if_neg f] at h5;exact absurd rfl h5
theorem Nk(s:L Int)(b:aI s):Cj s<=s.length/\gO (dK s (Cj s))=none/\∀j,j<Cj s->¬ gO (dK s j)=none:=by
 obtain⟨c,a,h3⟩:=bD (fun k=>gO (dK s k)=none) (s.length+1)
 have h4:=(Uc s b (Cj s) h3).1;refine⟨by omega,?_,h3⟩;rcases a with a|a
 exact absurd h4 (by unfold Cj;omega);exact a.2
theorem Ud(h:Int)(t:L Int):(dO (h::t)=dO [])=False:=by
 apply eq_false;intro e;have:=congrArg ByteArray.size e;simp[aC] at this
attribute [go_sem] Ud
theorem aG3(s:L Int)(p:aI s):EV G (Tb B) 220 [sv s] []=some (.tup [.one (.dc (.slc ((nN s).1.map aW.e))),.one (.dc (ci (nN s).2))],[]):=by
 refine aB rfl ?_;unfold nN;by_cases v:(s.length:Int) > 400;rw[if_pos v];simp (disch:=first|omega|(simp only[aZB,aZC,aZD,aZA,aA];omega)) only[go_sem,h220c,aZN]
 rw[if_neg v];simp (disch:=first|omega|(simp only[aZB,aZC,aZD,aZA,aA];omega)) only[go_sem,h220c]
 rw[dE (fun k=>⟨(jk 1 (.one (.ptr 0 0)::jk 2 (.one (.bld 1 (dK s k).out.length)::vi (dK s k).last::jk 39 []))),[bS (dK s k).bs,.arr 0 2 ((dK s k).out.map aW.e)]⟩) (fun k=>gO (dK s k)=none) (s.length+1) ?_ ?_]
 obtain⟨E,d,y⟩:=Nk s p;obtain⟨m,n,o,i⟩:=Uc s p _ y;rw[show ix (fun k=>gO (dK s k)=none) (s.length+1)=Cj s from rfl]
 generalize dK s (Cj s)=z at *;obtain⟨bs,a,b⟩:=z;simp only at d m n o i ⊢;cases bs with
 |nil=>
  rw[show qD ⟨[],a,b⟩=([],3) from rfl]
  simp (disch:=first|omega|(simp only[aZB,aZC,aZD,aZA,aA];omega)) only[go_sem,h220l0,aG,aZN]
 |cons h t=>
  obtain⟨A,C⟩:=jN i;by_cases c:h=0;subst c
  match t with
  |[]=>
   have q:=Nd b;by_cases g:(mT b).2=0;rw[g] at q;rw[show qD ⟨[0],a,b⟩=(b,0) by simp[qD,Bm,g]];simp (disch:=first|omega|(simp only[aZB,aZC,aZD,aZA,aA];omega)) only[go_sem,h220l0,aG,Hu,q,kF]
   rw[show qD ⟨[0],a,b⟩=([],(mT b).2) by simp[qD,Bm,g]];simp (disch:=first|omega|(simp only[aZB,aZC,aZD,aZA,aA];omega)) only[go_sem,h220l0,aG,Hu,q,g,kF,aZN]
  |x::t=>
   rw[show qD ⟨0::x::t,a,b⟩=([],3) by simp[qD,Bm]];simp (disch:=first|omega|(simp only[aZB,aZC,aZD,aZA,aA];omega)) only[go_sem,h220l0,aG,aZN]
  have f:=aN7 (G:=G) (B:=B) a h t i (by omega);simp only[gO,if_neg c] at d;rw[show qD ⟨h::t,a,b⟩=([],3) by simp[qD,Bm,c]];generalize iR a h t=r at f d;obtain⟨r,u,l⟩:=r;cases u;simp only at f;simp (disch:=first|omega|(simp only[aZB,aZC,aZD,aZA,aA];omega)) only[go_sem,h220l0,aG,aZN,f,c,bC]
  simp at d
 rfl;intro k H w;obtain⟨m,n,o,i⟩:=Uc s p k (fun j F=>w j (by omega))
 have d:=w k (aZE _);rw[show dK s (k+1)=(gO (dK s k)).getD (dK s k) from rfl]
 generalize dK s k=z at *;obtain⟨bs,a,b⟩:=z;simp only at d m n o i ⊢;cases bs with
 |nil=>exact absurd rfl d
 |cons h t=>
  obtain⟨A,C⟩:=jN i;by_cases c:h=0;simp[gO,c] at d;have f:=aN7 (G:=G) (B:=B) a h t i (by omega);simp only[gO,if_neg c] at d ⊢;generalize iR a h t=r at f d;obtain⟨⟨D,rn⟩,u,l⟩:=r;cases u;simp at d;simp only at f;by_cases g:D=-1;simp (disch:=first|omega|(simp only[aZB,aZC,aZD,aZA,aA];omega)) only[go_sem,h220l0,aG,f,c,g,bC,kB,bAm,Dt,aZB]
  simp (disch:=first|omega|(simp only[aZB,aZC,aZD,aZA,aA];omega)) only[go_sem,h220l0,aG,f,c,g,bC,kB,bAm,Dt,aZB]
