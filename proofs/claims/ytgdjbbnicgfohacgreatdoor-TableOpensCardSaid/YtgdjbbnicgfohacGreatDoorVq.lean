/- Part. Conditions: none. -/
import Derived.Test.YtgdjbbnicgfohacGreatDoorUg
import Derived.Test.YtgdjbbnicgfohacGreatDoorVi
namespace Go.Proofs.YtgdjbbnicgfohacGreatDoor
set_option maxHeartbeats 4000000
set_option linter.unusedSimpArgs false
set_option linter.unusedVariables false
set_option maxRecDepth 4000
section
variable {G:aF}{bb:Bool}
theorem aAA(b:Bool):EV G (Tb (bs bb)) 138 [vb b] []=some (vi (if b=true then 1 else 0),[]):=by
 refine aB rfl ?_;cases b;all_goals simp (disch:=omega) only[go_sem,h138c]
 all_goals rfl
theorem lZ(n:Nat)(h:n<=1000000000):EV G (Tb (bs bb)) 98 [vi n,vi 8] []=some (vi (((n+7) / 8:Nat):Int),[]):=by
 have:=aQc (G:=G) (bb:=bb) n 8 (by omega) (by omega) (by omega);rwa[show -(-(n:Int) / 8)=(((n+7) / 8:Nat):Int) by omega] at this
theorem Ht(n:Int)(a:0<=n/\n<=9223372036854775807):EV G (Tb (bs bb)) 96 [vi n,vi 1] []=some (sv (bI n 1),[]):=nG n 1 a (by omega)
theorem mA(n:Int)(a:0<=n/\n<=9223372036854775807):EV G (Tb (bs bb)) 96 [vi n,vi 2] []=some (sv (bI n 2),[]):=nG n 2 a (by omega)
theorem qE(n:Int)(a:0<=n/\n<=9223372036854775807):EV G (Tb (bs bb)) 96 [vi n,vi 4] []=some (sv (bI n 4),[]):=nG n 4 a (by omega)
def uS(l:L Int):L Int:=l++List.replicate ((l.length+7) / 8*8-l.length) 0
theorem mB(k:Nat)(h:k<=100000):EV G (Tb (bs bb)) 95 [vi k] []=some (sv (List.replicate k 0),[]):=by
 have:=Hr (G:=G) (B:=bs bb) k (by omega);rwa[aZN] at this
theorem Dt(l:L Int)(h:l.length<=10000):EV G (Tb (bs bb)) 140 [sv l] []=some (sv (uS l),[]):=by
 refine aB rfl ?_;have a:=lZ (G:=G) (bb:=bb) l.length (by omega);have b:=mB (G:=G) (bb:=bb) ((l.length+7) / 8*8-l.length) (by omega);have e:(8:Int)*(((l.length+7) / 8:Nat):Int)-(l.length:Int)=(((l.length+7) / 8*8-l.length:Nat):Int):=by omega
 simp (disch:=first|omega|(simp only[aZb,aZc,aZd,aZa,aA,aZh]<;>omega)) only[go_sem,h140c,a,e,b,aZh,uS]
def Bg(a:aJ):L Int:=bI (if a.res=true then 0 else 1) 1++bI a.nm.length 1++bI (sN a) 2++bI a.fl 2++bI a.id 2
def Lr(a:aJ):L Int:=if a.res=true then Bg a++bI a.va.length 4++bI (cW a) 4
 else Bg a++bI a.fi 4++bI ((a.fi+gI a.rs-1) % 4294967296) 4++bI (cW a) 2++List.replicate 2 0++bI a.al 4++bI a.sz 4++bI a.vd 4
def Tk(a:aJ):L Int:=if a.res=true then a.va else (jE a.rs).1++[0]
def uT(a:aJ):L Int:=uS (Lr a++a.nm++List.replicate (cW a-sN a-a.nm.length) 0++Tk a)
def gJ(a:aJ):L Int:=bI a.ty 4++bI (eO a) 4++uT a
structure aJ.Ok (a:aJ):Prop where
 w:a.W
 ty:a.ty∈M6
 nm:Pn a.nm=true
 rg:(0<=a.id/\a.id<=65535)/\(0<=a.fl/\a.fl<=7)
 e:tN a=0
theorem Pt{a:aJ}(h:a.Ok):Tk a=qQ a:=by
 unfold Tk qQ;by_cases b:a.res=true;rw[if_pos b,if_pos b];rw[if_neg b,if_neg b];have h4:=h.e;unfold tN at h4;rw[if_neg b] at h4;obtain⟨_,_,_,c,_⟩:=E6 h4;unfold Cb;rw[if_neg (by rw[Mz];simpa using c)]
theorem sO(a:aJ):(Lr a).length+8=sN a:=by
 unfold Lr Bg sN;split<;>simp only[aZb,aA,aZh]
theorem aQd(a:aJ)(h:a.Ok)(b:a.res=true):EV G (Tb (bs bb)) 100 [a.v] []=some (sv (gJ a),[]):=by
 refine aB rfl ?_;obtain⟨s,t,u,x,y,z,C,D,E,i,j,k,l⟩:=aJ.bd h.w h.ty h.nm h.rg h.e;have F:=Pq h.ty;have H:=Hs h.nm;obtain⟨I,J⟩:=h.rg;have h4:=h.e;unfold tN at h4;rw[if_pos b] at h4;obtain⟨Q,S,T,U,V,W⟩:=Ps h4;have c:sN a=24:=by simp[sN,b]
 have L:24+a.nm.length<=cW a/\cW a<=2000:=by simp only[cW,c];omega
 have f:=lZ (G:=G) (bb:=bb) (24+a.nm.length) (by omega);have o:(8:Int)*(((24+a.nm.length+7) / 8:Nat):Int)=((cW a:Nat):Int):=by simp only[cW,c];omega
 rw[aZ4,show ((24:Nat):Int)=24 from rfl] at f
 have M:eO a<=4000/\8<=eO a/\eO a % 8=0:=by
  have:qQ a=a.va:=by simp[qQ,b]
  simp only[eO,this];omega
 have O:(uT a).length=eO a-8:=by
  have K:=sO a;rw[uT,uS,Pt h];simp only[aZb,aZh];simp only[eO];have:cW a % 8=0:=by unfold cW;omega
  omega
 have r:=mB (G:=G) (bb:=bb) (cW a-24-a.nm.length) (by omega);have m:((cW a:Nat):Int)-24-(a.nm.length:Int)=((cW a-24-a.nm.length:Nat):Int):=by omega
 have p:Lr a=Bg a++bI a.va.length 4++bI (cW a) 4:=by rw[Lr,if_pos b]
 have P:(Bg a).length=8:=by simp only[Bg,aZb,aA]
 have q:uT a=uS (Bg a++bI a.va.length 4++bI (cW a) 4++a.nm++List.replicate (cW a-24-a.nm.length) 0++a.va):=by rw[uT,p,c,Tk,if_pos b]
 have f0:Bg a=bI 0 1++bI a.nm.length 1++bI 24 2++bI a.fl 2++bI a.id 2:=by rw[Bg,if_pos b,c];rfl
 have d:=Dt (G:=G) (bb:=bb) (Bg a++bI a.va.length 4++bI (cW a) 4++a.nm++List.replicate (cW a-24-a.nm.length) 0++a.va) (by simp only[aZb,aA,aZh];omega);rw[<- q] at d;have g:=lZ (G:=G) (bb:=bb) ((uT a).length+8) (by omega);rw[aZ4,show ((8:Nat):Int)=8 from rfl] at g
 have n:(8:Int)*((((uT a).length+8+7) / 8:Nat):Int)=((eO a:Nat):Int):=by omega
 rw[f0] at d;unfold gJ;generalize uT a=R at *;generalize cW a=A at *;generalize eO a=N at *;simp (disch:=first|omega|(simp only[aZb,aZc,aZd,aZa,aA,aZh]<;>omega)) only[go_sem,h100c,b,aG,aAA,f,o,Ht,mA,qE,r,m,d,g,n,aZ7,aZh]
theorem Tl:EV G (Tb (bs bb)) 95 [vi 2] []=some (sv [0,0],[]):=Hr 2 (by omega)
theorem J4{l:L aV}(h:(mS l).2=0):(jE l).1.length<=320:=by
 obtain⟨b,c,d⟩:=Aw l (fun r a=>(Hq h r a).1) l.length (aZe _)
 rw[Dq] at b;have:=nZ h;omega
theorem aQe(a:aJ)(h:a.Ok)(d:a.res=false):EV G (Tb (bs bb)) 100 [a.v] []=some (sv (gJ a),[]):=by
 refine aB rfl ?_;obtain⟨E,F,H,I,J,K,L,M,O,l,m,n,o⟩:=aJ.bd h.w h.ty h.nm h.rg h.e;have b:¬ a.res=true:=by rw[d];decide
 have T:=Pq h.ty;have U:=Hs h.nm;obtain⟨V,W⟩:=h.rg;have h4:=h.e;unfold tN at h4;rw[if_neg b] at h4;obtain⟨r1,r2,r3,g,r5,r6,r7,r8,r9⟩:=E6 h4;obtain⟨P,Q,S⟩:=J3 g;have c:sN a=40:=by simp[sN,d]
 have s:=Pt h;have i:Tk a=(jE a.rs).1++[0]:=by rw[Tk,if_neg b]
 have Z:=J4 g;have x:(qQ a).length=(jE a.rs).1.length+1:=by rw[<- s,i];simp
 have Y:40+a.nm.length<=cW a/\cW a<=2000:=by simp only[cW,c];omega
 have j:=lZ (G:=G) (bb:=bb) (40+a.nm.length) (by omega);have r:(8:Int)*(((40+a.nm.length+7) / 8:Nat):Int)=((cW a:Nat):Int):=by simp only[cW,c];omega
 rw[aZ4,show ((40:Nat):Int)=40 from rfl] at j
 have hs:eO a<=4000/\8<=eO a/\eO a % 8=0:=by
  simp only[eO];omega
 have hz:(uT a).length=eO a-8:=by
  have X:=sO a;rw[uT,uS,Pt h];simp only[aZb,aZh];simp only[eO];have:cW a % 8=0:=by unfold cW;omega
  omega
 have y:=mB (G:=G) (bb:=bb) (cW a-40-a.nm.length) (by omega);have p:((cW a:Nat):Int)-40-(a.nm.length:Int)=((cW a-40-a.nm.length:Nat):Int):=by omega
 have z:=M5 (G:=G) (B:=bs bb) a.rs g;have C:=rI (G:=G) (B:=bs bb) a.rs (by omega);have D:=M4 (G:=G) (B:=bs bb) (a.fi+gI a.rs-1) 4294967296 (by omega);have l1:(Bg a).length=8:=by simp only[Bg,aZb,aA]
 have f0:Bg a=bI 1 1++bI a.nm.length 1++bI 40 2++bI a.fl 2++bI a.id 2:=by rw[Bg,if_neg b,c];rfl
 have t:Lr a=Bg a++bI a.fi 4++bI ((a.fi+gI a.rs-1) % 4294967296) 4++bI (cW a) 2++[0,0]++bI a.al 4++bI a.sz 4++bI a.vd 4:=by rw[Lr,if_neg b];rfl
 have l2:=sO a;have u:uT a=uS (Lr a++a.nm++List.replicate (cW a-40-a.nm.length) 0++((jE a.rs).1++[0])):=by rw[uT,c,i]
 have f:=Dt (G:=G) (bb:=bb) (Lr a++a.nm++List.replicate (cW a-40-a.nm.length) 0++((jE a.rs).1++[0])) (by simp only[aZb,aZh,bAL];omega);rw[<- u] at f;have k:=lZ (G:=G) (bb:=bb) ((uT a).length+8) (by omega);rw[aZ4,show ((8:Nat):Int)=8 from rfl] at k
 have q:(8:Int)*((((uT a).length+8+7) / 8:Nat):Int)=((eO a:Nat):Int):=by omega
 rw[t,f0] at f;unfold gJ;generalize uT a=R at *;generalize cW a=A at *;generalize eO a=N at *;have hm:0<=(a.fi+gI a.rs-1) % 4294967296/\(a.fi+gI a.rs-1) % 4294967296<=4294967296:=by omega
 simp (disch:=first|omega|(simp only[aZb,aZc,aZd,aZa,aA,aZh]<;>omega)) only[go_sem,h100c,d,aG,aAA,j,r,Ht,mA,qE,Tl,y,p,f,k,q,z,C,D,aZ7,aZh]
theorem Tm(a:aJ)(h:a.Ok):EV G (Tb (bs bb)) 100 [a.v] []=some (sv (gJ a),[]):=by
 cases b:a.res with
 |true=>exact aQd a h b
 |false=>exact aQe a h b
theorem aLC(a:aJ)(h:a.Ok):(gJ a).length=eO a:=by
 have c:=sO a;have b:=Pt h;have h3:cW a % 8=0/\sN a+a.nm.length<=cW a:=by unfold cW;omega
 rw[gJ,uT,uS,b];simp only[aZb,aZh,aA];simp only[eO];omega
theorem Xj(a:aJ)(m:a.W):EV G (Tb (bs bb)) 101 [a.v] []=some (vi (gE a),[]):=by
 refine aB rfl ?_;have e:=aC0 (G:=G) (bb:=bb) a.ty;have g:=aGI (G:=G) (bb:=bb) a.nm m.nm (by have:=m.nl;omega);have k:=aC2 (G:=G) (bb:=bb) a m;have n:=aC1 (G:=G) (bb:=bb) a;unfold gE;by_cases l:a.ty∈M6;rw[if_neg (fun h=>h l)]
 rw[decide_eq_true l] at e;cases o:Pn a.nm with
 |false=>
  rw[o] at g;rw[if_pos rfl];simp (disch:=omega) only[go_sem,h101c,e,g]
 |true=>
  rw[o] at g;rw[if_neg (by decide)];by_cases d:0<=a.id/\a.id<=65535;by_cases f:0<=a.fl/\a.fl<=7;rw[if_neg (fun h=>h ⟨d,f⟩)]
  have q5 (h:tN a=0):=Tm (G:=G) (bb:=bb) a ⟨m,l,o,⟨d,f⟩,h⟩;have q6 (h:tN a=0):=aLC a ⟨m,l,o,⟨d,f⟩,h⟩;have p:((eO a:Int) > 440)=(eO a > 440):=by apply propext;omega
  cases i:a.res with
  |true=>
   simp only[tN,i,if_true] at q5 q6 ⊢;simp only[aJ.v,aJ.c,i] at k n q5;by_cases b:Lq a=0;rw[if_neg (fun h=>h b)]
   by_cases j:eO a > 440;rw[if_pos j];simp (disch:=omega) only[go_sem,h101c,e,g,bN,eq_true d,eq_true f,k,i,n,b,q5 b,q6 b,p,eq_true j];rw[if_neg j];simp (disch:=omega) only[go_sem,h101c,e,g,bN,eq_true d,eq_true f,k,i,n,b,q5 b,q6 b,p,j];rw[if_pos b];simp (disch:=omega) only[go_sem,h101c,e,g,bN,eq_true d,eq_true f,k,i,n,b]
  |false=>
   simp only[tN,i,if_false,bAo] at q5 q6 ⊢;simp only[aJ.v,aJ.c,i] at k n q5;by_cases b:J1 a=0;rw[if_neg (fun h=>h b)]
   by_cases j:eO a > 440;rw[if_pos j];simp (disch:=omega) only[go_sem,h101c,e,g,bN,eq_true d,eq_true f,k,i,b,q5 b,q6 b,p,eq_true j];rw[if_neg j];simp (disch:=omega) only[go_sem,h101c,e,g,bN,eq_true d,eq_true f,k,i,b,q5 b,q6 b,p,j];rw[if_pos b];simp (disch:=omega) only[go_sem,h101c,e,g,bN,eq_true d,eq_true f,k,i,b]
  rw[if_pos (fun h=>f h.2)]
  simp (disch:=omega) only[go_sem,h101c,e,g,bN,eq_true d,f];rw[if_pos (fun h=>d h.1)]
  simp (disch:=omega) only[go_sem,h101c,e,g,bN,d]
 rw[if_pos l];rw[decide_eq_false l] at e;simp (disch:=omega) only[go_sem,h101c,e]
end
section
variable {G:aF}{B:aO}
def tb3(a b c:Int):Nat->Int
 |0=>a
 |1=>b
 |_=>c
theorem aAB(a b c:Int):tb3 a b c 0=a:=rfl
theorem Du(a b c:Int):tb3 a b c 1=b:=rfl
theorem Tn(a b c:Int):tb3 a b c 2=c:=rfl
abbrev bS(l:L Int):aD:=.box [.dc (.raw (.string (dB l)))]
def nQ:L Int->Int
 |[x]=>if 128<=x then x-256 else x
 |[x,y]=>if 32768<=y*256+x then y*256+x-65536 else y*256+x
 |_=>0
def dD(bs:L Int)(a:Nat):Int×Bool×L Int:=if bs.length<a then (0,false,bs) else (nQ (bs.take a),decide (sz (nQ (bs.take a))=a),bs.drop a)
def iN(a h:Int)(t:L Int):aV×Bool×L Int:=
 if (1<=h % 16/\h % 16<=2)/\h / 16<=2 then
  if (dD t (h % 16).toNat).2.1=false\/h / 16=0 then (⟨-1,(dD t (h % 16).toNat).1⟩,(dD t (h % 16).toNat).2.1,(dD t (h % 16).toNat).2.2)
  else (⟨a+(dD (dD t (h % 16).toNat).2.2 (h / 16).toNat).1,(dD t (h % 16).toNat).1⟩,(dD (dD t (h % 16).toNat).2.2 (h / 16).toNat).2.1&&!decide (a+(dD (dD t (h % 16).toNat).2.2 (h / 16).toNat).1=-1),(dD (dD t (h % 16).toNat).2.2 (h / 16).toNat).2.2)
 else (⟨0,0⟩,false,t)
theorem aGN(n b:Int)(e:0<=n/\n<=255)(d:0<=b/\b<=255):W9 .i64 (n*256) b=n*256+b:=by
 obtain⟨n,rfl⟩:=bAh e.1;obtain⟨b,rfl⟩:=bAh d.1;have a:((n:Int)*256)=((n*256:Nat):Int):=by simp
 have c:n*256 ||| b=n*256+b:=by
  have:=Nat.shiftLeft_add_eq_or_of_lt (show b<2 ^ 8 by omega) n;rw[Nat.shiftLeft_eq] at this;exact this.symm
 rw[W9,a,Ju,BitVec.ofInt_natCast,BitVec.ofInt_natCast,BitVec.toNat_or,BitVec.toNat_ofNat,BitVec.toNat_ofNat,aZ8 (by omega),aZ8 (by omega),c,Bq (by omega)];simp
theorem aNG(h:Int)(b:0<=h/\h<=255):W8 .i64 h 15=h % 16:=by
 obtain⟨n,rfl⟩:=bAh b.1;have a:n &&& 15=n % 16:=Nat.and_two_pow_sub_one_eq_mod n 4;have h3:(15:Int)=((15:Nat):Int):=rfl;rw[W8,h3,Ju,BitVec.ofInt_natCast,BitVec.ofInt_natCast,BitVec.toNat_and,BitVec.toNat_ofNat,BitVec.toNat_ofNat,aZ8 (by omega),aZ8 (by omega),a,Bq (by omega)];simp
theorem E7(n:Int):n.fdiv 16=n / 16:=Int.fdiv_eq_ediv_of_nonneg _ (by decide)
theorem jL{x:Int}{l:L Int}(h:aK (x::l)):(0<=x/\x<=255)/\aK l:=⟨h x aZu,fun b a=>h b (aZC _ a)⟩
theorem aC3(bs:L Int)(a:aK bs):EV G (Tb B) 287 [.one (.ptr 0 0),vi 1] [bS bs]=some (.tup [.one (.dc (ci (dD bs 1).1)),.one (bC (dD bs 1).2.1)],[bS (dD bs 1).2.2]):=by
 refine aB rfl ?_
 match bs,a with
 |[],a=>
  simp (disch:=first|omega|(simp only[aZb,aZc,aZd,aZa,aA];omega)) only[go_sem,h287c,dD,aC]
  rfl
 |x::t,a=>
  obtain⟨g,_⟩:=jL a;have e:=aGN 0 x (by omega) g;rw[Int.zero_mul,aZQ] at e;simp (disch:=first|omega|(simp only[aZb,aZc,aZd,aZa,aA];omega)) only[go_sem,h287c,Int.reduceSub]
  rw[aR (fun k=>⟨(.one (.ptr 0 0)::vi 1::jk 4 (vi (tb3 0 x x k)::vi (tb3 0 (-1) (-1) k)::jk 44 [])),[bS (x::t)]⟩) 1 ?_ ?_]
  have f:dD (x::t) 1=(nQ [x],decide (sz (nQ [x])=1),t):=by rw[dD,if_neg (by simp)];rfl
  rw[f];simp only[nQ];by_cases c:128<=x;have d:=rJ (G:=G) (B:=B) (x-256) (by omega);simp (disch:=first|omega|(simp only[aZb,aZc,aZd,aZa,aA];omega)) only[go_sem,h287l0,Du,Int.reduceMul,Int.reduceSub,Int.reduceToNat,Int.reducePow,Nat.reducePow,Int.reduceNeg,c,d,bC]
  have d:=rJ (G:=G) (B:=B) x (by omega);simp (disch:=first|omega|(simp only[aZb,aZc,aZd,aZa,aA];omega)) only[go_sem,h287l0,Du,Int.reduceMul,Int.reduceSub,Int.reduceToNat,Int.reducePow,Nat.reducePow,Int.reduceNeg,c,d,bC]
  rfl;intro k h;have b:k=0:=by omega
  subst b;simp (disch:=first|omega|(simp only[aZb,aZc,aZd,aZa,aA];omega)) only[go_sem,h287l0,aAB,Du,Int.reduceMul,Int.reduceSub,Int.reduceToNat,Int.reducePow,Nat.reducePow,Int.reduceNeg,e,Int.zero_mul]
theorem aC4(bs:L Int)(a:aK bs):EV G (Tb B) 287 [.one (.ptr 0 0),vi 2] [bS bs]=some (.tup [.one (.dc (ci (dD bs 2).1)),.one (bC (dD bs 2).2.1)],[bS (dD bs 2).2.2]):=by
 refine aB rfl ?_
 match bs,a with
 |[],a=>
  simp (disch:=first|omega|(simp only[aZb,aZc,aZd,aZa,aA];omega)) only[go_sem,h287c,dD,aC]
  rfl
 |[x],a=>
  simp (disch:=first|omega|(simp only[aZb,aZc,aZd,aZa,aA];omega)) only[go_sem,h287c,dD,aC]
  rfl
 |x::y::t,a=>
  obtain⟨h,b⟩:=jL a;obtain⟨e,_⟩:=jL b;have f:=aGN 0 y (by omega) e;have i:=aGN y x e h;rw[Int.zero_mul,aZQ] at f;simp (disch:=first|omega|(simp only[aZb,aZc,aZd,aZa,aA];omega)) only[go_sem,h287c,Int.reduceSub]
  rw[aR (fun k=>⟨(.one (.ptr 0 0)::vi 2::jk 4 (vi (tb3 0 y (y*256+x) k)::vi (tb3 1 0 (-1) k)::jk 44 [])),[bS (x::y::t)]⟩) 2 ?_ ?_]
  have g:dD (x::y::t) 2=(nQ [x,y],decide (sz (nQ [x,y])=2),t):=by rw[dD,if_neg (by simp)];rfl
  rw[g];simp only[nQ];by_cases c:32768<=y*256+x;have d:=rJ (G:=G) (B:=B) (y*256+x-65536) (by omega);simp (disch:=first|omega|(simp only[aZb,aZc,aZd,aZa,aA];omega)) only[go_sem,h287l0,Tn,Int.reduceMul,Int.reduceSub,Int.reduceToNat,Int.reducePow,Nat.reducePow,Int.reduceNeg,c,d,bC]
  have d:=rJ (G:=G) (B:=B) (y*256+x) (by omega);simp (disch:=first|omega|(simp only[aZb,aZc,aZd,aZa,aA];omega)) only[go_sem,h287l0,Tn,Int.reduceMul,Int.reduceSub,Int.reduceToNat,Int.reducePow,Nat.reducePow,Int.reduceNeg,c,d,bC]
  rfl;intro k j;rcases (show k=0\/k=1 by omega) with rfl|rfl
  simp (disch:=first|omega|(simp only[aZb,aZc,aZd,aZa,aA];omega)) only[go_sem,h287l0,aAB,Du,Int.reduceMul,Int.reduceSub,Int.reduceToNat,Int.reducePow,Nat.reducePow,Int.reduceNeg,f,Int.zero_mul]
  simp (disch:=first|omega|(simp only[aZb,aZc,aZd,aZa,aA];omega)) only[go_sem,h287l0,Du,Tn,Int.reduceMul,Int.reduceSub,Int.reduceToNat,Int.reducePow,Nat.reducePow,Int.reduceNeg,i,Int.zero_mul]
theorem To(bs:L Int)(b:aK bs)(a:Int)(c:1<=a/\a<=2):EV G (Tb B) 287 [.one (.ptr 0 0),vi a] [bS bs]=some (.tup [.one (.dc (ci (dD bs a.toNat).1)),.one (bC (dD bs a.toNat).2.1)],[bS (dD bs a.toNat).2.2]):=by
 rcases (show a=1\/a=2 by omega) with rfl|rfl
 exact aC3 bs b;exact aC4 bs b
theorem Dv{l m:L Int}(h:aK l)(c:∀x∈m,x∈l):aK m:=fun b a=>h b (c b a)
theorem rN{bs:L Int}(h:aK bs)(a:Nat):aK (dD bs a).2.2:=by
 unfold dD;split;exact h;exact Dv h (fun x b=>aZL b)
theorem Dw{bs:L Int}(h:aK bs)(a:Nat):-32768<=(dD bs a).1/\(dD bs a).1<=32767:=by
 unfold dD;split;simp;have b:aK (bs.take a):=Dv h (fun x c=>aZA c)
 simp only;generalize bs.take a=m at b
 match m,b with
 |[],_=>simp[nQ]
 |[x],b=>have:=b x (by simp);simp only[nQ];split<;>omega
 |[x,y],b=>have:=b x (by simp);have:=b y (by simp);simp only[nQ];split<;>omega
 |x::y::z::w,_=>simp[nQ]
theorem J5(bs:L Int)(a:Nat):(dD bs a).2.2.length<=bs.length:=by
 unfold dD;split;exact aZe _;simp
theorem aNH(a h:Int)(t:L Int)(r:aK (h::t))(v:-1000000000<=a/\a<=1000000000):EV G (Tb B) 273 [.one (.ptr 0 0),vi a] [bS (h::t)]= some (.tup [.agg [.dc (ci (iN a h t).1.s),.dc (ci (iN a h t).1.n)],.one (bC (iN a h t).2.1)],[bS (iN a h t).2.2]):=by
 refine aB rfl ?_;obtain⟨u,c⟩:=jL r;have f:=aNG h u;unfold iN;by_cases b:1<=h % 16/\h % 16<=2;by_cases d:h / 16<=2;rw[if_pos ⟨b,d⟩];have i:=To (G:=G) (B:=B) t c (h % 16) b;have m:=Dw c (h % 16).toNat;have j:=rN c (h % 16).toNat;generalize dD t (h % 16).toNat=p at i m j ⊢;obtain⟨w,g,t1⟩:=p;simp only at i m j ⊢;by_cases e:h / 16=0
 ·rw[if_pos (Or.inr e)];cases g;all_goals simp (disch:=first|omega|(simp only[aZb,aZc,aZd,aZa,aA];omega)) only[go_sem,h273c,Int.reduceToNat,Int.reducePow,f,E7,b,d,e,jW,i,bC]
 cases g;rw[if_pos (Or.inl rfl)];simp (disch:=first|omega|(simp only[aZb,aZc,aZd,aZa,aA];omega)) only[go_sem,h273c,Int.reduceToNat,Int.reducePow,f,E7,b,d,e,jW,i,bC]
 ·rw[if_neg (by simp[e])];have l:=To (G:=G) (B:=B) t1 j (h / 16) (by omega);have o:=Dw j (h / 16).toNat;generalize dD t1 (h / 16).toNat=q at l o ⊢;obtain⟨x,k,y⟩:=q;simp only at l o ⊢;cases k;all_goals simp (disch:=first|omega|(simp only[aZb,aZc,aZd,aZa,aA];omega)) only[go_sem,h273c,Int.reduceToNat,Int.reducePow,f,E7,b,d,e,jW,i,l,bC,jX]
 rw[if_neg (by omega)];simp (disch:=first|omega|(simp only[aZb,aZc,aZd,aZa,aA];omega)) only[go_sem,h273c,Int.reduceToNat,Int.reducePow,f,E7,b,d,jW,bC]
 rw[if_neg (by omega)];simp (disch:=first|omega|(simp only[aZb,aZc,aZd,aZa,aA];omega)) only[go_sem,h273c,Int.reduceToNat,Int.reducePow,f,E7,b,jW,bC]
structure DS where
 bs:List Int
 last:Int
 out:List aV
def gG(z:DS):Option DS:=
 match z.bs with
 |[]=>none
 |h::t=>if h=0 then none else if (iN z.last h t).2.1=true then some ⟨(iN z.last h t).2.2,if (iN z.last h t).1.s=-1 then z.last else (iN z.last h t).1.s,z.out++[(iN z.last h t).1]⟩ else none
def dK(s:L Int):Nat->DS
 |0=>⟨s,0,[]⟩
 |k+1=>(gG (dK s k)).getD (dK s k)
noncomputable def Cd(s:L Int):Nat:=ix (fun k=>gG (dK s k)=none) (s.length+1)
def Bh(bs:L Int):Int:=match bs with
 |[]=>3
 |h::t=>if h=0/\t=[] then 0 else 3
def pY(z:DS):L aV×Int:=if Bh z.bs≠0 then ([],3) else if (mS z.out).2≠0 then ([],(mS z.out).2) else (z.out,0)
noncomputable def nK(s:L Int):L aV×Int:=if (s.length:Int) > 400 then ([],8) else pY (dK s (Cd s))
theorem aGO(a h:Int)(t:L Int):(iN a h t).2.2.length<=t.length:=by
 unfold iN;split;split;exact J5 _ _;exact Nat.le_trans (J5 _ _) (J5 _ _);exact aZe _
theorem aC5(a h:Int){t:L Int}(b:aK t):aK (iN a h t).2.2:=by
 unfold iN;split;split;exact rN b _;exact rN (rN b _) _;exact b
theorem aLD(a h:Int){t:L Int}(b:aK t):(iN a h t).1.s=-1\/(iN a h t).1.s=0\/(a-32768<=(iN a h t).1.s/\(iN a h t).1.s<=a+32767):=by
 unfold iN;split;split;exact .inl rfl;have:=Dw (rN b (h % 16).toNat) (h / 16).toNat;exact .inr (.inr ⟨by simp only;omega,by simp only;omega⟩);exact .inr (.inl rfl)
theorem Tp(s:L Int)(g:aK s):∀k,(∀j,j<k->¬ gG (dK s j)=none)->(dK s k).bs.length+k<=s.length/\(dK s k).out.length=k/\(-40000*(k:Int)<=(dK s k).last/\(dK s k).last<=40000*k)/\aK (dK s k).bs:=by
 intro k
 induction k with
 |zero=>intro _;exact⟨by simp[dK],rfl,by simp[dK],g⟩
 |succ k i=>
  intro h;obtain⟨b,d,h3,h4⟩:=i (fun j o=>h j (by omega))
  have h5:=h k (by omega);simp only[dK];generalize dK s k=z at b d h3 h4 h5 ⊢;obtain⟨bs,a,m⟩:=z;simp only at b d h3 h4 h5;cases bs with
  |nil=>exact absurd rfl h5
  |cons h t=>
   obtain⟨n,e⟩:=jL h4;have p:=aGO a h t;have l:=aC5 a h e;have q:=aLD a h e;simp only[gG] at h5 ⊢;split;rename_i c;rw[if_pos c] at h5;exact absurd rfl h5;rename_i c;rw[if_neg c] at h5;split;simp only[aZW,aZb,aZc,aZd] at b ⊢;refine⟨by omega,by omega,?_,l⟩;split<;>omega;rename_i f;rw[if_neg f] at h5;exact absurd rfl h5
theorem M8(s:L Int)(b:aK s):Cd s<=s.length/\gG (dK s (Cd s))=none/\∀j,j<Cd s->¬ gG (dK s j)=none:=by
 obtain⟨c,a,h3⟩:=bE (fun k=>gG (dK s k)=none) (s.length+1)
 have h4:=(Tp s b (Cd s) h3).1;refine⟨by omega,?_,h3⟩;rcases a with a|a
 exact absurd h4 (by unfold Cd;omega);exact a.2
theorem Tq(h:Int)(t:L Int):(dB (h::t)=dB [])=False:=by
 apply eq_false;intro e;have:=congrArg ByteArray.size e;simp[aC] at this
attribute [go_sem] Tq
theorem aGP(s:L Int)(p:aK s):EV G (Tb B) 234 [sv s] []=some (.tup [.one (.dc (.slc ((nK s).1.map aV.e))),.one (.dc (ci (nK s).2))],[]):=by
 refine aB rfl ?_;unfold nK;by_cases v:(s.length:Int) > 400;rw[if_pos v];simp (disch:=first|omega|(simp only[aZb,aZc,aZd,aZa,aA];omega)) only[go_sem,h234c,aZm]
 rw[if_neg v];simp (disch:=first|omega|(simp only[aZb,aZc,aZd,aZa,aA];omega)) only[go_sem,h234c]
 rw[dN (fun k=>⟨(jk 1 (.one (.ptr 0 0)::jk 2 (.one (.bld 1 (dK s k).out.length)::vi (dK s k).last::jk 39 []))),[bS (dK s k).bs,.arr 0 2 ((dK s k).out.map aV.e)]⟩) (fun k=>gG (dK s k)=none) (s.length+1) ?_ ?_]
 obtain⟨E,d,y⟩:=M8 s p;obtain⟨m,n,o,i⟩:=Tp s p _ y;rw[show ix (fun k=>gG (dK s k)=none) (s.length+1)=Cd s from rfl]
 generalize dK s (Cd s)=z at *;obtain⟨bs,a,b⟩:=z;simp only at d m n o i ⊢;cases bs with
 |nil=>
  rw[show pY ⟨[],a,b⟩=([],3) from rfl]
  simp (disch:=first|omega|(simp only[aZb,aZc,aZd,aZa,aA];omega)) only[go_sem,h234l0,aG,aZm]
 |cons h t=>
  obtain⟨A,C⟩:=jL i;by_cases c:h=0;subst c
  match t with
  |[]=>
   have q:=Mz b;by_cases g:(mS b).2=0;rw[g] at q;rw[show pY ⟨[0],a,b⟩=(b,0) by simp[pY,Bh,g]];simp (disch:=first|omega|(simp only[aZb,aZc,aZd,aZa,aA];omega)) only[go_sem,h234l0,aG,Hn,q,kC]
   rw[show pY ⟨[0],a,b⟩=([],(mS b).2) by simp[pY,Bh,g]];simp (disch:=first|omega|(simp only[aZb,aZc,aZd,aZa,aA];omega)) only[go_sem,h234l0,aG,Hn,q,g,kC,aZm]
  |x::t=>
   rw[show pY ⟨0::x::t,a,b⟩=([],3) by simp[pY,Bh]];simp (disch:=first|omega|(simp only[aZb,aZc,aZd,aZa,aA];omega)) only[go_sem,h234l0,aG,aZm]
  have f:=aNH (G:=G) (B:=B) a h t i (by omega);simp only[gG,if_neg c] at d;rw[show pY ⟨h::t,a,b⟩=([],3) by simp[pY,Bh,c]];generalize iN a h t=r at f d;obtain⟨r,u,l⟩:=r;cases u;simp only at f;simp (disch:=first|omega|(simp only[aZb,aZc,aZd,aZa,aA];omega)) only[go_sem,h234l0,aG,aZm,f,c,bC]
  simp at d
 rfl;intro k H w;obtain⟨m,n,o,i⟩:=Tp s p k (fun j F=>w j (by omega))
 have d:=w k (aZe _);rw[show dK s (k+1)=(gG (dK s k)).getD (dK s k) from rfl]
 generalize dK s k=z at *;obtain⟨bs,a,b⟩:=z;simp only at d m n o i ⊢;cases bs with
 |nil=>exact absurd rfl d
 |cons h t=>
  obtain⟨A,C⟩:=jL i;by_cases c:h=0;simp[gG,c] at d;have f:=aNH (G:=G) (B:=B) a h t i (by omega);simp only[gG,if_neg c] at d ⊢;generalize iN a h t=r at f d;obtain⟨⟨D,rn⟩,u,l⟩:=r;cases u;simp at d;simp only at f;by_cases g:D=-1;simp (disch:=first|omega|(simp only[aZb,aZc,aZd,aZa,aA];omega)) only[go_sem,h234l0,aG,f,c,g,bC,jX,aZW,Do,aZb]
  simp (disch:=first|omega|(simp only[aZb,aZc,aZd,aZa,aA];omega)) only[go_sem,h234l0,aG,f,c,g,bC,jX,aZW,Do,aZb]
