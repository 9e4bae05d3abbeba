/- Part. Conditions: none. -/
import Derived.Test.YtalhnjjchkmfeaaGreatDoorUg
import Derived.Test.YtalhnjjchkmfeaaGreatDoorVi
namespace Go.Proofs.YtalhnjjchkmfeaaGreatDoor
set_option maxHeartbeats 4000000
set_option linter.unusedSimpArgs false
set_option linter.unusedVariables false
set_option maxRecDepth 4000
section
variable {G:aF}{bb:Bool}
theorem aAS(b:Bool):EV G (Tb (bs bb)) 181 [vb b] []=some (vi (if b=true then 1 else 0),[]):=by
 refine aB rfl ?_;cases b;all_goals simp (disch:=omega) only[go_sem,h181c]
 all_goals rfl
theorem mB(n:Nat)(h:n<=1000000000):EV G (Tb (bs bb)) 124 [vi n,vi 8] []=some (vi (((n+7) / 8:Nat):Int),[]):=by
 have:=aQE (G:=G) (bb:=bb) n 8 (by omega) (by omega) (by omega);rwa[show -(-(n:Int) / 8)=(((n+7) / 8:Nat):Int) by omega] at this
theorem H4(n:Int)(a:0<=n/\n<=9223372036854775807):EV G (Tb (bs bb)) 13 [vi n,vi 1] []=some (sv (bJ n 1),[]):=kR n 1 a (by omega)
theorem mC(n:Int)(a:0<=n/\n<=9223372036854775807):EV G (Tb (bs bb)) 13 [vi n,vi 2] []=some (sv (bJ n 2),[]):=kR n 2 a (by omega)
theorem qJ(n:Int)(a:0<=n/\n<=9223372036854775807):EV G (Tb (bs bb)) 13 [vi n,vi 4] []=some (sv (bJ n 4),[]):=kR n 4 a (by omega)
def Aa(l:L Int):L Int:=l++List.replicate ((l.length+7) / 8*8-l.length) 0
theorem mD(k:Nat)(h:k<=100000):EV G (Tb (bs bb)) 30 [vi k] []=some (sv (List.replicate k 0),[]):=by
 have:=H0 (G:=G) (B:=bs bb) k (by omega);rwa[bAc] at this
theorem D4(l:L Int)(h:l.length<=10000):EV G (Tb (bs bb)) 182 [sv l] []=some (sv (Aa l),[]):=by
 refine aB rfl ?_;have a:=mB (G:=G) (bb:=bb) l.length (by omega);have b:=mD (G:=G) (bb:=bb) ((l.length+7) / 8*8-l.length) (by omega);have e:(8:Int)*(((l.length+7) / 8:Nat):Int)-(l.length:Int)=(((l.length+7) / 8*8-l.length:Nat):Int):=by omega
 simp (disch:=first|omega|(simp only[aZA,aZB,aZC,aZz,aA,aZH]<;>omega)) only[go_sem,h182c,a,e,b,aZH,Aa]
def Bo(a:aI):L Int:=bJ (if a.res=true then 0 else 1) 1++bJ a.nm.length 1++bJ (sU a) 2++bJ a.fl 2++bJ a.id 2
def L6(a:aI):L Int:=if a.res=true then Bo a++bJ a.va.length 4++bJ (cZ a) 4
 else Bo a++bJ a.fi 4++bJ ((a.fi+gP a.rs-1) % 4294967296) 4++bJ (cZ a) 2++List.replicate 2 0++bJ a.al 4++bJ a.sz 4++bJ a.vd 4
def T2(a:aI):L Int:=if a.res=true then a.va else (jI a.rs).1++[0]
def Ab(a:aI):L Int:=Aa (L6 a++a.nm++List.replicate (cZ a-sU a-a.nm.length) 0++T2 a)
def gQ(a:aI):L Int:=bJ a.ty 4++bJ (eY a) 4++Ab a
structure aI.Ok (a:aI):Prop where
 w:a.W
 ty:a.ty∈Nj
 nm:P3 a.nm=true
 rg:(0<=a.id/\a.id<=65535)/\(0<=a.fl/\a.fl<=7)
 e:tW a=0
theorem P8{a:aI}(h:a.Ok):T2 a=qU a:=by
 unfold T2 qU;by_cases b:a.res=true;rw[if_pos b,if_pos b];rw[if_neg b,if_neg b];have h4:=h.e;unfold tW at h4;rw[if_neg b] at h4;obtain⟨_,_,_,c,_⟩:=Fh h4;unfold Cj;rw[if_neg (by rw[Ng];simpa using c)]
theorem sV(a:aI):(L6 a).length+8=sU a:=by
 unfold L6 Bo sU;split<;>simp only[aZA,aA,aZH]
theorem aQF(a:aI)(h:a.Ok)(b:a.res=true):EV G (Tb (bs bb)) 126 [a.v] []=some (sv (gQ a),[]):=by
 refine aB rfl ?_;obtain⟨t,u,x,y,z,C,D,E,F,i,j,k,l⟩:=aI.bd h.w h.ty h.nm h.rg h.e;have H:=P6 h.ty;have I:=H3 h.nm;obtain⟨J,K⟩:=h.rg;have h4:=h.e;unfold tW at h4;rw[if_pos b] at h4;obtain⟨S,T,U,V,W,X⟩:=P7 h4;have c:sU a=24:=by simp[sU,b]
 have M:24+a.nm.length<=cZ a/\cZ a<=2000:=by simp only[cZ,c];omega
 have f:=mB (G:=G) (bb:=bb) (24+a.nm.length) (by omega);have o:(8:Int)*(((24+a.nm.length+7) / 8:Nat):Int)=((cZ a:Nat):Int):=by simp only[cZ,c];omega
 rw[bAu,show ((24:Nat):Int)=24 from rfl] at f
 have O:eY a<=4000/\8<=eY a/\eY a % 8=0:=by
  have:qU a=a.va:=by simp[qU,b]
  simp only[eY,this];omega
 have P:(Ab a).length=eY a-8:=by
  have L:=sV a;rw[Ab,Aa,P8 h];simp only[aZA,aZH];simp only[eY];have:cZ a % 8=0:=by unfold cZ;omega
  omega
 have s:=mD (G:=G) (bb:=bb) (cZ a-24-a.nm.length) (by omega);have m:((cZ a:Nat):Int)-24-(a.nm.length:Int)=((cZ a-24-a.nm.length:Nat):Int):=by omega
 have q:L6 a=Bo a++bJ a.va.length 4++bJ (cZ a) 4:=by rw[L6,if_pos b]
 have Q:(Bo a).length=8:=by simp only[Bo,aZA,aA]
 have r:Ab a=Aa (Bo a++bJ a.va.length 4++bJ (cZ a) 4++a.nm++List.replicate (cZ a-24-a.nm.length) 0++a.va):=by rw[Ab,q,c,T2,if_pos b]
 have p:Bo a=bJ 0 1++bJ a.nm.length 1++bJ 24 2++bJ a.fl 2++bJ a.id 2:=by rw[Bo,if_pos b,c];rfl
 have d:=D4 (G:=G) (bb:=bb) (Bo a++bJ a.va.length 4++bJ (cZ a) 4++a.nm++List.replicate (cZ a-24-a.nm.length) 0++a.va) (by simp only[aZA,aA,aZH];omega);rw[<- r] at d;have g:=mB (G:=G) (bb:=bb) ((Ab a).length+8) (by omega);rw[bAu,show ((8:Nat):Int)=8 from rfl] at g
 have n:(8:Int)*((((Ab a).length+8+7) / 8:Nat):Int)=((eY a:Nat):Int):=by omega
 rw[p] at d;unfold gQ;generalize Ab a=R at *;generalize cZ a=A at *;generalize eY a=N at *;simp (disch:=first|omega|(simp only[aZA,aZB,aZC,aZz,aA,aZH]<;>omega)) only[go_sem,h126c,b,aG,aAS,f,o,H4,mC,qJ,s,m,d,g,n,bAy,aZH]
theorem T4:EV G (Tb (bs bb)) 30 [vi 2] []=some (sv [0,0],[]):=H0 2 (by omega)
theorem Kb{l:L aX}(h:(mU l).2=0):(jI l).1.length<=320:=by
 obtain⟨b,c,d⟩:=A5 l (fun r a=>(Hz h r a).1) l.length (aZE _)
 rw[Dz] at b;have:=oH h;omega
theorem aQG(a:aI)(h:a.Ok)(d:a.res=false):EV G (Tb (bs bb)) 126 [a.v] []=some (sv (gQ a),[]):=by
 refine aB rfl ?_;obtain⟨F,H,I,J,K,L,M,O,P,l,m,n,o⟩:=aI.bd h.w h.ty h.nm h.rg h.e;have b:¬ a.res=true:=by rw[d];decide
 have U:=P6 h.ty;have V:=H3 h.nm;obtain⟨W,X⟩:=h.rg;have h4:=h.e;unfold tW at h4;rw[if_neg b] at h4;obtain⟨r1,r2,r3,g,r5,r6,r7,r8,r9⟩:=Fh h4;obtain⟨Q,S,T⟩:=Ka g;have c:sU a=40:=by simp[sU,d]
 have s:=P8 h;have i:T2 a=(jI a.rs).1++[0]:=by rw[T2,if_neg b]
 have hl:=Kb g;have y:(qU a).length=(jI a.rs).1.length+1:=by rw[<- s,i];simp
 have Z:40+a.nm.length<=cZ a/\cZ a<=2000:=by simp only[cZ,c];omega
 have j:=mB (G:=G) (bb:=bb) (40+a.nm.length) (by omega);have r:(8:Int)*(((40+a.nm.length+7) / 8:Nat):Int)=((cZ a:Nat):Int):=by simp only[cZ,c];omega
 rw[bAu,show ((40:Nat):Int)=40 from rfl] at j
 have hs:eY a<=4000/\8<=eY a/\eY a % 8=0:=by
  simp only[eY];omega
 have hz:(Ab a).length=eY a-8:=by
  have Y:=sV a;rw[Ab,Aa,P8 h];simp only[aZA,aZH];simp only[eY];have:cZ a % 8=0:=by unfold cZ;omega
  omega
 have z:=mD (G:=G) (bb:=bb) (cZ a-40-a.nm.length) (by omega);have p:((cZ a:Nat):Int)-40-(a.nm.length:Int)=((cZ a-40-a.nm.length:Nat):Int):=by omega
 have C:=Ni (G:=G) (B:=bs bb) a.rs g;have D:=rM (G:=G) (B:=bs bb) a.rs (by omega);have E:=Gm (G:=G) (B:=bs bb) (a.fi+gP a.rs-1) 4294967296 (by omega);have l1:(Bo a).length=8:=by simp only[Bo,aZA,aA]
 have t:Bo a=bJ 1 1++bJ a.nm.length 1++bJ 40 2++bJ a.fl 2++bJ a.id 2:=by rw[Bo,if_neg b,c];rfl
 have u:L6 a=Bo a++bJ a.fi 4++bJ ((a.fi+gP a.rs-1) % 4294967296) 4++bJ (cZ a) 2++[0,0]++bJ a.al 4++bJ a.sz 4++bJ a.vd 4:=by rw[L6,if_neg b];rfl
 have l2:=sV a;have x:Ab a=Aa (L6 a++a.nm++List.replicate (cZ a-40-a.nm.length) 0++((jI a.rs).1++[0])):=by rw[Ab,c,i]
 have f:=D4 (G:=G) (bb:=bb) (L6 a++a.nm++List.replicate (cZ a-40-a.nm.length) 0++((jI a.rs).1++[0])) (by simp only[aZA,aZH,bBe];omega);rw[<- x] at f;have k:=mB (G:=G) (bb:=bb) ((Ab a).length+8) (by omega);rw[bAu,show ((8:Nat):Int)=8 from rfl] at k
 have q:(8:Int)*((((Ab a).length+8+7) / 8:Nat):Int)=((eY a:Nat):Int):=by omega
 rw[u,t] at f;unfold gQ;generalize Ab a=R at *;generalize cZ a=A at *;generalize eY a=N at *;have hm:0<=(a.fi+gP a.rs-1) % 4294967296/\(a.fi+gP a.rs-1) % 4294967296<=4294967296:=by omega
 simp (disch:=first|omega|(simp only[aZA,aZB,aZC,aZz,aA,aZH]<;>omega)) only[go_sem,h126c,d,aG,aAS,j,r,H4,mC,qJ,T4,z,p,f,k,q,C,D,E,bAy,aZH]
theorem T6(a:aI)(h:a.Ok):EV G (Tb (bs bb)) 126 [a.v] []=some (sv (gQ a),[]):=by
 cases b:a.res with
 |true=>exact aQF a h b
 |false=>exact aQG a h b
theorem aL3(a:aI)(h:a.Ok):(gQ a).length=eY a:=by
 have c:=sV a;have b:=P8 h;have h3:cZ a % 8=0/\sU a+a.nm.length<=cZ a:=by unfold cZ;omega
 rw[gQ,Ab,Aa,b];simp only[aZA,aZH,aA];simp only[eY];omega
theorem X6(a:aI)(m:a.W):EV G (Tb (bs bb)) 127 [a.v] []=some (vi (gI a),[]):=by
 refine aB rfl ?_;have e:=aDg (G:=G) (bb:=bb) a.ty;have g:=aG1 (G:=G) (bb:=bb) a.nm m.nm (by have:=m.nl;omega);have k:=aDi (G:=G) (bb:=bb) a m;have n:=aDh (G:=G) (bb:=bb) a;unfold gI;by_cases l:a.ty∈Nj;rw[if_neg (fun h=>h l)]
 rw[decide_eq_true l] at e;cases o:P3 a.nm with
 |false=>
  rw[o] at g;rw[if_pos rfl];simp (disch:=omega) only[go_sem,h127c,e,g]
 |true=>
  rw[o] at g;rw[if_neg (by decide)];by_cases d:0<=a.id/\a.id<=65535;by_cases f:0<=a.fl/\a.fl<=7;rw[if_neg (fun h=>h ⟨d,f⟩)]
  have q5 (h:tW a=0):=T6 (G:=G) (bb:=bb) a ⟨m,l,o,⟨d,f⟩,h⟩;have q6 (h:tW a=0):=aL3 a ⟨m,l,o,⟨d,f⟩,h⟩;have p:((eY a:Int) > 440)=(eY a > 440):=by apply propext;omega
  cases i:a.res with
  |true=>
   simp only[tW,i,if_true] at q5 q6 ⊢;simp only[aI.v,aI.c,i] at k n q5;by_cases b:L5 a=0;rw[if_neg (fun h=>h b)]
   by_cases j:eY a > 440;rw[if_pos j];simp (disch:=omega) only[go_sem,h127c,e,g,bM,eq_true d,eq_true f,k,i,n,b,q5 b,q6 b,p,eq_true j];rw[if_neg j];simp (disch:=omega) only[go_sem,h127c,e,g,bM,eq_true d,eq_true f,k,i,n,b,q5 b,q6 b,p,j];rw[if_pos b];simp (disch:=omega) only[go_sem,h127c,e,g,bM,eq_true d,eq_true f,k,i,n,b]
  |false=>
   simp only[tW,i,if_false,bAU] at q5 q6 ⊢;simp only[aI.v,aI.c,i] at k n q5;by_cases b:J8 a=0;rw[if_neg (fun h=>h b)]
   by_cases j:eY a > 440;rw[if_pos j];simp (disch:=omega) only[go_sem,h127c,e,g,bM,eq_true d,eq_true f,k,i,b,q5 b,q6 b,p,eq_true j];rw[if_neg j];simp (disch:=omega) only[go_sem,h127c,e,g,bM,eq_true d,eq_true f,k,i,b,q5 b,q6 b,p,j];rw[if_pos b];simp (disch:=omega) only[go_sem,h127c,e,g,bM,eq_true d,eq_true f,k,i,b]
  rw[if_pos (fun h=>f h.2)]
  simp (disch:=omega) only[go_sem,h127c,e,g,bM,eq_true d,f];rw[if_pos (fun h=>d h.1)]
  simp (disch:=omega) only[go_sem,h127c,e,g,bM,d]
 rw[if_pos l];rw[decide_eq_false l] at e;simp (disch:=omega) only[go_sem,h127c,e]
end
section
variable {G:aF}{B:aO}
def tb3(a b c:Int):Nat->Int
 |0=>a
 |1=>b
 |_=>c
theorem aAT(a b c:Int):tb3 a b c 0=a:=rfl
theorem D5(a b c:Int):tb3 a b c 1=b:=rfl
theorem T7(a b c:Int):tb3 a b c 2=c:=rfl
abbrev bS(l:L Int):aD:=.box [.dc (.raw (.string (dI l)))]
def nU:L Int->Int
 |[x]=>if 128<=x then x-256 else x
 |[x,y]=>if 32768<=y*256+x then y*256+x-65536 else y*256+x
 |_=>0
def dE(bs:L Int)(a:Nat):Int×Bool×L Int:=if bs.length<a then (0,false,bs) else (nU (bs.take a),decide (sz (nU (bs.take a))=a),bs.drop a)
def iT(a h:Int)(t:L Int):aX×Bool×L Int:=
 if (1<=h % 16/\h % 16<=2)/\h / 16<=2 then
  if (dE t (h % 16).toNat).2.1=false\/h / 16=0 then (⟨-1,(dE t (h % 16).toNat).1⟩,(dE t (h % 16).toNat).2.1,(dE t (h % 16).toNat).2.2)
  else (⟨a+(dE (dE t (h % 16).toNat).2.2 (h / 16).toNat).1,(dE t (h % 16).toNat).1⟩,(dE (dE t (h % 16).toNat).2.2 (h / 16).toNat).2.1&&!decide (a+(dE (dE t (h % 16).toNat).2.2 (h / 16).toNat).1=-1),(dE (dE t (h % 16).toNat).2.2 (h / 16).toNat).2.2)
 else (⟨0,0⟩,false,t)
theorem aG6(n b:Int)(e:0<=n/\n<=255)(d:0<=b/\b<=255):Xu .i64 (n*256) b=n*256+b:=by
 obtain⟨n,rfl⟩:=bAI e.1;obtain⟨b,rfl⟩:=bAI d.1;have a:((n:Int)*256)=((n*256:Nat):Int):=by simp
 have c:n*256 ||| b=n*256+b:=by
  have:=Nat.shiftLeft_add_eq_or_of_lt (show b<2 ^ 8 by omega) n;rw[Nat.shiftLeft_eq] at this;exact this.symm
 rw[Xu,a,J1,BitVec.ofInt_natCast,BitVec.ofInt_natCast,BitVec.toNat_or,BitVec.toNat_ofNat,BitVec.toNat_ofNat,bAz (by omega),bAz (by omega),c,Bz (by omega)];simp
theorem aN9(h:Int)(b:0<=h/\h<=255):Xt .i64 h 15=h % 16:=by
 obtain⟨n,rfl⟩:=bAI b.1;have a:n &&& 15=n % 16:=Nat.and_two_pow_sub_one_eq_mod n 4;have h3:(15:Int)=((15:Nat):Int):=rfl;rw[Xt,h3,J1,BitVec.ofInt_natCast,BitVec.ofInt_natCast,BitVec.toNat_and,BitVec.toNat_ofNat,BitVec.toNat_ofNat,bAz (by omega),bAz (by omega),a,Bz (by omega)];simp
theorem Fi(n:Int):n.fdiv 16=n / 16:=Int.fdiv_eq_ediv_of_nonneg _ (by decide)
theorem jN{x:Int}{l:L Int}(h:aJ (x::l)):(0<=x/\x<=255)/\aJ l:=⟨h x aZT,fun b a=>h b (aZ3 _ a)⟩
theorem aDj(bs:L Int)(a:aJ bs):EV G (Tb B) 288 [.one (.ptr 0 0),vi 1] [bS bs]=some (.tup [.one (.dc (ci (dE bs 1).1)),.one (bC (dE bs 1).2.1)],[bS (dE bs 1).2.2]):=by
 refine aB rfl ?_
 match bs,a with
 |[],a=>
  simp (disch:=first|omega|(simp only[aZA,aZB,aZC,aZz,aA];omega)) only[go_sem,h288c,dE,aC]
  rfl
 |x::t,a=>
  obtain⟨g,_⟩:=jN a;have e:=aG6 0 x (by omega) g;rw[Int.zero_mul,bAf] at e;simp (disch:=first|omega|(simp only[aZA,aZB,aZC,aZz,aA];omega)) only[go_sem,h288c,Int.reduceSub]
  rw[aT (fun k=>⟨(.one (.ptr 0 0)::vi 1::jk 4 (vi (tb3 0 x x k)::vi (tb3 0 (-1) (-1) k)::jk 44 [])),[bS (x::t)]⟩) 1 ?_ ?_]
  have f:dE (x::t) 1=(nU [x],decide (sz (nU [x])=1),t):=by rw[dE,if_neg (by simp)];rfl
  rw[f];simp only[nU];by_cases c:128<=x;have d:=rN (G:=G) (B:=B) (x-256) (by omega);simp (disch:=first|omega|(simp only[aZA,aZB,aZC,aZz,aA];omega)) only[go_sem,h288l0,D5,Int.reduceMul,Int.reduceSub,Int.reduceToNat,Int.reducePow,Nat.reducePow,Int.reduceNeg,c,d,bC]
  have d:=rN (G:=G) (B:=B) x (by omega);simp (disch:=first|omega|(simp only[aZA,aZB,aZC,aZz,aA];omega)) only[go_sem,h288l0,D5,Int.reduceMul,Int.reduceSub,Int.reduceToNat,Int.reducePow,Nat.reducePow,Int.reduceNeg,c,d,bC]
  rfl;intro k h;have b:k=0:=by omega
  subst b;simp (disch:=first|omega|(simp only[aZA,aZB,aZC,aZz,aA];omega)) only[go_sem,h288l0,aAT,D5,Int.reduceMul,Int.reduceSub,Int.reduceToNat,Int.reducePow,Nat.reducePow,Int.reduceNeg,e,Int.zero_mul]
theorem aDk(bs:L Int)(a:aJ bs):EV G (Tb B) 288 [.one (.ptr 0 0),vi 2] [bS bs]=some (.tup [.one (.dc (ci (dE bs 2).1)),.one (bC (dE bs 2).2.1)],[bS (dE bs 2).2.2]):=by
 refine aB rfl ?_
 match bs,a with
 |[],a=>
  simp (disch:=first|omega|(simp only[aZA,aZB,aZC,aZz,aA];omega)) only[go_sem,h288c,dE,aC]
  rfl
 |[x],a=>
  simp (disch:=first|omega|(simp only[aZA,aZB,aZC,aZz,aA];omega)) only[go_sem,h288c,dE,aC]
  rfl
 |x::y::t,a=>
  obtain⟨h,b⟩:=jN a;obtain⟨e,_⟩:=jN b;have f:=aG6 0 y (by omega) e;have i:=aG6 y x e h;rw[Int.zero_mul,bAf] at f;simp (disch:=first|omega|(simp only[aZA,aZB,aZC,aZz,aA];omega)) only[go_sem,h288c,Int.reduceSub]
  rw[aT (fun k=>⟨(.one (.ptr 0 0)::vi 2::jk 4 (vi (tb3 0 y (y*256+x) k)::vi (tb3 1 0 (-1) k)::jk 44 [])),[bS (x::y::t)]⟩) 2 ?_ ?_]
  have g:dE (x::y::t) 2=(nU [x,y],decide (sz (nU [x,y])=2),t):=by rw[dE,if_neg (by simp)];rfl
  rw[g];simp only[nU];by_cases c:32768<=y*256+x;have d:=rN (G:=G) (B:=B) (y*256+x-65536) (by omega);simp (disch:=first|omega|(simp only[aZA,aZB,aZC,aZz,aA];omega)) only[go_sem,h288l0,T7,Int.reduceMul,Int.reduceSub,Int.reduceToNat,Int.reducePow,Nat.reducePow,Int.reduceNeg,c,d,bC]
  have d:=rN (G:=G) (B:=B) (y*256+x) (by omega);simp (disch:=first|omega|(simp only[aZA,aZB,aZC,aZz,aA];omega)) only[go_sem,h288l0,T7,Int.reduceMul,Int.reduceSub,Int.reduceToNat,Int.reducePow,Nat.reducePow,Int.reduceNeg,c,d,bC]
  rfl;intro k j;rcases (show k=0\/k=1 by omega) with rfl|rfl
  simp (disch:=first|omega|(simp only[aZA,aZB,aZC,aZz,aA];omega)) only[go_sem,h288l0,aAT,D5,Int.reduceMul,Int.reduceSub,Int.reduceToNat,Int.reducePow,Nat.reducePow,Int.reduceNeg,f,Int.zero_mul]
  simp (disch:=first|omega|(simp only[aZA,aZB,aZC,aZz,aA];omega)) only[go_sem,h288l0,D5,T7,Int.reduceMul,Int.reduceSub,Int.reduceToNat,Int.reducePow,Nat.reducePow,Int.reduceNeg,i,Int.zero_mul]
theorem T8(bs:L Int)(b:aJ bs)(a:Int)(c:1<=a/\a<=2):EV G (Tb B) 288 [.one (.ptr 0 0),vi a] [bS bs]=some (.tup [.one (.dc (ci (dE bs a.toNat).1)),.one (bC (dE bs a.toNat).2.1)],[bS (dE bs a.toNat).2.2]):=by
 rcases (show a=1\/a=2 by omega) with rfl|rfl
 exact aDj bs b;exact aDk bs b
theorem D6{l m:L Int}(h:aJ l)(c:∀x∈m,x∈l):aJ m:=fun b a=>h b (c b a)
theorem rQ{bs:L Int}(h:aJ bs)(a:Nat):aJ (dE bs a).2.2:=by
 unfold dE;split;exact h;exact D6 h (fun x b=>bAa b)
theorem D7{bs:L Int}(h:aJ bs)(a:Nat):-32768<=(dE bs a).1/\(dE bs a).1<=32767:=by
 unfold dE;split;simp;have b:aJ (bs.take a):=D6 h (fun x c=>aZZ c)
 simp only;generalize bs.take a=m at b
 match m,b with
 |[],_=>simp[nU]
 |[x],b=>have:=b x (by simp);simp only[nU];split<;>omega
 |[x,y],b=>have:=b x (by simp);have:=b y (by simp);simp only[nU];split<;>omega
 |x::y::z::w,_=>simp[nU]
theorem Kc(bs:L Int)(a:Nat):(dE bs a).2.2.length<=bs.length:=by
 unfold dE;split;exact aZE _;simp
theorem aOa(a h:Int)(t:L Int)(r:aJ (h::t))(v:-1000000000<=a/\a<=1000000000):EV G (Tb B) 273 [.one (.ptr 0 0),vi a] [bS (h::t)]= some (.tup [.agg [.dc (ci (iT a h t).1.s),.dc (ci (iT a h t).1.n)],.one (bC (iT a h t).2.1)],[bS (iT a h t).2.2]):=by
 refine aB rfl ?_;obtain⟨u,c⟩:=jN r;have f:=aN9 h u;unfold iT;by_cases b:1<=h % 16/\h % 16<=2;by_cases d:h / 16<=2;rw[if_pos ⟨b,d⟩];have i:=T8 (G:=G) (B:=B) t c (h % 16) b;have m:=D7 c (h % 16).toNat;have j:=rQ c (h % 16).toNat;generalize dE t (h % 16).toNat=p at i m j ⊢;obtain⟨w,g,t1⟩:=p;simp only at i m j ⊢;by_cases e:h / 16=0
 ·rw[if_pos (Or.inr e)];cases g;all_goals simp (disch:=first|omega|(simp only[aZA,aZB,aZC,aZz,aA];omega)) only[go_sem,h273c,Int.reduceToNat,Int.reducePow,f,Fi,b,d,e,jX,i,bC]
 cases g;rw[if_pos (Or.inl rfl)];simp (disch:=first|omega|(simp only[aZA,aZB,aZC,aZz,aA];omega)) only[go_sem,h273c,Int.reduceToNat,Int.reducePow,f,Fi,b,d,e,jX,i,bC]
 ·rw[if_neg (by simp[e])];have l:=T8 (G:=G) (B:=B) t1 j (h / 16) (by omega);have o:=D7 j (h / 16).toNat;generalize dE t1 (h / 16).toNat=q at l o ⊢;obtain⟨x,k,y⟩:=q;simp only at l o ⊢;cases k;all_goals simp (disch:=first|omega|(simp only[aZA,aZB,aZC,aZz,aA];omega)) only[go_sem,h273c,Int.reduceToNat,Int.reducePow,f,Fi,b,d,e,jX,i,l,bC,jY]
 rw[if_neg (by omega)];simp (disch:=first|omega|(simp only[aZA,aZB,aZC,aZz,aA];omega)) only[go_sem,h273c,Int.reduceToNat,Int.reducePow,f,Fi,b,d,jX,bC]
 rw[if_neg (by omega)];simp (disch:=first|omega|(simp only[aZA,aZB,aZC,aZz,aA];omega)) only[go_sem,h273c,Int.reduceToNat,Int.reducePow,f,Fi,b,jX,bC]
structure DS where
 bs:List Int
 last:Int
 out:List aX
def gJ(z:DS):Option DS:=
 match z.bs with
 |[]=>none
 |h::t=>if h=0 then none else if (iT z.last h t).2.1=true then some ⟨(iT z.last h t).2.2,if (iT z.last h t).1.s=-1 then z.last else (iT z.last h t).1.s,z.out++[(iT z.last h t).1]⟩ else none
def dK(s:L Int):Nat->DS
 |0=>⟨s,0,[]⟩
 |k+1=>(gJ (dK s k)).getD (dK s k)
noncomputable def Cl(s:L Int):Nat:=ix (fun k=>gJ (dK s k)=none) (s.length+1)
def Bp(bs:L Int):Int:=match bs with
 |[]=>3
 |h::t=>if h=0/\t=[] then 0 else 3
def qD(z:DS):L aX×Int:=if Bp z.bs≠0 then ([],3) else if (mU z.out).2≠0 then ([],(mU z.out).2) else (z.out,0)
noncomputable def nO(s:L Int):L aX×Int:=if (s.length:Int) > 400 then ([],8) else qD (dK s (Cl s))
theorem aG7(a h:Int)(t:L Int):(iT a h t).2.2.length<=t.length:=by
 unfold iT;split;split;exact Kc _ _;exact Nat.le_trans (Kc _ _) (Kc _ _);exact aZE _
theorem aDl(a h:Int){t:L Int}(b:aJ t):aJ (iT a h t).2.2:=by
 unfold iT;split;split;exact rQ b _;exact rQ (rQ b _) _;exact b
theorem aL4(a h:Int){t:L Int}(b:aJ t):(iT a h t).1.s=-1\/(iT a h t).1.s=0\/(a-32768<=(iT a h t).1.s/\(iT a h t).1.s<=a+32767):=by
 unfold iT;split;split;exact .inl rfl;have:=D7 (rQ b (h % 16).toNat) (h / 16).toNat;exact .inr (.inr ⟨by simp only;omega,by simp only;omega⟩);exact .inr (.inl rfl)
theorem T9(s:L Int)(g:aJ s):∀k,(∀j,j<k->¬ gJ (dK s j)=none)->(dK s k).bs.length+k<=s.length/\(dK s k).out.length=k/\(-40000*(k:Int)<=(dK s k).last/\(dK s k).last<=40000*k)/\aJ (dK s k).bs:=by
 intro k
 induction k with
 |zero=>intro _;exact⟨by simp[dK],rfl,by simp[dK],g⟩
 |succ k i=>
  intro h;obtain⟨b,d,h3,h4⟩:=i (fun j o=>h j (by omega))
  have h5:=h k (by omega);simp only[dK];generalize dK s k=z at b d h3 h4 h5 ⊢;obtain⟨bs,a,m⟩:=z;simp only at b d h3 h4 h5;cases bs with
  |nil=>exact absurd rfl h5
  |cons h t=>
   obtain⟨n,e⟩:=jN h4;have p:=aG7 a h t;have l:=aDl a h e;have q:=aL4 a h e;simp only[gJ] at h5 ⊢;split;rename_i c;rw[if_pos c] at h5;exact absurd rfl h5;rename_i c;rw[if_neg c] at h5;split;simp only[bAl,aZA,aZB,aZC] at b ⊢;refine⟨by omega,by omega,?_,l⟩;split<;>omega;rename_i f;rw[if_neg f] at h5;exact absurd rfl h5
theorem Nl(s:L Int)(b:aJ s):Cl s<=s.length/\gJ (dK s (Cl s))=none/\∀j,j<Cl s->¬ gJ (dK s j)=none:=by
 obtain⟨c,a,h3⟩:=bF (fun k=>gJ (dK s k)=none) (s.length+1)
 have h4:=(T9 s b (Cl s) h3).1;refine⟨by omega,?_,h3⟩;rcases a with a|a
 exact absurd h4 (by unfold Cl;omega);exact a.2
theorem Ua(h:Int)(t:L Int):(dI (h::t)=dI [])=False:=by
 apply eq_false;intro e;have:=congrArg ByteArray.size e;simp[aC] at this
attribute [go_sem] Ua
theorem aG8(s:L Int)(p:aJ s):EV G (Tb B) 235 [sv s] []=some (.tup [.one (.dc (.slc ((nO s).1.map aX.e))),.one (.dc (ci (nO s).2))],[]):=by
 refine aB rfl ?_;unfold nO;by_cases v:(s.length:Int) > 400;rw[if_pos v];simp (disch:=first|omega|(simp only[aZA,aZB,aZC,aZz,aA];omega)) only[go_sem,h235c,aZM]
 rw[if_neg v];simp (disch:=first|omega|(simp only[aZA,aZB,aZC,aZz,aA];omega)) only[go_sem,h235c]
 rw[dQ (fun k=>⟨(jk 1 (.one (.ptr 0 0)::jk 2 (.one (.bld 1 (dK s k).out.length)::vi (dK s k).last::jk 39 []))),[bS (dK s k).bs,.arr 0 2 ((dK s k).out.map aX.e)]⟩) (fun k=>gJ (dK s k)=none) (s.length+1) ?_ ?_]
 obtain⟨E,d,y⟩:=Nl s p;obtain⟨m,n,o,i⟩:=T9 s p _ y;rw[show ix (fun k=>gJ (dK s k)=none) (s.length+1)=Cl s from rfl]
 generalize dK s (Cl s)=z at *;obtain⟨bs,a,b⟩:=z;simp only at d m n o i ⊢;cases bs with
 |nil=>
  rw[show qD ⟨[],a,b⟩=([],3) from rfl]
  simp (disch:=first|omega|(simp only[aZA,aZB,aZC,aZz,aA];omega)) only[go_sem,h235l0,aG,aZM]
 |cons h t=>
  obtain⟨A,C⟩:=jN i;by_cases c:h=0;subst c
  match t with
  |[]=>
   have q:=Ng b;by_cases g:(mU b).2=0;rw[g] at q;rw[show qD ⟨[0],a,b⟩=(b,0) by simp[qD,Bp,g]];simp (disch:=first|omega|(simp only[aZA,aZB,aZC,aZz,aA];omega)) only[go_sem,h235l0,aG,Hw,q,kF]
   rw[show qD ⟨[0],a,b⟩=([],(mU b).2) by simp[qD,Bp,g]];simp (disch:=first|omega|(simp only[aZA,aZB,aZC,aZz,aA];omega)) only[go_sem,h235l0,aG,Hw,q,g,kF,aZM]
  |x::t=>
   rw[show qD ⟨0::x::t,a,b⟩=([],3) by simp[qD,Bp]];simp (disch:=first|omega|(simp only[aZA,aZB,aZC,aZz,aA];omega)) only[go_sem,h235l0,aG,aZM]
  have f:=aOa (G:=G) (B:=B) a h t i (by omega);simp only[gJ,if_neg c] at d;rw[show qD ⟨h::t,a,b⟩=([],3) by simp[qD,Bp,c]];generalize iT a h t=r at f d;obtain⟨r,u,l⟩:=r;cases u;simp only at f;simp (disch:=first|omega|(simp only[aZA,aZB,aZC,aZz,aA];omega)) only[go_sem,h235l0,aG,aZM,f,c,bC]
  simp at d
 rfl;intro k H w;obtain⟨m,n,o,i⟩:=T9 s p k (fun j F=>w j (by omega))
 have d:=w k (aZE _);rw[show dK s (k+1)=(gJ (dK s k)).getD (dK s k) from rfl]
 generalize dK s k=z at *;obtain⟨bs,a,b⟩:=z;simp only at d m n o i ⊢;cases bs with
 |nil=>exact absurd rfl d
 |cons h t=>
  obtain⟨A,C⟩:=jN i;by_cases c:h=0;simp[gJ,c] at d;have f:=aOa (G:=G) (B:=B) a h t i (by omega);simp only[gJ,if_neg c] at d ⊢;generalize iT a h t=r at f d;obtain⟨⟨D,rn⟩,u,l⟩:=r;cases u;simp at d;simp only at f;by_cases g:D=-1;simp (disch:=first|omega|(simp only[aZA,aZB,aZC,aZz,aA];omega)) only[go_sem,h235l0,aG,f,c,g,bC,jY,bAl,Dx,aZA]
  simp (disch:=first|omega|(simp only[aZA,aZB,aZC,aZz,aA];omega)) only[go_sem,h235l0,aG,f,c,g,bC,jY,bAl,Dx,aZA]
