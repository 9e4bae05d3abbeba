/- Part. Conditions: none. -/
import Derived.Test.YtalhnjjchkmfeabGreatDoorUg
import Derived.Test.YtalhnjjchkmfeabGreatDoorVi
namespace Go.Proofs.YtalhnjjchkmfeabGreatDoor
set_option maxHeartbeats 4000000
set_option linter.unusedSimpArgs false
set_option linter.unusedVariables false
set_option maxRecDepth 4000
section
variable {G:aE}{bb:Bool}
theorem aAe(b:Bool):EV G (Tb (bs bb)) 126 [vb b] []=some (vi (if b=true then 1 else 0),[]):=by
 refine aA rfl ?_;cases b;all_goals simp (disch:=omega) only[go_sem,h126c]
 all_goals rfl
theorem mG(n:Nat)(h:n<=1000000000):EV G (Tb (bs bb)) 122 [vi n,vi 8] []=some (vi (((n+7) / 8:Nat):Int),[]):=by
 have:=aQc (G:=G) (bb:=bb) n 8 (by omega) (by omega) (by omega);rwa[show -(-(n:Int) / 8)=(((n+7) / 8:Nat):Int) by omega] at this
theorem Hg(n:Int)(a:0<=n/\n<=9223372036854775807):EV G (Tb (bs bb)) 120 [vi n,vi 1] []=some (sv (bJ n 1),[]):=nQ n 1 a (by omega)
theorem mH(n:Int)(a:0<=n/\n<=9223372036854775807):EV G (Tb (bs bb)) 120 [vi n,vi 2] []=some (sv (bJ n 2),[]):=nQ n 2 a (by omega)
theorem qT(n:Int)(a:0<=n/\n<=9223372036854775807):EV G (Tb (bs bb)) 120 [vi n,vi 4] []=some (sv (bJ n 4),[]):=nQ n 4 a (by omega)
def Aa(l:L Int):L Int:=l++List.replicate ((l.length+7) / 8*8-l.length) 0
theorem mI(k:Nat)(h:k<=100000):EV G (Tb (bs bb)) 119 [vi k] []=some (sv (List.replicate k 0),[]):=by
 have:=He (G:=G) (B:=bs bb) k (by omega);rwa[aZy] at this
theorem Dv(l:L Int)(h:l.length<=10000):EV G (Tb (bs bb)) 128 [sv l] []=some (sv (Aa l),[]):=by
 refine aA rfl ?_;have a:=mG (G:=G) (bb:=bb) l.length (by omega);have b:=mI (G:=G) (bb:=bb) ((l.length+7) / 8*8-l.length) (by omega);have e:(8:Int)*(((l.length+7) / 8:Nat):Int)-(l.length:Int)=(((l.length+7) / 8*8-l.length:Nat):Int):=by omega
 simp (disch:=first|omega|(simp only[aZa,aZb,aZc,aY9,aB,aZg]<;>omega)) only[go_sem,h128c,a,e,b,aZg,Aa]
def Bh(a:aK):L Int:=bJ (if a.res=true then 0 else 1) 1++bJ a.nm.length 1++bJ (tH a) 2++bJ a.fl 2++bJ a.id 2
def Lj(a:aK):L Int:=if a.res=true then Bh a++bJ a.va.length 4++bJ (cZ a) 4
 else Bh a++bJ a.fi 4++bJ ((a.fi+gP a.rs-1) % 4294967296) 4++bJ (cZ a) 2++List.replicate 2 0++bJ a.al 4++bJ a.sz 4++bJ a.vd 4
def Ti(a:aK):L Int:=if a.res=true then a.va else (jR a.rs).1++[0]
def Ab(a:aK):L Int:=Aa (Lj a++a.nm++List.replicate (cZ a-tH a-a.nm.length) 0++Ti a)
def gR(a:aK):L Int:=bJ a.ty 4++bJ (fA a) 4++Ab a
structure aK.Ok (a:aK):Prop where
 w:a.W
 ty:a.ty∈Mr
 nm:O9 a.nm=true
 rg:(0<=a.id/\a.id<=65535)/\(0<=a.fl/\a.fl<=7)
 e:uF a=0
theorem Pe{a:aK}(h:a.Ok):Ti a=rG a:=by
 unfold Ti rG;by_cases b:a.res=true;rw[if_pos b,if_pos b];rw[if_neg b,if_neg b];have h4:=h.e;unfold uF at h4;rw[if_neg b] at h4;obtain⟨_,_,_,c,_⟩:=E7 h4;unfold Ca;rw[if_neg (by rw[Mn];simpa using c)]
theorem tJ(a:aK):(Lj a).length+8=tH a:=by
 unfold Lj Bh tH;split<;>simp only[aZa,aB,aZg]
theorem aQd(a:aK)(h:a.Ok)(b:a.res=true):EV G (Tb (bs bb)) 71 [a.v] []=some (sv (gR a),[]):=by
 refine aA rfl ?_;obtain⟨t,u,x,y,z,C,D,E,F,i,j,k,l⟩:=aK.bd h.w h.ty h.nm h.rg h.e;have H:=Pc h.ty;have I:=Hf h.nm;obtain⟨J,K⟩:=h.rg;have h4:=h.e;unfold uF at h4;rw[if_pos b] at h4;obtain⟨S,T,U,V,W,X⟩:=Pd h4;have c:tH a=24:=by simp[tH,b]
 have M:24+a.nm.length<=cZ a/\cZ a<=2000:=by simp only[cZ,c];omega
 have f:=mG (G:=G) (bb:=bb) (24+a.nm.length) (by omega);have o:(8:Int)*(((24+a.nm.length+7) / 8:Nat):Int)=((cZ a:Nat):Int):=by simp only[cZ,c];omega
 rw[aZ3,show ((24:Nat):Int)=24 from rfl] at f
 have O:fA a<=4000/\8<=fA a/\fA a % 8=0:=by
  have:rG a=a.va:=by simp[rG,b]
  simp only[fA,this];omega
 have P:(Ab a).length=fA a-8:=by
  have L:=tJ a;rw[Ab,Aa,Pe h];simp only[aZa,aZg];simp only[fA];have:cZ a % 8=0:=by unfold cZ;omega
  omega
 have s:=mI (G:=G) (bb:=bb) (cZ a-24-a.nm.length) (by omega);have m:((cZ a:Nat):Int)-24-(a.nm.length:Int)=((cZ a-24-a.nm.length:Nat):Int):=by omega
 have q:Lj a=Bh a++bJ a.va.length 4++bJ (cZ a) 4:=by rw[Lj,if_pos b]
 have Q:(Bh a).length=8:=by simp only[Bh,aZa,aB]
 have r:Ab a=Aa (Bh a++bJ a.va.length 4++bJ (cZ a) 4++a.nm++List.replicate (cZ a-24-a.nm.length) 0++a.va):=by rw[Ab,q,c,Ti,if_pos b]
 have p:Bh a=bJ 0 1++bJ a.nm.length 1++bJ 24 2++bJ a.fl 2++bJ a.id 2:=by rw[Bh,if_pos b,c];rfl
 have d:=Dv (G:=G) (bb:=bb) (Bh a++bJ a.va.length 4++bJ (cZ a) 4++a.nm++List.replicate (cZ a-24-a.nm.length) 0++a.va) (by simp only[aZa,aB,aZg];omega);rw[<- r] at d;have g:=mG (G:=G) (bb:=bb) ((Ab a).length+8) (by omega);rw[aZ3,show ((8:Nat):Int)=8 from rfl] at g
 have n:(8:Int)*((((Ab a).length+8+7) / 8:Nat):Int)=((fA a:Nat):Int):=by omega
 rw[p] at d;unfold gR;generalize Ab a=R at *;generalize cZ a=A at *;generalize fA a=N at *;simp (disch:=first|omega|(simp only[aZa,aZb,aZc,aY9,aB,aZg]<;>omega)) only[go_sem,h71c,b,aG,aAe,f,o,Hg,mH,qT,s,m,d,g,n,aZ9,aZg]
theorem Tj:EV G (Tb (bs bb)) 119 [vi 2] []=some (sv [0,0],[]):=He 2 (by omega)
theorem Js{l:L aV}(h:(nC l).2=0):(jR l).1.length<=320:=by
 obtain⟨b,c,d⟩:=A0 l (fun r a=>(Hd h r a).1) l.length (aZe _)
 rw[Ds] at b;have:=oW h;omega
theorem aQe(a:aK)(h:a.Ok)(d:a.res=false):EV G (Tb (bs bb)) 71 [a.v] []=some (sv (gR a),[]):=by
 refine aA rfl ?_;obtain⟨F,H,I,J,K,L,M,O,P,l,m,n,o⟩:=aK.bd h.w h.ty h.nm h.rg h.e;have b:¬ a.res=true:=by rw[d];decide
 have U:=Pc h.ty;have V:=Hf h.nm;obtain⟨W,X⟩:=h.rg;have h4:=h.e;unfold uF at h4;rw[if_neg b] at h4;obtain⟨r1,r2,r3,g,r5,r6,r7,r8,r9⟩:=E7 h4;obtain⟨Q,S,T⟩:=Jr g;have c:tH a=40:=by simp[tH,d]
 have s:=Pe h;have i:Ti a=(jR a.rs).1++[0]:=by rw[Ti,if_neg b]
 have hl:=Js g;have y:(rG a).length=(jR a.rs).1.length+1:=by rw[<- s,i];simp
 have Z:40+a.nm.length<=cZ a/\cZ a<=2000:=by simp only[cZ,c];omega
 have j:=mG (G:=G) (bb:=bb) (40+a.nm.length) (by omega);have r:(8:Int)*(((40+a.nm.length+7) / 8:Nat):Int)=((cZ a:Nat):Int):=by simp only[cZ,c];omega
 rw[aZ3,show ((40:Nat):Int)=40 from rfl] at j
 have hs:fA a<=4000/\8<=fA a/\fA a % 8=0:=by
  simp only[fA];omega
 have hz:(Ab a).length=fA a-8:=by
  have Y:=tJ a;rw[Ab,Aa,Pe h];simp only[aZa,aZg];simp only[fA];have:cZ a % 8=0:=by unfold cZ;omega
  omega
 have z:=mI (G:=G) (bb:=bb) (cZ a-40-a.nm.length) (by omega);have p:((cZ a:Nat):Int)-40-(a.nm.length:Int)=((cZ a-40-a.nm.length:Nat):Int):=by omega
 have C:=Mq (G:=G) (B:=bs bb) a.rs g;have D:=rZ (G:=G) (B:=bs bb) a.rs (by omega);have E:=Mp (G:=G) (B:=bs bb) (a.fi+gP a.rs-1) 4294967296 (by omega);have l1:(Bh a).length=8:=by simp only[Bh,aZa,aB]
 have t:Bh a=bJ 1 1++bJ a.nm.length 1++bJ 40 2++bJ a.fl 2++bJ a.id 2:=by rw[Bh,if_neg b,c];rfl
 have u:Lj a=Bh a++bJ a.fi 4++bJ ((a.fi+gP a.rs-1) % 4294967296) 4++bJ (cZ a) 2++[0,0]++bJ a.al 4++bJ a.sz 4++bJ a.vd 4:=by rw[Lj,if_neg b];rfl
 have l2:=tJ a;have x:Ab a=Aa (Lj a++a.nm++List.replicate (cZ a-40-a.nm.length) 0++((jR a.rs).1++[0])):=by rw[Ab,c,i]
 have f:=Dv (G:=G) (bb:=bb) (Lj a++a.nm++List.replicate (cZ a-40-a.nm.length) 0++((jR a.rs).1++[0])) (by simp only[aZa,aZg,List.length_singleton];omega);rw[<- x] at f;have k:=mG (G:=G) (bb:=bb) ((Ab a).length+8) (by omega);rw[aZ3,show ((8:Nat):Int)=8 from rfl] at k
 have q:(8:Int)*((((Ab a).length+8+7) / 8:Nat):Int)=((fA a:Nat):Int):=by omega
 rw[u,t] at f;unfold gR;generalize Ab a=R at *;generalize cZ a=A at *;generalize fA a=N at *;have hm:0<=(a.fi+gP a.rs-1) % 4294967296/\(a.fi+gP a.rs-1) % 4294967296<=4294967296:=by omega
 simp (disch:=first|omega|(simp only[aZa,aZb,aZc,aY9,aB,aZg]<;>omega)) only[go_sem,h71c,d,aG,aAe,j,r,Hg,mH,qT,Tj,z,p,f,k,q,C,D,E,aZ9,aZg]
theorem Jt(a:aK)(h:a.Ok):EV G (Tb (bs bb)) 71 [a.v] []=some (sv (gR a),[]):=by
 cases b:a.res with
 |true=>exact aQd a h b
 |false=>exact aQe a h b
theorem aLA(a:aK)(h:a.Ok):(gR a).length=fA a:=by
 have c:=tJ a;have b:=Pe h;have h3:cZ a % 8=0/\tH a+a.nm.length<=cZ a:=by unfold cZ;omega
 rw[gR,Ab,Aa,b];simp only[aZa,aZg,aB];simp only[fA];omega
theorem W5(a:aK)(m:a.W):EV G (Tb (bs bb)) 124 [a.v] []=some (vi (iL a),[]):=by
 refine aA rfl ?_;have e:=aCD (G:=G) (bb:=bb) a.ty;have g:=aGn (G:=G) (bb:=bb) a.nm m.nm (by have:=m.nl;omega);have k:=aCF (G:=G) (bb:=bb) a m;have n:=aCE (G:=G) (bb:=bb) a;unfold iL;by_cases l:a.ty∈Mr;rw[if_neg (fun h=>h l)]
 rw[decide_eq_true l] at e;cases o:O9 a.nm with
 |false=>
  rw[o] at g;rw[if_pos rfl];simp (disch:=omega) only[go_sem,h124c,e,g]
 |true=>
  rw[o] at g;rw[if_neg (by decide)];by_cases d:0<=a.id/\a.id<=65535;by_cases f:0<=a.fl/\a.fl<=7;rw[if_neg (fun h=>h ⟨d,f⟩)]
  have q5 (h:uF a=0):=Jt (G:=G) (bb:=bb) a ⟨m,l,o,⟨d,f⟩,h⟩;have q6 (h:uF a=0):=aLA a ⟨m,l,o,⟨d,f⟩,h⟩;have p:((fA a:Int) > 440)=(fA a > 440):=by apply propext;omega
  cases i:a.res with
  |true=>
   simp only[uF,i,if_true] at q5 q6 ⊢;simp only[aK.v,aK.c,i] at k n q5;by_cases b:Li a=0;rw[if_neg (fun h=>h b)]
   by_cases j:fA a > 440;rw[if_pos j];simp (disch:=omega) only[go_sem,h124c,e,g,bQ,eq_true d,eq_true f,k,i,n,b,q5 b,q6 b,p,eq_true j];rw[if_neg j];simp (disch:=omega) only[go_sem,h124c,e,g,bQ,eq_true d,eq_true f,k,i,n,b,q5 b,q6 b,p,j];rw[if_pos b];simp (disch:=omega) only[go_sem,h124c,e,g,bQ,eq_true d,eq_true f,k,i,n,b]
  |false=>
   simp only[uF,i,if_false,bAq] at q5 q6 ⊢;simp only[aK.v,aK.c,i] at k n q5;by_cases b:Jp a=0;rw[if_neg (fun h=>h b)]
   by_cases j:fA a > 440;rw[if_pos j];simp (disch:=omega) only[go_sem,h124c,e,g,bQ,eq_true d,eq_true f,k,i,b,q5 b,q6 b,p,eq_true j];rw[if_neg j];simp (disch:=omega) only[go_sem,h124c,e,g,bQ,eq_true d,eq_true f,k,i,b,q5 b,q6 b,p,j];rw[if_pos b];simp (disch:=omega) only[go_sem,h124c,e,g,bQ,eq_true d,eq_true f,k,i,b]
  rw[if_pos (fun h=>f h.2)]
  simp (disch:=omega) only[go_sem,h124c,e,g,bQ,eq_true d,f];rw[if_pos (fun h=>d h.1)]
  simp (disch:=omega) only[go_sem,h124c,e,g,bQ,d]
 rw[if_pos l];rw[decide_eq_false l] at e;simp (disch:=omega) only[go_sem,h124c,e]
end
section
variable {G:aE}{B:aN}
def tb3(a b c:Int):Nat->Int
 |0=>a
 |1=>b
 |_=>c
theorem aAf(a b c:Int):tb3 a b c 0=a:=rfl
theorem Dw(a b c:Int):tb3 a b c 1=b:=rfl
theorem Tk(a b c:Int):tb3 a b c 2=c:=rfl
abbrev bS(l:L Int):aD:=.box [.dc (.raw (.string (fF l)))]
def nZ:L Int->Int
 |[x]=>if 128<=x then x-256 else x
 |[x,y]=>if 32768<=y*256+x then y*256+x-65536 else y*256+x
 |_=>0
def dG(bs:L Int)(a:Nat):Int×Bool×L Int:=if bs.length<a then (0,false,bs) else (nZ (bs.take a),decide (sz (nZ (bs.take a))=a),bs.drop a)
def iY(a h:Int)(t:L Int):aV×Bool×L Int:=
 if (1<=h % 16/\h % 16<=2)/\h / 16<=2 then
  if (dG t (h % 16).toNat).2.1=false\/h / 16=0 then (⟨-1,(dG t (h % 16).toNat).1⟩,(dG t (h % 16).toNat).2.1,(dG t (h % 16).toNat).2.2)
  else (⟨a+(dG (dG t (h % 16).toNat).2.2 (h / 16).toNat).1,(dG t (h % 16).toNat).1⟩,(dG (dG t (h % 16).toNat).2.2 (h / 16).toNat).2.1&&!decide (a+(dG (dG t (h % 16).toNat).2.2 (h / 16).toNat).1=-1),(dG (dG t (h % 16).toNat).2.2 (h / 16).toNat).2.2)
 else (⟨0,0⟩,false,t)
theorem aGs(n b:Int)(e:0<=n/\n<=255)(d:0<=b/\b<=255):Wr .i64 (n*256) b=n*256+b:=by
 obtain⟨n,rfl⟩:=bAh e.1;obtain⟨b,rfl⟩:=bAh d.1;have a:((n:Int)*256)=((n*256:Nat):Int):=by simp
 have c:n*256 ||| b=n*256+b:=by
  have:=Nat.shiftLeft_add_eq_or_of_lt (show b<2 ^ 8 by omega) n;rw[Nat.shiftLeft_eq] at this;exact this.symm
 rw[Wr,a,Ji,BitVec.ofInt_natCast,BitVec.ofInt_natCast,BitVec.toNat_or,BitVec.toNat_ofNat,BitVec.toNat_ofNat,bAa (by omega),bAa (by omega),c,Bp (by omega)];simp
theorem aNF(h:Int)(b:0<=h/\h<=255):Wq .i64 h 15=h % 16:=by
 obtain⟨n,rfl⟩:=bAh b.1;have a:n &&& 15=n % 16:=Nat.and_two_pow_sub_one_eq_mod n 4;have h3:(15:Int)=((15:Nat):Int):=rfl;rw[Wq,h3,Ji,BitVec.ofInt_natCast,BitVec.ofInt_natCast,BitVec.toNat_and,BitVec.toNat_ofNat,BitVec.toNat_ofNat,bAa (by omega),bAa (by omega),a,Bp (by omega)];simp
theorem E8(n:Int):n.fdiv 16=n / 16:=Int.fdiv_eq_ediv_of_nonneg _ (by decide)
theorem jX{x:Int}{l:L Int}(h:aH (x::l)):(0<=x/\x<=255)/\aH l:=⟨h x aZt,fun b a=>h b (aZB _ a)⟩
theorem aCG(bs:L Int)(a:aH bs):EV G (Tb B) 284 [.one (.ptr 0 0),vi 1] [bS bs]=some (.tup [.one (.dc (ci (dG bs 1).1)),.one (bC (dG bs 1).2.1)],[bS (dG bs 1).2.2]):=by
 refine aA rfl ?_
 match bs,a with
 |[],a=>
  simp (disch:=first|omega|(simp only[aZa,aZb,aZc,aY9,aB];omega)) only[go_sem,h284c,dG,aC]
  rfl
 |x::t,a=>
  obtain⟨g,_⟩:=jX a;have e:=aGs 0 x (by omega) g;rw[Int.zero_mul,aZP] at e;simp (disch:=first|omega|(simp only[aZa,aZb,aZc,aY9,aB];omega)) only[go_sem,h284c,Int.reduceSub]
  rw[aQ (fun k=>⟨(.one (.ptr 0 0)::vi 1::jk 4 (vi (tb3 0 x x k)::vi (tb3 0 (-1) (-1) k)::jk 44 [])),[bS (x::t)]⟩) 1 ?_ ?_]
  have f:dG (x::t) 1=(nZ [x],decide (sz (nZ [x])=1),t):=by rw[dG,if_neg (by simp)];rfl
  rw[f];simp only[nZ];by_cases c:128<=x;have d:=sC (G:=G) (B:=B) (x-256) (by omega);simp (disch:=first|omega|(simp only[aZa,aZb,aZc,aY9,aB];omega)) only[go_sem,h284l0,Dw,Int.reduceMul,Int.reduceSub,Int.reduceToNat,Int.reducePow,Nat.reducePow,Int.reduceNeg,c,d,bC]
  have d:=sC (G:=G) (B:=B) x (by omega);simp (disch:=first|omega|(simp only[aZa,aZb,aZc,aY9,aB];omega)) only[go_sem,h284l0,Dw,Int.reduceMul,Int.reduceSub,Int.reduceToNat,Int.reducePow,Nat.reducePow,Int.reduceNeg,c,d,bC]
  rfl;intro k h;have b:k=0:=by omega
  subst b;simp (disch:=first|omega|(simp only[aZa,aZb,aZc,aY9,aB];omega)) only[go_sem,h284l0,aAf,Dw,Int.reduceMul,Int.reduceSub,Int.reduceToNat,Int.reducePow,Nat.reducePow,Int.reduceNeg,e,Int.zero_mul]
theorem aCH(bs:L Int)(a:aH bs):EV G (Tb B) 284 [.one (.ptr 0 0),vi 2] [bS bs]=some (.tup [.one (.dc (ci (dG bs 2).1)),.one (bC (dG bs 2).2.1)],[bS (dG bs 2).2.2]):=by
 refine aA rfl ?_
 match bs,a with
 |[],a=>
  simp (disch:=first|omega|(simp only[aZa,aZb,aZc,aY9,aB];omega)) only[go_sem,h284c,dG,aC]
  rfl
 |[x],a=>
  simp (disch:=first|omega|(simp only[aZa,aZb,aZc,aY9,aB];omega)) only[go_sem,h284c,dG,aC]
  rfl
 |x::y::t,a=>
  obtain⟨h,b⟩:=jX a;obtain⟨e,_⟩:=jX b;have f:=aGs 0 y (by omega) e;have i:=aGs y x e h;rw[Int.zero_mul,aZP] at f;simp (disch:=first|omega|(simp only[aZa,aZb,aZc,aY9,aB];omega)) only[go_sem,h284c,Int.reduceSub]
  rw[aQ (fun k=>⟨(.one (.ptr 0 0)::vi 2::jk 4 (vi (tb3 0 y (y*256+x) k)::vi (tb3 1 0 (-1) k)::jk 44 [])),[bS (x::y::t)]⟩) 2 ?_ ?_]
  have g:dG (x::y::t) 2=(nZ [x,y],decide (sz (nZ [x,y])=2),t):=by rw[dG,if_neg (by simp)];rfl
  rw[g];simp only[nZ];by_cases c:32768<=y*256+x;have d:=sC (G:=G) (B:=B) (y*256+x-65536) (by omega);simp (disch:=first|omega|(simp only[aZa,aZb,aZc,aY9,aB];omega)) only[go_sem,h284l0,Tk,Int.reduceMul,Int.reduceSub,Int.reduceToNat,Int.reducePow,Nat.reducePow,Int.reduceNeg,c,d,bC]
  have d:=sC (G:=G) (B:=B) (y*256+x) (by omega);simp (disch:=first|omega|(simp only[aZa,aZb,aZc,aY9,aB];omega)) only[go_sem,h284l0,Tk,Int.reduceMul,Int.reduceSub,Int.reduceToNat,Int.reducePow,Nat.reducePow,Int.reduceNeg,c,d,bC]
  rfl;intro k j;rcases (show k=0\/k=1 by omega) with rfl|rfl
  simp (disch:=first|omega|(simp only[aZa,aZb,aZc,aY9,aB];omega)) only[go_sem,h284l0,aAf,Dw,Int.reduceMul,Int.reduceSub,Int.reduceToNat,Int.reducePow,Nat.reducePow,Int.reduceNeg,f,Int.zero_mul]
  simp (disch:=first|omega|(simp only[aZa,aZb,aZc,aY9,aB];omega)) only[go_sem,h284l0,Dw,Tk,Int.reduceMul,Int.reduceSub,Int.reduceToNat,Int.reducePow,Nat.reducePow,Int.reduceNeg,i,Int.zero_mul]
theorem Tl(bs:L Int)(b:aH bs)(a:Int)(c:1<=a/\a<=2):EV G (Tb B) 284 [.one (.ptr 0 0),vi a] [bS bs]=some (.tup [.one (.dc (ci (dG bs a.toNat).1)),.one (bC (dG bs a.toNat).2.1)],[bS (dG bs a.toNat).2.2]):=by
 rcases (show a=1\/a=2 by omega) with rfl|rfl
 exact aCG bs b;exact aCH bs b
theorem Dx{l m:L Int}(h:aH l)(c:∀x∈m,x∈l):aH m:=fun b a=>h b (c b a)
theorem sI{bs:L Int}(h:aH bs)(a:Nat):aH (dG bs a).2.2:=by
 unfold dG;split;exact h;exact Dx h (fun x b=>aZM b)
theorem Dy{bs:L Int}(h:aH bs)(a:Nat):-32768<=(dG bs a).1/\(dG bs a).1<=32767:=by
 unfold dG;split;simp;have b:aH (bs.take a):=Dx h (fun x c=>aZA c)
 simp only;generalize bs.take a=m at b
 match m,b with
 |[],_=>simp[nZ]
 |[x],b=>have:=b x (by simp);simp only[nZ];split<;>omega
 |[x,y],b=>have:=b x (by simp);have:=b y (by simp);simp only[nZ];split<;>omega
 |x::y::z::w,_=>simp[nZ]
theorem Ju(bs:L Int)(a:Nat):(dG bs a).2.2.length<=bs.length:=by
 unfold dG;split;exact aZe _;simp
theorem aNG(a h:Int)(t:L Int)(r:aH (h::t))(v:-1000000000<=a/\a<=1000000000):EV G (Tb B) 250 [.one (.ptr 0 0),vi a] [bS (h::t)]= some (.tup [.agg [.dc (ci (iY a h t).1.s),.dc (ci (iY a h t).1.n)],.one (bC (iY a h t).2.1)],[bS (iY a h t).2.2]):=by
 refine aA rfl ?_;obtain⟨u,c⟩:=jX r;have f:=aNF h u;unfold iY;by_cases b:1<=h % 16/\h % 16<=2;by_cases d:h / 16<=2;rw[if_pos ⟨b,d⟩];have i:=Tl (G:=G) (B:=B) t c (h % 16) b;have m:=Dy c (h % 16).toNat;have j:=sI c (h % 16).toNat;generalize dG t (h % 16).toNat=p at i m j ⊢;obtain⟨n1,g,t1⟩:=p;simp only at i m j ⊢;by_cases e:h / 16=0
 ·rw[if_pos (Or.inr e)];cases g;all_goals simp (disch:=first|omega|(simp only[aZa,aZb,aZc,aY9,aB];omega)) only[go_sem,h250c,Int.reduceToNat,Int.reducePow,f,E8,b,d,e,kE,i,bC]
 cases g;rw[if_pos (Or.inl rfl)];simp (disch:=first|omega|(simp only[aZa,aZb,aZc,aY9,aB];omega)) only[go_sem,h250c,Int.reduceToNat,Int.reducePow,f,E8,b,d,e,kE,i,bC]
 ·rw[if_neg (by simp[e])];have l:=Tl (G:=G) (B:=B) t1 j (h / 16) (by omega);have o:=Dy j (h / 16).toNat;generalize dG t1 (h / 16).toNat=q at l o ⊢;obtain⟨w,k,x⟩:=q;simp only at l o ⊢;cases k;all_goals simp (disch:=first|omega|(simp only[aZa,aZb,aZc,aY9,aB];omega)) only[go_sem,h250c,Int.reduceToNat,Int.reducePow,f,E8,b,d,e,kE,i,l,bC,kF]
 rw[if_neg (by omega)];simp (disch:=first|omega|(simp only[aZa,aZb,aZc,aY9,aB];omega)) only[go_sem,h250c,Int.reduceToNat,Int.reducePow,f,E8,b,d,kE,bC]
 rw[if_neg (by omega)];simp (disch:=first|omega|(simp only[aZa,aZb,aZc,aY9,aB];omega)) only[go_sem,h250c,Int.reduceToNat,Int.reducePow,f,E8,b,kE,bC]
structure DS where
 bs:List Int
 last:Int
 out:List aV
def gJ(z:DS):Option DS:=
 match z.bs with
 |[]=>none
 |h::t=>if h=0 then none else if (iY z.last h t).2.1=true then some ⟨(iY z.last h t).2.2,if (iY z.last h t).1.s=-1 then z.last else (iY z.last h t).1.s,z.out++[(iY z.last h t).1]⟩ else none
def dK(s:L Int):Nat->DS
 |0=>⟨s,0,[]⟩
 |k+1=>(gJ (dK s k)).getD (dK s k)
noncomputable def Cc(s:L Int):Nat:=ix (fun k=>gJ (dK s k)=none) (s.length+1)
def Bi(bs:L Int):Int:=match bs with
 |[]=>3
 |h::t=>if h=0/\t=[] then 0 else 3
def qM(z:DS):L aV×Int:=if Bi z.bs≠0 then ([],3) else if (nC z.out).2≠0 then ([],(nC z.out).2) else (z.out,0)
noncomputable def nV(s:L Int):L aV×Int:=if (s.length:Int) > 400 then ([],8) else qM (dK s (Cc s))
theorem aGt(a h:Int)(t:L Int):(iY a h t).2.2.length<=t.length:=by
 unfold iY;split;split;exact Ju _ _;exact Nat.le_trans (Ju _ _) (Ju _ _);exact aZe _
theorem aCI(a h:Int){t:L Int}(b:aH t):aH (iY a h t).2.2:=by
 unfold iY;split;split;exact sI b _;exact sI (sI b _) _;exact b
theorem aLB(a h:Int){t:L Int}(b:aH t):(iY a h t).1.s=-1\/(iY a h t).1.s=0\/(a-32768<=(iY a h t).1.s/\(iY a h t).1.s<=a+32767):=by
 unfold iY;split;split;exact .inl rfl;have:=Dy (sI b (h % 16).toNat) (h / 16).toNat;exact .inr (.inr ⟨by simp only;omega,by simp only;omega⟩);exact .inr (.inl rfl)
theorem Tm(s:L Int)(g:aH s):∀k,(∀j,j<k->¬ gJ (dK s j)=none)->(dK s k).bs.length+k<=s.length/\(dK s k).out.length=k/\(-40000*(k:Int)<=(dK s k).last/\(dK s k).last<=40000*k)/\aH (dK s k).bs:=by
 intro k
 induction k with
 |zero=>intro _;exact⟨by simp[dK],rfl,by simp[dK],g⟩
 |succ k i=>
  intro h;obtain⟨b,d,h3,h4⟩:=i (fun j o=>h j (by omega))
  have h5:=h k (by omega);simp only[dK];generalize dK s k=z at b d h3 h4 h5 ⊢;obtain⟨bs,a,m⟩:=z;simp only at b d h3 h4 h5;cases bs with
  |nil=>exact absurd rfl h5
  |cons h t=>
   obtain⟨n,e⟩:=jX h4;have p:=aGt a h t;have l:=aCI a h e;have q:=aLB a h e;simp only[gJ] at h5 ⊢;split;rename_i c;rw[if_pos c] at h5;exact absurd rfl h5;rename_i c;rw[if_neg c] at h5;split;simp only[aZU,aZa,aZb,aZc] at b ⊢;refine⟨by omega,by omega,?_,l⟩;split<;>omega;rename_i f;rw[if_neg f] at h5;exact absurd rfl h5
theorem Mt(s:L Int)(b:aH s):Cc s<=s.length/\gJ (dK s (Cc s))=none/\∀j,j<Cc s->¬ gJ (dK s j)=none:=by
 obtain⟨c,a,h3⟩:=bI (fun k=>gJ (dK s k)=none) (s.length+1)
 have h4:=(Tm s b (Cc s) h3).1;refine⟨by omega,?_,h3⟩;rcases a with a|a
 exact absurd h4 (by unfold Cc;omega);exact a.2
theorem Tn(h:Int)(t:L Int):(fF (h::t)=fF [])=False:=by
 apply eq_false;intro e;have:=congrArg ByteArray.size e;simp[aC] at this
attribute [go_sem] Tn
theorem aGu(s:L Int)(p:aH s):EV G (Tb B) 220 [sv s] []=some (.tup [.one (.dc (.slc ((nV s).1.map aV.e))),.one (.dc (ci (nV s).2))],[]):=by
 refine aA rfl ?_;unfold nV;by_cases v:(s.length:Int) > 400;rw[if_pos v];simp (disch:=first|omega|(simp only[aZa,aZb,aZc,aY9,aB];omega)) only[go_sem,h220c,aZm]
 rw[if_neg v];simp (disch:=first|omega|(simp only[aZa,aZb,aZc,aY9,aB];omega)) only[go_sem,h220c]
 rw[dP (fun k=>⟨(jk 1 (.one (.ptr 0 0)::jk 2 (.one (.bld 1 (dK s k).out.length)::vi (dK s k).last::jk 39 []))),[bS (dK s k).bs,.arr 0 2 ((dK s k).out.map aV.e)]⟩) (fun k=>gJ (dK s k)=none) (s.length+1) ?_ ?_]
 obtain⟨E,d,y⟩:=Mt s p;obtain⟨m,n,o,i⟩:=Tm s p _ y;rw[show ix (fun k=>gJ (dK s k)=none) (s.length+1)=Cc s from rfl]
 generalize dK s (Cc s)=z at *;obtain⟨bs,a,b⟩:=z;simp only at d m n o i ⊢;cases bs with
 |nil=>
  rw[show qM ⟨[],a,b⟩=([],3) from rfl]
  simp (disch:=first|omega|(simp only[aZa,aZb,aZc,aY9,aB];omega)) only[go_sem,h220l0,aG,aZm]
 |cons h t=>
  obtain⟨A,C⟩:=jX i;by_cases c:h=0;subst c
  match t with
  |[]=>
   have q:=Mn b;by_cases g:(nC b).2=0;rw[g] at q;rw[show qM ⟨[0],a,b⟩=(b,0) by simp[qM,Bi,g]];simp (disch:=first|omega|(simp only[aZa,aZb,aZc,aY9,aB];omega)) only[go_sem,h220l0,aG,Ha,q,jQ]
   rw[show qM ⟨[0],a,b⟩=([],(nC b).2) by simp[qM,Bi,g]];simp (disch:=first|omega|(simp only[aZa,aZb,aZc,aY9,aB];omega)) only[go_sem,h220l0,aG,Ha,q,g,jQ,aZm]
  |x::t=>
   rw[show qM ⟨0::x::t,a,b⟩=([],3) by simp[qM,Bi]];simp (disch:=first|omega|(simp only[aZa,aZb,aZc,aY9,aB];omega)) only[go_sem,h220l0,aG,aZm]
  have f:=aNG (G:=G) (B:=B) a h t i (by omega);simp only[gJ,if_neg c] at d;rw[show qM ⟨h::t,a,b⟩=([],3) by simp[qM,Bi,c]];generalize iY a h t=r at f d;obtain⟨r,u,l⟩:=r;cases u;simp only at f;simp (disch:=first|omega|(simp only[aZa,aZb,aZc,aY9,aB];omega)) only[go_sem,h220l0,aG,aZm,f,c,bC]
  simp at d
 rfl;intro k H w;obtain⟨m,n,o,i⟩:=Tm s p k (fun j F=>w j (by omega))
 have d:=w k (aZe _);rw[show dK s (k+1)=(gJ (dK s k)).getD (dK s k) from rfl]
 generalize dK s k=z at *;obtain⟨bs,a,b⟩:=z;simp only at d m n o i ⊢;cases bs with
 |nil=>exact absurd rfl d
 |cons h t=>
  obtain⟨A,C⟩:=jX i;by_cases c:h=0;simp[gJ,c] at d;have f:=aNG (G:=G) (B:=B) a h t i (by omega);simp only[gJ,if_neg c] at d ⊢;generalize iY a h t=r at f d;obtain⟨⟨D,rn⟩,u,l⟩:=r;cases u;simp at d;simp only at f;by_cases g:D=-1;simp (disch:=first|omega|(simp only[aZa,aZb,aZc,aY9,aB];omega)) only[go_sem,h220l0,aG,f,c,g,bC,kF,aZU,Dq,aZa]
  simp (disch:=first|omega|(simp only[aZa,aZb,aZc,aY9,aB];omega)) only[go_sem,h220l0,aG,f,c,g,bC,kF,aZU,Dq,aZa]
