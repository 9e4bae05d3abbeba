/- Part. Conditions: none. -/
import Derived.Test.YtalhnjjchkmfeaaGreatDoorUc
namespace Go.Proofs.YtalhnjjchkmfeaaGreatDoor
set_option maxHeartbeats 4000000
set_option linter.unusedSimpArgs false
set_option linter.unusedVariables false
set_option maxRecDepth 4000
section
variable {G:aF}{bb:Bool}
theorem Tz(l:L Int)(n:Nat)(h:l.length<=n):jO ((l.map yC).take n)=some (l.map u8):=by rw[D0 l n h,lL]
theorem J7(a:aI):(Tw a).length=eY a:=by simp only[Tw,dJ,aS]
theorem aDe(a:aI)(h:a.Bd)(d:a.res=true):EV G (Tb (bs bb)) 167 [a.v] []=some (sv (tV a),[]):=by
 refine aB rfl ?_;obtain⟨l,m,x,D,y,B,u,t,r,q,z,C,w⟩:=h;have f:sU a=24:=by simp[sU,d]
 have e:qU a=a.va:=by simp[qU,d]
 have o:al8 (24+(a.nm.length:Int))=((cZ a:Nat):Int):=by simp only[al8,cZ,f];omega
 have p:al8 (((cZ a:Nat):Int)+(a.va.length:Int))=((eY a:Nat):Int):=by simp only[al8,eY,e];omega
 have E:24+a.nm.length<=cZ a/\cZ a<=2000:=by simp only[cZ,f];omega
 have F:cZ a+a.va.length<=eY a/\eY a<=4000:=by simp only[eY,e];omega
 unfold tV Tx;rw[if_pos d];have h6:=J7 a;unfold Tw at h6 ⊢;rw[f,e] at *;generalize cZ a=A at *;generalize eY a=N at *;have g:=pK (bB (bB (bB (bB (bB (bB (bB (bB (zl N) 0 a.ty 4) 4 N 4) 9 a.nm.length 1) 10 24 2) 12 a.fl 2) 14 a.id 2) 16 a.va.length 4) 20 A 4) a.nm 24 (N-24) l (by omega);have i:=pK (fE (bB (bB (bB (bB (bB (bB (bB (bB (zl N) 0 a.ty 4) 4 N 4) 9 a.nm.length 1) 10 24 2) 12 a.fl 2) 14 a.id 2) 16 a.va.length 4) 20 A 4) 24 a.nm) a.va A (N-A) m (by omega);have c:(fE (bB (bB (bB (bB (bB (bB (bB (bB (zl N) 0 a.ty 4) 4 N 4) 9 a.nm.length 1) 10 24 2) 12 a.fl 2) 14 a.id 2) 16 a.va.length 4) 20 A 4) 24 a.nm).length=N:=by
  rw[cJ (by simp only[dJ,aS];omega)];simp only[dJ,aS]
 have j:=cJ (b:=fE (bB (bB (bB (bB (bB (bB (bB (bB (zl N) 0 a.ty 4) 4 N 4) 9 a.nm.length 1) 10 24 2) 12 a.fl 2) 14 a.id 2) 16 a.va.length 4) 20 A 4) 24 a.nm) (k:=A) (s:=a.va) (by omega);rw[c] at j;have n:(A+(N-A)<=N)=True:=eq_true (by omega);simp (disch:=first|omega|(simp only[aZz,dJ,aS]<;>omega)) only[go_sem,h167c,d,Ck,A6,o,p,P5,aZz,aN5,aN8,aN7,aN6,Int.reduceToNat,bAc,dJ,aS,g,i,c,n,if_true,Tz,bAq,Option.toList_some,Option.toList_none,aZW,aZR]
theorem aDf(a:aI)(h:a.Bd)(e:a.res=false):EV G (Tb (bs bb)) 167 [a.v] []=some (sv (tV a),[]):=by
 refine aB rfl ?_;obtain⟨n,J,E,L,F,I,z,y,x,u,H,K,D⟩:=h;have o:¬ a.res=true:=by rw[e];decide
 have g:sU a=40:=by simp[sU,e]
 have f:qU a=(Cj a.rs).1:=by simp[qU,e]
 obtain⟨i,w⟩:=Nk a.rs;have M:=aGW (G:=G) (B:=bs bb) a.rs;have p:=Gn (G:=G) (bb:=bb) a (by omega);simp only[aI.v,aI.c,e] at p;have r:al8 (40+(a.nm.length:Int))=((cZ a:Nat):Int):=by simp only[al8,cZ,g];omega
 have t:al8 (((cZ a:Nat):Int)+((Cj a.rs).1.length:Int))=((eY a:Nat):Int):=by simp only[al8,eY,f];omega
 have O:40+a.nm.length<=cZ a/\cZ a<=2000:=by simp only[cZ,g];omega
 have P:cZ a+(Cj a.rs).1.length<=eY a/\eY a<=4000:=by simp only[eY,f];omega
 unfold tV Tx;rw[if_neg o];have h6:=J7 a;unfold Tw at h6 ⊢;rw[g,f] at *;generalize cZ a=A at *;generalize eY a=N at *;generalize (Cj a.rs).1=C at *;have j:=pK (bB (bB (bB (bB (bB (bB (bB (bB (bB (bB (bB (bB (bB (zl N) 0 a.ty 4) 4 N 4) 9 a.nm.length 1) 10 40 2) 12 a.fl 2) 14 a.id 2) 8 1 1) 16 a.fi 4) 20 (a.fi+gP a.rs-1) 4) 24 A 2) 28 a.al 4) 32 a.sz 4) 36 a.vd 4) a.nm 40 (N-40) n (by omega);have d:(fE (bB (bB (bB (bB (bB (bB (bB (bB (bB (bB (bB (bB (bB (zl N) 0 a.ty 4) 4 N 4) 9 a.nm.length 1) 10 40 2) 12 a.fl 2) 14 a.id 2) 8 1 1) 16 a.fi 4) 20 (a.fi+gP a.rs-1) 4) 24 A 2) 28 a.al 4) 32 a.sz 4) 36 a.vd 4) 40 a.nm).length=N:=by
  rw[cJ (by simp only[dJ,aS];omega)];simp only[dJ,aS]
 have l:=pK (fE (bB (bB (bB (bB (bB (bB (bB (bB (bB (bB (bB (bB (bB (zl N) 0 a.ty 4) 4 N 4) 9 a.nm.length 1) 10 40 2) 12 a.fl 2) 14 a.id 2) 8 1 1) 16 a.fi 4) 20 (a.fi+gP a.rs-1) 4) 24 A 2) 28 a.al 4) 32 a.sz 4) 36 a.vd 4) 40 a.nm) C A (N-A) i (by omega);have m:=cJ (b:=fE (bB (bB (bB (bB (bB (bB (bB (bB (bB (bB (bB (bB (bB (zl N) 0 a.ty 4) 4 N 4) 9 a.nm.length 1) 10 40 2) 12 a.fl 2) 14 a.id 2) 8 1 1) 16 a.fi 4) 20 (a.fi+gP a.rs-1) 4) 24 A 2) 28 a.al 4) 32 a.sz 4) 36 a.vd 4) 40 a.nm) (k:=A) (s:=C) (by omega);rw[d] at m;have q:(A+(N-A)<=N)=True:=eq_true (by omega);simp (disch:=first|omega|(simp only[aZz,dJ,aS]<;>omega)) only[go_sem,h167c,e,Ck,A6,r,t,M,p,P5,aZz,aN5,aN8,aN7,aN6,Int.reduceToNat,bAc,dJ,aS,j,l,d,q,if_true,Tz,bAq,Option.toList_some,Option.toList_none,aZW,aZR]
theorem Fg(a:aI)(h:a.Bd):EV G (Tb (bs bb)) 167 [a.v] []=some (sv (tV a),[]):=by
 cases b:a.res with
 |true=>exact aDe a h b
 |false=>exact aDf a h b
theorem nN(a:aI)(h:a.Bd):(tV a).length=eY a:=by
 have b:(qU a).length<=1000:=by
  unfold qU;split;exact h.vl;have:=(Nk a.rs).2;omega
 have h7:(Tx a).length=eY a:=by
  unfold Tx;split<;>simp only[dJ,J7]
 have c:sU a+a.nm.length<=cZ a:=by unfold cZ;omega
 have d:cZ a+(qU a).length<=eY a:=by unfold eY;omega
 have h8:(fE (Tx a) (sU a) a.nm).length=eY a:=by rw[cJ (by omega),h7]
 rw[tV,cJ (by omega),h8]
end
section
variable {G:aF}{bb:Bool}
def L5(a:aI):Int:=if a.rs=[]/\a.fi=0/\a.al=0/\a.sz=0/\a.vd=0 then (if a.va.length > 400 then 8 else 0) else 3
def J8(a:aI):Int:=
 if a.ty∈Hd then 20 else if a.va≠[] then 3 else if ¬(0<=a.fi/\a.fi<=4096) then 2 else if (mU a.rs).2≠0 then (mU a.rs).2
 else if a.fi > 0/\a.rs=[] then 17 else if a.fi+gP a.rs > 4096 then 8 else if a.fi > 0/\(a.al≠0\/a.sz≠0\/a.vd≠0) then 3
 else if ¬((0<=a.al/\a.al<=1048576)/\(0<=a.sz/\a.sz<=1048576)/\(0<=a.vd/\a.vd<=1048576)) then 2 else if a.vd > a.sz then 9 else 0
def tW(a:aI):Int:=if a.res=true then L5 a else J8 a
def gI(a:aI):Int:=
 if a.ty∉Nj then 15 else if P3 a.nm=false then 4 else if ¬((0<=a.id/\a.id<=65535)/\(0<=a.fl/\a.fl<=7)) then 2
 else if tW a≠0 then tW a else if eY a > 440 then 16 else 0
structure aI.W (a:aI):Prop where
 nm:aJ a.nm
 va:aJ a.va
 nl:a.nm.length<=100000
 vl:a.va.length<=100000
 rl:a.rs.length<=100000
theorem rs0(l:L aX):((l.length:Int)=0)=(l=[]):=by
 apply propext;rw[<- List.length_eq_zero_iff];omega
theorem aG3(a:aI):EV G (Tb (bs bb)) 165 [a.v] []=some (vi (L5 a),[]):=by
 refine aB rfl ?_;unfold L5;have i:((a.va.length:Int)<=400)=(a.va.length<=400):=by apply propext;omega
 by_cases b:a.rs=[];by_cases c:a.fi=0;by_cases d:a.al=0;by_cases e:a.sz=0;by_cases f:a.vd=0;rw[if_pos ⟨b,c,d,e,f⟩];by_cases g:a.va.length<=400;rw[if_neg (by omega)];simp (disch:=omega) only[go_sem,h165c,aZz,rs0,eq_true b,c,d,e,f,iC,nK,eq_true g];rfl;rw[if_pos (by omega)];simp (disch:=omega) only[go_sem,h165c,aZz,rs0,eq_true b,c,d,e,f,iC,nK,i,g];rfl;rw[if_neg (fun h=>f h.2.2.2.2)]
 simp (disch:=omega) only[go_sem,h165c,aZz,rs0,eq_true b,c,d,e,f,iC,nK];simp[aU];rw[if_neg (fun h=>e h.2.2.2.1)]
 simp (disch:=omega) only[go_sem,h165c,aZz,rs0,eq_true b,c,d,e,iC,nK];simp[aU];rw[if_neg (fun h=>d h.2.2.1)]
 simp (disch:=omega) only[go_sem,h165c,aZz,rs0,eq_true b,c,d,iC,nK];simp[aU];rw[if_neg (fun h=>c h.2.1)]
 simp (disch:=omega) only[go_sem,h165c,aZz,rs0,eq_true b,c,iC,nK];simp[aU];rw[if_neg (fun h=>b h.1)]
 simp (disch:=omega) only[go_sem,h165c,aZz,rs0,b,iC,nK];simp[aU]
theorem aW(l:L Int):aU (0::l)=aU l:=rfl
theorem aZ(e:Int)(l:L Int)(h:e≠0):aU (e::l)=e:=by rw[aU,if_neg h]
theorem bO:aU []=0:=rfl
def un(b:Bool)(e:Int):Int:=if b=true then 0 else e
theorem gE(e:Int):un true e=0:=rfl
theorem gX(e:Int):un false e=e:=rfl
theorem bD(b:Bool)(e:Int):EV G (Tb (bs bb)) 161 [vb b,vi e] []=some (vi (un b e),[]):=iC b e
theorem nS(l:L aX):(0<(l.length:Int))=(l≠[]):=by
 apply propext;have:=@List.length_eq_zero_iff _ l;constructor;intro h e;rw[this.2 e] at h;omega;intro h;have:l.length≠0:=fun e=>h (this.1 e);omega
def aLZ(a:aI):Int:=aU [un (!decide (a.fi > 0)||decide (a.rs≠[])) 17,un (decide (a.fi+gP a.rs<=4096)) 8,un (!decide (a.fi > 0)||!(decide (a.al≠0)||(decide (a.sz≠0)||decide (a.vd≠0)))) 3,
 un (decide (0<=a.al/\a.al<=1048576)&&(decide (0<=a.sz/\a.sz<=1048576)&&decide (0<=a.vd/\a.vd<=1048576))) 2,un (decide (a.vd<=a.sz)) 9]
theorem J9{b:Bool}{p:Prop}[Decidable p]{e:Int}(h:p↔¬ b=true):un b e=if p then e else 0:=by
 unfold un;by_cases a:b=true;rw[if_pos a,if_neg (fun hp=>h.1 hp a)]
 rw[if_neg a,if_pos (h.2 a)]
theorem rP{p:Prop}[Decidable p]{e:Int}{l:L Int}(a:e≠0):aU ((if p then e else 0)::l)=if p then e else aU l:=by
 by_cases h:p;rw[if_pos h,if_pos h,aZ e l a];rw[if_neg h,if_neg h,aW]
theorem aL0(a:aI):aLZ a=if a.fi > 0/\a.rs=[] then 17 else if a.fi+gP a.rs > 4096 then 8 else if a.fi > 0/\(a.al≠0\/a.sz≠0\/a.vd≠0) then 3 else if ¬((0<=a.al/\a.al<=1048576)/\(0<=a.sz/\a.sz<=1048576)/\(0<=a.vd/\a.vd<=1048576)) then 2 else if a.vd > a.sz then 9 else 0:=by
 unfold aLZ;rw[J9 (p:=a.fi > 0/\a.rs=[]) (by simp),J9 (p:=a.fi+gP a.rs > 4096) (by simp),J9 (p:=a.fi > 0/\(a.al≠0\/a.sz≠0\/a.vd≠0)) (by simp only[Bool.or_eq_true,bAD,Bool.or_eq_false_iff,decide_eq_true_eq,decide_eq_false_iff_not];omega),
  J9 (p:=¬((0<=a.al/\a.al<=1048576)/\(0<=a.sz/\a.sz<=1048576)/\(0<=a.vd/\a.vd<=1048576))) (by simp only[aZO,decide_eq_true_eq]),J9 (p:=a.vd > a.sz) (by simp)]
 rw[rP (by decide),rP (by decide),rP (by decide),rP (by decide),rP (by decide),bO]
theorem aL1(a:aI):J8 a=if a.ty∈Hd then 20 else if a.va≠[] then 3 else if ¬(0<=a.fi/\a.fi<=4096) then 2 else if (mU a.rs).2≠0 then (mU a.rs).2 else aLZ a:=by
 rw[aL0];rfl
theorem aG4(a:aI)(x:a.W)(z:a.ty∈Nj):EV G (Tb (bs bb)) 166 [a.v] []=some (vi (J8 a),[]):=by
 refine aB rfl ?_;rw[aL1];have k:=Ts a.ty;rw[if_pos z] at k;have m:=cR x.va jM;have n:=P0 (G:=G) (B:=bs bb) a.rs;have o:=Gn (G:=G) (bb:=bb) a (by have:=x.rl;omega);by_cases p:a.ty∈Hd;rw[if_pos p];rw[decide_eq_true p] at k;simp (disch:=omega) only[go_sem,h166c,gW,k,aG,m,bD,gE,gX,aW,aZ,bO,cC,cD];rw[if_neg p];rw[decide_eq_false p] at k;by_cases i:a.va=[];rw[if_neg (by simpa using i)];replace i:=eq_true i;by_cases q:0<=a.fi/\a.fi<=4096;rw[if_neg (fun h=>h q)]
 have f:=eq_true q;by_cases l:(mU a.rs).2=0;rw[if_neg (fun h=>h l)]
 have s:=Dv l;have y:=Du a.rs (fun r w=>(s.el r w).2.2) (by have:=s.sum;omega)
 have t:=iG a.rs (fun r w=>(s.el r w).2.2)
 have u:=s.sum;rw[<- y] at t u;have g:∀ L,L=[un (!decide (a.fi > 0)||decide (a.rs≠[])) 17,un (decide (a.fi+gP a.rs<=4096)) 8,un (!decide (a.fi > 0)||!(decide (a.al≠0)||(decide (a.sz≠0)||decide (a.vd≠0)))) 3,
   un (decide (0<=a.al/\a.al<=1048576)&&(decide (0<=a.sz/\a.sz<=1048576)&&decide (0<=a.vd/\a.vd<=1048576))) 2,un (decide (a.vd<=a.sz)) 9]->aU L=aLZ a:=fun L h=>by rw[h];rfl
 by_cases d:a.fi > 0;by_cases c:a.al=0;have b:0<=a.al/\a.al<=1048576:=by omega
 by_cases j:a.sz=0;have e:0<=a.sz/\a.sz<=1048576:=by omega
 simp (disch:=omega) only[go_sem,h166c,gW,k,aG,m,bD,gE,gX,aW,aZ,bO,cC,cD,i,f,n,l,eq_true d,eq_true c,eq_true b,eq_true j,eq_true e,aZz,nS];simp (disch:=omega) only[go_sem,o,bD,jL,nS,gE,gX,eq_true d,eq_true c,eq_true b,eq_true j,eq_true e];rw[g _ (by simp[un,d,c,b,j,e])];by_cases e:0<=a.sz/\a.sz<=1048576;simp (disch:=omega) only[go_sem,h166c,gW,k,aG,m,bD,gE,gX,aW,aZ,bO,cC,cD,i,f,n,l,eq_true d,eq_true c,eq_true b,j,eq_true e,aZz,nS];simp (disch:=omega) only[go_sem,o,bD,jL,nS,gE,gX,eq_true d,eq_true c,eq_true b,j,eq_true e];rw[g _ (by simp[un,d,c,b,j,e])];simp (disch:=omega) only[go_sem,h166c,gW,k,aG,m,bD,gE,gX,aW,aZ,bO,cC,cD,i,f,n,l,eq_true d,eq_true c,eq_true b,j,e,aZz,nS];simp (disch:=omega) only[go_sem,o,bD,jL,nS,gE,gX,eq_true d,eq_true c,eq_true b,j,e];rw[g _ (by simp[un,d,c,b,j,e])];by_cases b:0<=a.al/\a.al<=1048576;by_cases e:0<=a.sz/\a.sz<=1048576;simp (disch:=omega) only[go_sem,h166c,gW,k,aG,m,bD,gE,gX,aW,aZ,bO,cC,cD,i,f,n,l,eq_true d,c,eq_true b,eq_true e,aZz,nS];simp (disch:=omega) only[go_sem,o,bD,jL,nS,gE,gX,eq_true d,c,eq_true b,eq_true e];rw[g _ (by simp[un,d,c,b,e])];simp (disch:=omega) only[go_sem,h166c,gW,k,aG,m,bD,gE,gX,aW,aZ,bO,cC,cD,i,f,n,l,eq_true d,c,eq_true b,e,aZz,nS];simp (disch:=omega) only[go_sem,o,bD,jL,nS,gE,gX,eq_true d,c,eq_true b,e];rw[g _ (by simp[un,d,c,b,e])];simp (disch:=omega) only[go_sem,h166c,gW,k,aG,m,bD,gE,gX,aW,aZ,bO,cC,cD,i,f,n,l,eq_true d,c,b,aZz,nS];simp (disch:=omega) only[go_sem,o,bD,jL,nS,gE,gX,eq_true d,c,b];rw[g _ (by simp[un,d,c,b])];by_cases c:a.al=0;have b:0<=a.al/\a.al<=1048576:=by omega
 by_cases j:a.sz=0;have e:0<=a.sz/\a.sz<=1048576:=by omega
 simp (disch:=omega) only[go_sem,h166c,gW,k,aG,m,bD,gE,gX,aW,aZ,bO,cC,cD,i,f,n,l,d,eq_true c,eq_true b,eq_true j,eq_true e,aZz,nS];simp (disch:=omega) only[go_sem,o,bD,jL,nS,gE,gX,d,eq_true c,eq_true b,eq_true j,eq_true e];rw[g _ (by simp[un,d,c,b,j,e])];by_cases e:0<=a.sz/\a.sz<=1048576;simp (disch:=omega) only[go_sem,h166c,gW,k,aG,m,bD,gE,gX,aW,aZ,bO,cC,cD,i,f,n,l,d,eq_true c,eq_true b,j,eq_true e,aZz,nS];simp (disch:=omega) only[go_sem,o,bD,jL,nS,gE,gX,d,eq_true c,eq_true b,j,eq_true e];rw[g _ (by simp[un,d,c,b,j,e])];simp (disch:=omega) only[go_sem,h166c,gW,k,aG,m,bD,gE,gX,aW,aZ,bO,cC,cD,i,f,n,l,d,eq_true c,eq_true b,j,e,aZz,nS];simp (disch:=omega) only[go_sem,o,bD,jL,nS,gE,gX,d,eq_true c,eq_true b,j,e];rw[g _ (by simp[un,d,c,b,j,e])];by_cases b:0<=a.al/\a.al<=1048576;by_cases e:0<=a.sz/\a.sz<=1048576;simp (disch:=omega) only[go_sem,h166c,gW,k,aG,m,bD,gE,gX,aW,aZ,bO,cC,cD,i,f,n,l,d,c,eq_true b,eq_true e,aZz,nS];simp (disch:=omega) only[go_sem,o,bD,jL,nS,gE,gX,d,c,eq_true b,eq_true e];rw[g _ (by simp[un,d,c,b,e])];simp (disch:=omega) only[go_sem,h166c,gW,k,aG,m,bD,gE,gX,aW,aZ,bO,cC,cD,i,f,n,l,d,c,eq_true b,e,aZz,nS];simp (disch:=omega) only[go_sem,o,bD,jL,nS,gE,gX,d,c,eq_true b,e];rw[g _ (by simp[un,d,c,b,e])];simp (disch:=omega) only[go_sem,h166c,gW,k,aG,m,bD,gE,gX,aW,aZ,bO,cC,cD,i,f,n,l,d,c,b,aZz,nS];simp (disch:=omega) only[go_sem,o,bD,jL,nS,gE,gX,d,c,b];rw[g _ (by simp[un,d,c,b])];rw[if_pos l];simp (disch:=omega) only[go_sem,h166c,gW,k,aG,m,bD,gE,gX,aW,aZ,bO,cC,cD,i,f,n,l];rw[if_pos q];simp (disch:=omega) only[go_sem,h166c,gW,k,aG,m,bD,gE,gX,aW,aZ,bO,cC,cD,i,q];rw[if_pos i];simp (disch:=omega) only[go_sem,h166c,gW,k,aG,m,bD,gE,gX,aW,aZ,bO,cC,cD,i]
end
section
variable {G:aF}{bb:Bool}
theorem P6{n:Int}(h:n∈Nj):0<=n/\n<=200:=by
 simp only[Nj,bAQ,bA8,or_false] at h;omega
theorem H3{l:L Int}(h:P3 l=true):l.length<=32:=by
 unfold P3 at h;rcases of_decide_eq_true h with h|h
 subst h;simp;exact h.2.1
theorem Ka{l:L aX}(h:(mU l).2=0):l.length<=64/\0<=gP l/\gP l<=100000000:=by
 have a:=Dv h;have e:=Du l (fun r b=>(a.el r b).2.2) (by have:=a.sum;omega)
 have c:=iG l (fun r b=>(a.el r b).2.2)
 have d:=a.sum;exact⟨oH h,by omega,by omega⟩
theorem Fh{a:aI}(h:J8 a=0):a.ty∉Hd/\a.va=[]/\(0<=a.fi/\a.fi<=4096)/\(mU a.rs).2=0/\¬(a.fi > 0/\a.rs=[])/\a.fi+gP a.rs<=4096/\¬(a.fi > 0/\(a.al≠0\/a.sz≠0\/a.vd≠0))/\ ((0<=a.al/\a.al<=1048576)/\(0<=a.sz/\a.sz<=1048576)/\(0<=a.vd/\a.vd<=1048576))/\a.vd<=a.sz:=by
 unfold J8 at h;split at h;omega;rename_i b;split at h;omega;rename_i c;split at h;omega;rename_i h3;split at h;rename_i h4;exact absurd h h4;rename_i h4;split at h;omega;rename_i h5;split at h;omega;rename_i h6;split at h;omega;rename_i h7;split at h;omega;rename_i h8;split at h;omega;rename_i h9;exact⟨b,Classical.not_not.1 c,Classical.not_not.1 h3,Classical.not_not.1 h4,h5,by omega,h7,Classical.not_not.1 h8,by omega⟩
theorem P7{a:aI}(h:L5 a=0):a.rs=[]/\a.fi=0/\a.al=0/\a.sz=0/\a.vd=0/\a.va.length<=400:=by
 unfold L5 at h;split at h;rename_i b;split at h;omega;obtain⟨b,c,h3,h4,h5⟩:=b;exact⟨b,c,h3,h4,h5,by omega⟩;omega
theorem aI.bd{a:aI}(b:a.W)(f:a.ty∈Nj)(g:P3 a.nm=true)(h3:(0<=a.id/\a.id<=65535)/\(0<=a.fl/\a.fl<=7))(h4:tW a=0):a.Bd:=by
 have n:=P6 f;have o:=H3 g;unfold tW at h4;split at h4;obtain⟨c,d,h,e,i,j⟩:=P7 h4;have:gP a.rs=0:=by rw[c];rfl
 exact⟨b.nm,b.va,by omega,by omega,by rw[c];simp,by omega,by omega,by omega,by omega,by omega,by omega,by omega,by omega⟩;obtain⟨c,d,h,e,i,j,p,q,r⟩:=Fh h4;obtain⟨k,l,m⟩:=Ka e;exact⟨b.nm,b.va,by omega,by rw[d];simp,by omega,by omega,by omega,by omega,by omega,by omega,by omega,by omega,by omega⟩
theorem D3(a:aI)(o:a.W):EV G (Tb (bs bb)) 118 [a.v] []=some (vi (gI a),[]):=by
 refine aB rfl ?_;have e:=aGY (G:=G) (bb:=bb) a.ty;have f:=aDd (G:=G) (bb:=bb) a.nm o.nm (by have:=o.nl;omega);unfold gI;by_cases k:a.ty∈Nj;rw[if_neg (fun h=>h k)]
 rw[decide_eq_true k] at e;cases p:P3 a.nm with
 |false=>
  rw[p] at f;rw[if_pos rfl];by_cases d:0<=a.id/\a.id<=65535;simp (disch:=omega) only[go_sem,h118c,e,f,bD,gE,gX,aW,aZ,bO,cC,cD,eq_true d];simp (disch:=omega) only[go_sem,h118c,e,f,bD,gE,gX,aW,aZ,bO,cC,cD,d]
 |true=>
  rw[p] at f;rw[if_neg (by decide)];by_cases d:0<=a.id/\a.id<=65535;by_cases i:0<=a.fl/\a.fl<=7;rw[if_neg (fun h=>h ⟨d,i⟩)]
  have n:=fun h=>aI.bd o k p ⟨d,i⟩ h
  have q5 (h):=Fg (G:=G) (bb:=bb) a (n h);have q6 (h):=nN a (n h);cases g:a.res with
  |true=>
   have j:=aG3 (G:=G) (bb:=bb) a;simp only[tW,g,if_true] at q5 q6 ⊢;simp only[aI.v,aI.c,g] at j q5;by_cases b:L5 a=0;have m:((eY a:Int)<=440)=(eY a<=440):=by apply propext;omega
   by_cases l:eY a<=440;rw[if_neg (fun h=>h b),if_neg (by omega)]
   simp (disch:=omega) only[go_sem,h118c,e,f,bD,gE,gX,aW,aZ,bO,cC,cD,eq_true d,eq_true i,j,b,q5 b,q6 b,g,eq_true l,m];rw[if_neg (fun h=>h b),if_pos (by omega)]
   simp (disch:=omega) only[go_sem,h118c,e,f,bD,gE,gX,aW,aZ,bO,cC,cD,eq_true d,eq_true i,j,b,q5 b,q6 b,g,l,m];rw[if_pos b];simp (disch:=omega) only[go_sem,h118c,e,f,bD,gE,gX,aW,aZ,bO,cC,cD,eq_true d,eq_true i,j,b,g]
  |false=>
   have j:=aG4 (G:=G) (bb:=bb) a o k;simp only[tW,g,if_false,bAU] at q5 q6 ⊢;simp only[aI.v,aI.c,g] at j q5;by_cases b:J8 a=0;have m:((eY a:Int)<=440)=(eY a<=440):=by apply propext;omega
   by_cases l:eY a<=440;rw[if_neg (fun h=>h b),if_neg (by omega)]
   simp (disch:=omega) only[go_sem,h118c,e,f,bD,gE,gX,aW,aZ,bO,cC,cD,eq_true d,eq_true i,j,b,q5 b,q6 b,g,eq_true l,m];rw[if_neg (fun h=>h b),if_pos (by omega)]
   simp (disch:=omega) only[go_sem,h118c,e,f,bD,gE,gX,aW,aZ,bO,cC,cD,eq_true d,eq_true i,j,b,q5 b,q6 b,g,l,m];rw[if_pos b];simp (disch:=omega) only[go_sem,h118c,e,f,bD,gE,gX,aW,aZ,bO,cC,cD,eq_true d,eq_true i,j,b,g]
  rw[if_pos (fun h=>i h.2)]
  simp (disch:=omega) only[go_sem,h118c,e,f,bD,gE,gX,aW,aZ,bO,cC,cD,eq_true d,i];rw[if_pos (fun h=>d h.1)]
  simp (disch:=omega) only[go_sem,h118c,e,f,bD,gE,gX,aW,aZ,bO,cC,cD,d]
 rw[if_pos k];rw[decide_eq_false k] at e;by_cases d:0<=a.id/\a.id<=65535;simp (disch:=omega) only[go_sem,h118c,e,f,bD,gE,gX,aW,aZ,bO,cC,cD,eq_true d];simp (disch:=omega) only[go_sem,h118c,e,f,bD,gE,gX,aW,aZ,bO,cC,cD,d]
end
section
variable {G:aF}{bb:Bool}
theorem aVi(call:aO)(n:Int):mN call G ⟨[vi n,.junk,vb false,.junk,.junk,.junk],[]⟩ [Oo 4 (.mov (.t 0)),Oo 5 (.call 87 [(.t 3),(.t 4)]),Oo 2 (.mov (.t 5))] (some 3) (.bslc 1 11 [Zi 0] [(0,(Ki 16)),(1,(Ki 32)),(2,(Ki 48)),(3,(Ki 64)),(4,(Ki 96)),(5,(Ki 112)),(6,(Ki 128)),(7,(Ki 144)),(8,(Ki 160)),(9,(Ki 176)),(10,(Ki 192))])= some ⟨[vi n,.junk,vb false,vl (el Nj),.junk,.junk],[]⟩:=rfl
theorem aDg(n:Int):EV G (Tb (bs bb)) 183 [vi n] []=some (vb (decide (n∈Nj)),[]):=by
 refine aB rfl ?_;have q:=aAO (G:=G) (B:=bs bb) Nj n (by simp[Nj]);simp (disch:=omega) only[go_sem,h183c,↓aVi,q]
theorem T0(n:Int):EV G (Tb (bs bb)) 229 [vi n] []=some (vb (decide (n∈Hd)),[]):=by
 refine aB rfl ?_;have q:=aAO (G:=G) (B:=bs bb) Hd n (by simp[Hd]);have e:el Hd=[[ci 16],[ci 48],[ci 96],[ci 112],[ci 144]]:=rfl;rw[e] at q;simp (disch:=omega) only[go_sem,h229c,q]
theorem X5(l:L aX):((l.length:Int) > 0)=(l≠[]):=nS l
theorem aDh(a:aI):EV G (Tb (bs bb)) 186 [a.v] []=some (vi (L5 a),[]):=by
 refine aB rfl ?_;unfold L5;by_cases g:a.rs=[];have b:¬ (a.rs≠[]):=fun h=>h g
 by_cases c:a.fi=0;by_cases d:a.al=0;by_cases e:a.sz=0;by_cases f:a.vd=0;rw[if_pos ⟨g,c,d,e,f⟩];have j:((a.va.length:Int) > 400)=(a.va.length > 400):=by apply propext;omega
 by_cases i:a.va.length > 400;rw[if_pos i];simp (disch:=omega) only[go_sem,h186c,aZz,X5,b,c,d,e,f,j,eq_true i];rw[if_neg i];simp (disch:=omega) only[go_sem,h186c,aZz,X5,b,c,d,e,f,j,i];rw[if_neg (fun h=>f h.2.2.2.2)]
 simp (disch:=omega) only[go_sem,h186c,aZz,X5,b,c,d,e,f];rw[if_neg (fun h=>e h.2.2.2.1)]
 simp (disch:=omega) only[go_sem,h186c,aZz,X5,b,c,d,e];rw[if_neg (fun h=>d h.2.2.1)]
 simp (disch:=omega) only[go_sem,h186c,aZz,X5,b,c,d];rw[if_neg (fun h=>c h.2.1)]
 simp (disch:=omega) only[go_sem,h186c,aZz,X5,b,c];rw[if_neg (fun h=>g h.1)]
 have b:(a.rs≠[])=True:=eq_true g;simp (disch:=omega) only[go_sem,h186c,aZz,X5,b]
theorem aDi(a:aI)(x:a.W):EV G (Tb (bs bb)) 185 [a.v] []=some (vi (J8 a),[]):=by
 refine aB rfl ?_;have e:=T0 (G:=G) (bb:=bb) a.ty;have g:=cR x.va jM;have j:=aGQ (G:=G) (B:=bs bb) a.rs;have k:=rM (G:=G) (B:=bs bb) a.rs (by have:=x.rl;omega);unfold J8;by_cases s:a.ty∈Hd;rw[if_pos s];rw[decide_eq_true s] at e;simp (disch:=omega) only[go_sem,h185c,e];rw[if_neg s];rw[decide_eq_false s] at e;by_cases d:a.va=[];rw[if_neg (by simpa using d)];replace d:=eq_true d;by_cases t:0<=a.fi/\a.fi<=4096;rw[if_neg (fun h=>h t)]
 have b:=eq_true t;by_cases f:(mU a.rs).2=0;rw[if_neg (fun h=>h f)]
 obtain⟨y,z,A⟩:=Ka f;by_cases o:a.fi > 0/\a.rs=[];rw[if_pos o];have c:=o.1;simp (disch:=omega) only[go_sem,h185c,e,aG,g,d,bM,b,j,f,eq_true c,aZz,rs0,eq_true o.2];rw[if_neg o];by_cases i:a.fi+gP a.rs > 4096;rw[if_pos i];by_cases c:a.fi > 0;have p:¬ a.rs=[]:=fun h=>o ⟨c,h⟩
 simp (disch:=omega) only[go_sem,h185c,e,aG,g,d,bM,b,j,f,eq_true c,aZz,rs0,p,k,eq_true i];simp (disch:=omega) only[go_sem,h185c,e,aG,g,d,bM,b,j,f,c,k,eq_true i];rw[if_neg i];by_cases c:a.fi > 0;have p:¬ a.rs=[]:=fun h=>o ⟨c,h⟩
 by_cases r:a.al=0;by_cases u:a.sz=0;by_cases w:a.vd=0;rw[if_neg (fun h=>by obtain⟨_,h⟩:=h;omega),if_neg (fun h=>h (by omega)),if_neg (by omega)]
 have l:=eq_true (show 0<=a.al/\a.al<=1048576 by omega);have m:=eq_true (show 0<=a.sz/\a.sz<=1048576 by omega);have n:=eq_true (show 0<=a.vd/\a.vd<=1048576 by omega);have q:¬ a.vd > a.sz:=by omega
 simp (disch:=omega) only[go_sem,h185c,e,aG,g,d,bM,b,j,f,eq_true c,aZz,rs0,p,k,i,eq_true r,eq_true u,eq_true w,l,m,n,q];rw[if_pos ⟨c,.inr (.inr w)⟩];simp (disch:=omega) only[go_sem,h185c,e,aG,g,d,bM,b,j,f,eq_true c,aZz,rs0,p,k,i,eq_true r,eq_true u,w];rw[if_pos ⟨c,.inr (.inl u)⟩];simp (disch:=omega) only[go_sem,h185c,e,aG,g,d,bM,b,j,f,eq_true c,aZz,rs0,p,k,i,eq_true r,u];rw[if_pos ⟨c,.inl r⟩];simp (disch:=omega) only[go_sem,h185c,e,aG,g,d,bM,b,j,f,eq_true c,aZz,rs0,p,k,i,r];rw[if_neg (fun h=>c h.1)]
 by_cases l:0<=a.al/\a.al<=1048576;by_cases m:0<=a.sz/\a.sz<=1048576;by_cases n:0<=a.vd/\a.vd<=1048576;rw[if_neg (fun h=>h ⟨l,m,n⟩)]
 by_cases q:a.vd > a.sz;rw[if_pos q];simp (disch:=omega) only[go_sem,h185c,e,aG,g,d,bM,b,j,f,c,k,i,eq_true l,eq_true m,eq_true n,eq_true q];rw[if_neg q];simp (disch:=omega) only[go_sem,h185c,e,aG,g,d,bM,b,j,f,c,k,i,eq_true l,eq_true m,eq_true n,q];rw[if_pos (fun h=>n h.2.2)]
 simp (disch:=omega) only[go_sem,h185c,e,aG,g,d,bM,b,j,f,c,k,i,eq_true l,eq_true m,n];rw[if_pos (fun h=>m h.2.1)]
 simp (disch:=omega) only[go_sem,h185c,e,aG,g,d,bM,b,j,f,c,k,i,eq_true l,m];rw[if_pos (fun h=>l h.1)]
 simp (disch:=omega) only[go_sem,h185c,e,aG,g,d,bM,b,j,f,c,k,i,l];rw[if_pos f];simp (disch:=omega) only[go_sem,h185c,e,aG,g,d,bM,b,j,f];rw[if_pos t];simp (disch:=omega) only[go_sem,h185c,e,aG,g,d,bM,t];rw[if_pos d];simp (disch:=omega) only[go_sem,h185c,e,aG,g,d]
theorem aL2(n m:Int)(e:0<m/\m<=4611686018427387904)(k:-4611686018427387904<=n/\n<=4611686018427387904):EV G (Tb (bs bb)) 177 [vi n,vi m] []=some (vi (n / m),[]):=by
 refine aB rfl ?_;have b:n.tdiv m=n / m+(if n.tmod m<0 then 1 else 0):=by
  have g:=Int.tmod_add_mul_tdiv n m;have h:=Int.emod_add_mul_ediv n m;have f:=aVc n m e.1;have i:m*(n.tdiv m-n / m)=n % m-n.tmod m:=by rw[Int.mul_sub];omega
  split at f;rename_i d;rw[if_pos d];have:m*(n.tdiv m-n / m)=m*1:=by omega
  have:=Int.eq_of_mul_eq_mul_left (by omega) this;omega;rename_i d;rw[if_neg d];have:m*(n.tdiv m-n / m)=m*0:=by omega
  have:=Int.eq_of_mul_eq_mul_left (by omega) this;omega
 have j:-4611686018427387904<=n / m/\n / m<=4611686018427387904:=by
  constructor;by_cases a:0<=n;have:=Int.ediv_nonneg a (show 0<=m by omega);omega;have h3:n*m<=n:=by
   have:=Int.mul_nonpos_of_nonpos_of_nonneg (show n<=0 by omega) (show 0<=m-1 by omega);rw[Int.mul_sub,Int.mul_one] at this;omega
  have:=Int.le_ediv_of_mul_le e.1 h3;omega;by_cases a:0<=n;have:=Int.ediv_le_self m a;omega;have:=Int.ediv_neg_of_neg_of_pos (by omega:n<0) e.1;omega
 by_cases c:n.tmod m<0;rw[if_pos c] at b;have h3:n.tdiv m-1=n / m:=by omega
 simp (disch:=omega) only[go_sem,h177c,b,c];simp;rw[if_neg c] at b;have h3:n.tdiv m=n / m:=by omega
 simp (disch:=omega) only[go_sem,h177c,h3,c]
theorem aQE(n m:Int)(a:0<m/\m<=4611686018427387904)(c:-4611686018427387904<=n/\n<=4611686018427387904)(b:-4611686018427387904<=-n / m/\-n / m<=4611686018427387904):EV G (Tb (bs bb)) 124 [vi n,vi m] []=some (vi (-(-n / m)),[]):=by
 refine aB rfl ?_;have q:=aL2 (G:=G) (bb:=bb) (-n) m a (by omega);rw[show -n=0-n by omega] at q b ⊢;have e:0-(0-n) / m=-((0-n) / m):=by omega
 simp (disch:=omega) only[go_sem,h124c,q,e]
