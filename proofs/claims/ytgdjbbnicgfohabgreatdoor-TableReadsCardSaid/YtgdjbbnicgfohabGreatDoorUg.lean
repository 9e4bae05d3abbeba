/- Part. Conditions: none. -/
import Derived.Test.YtgdjbbnicgfohabGreatDoorUc
namespace Go.Proofs.YtgdjbbnicgfohabGreatDoor
set_option maxHeartbeats 4000000
set_option linter.unusedSimpArgs false
set_option linter.unusedVariables false
set_option maxRecDepth 4000
section
variable {G:aF}{bb:Bool}
theorem T2(l:L Int)(n:Nat)(h:l.length<=n):jO ((l.map yC).take n)=some (l.map u8):=by rw[Dw l n h,lM]
theorem J8(a:aJ):(Tz a).length=fA a:=by simp only[Tz,dI,aS]
theorem aDe(a:aJ)(h:a.Bd)(d:a.res=true):EV G (Tb (bs bb)) 154 [a.v] []=some (sv (tP a),[]):=by
 refine aB rfl ?_;obtain⟨l,m,x,D,y,B,u,t,r,q,z,C,w⟩:=h;have f:sS a=24:=by simp[sS,d]
 have e:qU a=a.va:=by simp[qU,d]
 have o:al8 (24+(a.nm.length:Int))=((cX a:Nat):Int):=by simp only[al8,cX,f];omega
 have p:al8 (((cX a:Nat):Int)+(a.va.length:Int))=((fA a:Nat):Int):=by simp only[al8,fA,e];omega
 have E:24+a.nm.length<=cX a/\cX a<=2000:=by simp only[cX,f];omega
 have F:cX a+a.va.length<=fA a/\fA a<=4000:=by simp only[fA,e];omega
 unfold tP T0;rw[if_pos d];have h6:=J8 a;unfold Tz at h6 ⊢;rw[f,e] at *;generalize cX a=A at *;generalize fA a=N at *;have g:=pL (aZ (aZ (aZ (aZ (aZ (aZ (aZ (aZ (zl N) 0 a.ty 4) 4 N 4) 9 a.nm.length 1) 10 24 2) 12 a.fl 2) 14 a.id 2) 16 a.va.length 4) 20 A 4) a.nm 24 (N-24) l (by omega);have i:=pL (iZ (aZ (aZ (aZ (aZ (aZ (aZ (aZ (aZ (zl N) 0 a.ty 4) 4 N 4) 9 a.nm.length 1) 10 24 2) 12 a.fl 2) 14 a.id 2) 16 a.va.length 4) 20 A 4) 24 a.nm) a.va A (N-A) m (by omega);have c:(iZ (aZ (aZ (aZ (aZ (aZ (aZ (aZ (aZ (zl N) 0 a.ty 4) 4 N 4) 9 a.nm.length 1) 10 24 2) 12 a.fl 2) 14 a.id 2) 16 a.va.length 4) 20 A 4) 24 a.nm).length=N:=by
  rw[cY (by simp only[dI,aS];omega)];simp only[dI,aS]
 have j:=cY (b:=iZ (aZ (aZ (aZ (aZ (aZ (aZ (aZ (aZ (zl N) 0 a.ty 4) 4 N 4) 9 a.nm.length 1) 10 24 2) 12 a.fl 2) 14 a.id 2) 16 a.va.length 4) 20 A 4) 24 a.nm) (k:=A) (s:=a.va) (by omega);rw[c] at j;have n:(A+(N-A)<=N)=True:=eq_true (by omega);simp (disch:=first|omega|(simp only[aZA,dI,aS]<;>omega)) only[go_sem,h154c,d,Ci,Ay,o,p,P2,aZA,aN2,aN5,aN4,aN3,Int.reduceToNat,bAd,dI,aS,g,i,c,n,if_true,T2,bAr,Option.toList_some,Option.toList_none,aZT,aZP]
theorem aDf(a:aJ)(h:a.Bd)(e:a.res=false):EV G (Tb (bs bb)) 154 [a.v] []=some (sv (tP a),[]):=by
 refine aB rfl ?_;obtain⟨n,J,E,L,F,I,z,y,x,u,H,K,D⟩:=h;have o:¬ a.res=true:=by rw[e];decide
 have g:sS a=40:=by simp[sS,e]
 have f:qU a=(Ch a.rs).1:=by simp[qU,e]
 obtain⟨i,w⟩:=Nj a.rs;have M:=aGR (G:=G) (B:=bs bb) a.rs;have p:=Gi (G:=G) (bb:=bb) a (by omega);simp only[aJ.v,aJ.c,e] at p;have r:al8 (40+(a.nm.length:Int))=((cX a:Nat):Int):=by simp only[al8,cX,g];omega
 have t:al8 (((cX a:Nat):Int)+((Ch a.rs).1.length:Int))=((fA a:Nat):Int):=by simp only[al8,fA,f];omega
 have O:40+a.nm.length<=cX a/\cX a<=2000:=by simp only[cX,g];omega
 have P:cX a+(Ch a.rs).1.length<=fA a/\fA a<=4000:=by simp only[fA,f];omega
 unfold tP T0;rw[if_neg o];have h6:=J8 a;unfold Tz at h6 ⊢;rw[g,f] at *;generalize cX a=A at *;generalize fA a=N at *;generalize (Ch a.rs).1=C at *;have j:=pL (aZ (aZ (aZ (aZ (aZ (aZ (aZ (aZ (aZ (aZ (aZ (aZ (aZ (zl N) 0 a.ty 4) 4 N 4) 9 a.nm.length 1) 10 40 2) 12 a.fl 2) 14 a.id 2) 8 1 1) 16 a.fi 4) 20 (a.fi+gQ a.rs-1) 4) 24 A 2) 28 a.al 4) 32 a.sz 4) 36 a.vd 4) a.nm 40 (N-40) n (by omega);have d:(iZ (aZ (aZ (aZ (aZ (aZ (aZ (aZ (aZ (aZ (aZ (aZ (aZ (aZ (zl N) 0 a.ty 4) 4 N 4) 9 a.nm.length 1) 10 40 2) 12 a.fl 2) 14 a.id 2) 8 1 1) 16 a.fi 4) 20 (a.fi+gQ a.rs-1) 4) 24 A 2) 28 a.al 4) 32 a.sz 4) 36 a.vd 4) 40 a.nm).length=N:=by
  rw[cY (by simp only[dI,aS];omega)];simp only[dI,aS]
 have l:=pL (iZ (aZ (aZ (aZ (aZ (aZ (aZ (aZ (aZ (aZ (aZ (aZ (aZ (aZ (zl N) 0 a.ty 4) 4 N 4) 9 a.nm.length 1) 10 40 2) 12 a.fl 2) 14 a.id 2) 8 1 1) 16 a.fi 4) 20 (a.fi+gQ a.rs-1) 4) 24 A 2) 28 a.al 4) 32 a.sz 4) 36 a.vd 4) 40 a.nm) C A (N-A) i (by omega);have m:=cY (b:=iZ (aZ (aZ (aZ (aZ (aZ (aZ (aZ (aZ (aZ (aZ (aZ (aZ (aZ (zl N) 0 a.ty 4) 4 N 4) 9 a.nm.length 1) 10 40 2) 12 a.fl 2) 14 a.id 2) 8 1 1) 16 a.fi 4) 20 (a.fi+gQ a.rs-1) 4) 24 A 2) 28 a.al 4) 32 a.sz 4) 36 a.vd 4) 40 a.nm) (k:=A) (s:=C) (by omega);rw[d] at m;have q:(A+(N-A)<=N)=True:=eq_true (by omega);simp (disch:=first|omega|(simp only[aZA,dI,aS]<;>omega)) only[go_sem,h154c,e,Ci,Ay,r,t,M,p,P2,aZA,aN2,aN5,aN4,aN3,Int.reduceToNat,bAd,dI,aS,j,l,d,q,if_true,T2,bAr,Option.toList_some,Option.toList_none,aZT,aZP]
theorem E9(a:aJ)(h:a.Bd):EV G (Tb (bs bb)) 154 [a.v] []=some (sv (tP a),[]):=by
 cases b:a.res with
 |true=>exact aDe a h b
 |false=>exact aDf a h b
theorem nL(a:aJ)(h:a.Bd):(tP a).length=fA a:=by
 have b:(qU a).length<=1000:=by
  unfold qU;split;exact h.vl;have:=(Nj a.rs).2;omega
 have h7:(T0 a).length=fA a:=by
  unfold T0;split<;>simp only[dI,J8]
 have c:sS a+a.nm.length<=cX a:=by unfold cX;omega
 have d:cX a+(qU a).length<=fA a:=by unfold fA;omega
 have h8:(iZ (T0 a) (sS a) a.nm).length=fA a:=by rw[cY (by omega),h7]
 rw[tP,cY (by omega),h8]
end
section
variable {G:aF}{bb:Bool}
def L4(a:aJ):Int:=if a.rs=[]/\a.fi=0/\a.al=0/\a.sz=0/\a.vd=0 then (if a.va.length > 400 then 8 else 0) else 3
def J9(a:aJ):Int:=
 if a.ty∈G7 then 20 else if a.va≠[] then 3 else if ¬(0<=a.fi/\a.fi<=4096) then 2 else if (mT a.rs).2≠0 then (mT a.rs).2
 else if a.fi > 0/\a.rs=[] then 17 else if a.fi+gQ a.rs > 4096 then 8 else if a.fi > 0/\(a.al≠0\/a.sz≠0\/a.vd≠0) then 3
 else if ¬((0<=a.al/\a.al<=1048576)/\(0<=a.sz/\a.sz<=1048576)/\(0<=a.vd/\a.vd<=1048576)) then 2 else if a.vd > a.sz then 9 else 0
def tQ(a:aJ):Int:=if a.res=true then L4 a else J9 a
def gI(a:aJ):Int:=
 if a.ty∉Ni then 15 else if P0 a.nm=false then 4 else if ¬((0<=a.id/\a.id<=65535)/\(0<=a.fl/\a.fl<=7)) then 2
 else if tQ a≠0 then tQ a else if fA a > 440 then 16 else 0
structure aJ.W (a:aJ):Prop where
 nm:aI a.nm
 va:aI a.va
 nl:a.nm.length<=100000
 vl:a.va.length<=100000
 rl:a.rs.length<=100000
theorem rs0(l:L aW):((l.length:Int)=0)=(l=[]):=by
 apply propext;rw[<- List.length_eq_zero_iff];omega
theorem aGY(a:aJ):EV G (Tb (bs bb)) 152 [a.v] []=some (vi (L4 a),[]):=by
 refine aB rfl ?_;unfold L4;have i:((a.va.length:Int)<=400)=(a.va.length<=400):=by apply propext;omega
 by_cases b:a.rs=[];by_cases c:a.fi=0;by_cases d:a.al=0;by_cases e:a.sz=0;by_cases f:a.vd=0;rw[if_pos ⟨b,c,d,e,f⟩];by_cases g:a.va.length<=400;rw[if_neg (by omega)];simp (disch:=omega) only[go_sem,h152c,aZA,rs0,eq_true b,c,d,e,f,iB,nJ,eq_true g];rfl;rw[if_pos (by omega)];simp (disch:=omega) only[go_sem,h152c,aZA,rs0,eq_true b,c,d,e,f,iB,nJ,i,g];rfl;rw[if_neg (fun h=>f h.2.2.2.2)]
 simp (disch:=omega) only[go_sem,h152c,aZA,rs0,eq_true b,c,d,e,f,iB,nJ];simp[aT];rw[if_neg (fun h=>e h.2.2.2.1)]
 simp (disch:=omega) only[go_sem,h152c,aZA,rs0,eq_true b,c,d,e,iB,nJ];simp[aT];rw[if_neg (fun h=>d h.2.2.1)]
 simp (disch:=omega) only[go_sem,h152c,aZA,rs0,eq_true b,c,d,iB,nJ];simp[aT];rw[if_neg (fun h=>c h.2.1)]
 simp (disch:=omega) only[go_sem,h152c,aZA,rs0,eq_true b,c,iB,nJ];simp[aT];rw[if_neg (fun h=>b h.1)]
 simp (disch:=omega) only[go_sem,h152c,aZA,rs0,b,iB,nJ];simp[aT]
theorem aV(l:L Int):aT (0::l)=aT l:=rfl
theorem aY(e:Int)(l:L Int)(h:e≠0):aT (e::l)=e:=by rw[aT,if_neg h]
theorem bM:aT []=0:=rfl
def un(b:Bool)(e:Int):Int:=if b=true then 0 else e
theorem gE(e:Int):un true e=0:=rfl
theorem gX(e:Int):un false e=e:=rfl
theorem bA(b:Bool)(e:Int):EV G (Tb (bs bb)) 148 [vb b,vi e] []=some (vi (un b e),[]):=iB b e
theorem nR(l:L aW):(0<(l.length:Int))=(l≠[]):=by
 apply propext;have:=@List.length_eq_zero_iff _ l;constructor;intro h e;rw[this.2 e] at h;omega;intro h;have:l.length≠0:=fun e=>h (this.1 e);omega
def aLV(a:aJ):Int:=aT [un (!decide (a.fi > 0)||decide (a.rs≠[])) 17,un (decide (a.fi+gQ a.rs<=4096)) 8,un (!decide (a.fi > 0)||!(decide (a.al≠0)||(decide (a.sz≠0)||decide (a.vd≠0)))) 3,
 un (decide (0<=a.al/\a.al<=1048576)&&(decide (0<=a.sz/\a.sz<=1048576)&&decide (0<=a.vd/\a.vd<=1048576))) 2,un (decide (a.vd<=a.sz)) 9]
theorem Ka{b:Bool}{p:Prop}[Decidable p]{e:Int}(h:p↔¬ b=true):un b e=if p then e else 0:=by
 unfold un;by_cases a:b=true;rw[if_pos a,if_neg (fun hp=>h.1 hp a)]
 rw[if_neg a,if_pos (h.2 a)]
theorem rP{p:Prop}[Decidable p]{e:Int}{l:L Int}(a:e≠0):aT ((if p then e else 0)::l)=if p then e else aT l:=by
 by_cases h:p;rw[if_pos h,if_pos h,aY e l a];rw[if_neg h,if_neg h,aV]
theorem aLW(a:aJ):aLV a=if a.fi > 0/\a.rs=[] then 17 else if a.fi+gQ a.rs > 4096 then 8 else if a.fi > 0/\(a.al≠0\/a.sz≠0\/a.vd≠0) then 3 else if ¬((0<=a.al/\a.al<=1048576)/\(0<=a.sz/\a.sz<=1048576)/\(0<=a.vd/\a.vd<=1048576)) then 2 else if a.vd > a.sz then 9 else 0:=by
 unfold aLV;rw[Ka (p:=a.fi > 0/\a.rs=[]) (by simp),Ka (p:=a.fi+gQ a.rs > 4096) (by simp),Ka (p:=a.fi > 0/\(a.al≠0\/a.sz≠0\/a.vd≠0)) (by simp only[Bool.or_eq_true,bAC,Bool.or_eq_false_iff,decide_eq_true_eq,decide_eq_false_iff_not];omega),
  Ka (p:=¬((0<=a.al/\a.al<=1048576)/\(0<=a.sz/\a.sz<=1048576)/\(0<=a.vd/\a.vd<=1048576))) (by simp only[aZQ,decide_eq_true_eq]),Ka (p:=a.vd > a.sz) (by simp)]
 rw[rP (by decide),rP (by decide),rP (by decide),rP (by decide),rP (by decide),bM]
theorem aLX(a:aJ):J9 a=if a.ty∈G7 then 20 else if a.va≠[] then 3 else if ¬(0<=a.fi/\a.fi<=4096) then 2 else if (mT a.rs).2≠0 then (mT a.rs).2 else aLV a:=by
 rw[aLW];rfl
theorem aGZ(a:aJ)(x:a.W)(z:a.ty∈Ni):EV G (Tb (bs bb)) 153 [a.v] []=some (vi (J9 a),[]):=by
 refine aB rfl ?_;rw[aLX];have k:=Tu a.ty;rw[if_pos z] at k;have m:=cR x.va jL;have n:=Px (G:=G) (B:=bs bb) a.rs;have o:=Gi (G:=G) (bb:=bb) a (by have:=x.rl;omega);by_cases p:a.ty∈G7;rw[if_pos p];rw[decide_eq_true p] at k;simp (disch:=omega) only[go_sem,h153c,gW,k,aG,m,bA,gE,gX,aV,aY,bM,bZ,cB];rw[if_neg p];rw[decide_eq_false p] at k;by_cases i:a.va=[];rw[if_neg (by simpa using i)];replace i:=eq_true i;by_cases q:0<=a.fi/\a.fi<=4096;rw[if_neg (fun h=>h q)]
 have f:=eq_true q;by_cases l:(mT a.rs).2=0;rw[if_neg (fun h=>h l)]
 have s:=Dr l;have y:=Dq a.rs (fun r w=>(s.el r w).2.2) (by have:=s.sum;omega)
 have t:=iF a.rs (fun r w=>(s.el r w).2.2)
 have u:=s.sum;rw[<- y] at t u;have g:∀ L,L=[un (!decide (a.fi > 0)||decide (a.rs≠[])) 17,un (decide (a.fi+gQ a.rs<=4096)) 8,un (!decide (a.fi > 0)||!(decide (a.al≠0)||(decide (a.sz≠0)||decide (a.vd≠0)))) 3,
   un (decide (0<=a.al/\a.al<=1048576)&&(decide (0<=a.sz/\a.sz<=1048576)&&decide (0<=a.vd/\a.vd<=1048576))) 2,un (decide (a.vd<=a.sz)) 9]->aT L=aLV a:=fun L h=>by rw[h];rfl
 by_cases d:a.fi > 0;by_cases c:a.al=0;have b:0<=a.al/\a.al<=1048576:=by omega
 by_cases j:a.sz=0;have e:0<=a.sz/\a.sz<=1048576:=by omega
 simp (disch:=omega) only[go_sem,h153c,gW,k,aG,m,bA,gE,gX,aV,aY,bM,bZ,cB,i,f,n,l,eq_true d,eq_true c,eq_true b,eq_true j,eq_true e,aZA,nR];simp (disch:=omega) only[go_sem,o,bA,jK,nR,gE,gX,eq_true d,eq_true c,eq_true b,eq_true j,eq_true e];rw[g _ (by simp[un,d,c,b,j,e])];by_cases e:0<=a.sz/\a.sz<=1048576;simp (disch:=omega) only[go_sem,h153c,gW,k,aG,m,bA,gE,gX,aV,aY,bM,bZ,cB,i,f,n,l,eq_true d,eq_true c,eq_true b,j,eq_true e,aZA,nR];simp (disch:=omega) only[go_sem,o,bA,jK,nR,gE,gX,eq_true d,eq_true c,eq_true b,j,eq_true e];rw[g _ (by simp[un,d,c,b,j,e])];simp (disch:=omega) only[go_sem,h153c,gW,k,aG,m,bA,gE,gX,aV,aY,bM,bZ,cB,i,f,n,l,eq_true d,eq_true c,eq_true b,j,e,aZA,nR];simp (disch:=omega) only[go_sem,o,bA,jK,nR,gE,gX,eq_true d,eq_true c,eq_true b,j,e];rw[g _ (by simp[un,d,c,b,j,e])];by_cases b:0<=a.al/\a.al<=1048576;by_cases e:0<=a.sz/\a.sz<=1048576;simp (disch:=omega) only[go_sem,h153c,gW,k,aG,m,bA,gE,gX,aV,aY,bM,bZ,cB,i,f,n,l,eq_true d,c,eq_true b,eq_true e,aZA,nR];simp (disch:=omega) only[go_sem,o,bA,jK,nR,gE,gX,eq_true d,c,eq_true b,eq_true e];rw[g _ (by simp[un,d,c,b,e])];simp (disch:=omega) only[go_sem,h153c,gW,k,aG,m,bA,gE,gX,aV,aY,bM,bZ,cB,i,f,n,l,eq_true d,c,eq_true b,e,aZA,nR];simp (disch:=omega) only[go_sem,o,bA,jK,nR,gE,gX,eq_true d,c,eq_true b,e];rw[g _ (by simp[un,d,c,b,e])];simp (disch:=omega) only[go_sem,h153c,gW,k,aG,m,bA,gE,gX,aV,aY,bM,bZ,cB,i,f,n,l,eq_true d,c,b,aZA,nR];simp (disch:=omega) only[go_sem,o,bA,jK,nR,gE,gX,eq_true d,c,b];rw[g _ (by simp[un,d,c,b])];by_cases c:a.al=0;have b:0<=a.al/\a.al<=1048576:=by omega
 by_cases j:a.sz=0;have e:0<=a.sz/\a.sz<=1048576:=by omega
 simp (disch:=omega) only[go_sem,h153c,gW,k,aG,m,bA,gE,gX,aV,aY,bM,bZ,cB,i,f,n,l,d,eq_true c,eq_true b,eq_true j,eq_true e,aZA,nR];simp (disch:=omega) only[go_sem,o,bA,jK,nR,gE,gX,d,eq_true c,eq_true b,eq_true j,eq_true e];rw[g _ (by simp[un,d,c,b,j,e])];by_cases e:0<=a.sz/\a.sz<=1048576;simp (disch:=omega) only[go_sem,h153c,gW,k,aG,m,bA,gE,gX,aV,aY,bM,bZ,cB,i,f,n,l,d,eq_true c,eq_true b,j,eq_true e,aZA,nR];simp (disch:=omega) only[go_sem,o,bA,jK,nR,gE,gX,d,eq_true c,eq_true b,j,eq_true e];rw[g _ (by simp[un,d,c,b,j,e])];simp (disch:=omega) only[go_sem,h153c,gW,k,aG,m,bA,gE,gX,aV,aY,bM,bZ,cB,i,f,n,l,d,eq_true c,eq_true b,j,e,aZA,nR];simp (disch:=omega) only[go_sem,o,bA,jK,nR,gE,gX,d,eq_true c,eq_true b,j,e];rw[g _ (by simp[un,d,c,b,j,e])];by_cases b:0<=a.al/\a.al<=1048576;by_cases e:0<=a.sz/\a.sz<=1048576;simp (disch:=omega) only[go_sem,h153c,gW,k,aG,m,bA,gE,gX,aV,aY,bM,bZ,cB,i,f,n,l,d,c,eq_true b,eq_true e,aZA,nR];simp (disch:=omega) only[go_sem,o,bA,jK,nR,gE,gX,d,c,eq_true b,eq_true e];rw[g _ (by simp[un,d,c,b,e])];simp (disch:=omega) only[go_sem,h153c,gW,k,aG,m,bA,gE,gX,aV,aY,bM,bZ,cB,i,f,n,l,d,c,eq_true b,e,aZA,nR];simp (disch:=omega) only[go_sem,o,bA,jK,nR,gE,gX,d,c,eq_true b,e];rw[g _ (by simp[un,d,c,b,e])];simp (disch:=omega) only[go_sem,h153c,gW,k,aG,m,bA,gE,gX,aV,aY,bM,bZ,cB,i,f,n,l,d,c,b,aZA,nR];simp (disch:=omega) only[go_sem,o,bA,jK,nR,gE,gX,d,c,b];rw[g _ (by simp[un,d,c,b])];rw[if_pos l];simp (disch:=omega) only[go_sem,h153c,gW,k,aG,m,bA,gE,gX,aV,aY,bM,bZ,cB,i,f,n,l];rw[if_pos q];simp (disch:=omega) only[go_sem,h153c,gW,k,aG,m,bA,gE,gX,aV,aY,bM,bZ,cB,i,q];rw[if_pos i];simp (disch:=omega) only[go_sem,h153c,gW,k,aG,m,bA,gE,gX,aV,aY,bM,bZ,cB,i]
end
section
variable {G:aF}{bb:Bool}
theorem P3{n:Int}(h:n∈Ni):0<=n/\n<=200:=by
 simp only[Ni,bAL,bA6,or_false] at h;omega
theorem Hz{l:L Int}(h:P0 l=true):l.length<=32:=by
 unfold P0 at h;rcases of_decide_eq_true h with h|h
 subst h;simp;exact h.2.1
theorem Kb{l:L aW}(h:(mT l).2=0):l.length<=64/\0<=gQ l/\gQ l<=100000000:=by
 have a:=Dr h;have e:=Dq l (fun r b=>(a.el r b).2.2) (by have:=a.sum;omega)
 have c:=iF l (fun r b=>(a.el r b).2.2)
 have d:=a.sum;exact⟨oH h,by omega,by omega⟩
theorem Fa{a:aJ}(h:J9 a=0):a.ty∉G7/\a.va=[]/\(0<=a.fi/\a.fi<=4096)/\(mT a.rs).2=0/\¬(a.fi > 0/\a.rs=[])/\a.fi+gQ a.rs<=4096/\¬(a.fi > 0/\(a.al≠0\/a.sz≠0\/a.vd≠0))/\ ((0<=a.al/\a.al<=1048576)/\(0<=a.sz/\a.sz<=1048576)/\(0<=a.vd/\a.vd<=1048576))/\a.vd<=a.sz:=by
 unfold J9 at h;split at h;omega;rename_i b;split at h;omega;rename_i c;split at h;omega;rename_i h3;split at h;rename_i h4;exact absurd h h4;rename_i h4;split at h;omega;rename_i h5;split at h;omega;rename_i h6;split at h;omega;rename_i h7;split at h;omega;rename_i h8;split at h;omega;rename_i h9;exact⟨b,Classical.not_not.1 c,Classical.not_not.1 h3,Classical.not_not.1 h4,h5,by omega,h7,Classical.not_not.1 h8,by omega⟩
theorem P4{a:aJ}(h:L4 a=0):a.rs=[]/\a.fi=0/\a.al=0/\a.sz=0/\a.vd=0/\a.va.length<=400:=by
 unfold L4 at h;split at h;rename_i b;split at h;omega;obtain⟨b,c,h3,h4,h5⟩:=b;exact⟨b,c,h3,h4,h5,by omega⟩;omega
theorem aJ.bd{a:aJ}(b:a.W)(f:a.ty∈Ni)(g:P0 a.nm=true)(h3:(0<=a.id/\a.id<=65535)/\(0<=a.fl/\a.fl<=7))(h4:tQ a=0):a.Bd:=by
 have n:=P3 f;have o:=Hz g;unfold tQ at h4;split at h4;obtain⟨c,d,h,e,i,j⟩:=P4 h4;have:gQ a.rs=0:=by rw[c];rfl
 exact⟨b.nm,b.va,by omega,by omega,by rw[c];simp,by omega,by omega,by omega,by omega,by omega,by omega,by omega,by omega⟩;obtain⟨c,d,h,e,i,j,p,q,r⟩:=Fa h4;obtain⟨k,l,m⟩:=Kb e;exact⟨b.nm,b.va,by omega,by rw[d];simp,by omega,by omega,by omega,by omega,by omega,by omega,by omega,by omega,by omega⟩
theorem Dx(a:aJ)(o:a.W):EV G (Tb (bs bb)) 106 [a.v] []=some (vi (gI a),[]):=by
 refine aB rfl ?_;have e:=aGT (G:=G) (bb:=bb) a.ty;have f:=aDd (G:=G) (bb:=bb) a.nm o.nm (by have:=o.nl;omega);unfold gI;by_cases k:a.ty∈Ni;rw[if_neg (fun h=>h k)]
 rw[decide_eq_true k] at e;cases p:P0 a.nm with
 |false=>
  rw[p] at f;rw[if_pos rfl];by_cases d:0<=a.id/\a.id<=65535;simp (disch:=omega) only[go_sem,h106c,e,f,bA,gE,gX,aV,aY,bM,bZ,cB,eq_true d];simp (disch:=omega) only[go_sem,h106c,e,f,bA,gE,gX,aV,aY,bM,bZ,cB,d]
 |true=>
  rw[p] at f;rw[if_neg (by decide)];by_cases d:0<=a.id/\a.id<=65535;by_cases i:0<=a.fl/\a.fl<=7;rw[if_neg (fun h=>h ⟨d,i⟩)]
  have n:=fun h=>aJ.bd o k p ⟨d,i⟩ h
  have q5 (h):=E9 (G:=G) (bb:=bb) a (n h);have q6 (h):=nL a (n h);cases g:a.res with
  |true=>
   have j:=aGY (G:=G) (bb:=bb) a;simp only[tQ,g,if_true] at q5 q6 ⊢;simp only[aJ.v,aJ.c,g] at j q5;by_cases b:L4 a=0;have m:((fA a:Int)<=440)=(fA a<=440):=by apply propext;omega
   by_cases l:fA a<=440;rw[if_neg (fun h=>h b),if_neg (by omega)]
   simp (disch:=omega) only[go_sem,h106c,e,f,bA,gE,gX,aV,aY,bM,bZ,cB,eq_true d,eq_true i,j,b,q5 b,q6 b,g,eq_true l,m];rw[if_neg (fun h=>h b),if_pos (by omega)]
   simp (disch:=omega) only[go_sem,h106c,e,f,bA,gE,gX,aV,aY,bM,bZ,cB,eq_true d,eq_true i,j,b,q5 b,q6 b,g,l,m];rw[if_pos b];simp (disch:=omega) only[go_sem,h106c,e,f,bA,gE,gX,aV,aY,bM,bZ,cB,eq_true d,eq_true i,j,b,g]
  |false=>
   have j:=aGZ (G:=G) (bb:=bb) a o k;simp only[tQ,g,if_false,bAP] at q5 q6 ⊢;simp only[aJ.v,aJ.c,g] at j q5;by_cases b:J9 a=0;have m:((fA a:Int)<=440)=(fA a<=440):=by apply propext;omega
   by_cases l:fA a<=440;rw[if_neg (fun h=>h b),if_neg (by omega)]
   simp (disch:=omega) only[go_sem,h106c,e,f,bA,gE,gX,aV,aY,bM,bZ,cB,eq_true d,eq_true i,j,b,q5 b,q6 b,g,eq_true l,m];rw[if_neg (fun h=>h b),if_pos (by omega)]
   simp (disch:=omega) only[go_sem,h106c,e,f,bA,gE,gX,aV,aY,bM,bZ,cB,eq_true d,eq_true i,j,b,q5 b,q6 b,g,l,m];rw[if_pos b];simp (disch:=omega) only[go_sem,h106c,e,f,bA,gE,gX,aV,aY,bM,bZ,cB,eq_true d,eq_true i,j,b,g]
  rw[if_pos (fun h=>i h.2)]
  simp (disch:=omega) only[go_sem,h106c,e,f,bA,gE,gX,aV,aY,bM,bZ,cB,eq_true d,i];rw[if_pos (fun h=>d h.1)]
  simp (disch:=omega) only[go_sem,h106c,e,f,bA,gE,gX,aV,aY,bM,bZ,cB,d]
 rw[if_pos k];rw[decide_eq_false k] at e;by_cases d:0<=a.id/\a.id<=65535;simp (disch:=omega) only[go_sem,h106c,e,f,bA,gE,gX,aV,aY,bM,bZ,cB,eq_true d];simp (disch:=omega) only[go_sem,h106c,e,f,bA,gE,gX,aV,aY,bM,bZ,cB,d]
end
section
variable {G:aF}{bb:Bool}
theorem aVm(call:aO)(n:Int):mM call G ⟨[vi n,.junk,vb false,.junk,.junk,.junk],[]⟩ [Oo 4 (.mov (.t 0)),Oo 5 (.call 32 [(.t 3),(.t 4)]),Oo 2 (.mov (.t 5))] (some 3) (.bslc 1 11 [Zi 0] [(0,(Ki 16)),(1,(Ki 32)),(2,(Ki 48)),(3,(Ki 64)),(4,(Ki 96)),(5,(Ki 112)),(6,(Ki 128)),(7,(Ki 144)),(8,(Ki 160)),(9,(Ki 176)),(10,(Ki 192))])= some ⟨[vi n,.junk,vb false,vl (el Ni),.junk,.junk],[]⟩:=rfl
theorem aDg(n:Int):EV G (Tb (bs bb)) 185 [vi n] []=some (vb (decide (n∈Ni)),[]):=by
 refine aB rfl ?_;have q:=Tt (G:=G) (B:=bs bb) Ni n (by simp[Ni]);simp (disch:=omega) only[go_sem,h185c,↓aVm,q]
theorem T4(n:Int):EV G (Tb (bs bb)) 226 [vi n] []=some (vb (decide (n∈G7)),[]):=by
 refine aB rfl ?_;have q:=Tt (G:=G) (B:=bs bb) G7 n (by simp[G7]);have e:el G7=[[ci 16],[ci 48],[ci 96],[ci 112],[ci 144]]:=rfl;rw[e] at q;simp (disch:=omega) only[go_sem,h226c,q]
theorem X6(l:L aW):((l.length:Int) > 0)=(l≠[]):=nR l
theorem aDh(a:aJ):EV G (Tb (bs bb)) 188 [a.v] []=some (vi (L4 a),[]):=by
 refine aB rfl ?_;unfold L4;by_cases g:a.rs=[];have b:¬ (a.rs≠[]):=fun h=>h g
 by_cases c:a.fi=0;by_cases d:a.al=0;by_cases e:a.sz=0;by_cases f:a.vd=0;rw[if_pos ⟨g,c,d,e,f⟩];have j:((a.va.length:Int) > 400)=(a.va.length > 400):=by apply propext;omega
 by_cases i:a.va.length > 400;rw[if_pos i];simp (disch:=omega) only[go_sem,h188c,aZA,X6,b,c,d,e,f,j,eq_true i];rw[if_neg i];simp (disch:=omega) only[go_sem,h188c,aZA,X6,b,c,d,e,f,j,i];rw[if_neg (fun h=>f h.2.2.2.2)]
 simp (disch:=omega) only[go_sem,h188c,aZA,X6,b,c,d,e,f];rw[if_neg (fun h=>e h.2.2.2.1)]
 simp (disch:=omega) only[go_sem,h188c,aZA,X6,b,c,d,e];rw[if_neg (fun h=>d h.2.2.1)]
 simp (disch:=omega) only[go_sem,h188c,aZA,X6,b,c,d];rw[if_neg (fun h=>c h.2.1)]
 simp (disch:=omega) only[go_sem,h188c,aZA,X6,b,c];rw[if_neg (fun h=>g h.1)]
 have b:(a.rs≠[])=True:=eq_true g;simp (disch:=omega) only[go_sem,h188c,aZA,X6,b]
theorem aDi(a:aJ)(x:a.W):EV G (Tb (bs bb)) 187 [a.v] []=some (vi (J9 a),[]):=by
 refine aB rfl ?_;have e:=T4 (G:=G) (bb:=bb) a.ty;have g:=cR x.va jL;have j:=aGM (G:=G) (B:=bs bb) a.rs;have k:=rM (G:=G) (B:=bs bb) a.rs (by have:=x.rl;omega);unfold J9;by_cases s:a.ty∈G7;rw[if_pos s];rw[decide_eq_true s] at e;simp (disch:=omega) only[go_sem,h187c,e];rw[if_neg s];rw[decide_eq_false s] at e;by_cases d:a.va=[];rw[if_neg (by simpa using d)];replace d:=eq_true d;by_cases t:0<=a.fi/\a.fi<=4096;rw[if_neg (fun h=>h t)]
 have b:=eq_true t;by_cases f:(mT a.rs).2=0;rw[if_neg (fun h=>h f)]
 obtain⟨y,z,A⟩:=Kb f;by_cases o:a.fi > 0/\a.rs=[];rw[if_pos o];have c:=o.1;simp (disch:=omega) only[go_sem,h187c,e,aG,g,d,bN,b,j,f,eq_true c,aZA,rs0,eq_true o.2];rw[if_neg o];by_cases i:a.fi+gQ a.rs > 4096;rw[if_pos i];by_cases c:a.fi > 0;have p:¬ a.rs=[]:=fun h=>o ⟨c,h⟩
 simp (disch:=omega) only[go_sem,h187c,e,aG,g,d,bN,b,j,f,eq_true c,aZA,rs0,p,k,eq_true i];simp (disch:=omega) only[go_sem,h187c,e,aG,g,d,bN,b,j,f,c,k,eq_true i];rw[if_neg i];by_cases c:a.fi > 0;have p:¬ a.rs=[]:=fun h=>o ⟨c,h⟩
 by_cases r:a.al=0;by_cases u:a.sz=0;by_cases w:a.vd=0;rw[if_neg (fun h=>by obtain⟨_,h⟩:=h;omega),if_neg (fun h=>h (by omega)),if_neg (by omega)]
 have l:=eq_true (show 0<=a.al/\a.al<=1048576 by omega);have m:=eq_true (show 0<=a.sz/\a.sz<=1048576 by omega);have n:=eq_true (show 0<=a.vd/\a.vd<=1048576 by omega);have q:¬ a.vd > a.sz:=by omega
 simp (disch:=omega) only[go_sem,h187c,e,aG,g,d,bN,b,j,f,eq_true c,aZA,rs0,p,k,i,eq_true r,eq_true u,eq_true w,l,m,n,q];rw[if_pos ⟨c,.inr (.inr w)⟩];simp (disch:=omega) only[go_sem,h187c,e,aG,g,d,bN,b,j,f,eq_true c,aZA,rs0,p,k,i,eq_true r,eq_true u,w];rw[if_pos ⟨c,.inr (.inl u)⟩];simp (disch:=omega) only[go_sem,h187c,e,aG,g,d,bN,b,j,f,eq_true c,aZA,rs0,p,k,i,eq_true r,u];rw[if_pos ⟨c,.inl r⟩];simp (disch:=omega) only[go_sem,h187c,e,aG,g,d,bN,b,j,f,eq_true c,aZA,rs0,p,k,i,r];rw[if_neg (fun h=>c h.1)]
 by_cases l:0<=a.al/\a.al<=1048576;by_cases m:0<=a.sz/\a.sz<=1048576;by_cases n:0<=a.vd/\a.vd<=1048576;rw[if_neg (fun h=>h ⟨l,m,n⟩)]
 by_cases q:a.vd > a.sz;rw[if_pos q];simp (disch:=omega) only[go_sem,h187c,e,aG,g,d,bN,b,j,f,c,k,i,eq_true l,eq_true m,eq_true n,eq_true q];rw[if_neg q];simp (disch:=omega) only[go_sem,h187c,e,aG,g,d,bN,b,j,f,c,k,i,eq_true l,eq_true m,eq_true n,q];rw[if_pos (fun h=>n h.2.2)]
 simp (disch:=omega) only[go_sem,h187c,e,aG,g,d,bN,b,j,f,c,k,i,eq_true l,eq_true m,n];rw[if_pos (fun h=>m h.2.1)]
 simp (disch:=omega) only[go_sem,h187c,e,aG,g,d,bN,b,j,f,c,k,i,eq_true l,m];rw[if_pos (fun h=>l h.1)]
 simp (disch:=omega) only[go_sem,h187c,e,aG,g,d,bN,b,j,f,c,k,i,l];rw[if_pos f];simp (disch:=omega) only[go_sem,h187c,e,aG,g,d,bN,b,j,f];rw[if_pos t];simp (disch:=omega) only[go_sem,h187c,e,aG,g,d,bN,t];rw[if_pos d];simp (disch:=omega) only[go_sem,h187c,e,aG,g,d]
theorem aLY(n m:Int)(e:0<m/\m<=4611686018427387904)(k:-4611686018427387904<=n/\n<=4611686018427387904):EV G (Tb (bs bb)) 178 [vi n,vi m] []=some (vi (n / m),[]):=by
 refine aB rfl ?_;have b:n.tdiv m=n / m+(if n.tmod m<0 then 1 else 0):=by
  have g:=Int.tmod_add_mul_tdiv n m;have h:=Int.emod_add_mul_ediv n m;have f:=aVg n m e.1;have i:m*(n.tdiv m-n / m)=n % m-n.tmod m:=by rw[Int.mul_sub];omega
  split at f;rename_i d;rw[if_pos d];have:m*(n.tdiv m-n / m)=m*1:=by omega
  have:=Int.eq_of_mul_eq_mul_left (by omega) this;omega;rename_i d;rw[if_neg d];have:m*(n.tdiv m-n / m)=m*0:=by omega
  have:=Int.eq_of_mul_eq_mul_left (by omega) this;omega
 have j:-4611686018427387904<=n / m/\n / m<=4611686018427387904:=by
  constructor;by_cases a:0<=n;have:=Int.ediv_nonneg a (show 0<=m by omega);omega;have h3:n*m<=n:=by
   have:=Int.mul_nonpos_of_nonpos_of_nonneg (show n<=0 by omega) (show 0<=m-1 by omega);rw[Int.mul_sub,Int.mul_one] at this;omega
  have:=Int.le_ediv_of_mul_le e.1 h3;omega;by_cases a:0<=n;have:=Int.ediv_le_self m a;omega;have:=Int.ediv_neg_of_neg_of_pos (by omega:n<0) e.1;omega
 by_cases c:n.tmod m<0;rw[if_pos c] at b;have h3:n.tdiv m-1=n / m:=by omega
 simp (disch:=omega) only[go_sem,h178c,b,c];simp;rw[if_neg c] at b;have h3:n.tdiv m=n / m:=by omega
 simp (disch:=omega) only[go_sem,h178c,h3,c]
theorem aQF(n m:Int)(a:0<m/\m<=4611686018427387904)(c:-4611686018427387904<=n/\n<=4611686018427387904)(b:-4611686018427387904<=-n / m/\-n / m<=4611686018427387904):EV G (Tb (bs bb)) 128 [vi n,vi m] []=some (vi (-(-n / m)),[]):=by
 refine aB rfl ?_;have q:=aLY (G:=G) (bb:=bb) (-n) m a (by omega);rw[show -n=0-n by omega] at q b ⊢;have e:0-(0-n) / m=-((0-n) / m):=by omega
 simp (disch:=omega) only[go_sem,h128c,q,e]
